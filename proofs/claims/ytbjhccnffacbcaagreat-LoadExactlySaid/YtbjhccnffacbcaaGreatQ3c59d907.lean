/- General lemmas and walks. No condition but what each theorem names. -/
import Derived.Test.YtbjhccnffacbcaaGreatQ408a00e3
import Derived.Test.YtbjhccnffacbcaaGreatQc70aff79
import Derived.Test.YtbjhccnffacbcaaGreatQdafcbbee
set_option maxRecDepth 100000
set_option maxHeartbeats 8000000
open Go.Owl renaming Own→Ke
open Go.Proofs.Tryz renaming prog→Kf
open List renaming map→Kg
open List renaming flatMap→Kh
open List renaming replicate→Ki
open List renaming length_append→Kj
open Nat renaming zero_le→Kk
open UInt32 renaming ofNat→Kl
open UInt16 renaming ofNat→Km
open UInt64 renaming ofNat→Kn
namespace Go.Proofs.YtbjhccnffacbcaaGreat
open Go.Owl Go.Spec
theorem EX (c:Nat) (pg:UInt32) (hv:Value) (he:List UInt32) (mb cn:Nat) (gs:List Gr) (mp:UInt32) (ev pv:Value) (xs:List Xt) (ps:List UInt16) (con:Bool) (w:World) (hC:cellsAt w c [(aa pg),hv,(.map (some mb))]) (hH:Arr w hv 1 he.length (Kg aa he)) (hM:w.heap[mb]?=some (mP .i64 (Kg Gr.me gs) cn)) (hG:BsOK 199 Gr.cells Gr.b gs w) (hS:grD.list.ok w gs) (hME:MEok (Kg Gr.me gs) cn) (hfit: ∀g∈gs,g.ps.length<2^40∧g.xs.length<2^40) (hE:Arr w ev 2 xs.length (Kh xtc xs)) (hP:Arr w pv 1 ps.length (Kg bA ps)) (hn:xs.length<2^40) (hm:ps.length<2^40) (_hhe:he.length<2^32) :
    Calls Kf 210 #[(ptr c 0),(.agg #[(aa mp),ev,pv,(.bool con)])] w (fun e w'=>e=.returned (vN (iB gs xs ps))∧Fr [] w w'):=by
  refine enter Tryz.func210 O O ?_
  have H0:=((((((aL w []).oldB hC).oldA hH).mpOld hM).bsOld hG).dpOld hS)
  refine ws<|wo (bK H0 O O (fun b1 w1 H1=>(wa O<|wn<|ap<|ws<|wm O<|wo (aJ O<|wo (ab O Fa.gA<|wo (aj O (H1.cellO (i:=0) O O) A194 O<|wo (ki H1 (H1.mpO (i:=2) O) A194 O (fun b2 w2 H2=>(wn<|aB<|bi (α:=List Gr × List Gr) (fun (sn,rst)=>[(3,(ptr b1 0)),(15,(ptr b2 0))]) (fun (sn,rst) w'=>(gs.Perm (sn++rst)∧∀g∈sn,iR xs ps g=false)∧Ke [] w w' [Ent.bo c [(aa pg),hv,(.map (some mb))],Ent.ar hv 1 he.length (Kg aa he),Ent.mo .i64 mb (Kg Gr.me gs) cn,Ent.bsO 199 Gr.cells Gr.b gs,Ent.dp grD.list gs,.blk b1 [(aa mp),ev,pv,(.bool con)] 40,.obj b2 (itO mb cn (Kg Gr.me sn))]) (fun (sn,rst)=>rst.length) ([],gs) ⟨⟨List.Perm.refl _,fun g h=>(by cases h)⟩,H2⟩ ⟨rfl,rfl,trivial⟩ ?_)))))))))
  rintro ⟨sn,rst⟩ w3 ⟨⟨hpm,hno⟩,H3⟩
  show WC _ _ _ _ _ [(3,(ptr b1 0)),(15,(ptr b2 0))] _
  refine ws<|wo (oE (i:=6) (sn:=sn) (rest:=rst) H3 O (H3.mpO (i:=2) O) hME hpm O (fun h0=>?_) (fun g4 rs4 hl4 hp4 w4 H4=>?_))
  ·
    exact we O O<|wn<|ap<|bF O O<|bc<|an<|an<|aS<|ao<|ws<|wa O<|wn<|aC<|aD (.tmp O .nil) (⟨by rw [h0,List.append_nil] at hpm; rw [Ch hpm hno]; rfl,H3.fr⟩)
  have H5:=(((H4.bsView (i:=3) (a:=g4) O (hp4.mem_iff.2 (by simp))).dpView (i:=4) (a:=g4) O (hp4.mem_iff.2 (by simp)) (fun w h=>h.1) (fun b hb=>List.mem_append.2 (.inl hb))).dpView (i:=4) (a:=g4) O (hp4.mem_iff.2 (by simp)) (fun w h=>h.2) (fun b hb=>List.mem_append.2 (.inr hb)))
  have hgf:=hfit g4 (hp4.mem_iff.2 (by simp))
  have hgp:=hgf.1
  have hgx:=hgf.2
  refine we O O<|wn<|ap<|bX O O<|aA<|ao<|aB<|ws<|wo (mH (i:=6) (sn:=sn) (g:=g4) H5 O (H5.mpO (i:=2) O) hME hp4 O<|we O O<|wo (bt H5 Fa.Gl (fun b6 w6 H6=>(wo (bC (i:=10) H6 O O O O O Fa.Gl (fun w7 H7=>(wn<|ap<|ws<|wo (ab O Fa.di<|wo (aj O (H7.cell (i:=5) O O) A38 O<|wo (fR O O<|wo (cq H7 (Kd 233) O (ER b6 g4 _ ps _ (H7.arr hP) (H7.cellsAt (i:=10) O) (H7.cellsAtO (i:=7) O) (H7.arrO (i:=8) O) (H7.arrO (i:=9) O) hgp hm) fun w8 H8=>(wn (wC (ps.any (mR g4)) (fun hb9=>?_) (fun hb9=>?_))))))))))))))
  ·
    exact ws<|wa O<|wn<|aC<|aq<|aZ<|aq<|aZ<|aq<|aD (.tmp O .nil) (⟨by rw [rI (g:=g4) (hp4.mem_iff.2 (by simp)) (by rw [iR,hb9]; rfl)]; rfl,H8.fr⟩)
  refine aA<|ao<|ws<|wo (ab O Fa.da<|wo (aj O (H8.cell (i:=5) O O) A37 O<|wo (bu A37 O (H8.arr hE)<|wm O<|wn<|aB<|bi (α:=Nat) (fun k=>[(3,(ptr b1 0)),(6,(ptr b6 0)),(15,(ptr b2 0)),(25,ev),(26,(vN xs.length)),(27,(vN k))]) (fun k w'=>(k≤xs.length∧(∀j,j<k→wZ g4 (xs.getD j Xt.zero)=false))∧Ke [] w w' [Ent.bo c [(aa pg),hv,(.map (some mb))],Ent.ar hv 1 he.length (Kg aa he),Ent.mo .i64 mb (Kg Gr.me gs) cn,Ent.bsO 199 Gr.cells Gr.b gs,Ent.dp grD.list gs,.blk b1 [(aa mp),ev,pv,(.bool con)] 40,.obj b2 (itO mb cn (Kg Gr.me (sn++[g4]))),Ent.bo g4.b [(aa g4.pg),g4.ev,g4.pv,(.bool g4.con),(aa g4.pp),(aa g4.tk)],Ent.ar g4.ev 2 g4.xs.length (Kh xtc g4.xs),Ent.ar g4.pv 1 g4.ps.length (Kg bA g4.ps),.blk b6 [(ptr g4.b 0)] 197]) (fun k=>xs.length-k) 0 ⟨⟨Kk _,fun j h=>by omega⟩,H8⟩ ⟨rfl,rfl,rfl,rfl,rfl,rfl,trivial⟩ ?_)))
  rintro k w10 ⟨⟨hk1,hok⟩,H10⟩
  show WC _ _ _ _ _ [(3,(ptr b1 0)),(6,(ptr b6 0)),(15,(ptr b2 0)),(25,ev),(26,(vN xs.length)),(27,(vN k))] _
  refine ws<|wo (bm O O<|wn<|ap (wE (k<xs.length) (fun hb11 hc11=>?_) (fun hb11 hc11=>?_)))
  ·
    refine aA<|ao<|ap<|aB<|ws<|wo (bJ A37 Fa.cR O (H10.arr hE) O (by omega)<|wo (cH (vs:=xtc (xs.getD k Xt.zero)) O (Arr.atsF (H10.arr hE) (fun _=>rfl) (by decide) Xt.zero (by omega)) A207 O Fa.cR O<|wo (bt H10 Fa.cR (fun b12 w12 H12=>(wo (bw (i:=11) H12 O O O O O Fa.cR (fun w13 H13=>(wn<|ap<|WC.held 13 O Fa.M H13 (fun w'=> ∃L',Ke [] w w' ([Ent.bo c [(aa pg),hv,(.map (some mb))],Ent.ar hv 1 he.length (Kg aa he),Ent.mo .i64 mb (Kg Gr.me gs) cn,Ent.bsO 199 Gr.cells Gr.b gs,Ent.dp grD.list gs,.blk b1 [(aa mp),ev,pv,(.bool con)] 40,.obj b2 (itO mb cn (Kg Gr.me (sn++[g4]))),Ent.bo g4.b [(aa g4.pg),g4.ev,g4.pv,(.bool g4.con),(aa g4.pp),(aa g4.tk)],Ent.ar g4.ev 2 g4.xs.length (Kh xtc g4.xs),Ent.ar g4.pv 1 g4.ps.length (Kg bA g4.ps),.blk b6 [(ptr g4.b 0)] 197,.blk b12 [(aa (xs.getD k Xt.zero).id),(aa (xs.getD k Xt.zero).bl)] 207]++L')) ?_))))))))
    intro w14 H14
    refine xt 0 O (ptr g4.b 0) H14 (fun _ _ HX=>aj O (HX.cell (i:=10) O O) A197 O ⟨rfl,rfl⟩)<|xt 4 O (ptr b12 0) H14 (fun _ _ HX=>ab O Fa.ey ⟨rfl,rfl⟩)<|xt 5 O (aa (xs.getD k Xt.zero).id) H14 (fun _ _ HX=>aj O (HX.cell (i:=11) O O) A22 O ⟨rfl,rfl⟩)<|dh (fun W hW=>?_)
    let e9:List (Nat × Value)→List (Nat × Value):=fun r=>(3,(ptr b1 0))::(6,(ptr b6 0))::(8,(ptr b12 0))::(15,(ptr b2 0))::(25,ev)::(26,(vN xs.length))::(27,(vN k))::(28,(.bool (decide (k<xs.length))))::(29,(.pointer (some (sp ev (k * 2)))))::(30,(.agg #[(aa (xs.getD k Xt.zero).id),(aa (xs.getD k Xt.zero).bl)]))::r
    let Bm:Ent:=Ent.bo c [(aa pg),hv,(.map (some mb))]
    let B0:Ent:=Ent.ar hv 1 he.length (Kg aa he)
    let B1:Ent:=Ent.mo .i64 mb (Kg Gr.me gs) cn
    let B2:Ent:=Ent.bsO 199 Gr.cells Gr.b gs
    let B3:Ent:=Ent.dp grD.list gs
    let B4:Ent:=.blk b1 [(aa mp),ev,pv,(.bool con)] 40
    let B5:Ent:=.obj b2 (itO mb cn (Kg Gr.me (sn++[g4])))
    let B6:Ent:=Ent.bo g4.b [(aa g4.pg),g4.ev,g4.pv,(.bool g4.con),(aa g4.pp),(aa g4.tk)]
    let B7:Ent:=Ent.ar g4.ev 2 g4.xs.length (Kh xtc g4.xs)
    let B8:Ent:=Ent.ar g4.pv 1 g4.ps.length (Kg bA g4.ps)
    let B9:Ent:=.blk b6 [(ptr g4.b 0)] 197
    let C0:Ent:=.blk b12 [(aa (xs.getD k Xt.zero).id),(aa (xs.getD k Xt.zero).bl)] 207
    have C3: ∀(b15:Nat) (wS:World),Ke [] w wS [Bm,B0,B1,B2,B3,B4,B5,B6,B7,B8,B9,C0,.blk b15 [(aa (ig g4.xs ((xs.getD k Xt.zero).id)).id),(aa (ig g4.xs ((xs.getD k Xt.zero).id)).bl)] 207]→W 0 (bz 13 8191) (e9 [(10,(.bool (kv g4.xs ((xs.getD k Xt.zero).id))))]) wS:=by
      intro b15 wS HS
      rw [hW]
      refine WH.done (by kernel_rfl)<|ao<|ws<|wm O<|wn (wC (kv g4.xs ((xs.getD k Xt.zero).id)) (fun hb16=>?_) (fun hb16=>?_))
      ·
        exact ws<|wa O<|wn<|aC<|aZ<|aq<|aq<|aZ<|aZ<|aq<|aZ<|aq<|aD (.tmp O .nil) (⟨by rw [rI (g:=g4) (hp4.mem_iff.2 (by simp)) (by rw [iR,eD (p:=wZ g4) (d:=Xt.zero) (k:=k) (by omega) hb16,Bool.or_true])]; rfl,HS.fr⟩)
      exact aA<|aE<|ao<|aG<|wo (aU (b:=1) O O (by omega)<|wm O<|aY<|aX (k+1) ⟨⟨by omega,cL hok hb16⟩,(HS.take 11)⟩ ⟨rfl,rfl,rfl,rfl,rfl,rfl,trivial⟩ (by omega))
    have C1: ∀(b15:Nat) (wS:World),Ke [] w wS [Bm,B0,B1,B2,B3,B4,B5,B6,B7,B8,B9,C0,.blk b15 [(aa 0),(aa 0)] 207]→W 2 (bz 13 2047) (e9 [(9,(ptr b15 0)),(39,(.agg #[(aa (ig g4.xs ((xs.getD k Xt.zero).id)).id),(aa (ig g4.xs ((xs.getD k Xt.zero).id)).bl)])),(40,(.bool (kv g4.xs ((xs.getD k Xt.zero).id))))]) wS:=by
      intro b15 wS HS
      rw [hW]
      refine wh1 11<|kH 11 O (bw (i:=12) HS O O O O O Fa.cR (fun w18 H18=>(⟨⟨_,H18⟩,?_⟩)))
      exact xt 12 O (.bool (kv g4.xs ((xs.getD k Xt.zero).id))) H18 (fun _ _ HX=>ee O ⟨rfl,rfl⟩)<|bh hW (C3 b15 w18 H18)
    have C4: ∀wS,Ke [] w wS [Bm,B0,B1,B2,B3,B4,B5,B6,B7,B8,B9,C0]→W 3 (bz 13 1023) (e9 [(39,(.agg #[(aa (ig g4.xs ((xs.getD k Xt.zero).id)).id),(aa (ig g4.xs ((xs.getD k Xt.zero).id)).bl)])),(40,(.bool (kv g4.xs ((xs.getD k Xt.zero).id))))]) wS:=fun wS HS=>by
      rw [hW]
      refine wh1 10<|kH 10 O (bt HS Fa.cR (fun b15 w15 H15=>(⟨⟨_,H15⟩,?_⟩)))
      exact bh hW (C1 b15 w15 H15)
    have C2: ∀(b15:Nat) (wS:World),Ke [] w wS [Bm,B0,B1,B2,B3,B4,B5,B6,B7,B8,B9,C0,.blk b15 [(aa 0),(aa 0)] 207]→W 6 (bz 13 1087) (e9 [(9,(ptr b15 0)),(35,(.agg #[(aa g4.pg),g4.ev,g4.pv,(.bool g4.con)])),(37,(aa (xs.getD k Xt.zero).id))]) wS:=by
      intro b15 wS HS
      rw [hW]
      refine wh1 6<|kH 6 O (az (Kd 235) O ((rF g4.pg _ _ g4.xs g4.ps g4.con ((xs.getD k Xt.zero).id) _ (HS.arrO (i:=8) O) (HS.arrO (i:=9) O) (by omega) (by omega)).mono (fun e w17 hq=>?_)))
      obtain ⟨rfl,hf17⟩:=hq
      refine ⟨_,rfl,?_⟩
      have H17:=HS.fr' hf17
      refine ⟨⟨_,H17⟩,?_⟩
      exact xt 7 O (.tuple #[(.agg #[(aa (ig g4.xs ((xs.getD k Xt.zero).id)).id),(aa (ig g4.xs ((xs.getD k Xt.zero).id)).bl)]),(.bool (kv g4.xs ((xs.getD k Xt.zero).id)))]) H17 (fun _ _ HX=>au O ⟨rfl,rfl⟩)<|xt 8 O (.agg #[(aa (ig g4.xs ((xs.getD k Xt.zero).id)).id),(aa (ig g4.xs ((xs.getD k Xt.zero).id)).bl)]) H17 (fun _ _ HX=>ch O O ⟨rfl,rfl⟩)<|xt 9 O (.bool (kv g4.xs ((xs.getD k Xt.zero).id))) H17 (fun _ _ HX=>ch O O ⟨rfl,rfl⟩)<|bh hW (C1 b15 w17 H17)
    have C5: ∀wS,Ke [] w wS [Bm,B0,B1,B2,B3,B4,B5,B6,B7,B8,B9,C0]→W 7 (bz 13 63) (e9 [(35,(.agg #[(aa g4.pg),g4.ev,g4.pv,(.bool g4.con)])),(37,(aa (xs.getD k Xt.zero).id))]) wS:=fun wS HS=>by
      rw [hW]
      refine wh2 6 10 ?_ ?_
      ·
        refine kH 6 O (cq HS (Kd 235) O (rF g4.pg _ _ g4.xs g4.ps g4.con ((xs.getD k Xt.zero).id) _ (HS.arrO (i:=8) O) (HS.arrO (i:=9) O) (by omega) (by omega)) fun w17 H17=>(⟨⟨_,H17⟩,?_⟩))
        exact xt 7 O (.tuple #[(.agg #[(aa (ig g4.xs ((xs.getD k Xt.zero).id)).id),(aa (ig g4.xs ((xs.getD k Xt.zero).id)).bl)]),(.bool (kv g4.xs ((xs.getD k Xt.zero).id)))]) H17 (fun _ _ HX=>au O ⟨rfl,rfl⟩)<|xt 8 O (.agg #[(aa (ig g4.xs ((xs.getD k Xt.zero).id)).id),(aa (ig g4.xs ((xs.getD k Xt.zero).id)).bl)]) H17 (fun _ _ HX=>ch O O ⟨rfl,rfl⟩)<|xt 9 O (.bool (kv g4.xs ((xs.getD k Xt.zero).id))) H17 (fun _ _ HX=>ch O O ⟨rfl,rfl⟩)<|bh hW (C4 w17 H17)
      refine kH 10 O (bt HS Fa.cR (fun b15 w15 H15=>(⟨⟨_,H15⟩,?_⟩)))
      exact bh hW (C2 b15 w15 H15)
    have C6: ∀(b15:Nat) (wS:World),Ke [] w wS [Bm,B0,B1,B2,B3,B4,B5,B6,B7,B8,B9,C0,.blk b15 [(aa 0),(aa 0)] 207]→W 9 (bz 13 1073) (e9 [(9,(ptr b15 0)),(32,(ptr g4.b 0)),(37,(aa (xs.getD k Xt.zero).id))]) wS:=by
      intro b15 wS HS
      rw [hW]
      refine wh1 1<|kH 1 O (aJ O (⟨⟨_,HS⟩,?_⟩))
      exact xt 2 O (ptr g4.b 0) HS (fun _ _ HX=>ab O Fa.jv ⟨rfl,rfl⟩)<|xt 3 O (.agg #[(aa g4.pg),g4.ev,g4.pv,(.bool g4.con)]) HS (fun _ _ HX=>aM (vs:=[_,_,_,_]) O (HX.cellsO (i:=7) O O) A40 O Fa.I40 O ⟨rfl,rfl⟩)<|bh hW (C2 b15 wS HS)
    have C7: ∀wS,Ke [] w wS [Bm,B0,B1,B2,B3,B4,B5,B6,B7,B8,B9,C0]→W 10 (bz 13 49) (e9 [(32,(ptr g4.b 0)),(37,(aa (xs.getD k Xt.zero).id))]) wS:=fun wS HS=>by
      rw [hW]
      refine wh2 1 10 ?_ ?_
      ·
        refine kH 1 O (aJ O (⟨⟨_,HS⟩,?_⟩))
        exact xt 2 O (ptr g4.b 0) HS (fun _ _ HX=>ab O Fa.jv ⟨rfl,rfl⟩)<|xt 3 O (.agg #[(aa g4.pg),g4.ev,g4.pv,(.bool g4.con)]) HS (fun _ _ HX=>aM (vs:=[_,_,_,_]) O (HX.cellsO (i:=7) O O) A40 O Fa.I40 O ⟨rfl,rfl⟩)<|bh hW (C5 wS HS)
      refine kH 10 O (bt HS Fa.cR (fun b15 w15 H15=>(⟨⟨_,H15⟩,?_⟩)))
      exact bh hW (C6 b15 w15 H15)
    have hq:=C7 w14 H14
    rw [hW] at hq ⊢
    exact WH.cv hq
  refine bc<|an<|an<|aS<|aE ?_
  exact aX ((sn++[g4]),rs4) ⟨⟨hp4,fun g' hg'=>by
    rcases List.mem_append.1 hg' with h9 | h9
    · exact hno g' h9
    · rw [List.mem_singleton] at h9; subst h9; rw [iR,hb9,ew (d:=Xt.zero) (fun j hj=>hok j (by omega))]; rfl⟩,(H10.take 7)⟩ ⟨rfl,rfl,trivial⟩ (by show rs4.length<rst.length; omega)
theorem EC (c:Nat) (pg:UInt32) (hv:Value) (he:List UInt32) (mb cn:Nat) (gs:List Gr) (mp:UInt32) (ev pv:Value) (xs:List Xt) (ps:List UInt16) (con:Bool) (pb:Nat) (pages:UInt32) (w:World) (hC:cellsAt w c [(aa pg),hv,(.map (some mb))]) (hH:Arr w hv 1 he.length (Kg aa he)) (hM:w.heap[mb]?=some (mP .i64 (Kg Gr.me gs) cn)) (hG:BsOK 199 Gr.cells Gr.b gs w) (hS:grD.list.ok w gs) (hPb:cellsAt w pb [(aa pages)]) (hME:MEok (Kg Gr.me gs) cn) (_hE:Arr w ev 2 xs.length (Kh xtc xs)) (_hP:Arr w pv 1 ps.length (Kg bA ps)) :
  Calls Kf 173 #[(ptr c 0),(.agg #[(aa mp),ev,pv,(.bool con)]),(ptr pb 0)] w (fun e w'=>e=.returned (vN (jl pg gs mp pages))∧Fr [] w w'):=by
 refine enter Tryz.func173 O O ?_
 have H0:=(((((((aL w []).oldB hC).oldA hH).mpOld hM).bsOld hG).dpOld hS).oldB hPb)
 refine ws<|wo (bK H0 O O (fun b1 w1 H1=>(wa O<|wn<|ap<|ap<|bn 7 Fa.M H1 (oh (fun w1 H1=>ab O Fa.im zr)<|oh (fun w1 H1=>aj O (H1.cell (i:=6) O O) A22 O zr)<|oh (fun w1 H1=>aj O (H1.cellO (i:=5) O O) A22 O zr)<|oh (fun w1 H1=>bW O O zr)<|mh O<|oh (fun w1 H1=>az (Kd 60) O ((nH c pg hv he mb cn gs _ (H1.cellsAtO (i:=0) O) (H1.arrO (i:=1) O) (H1.mpO (i:=2) O) (H1.bsR (i:=3) O) (H1.dpO (i:=4) O) hME).mono (fun e w2 hq=>⟨_,hq.1,rfl,hq.2⟩)))<|oh (fun w1 H1=>cI O O zr)  bD) (by kernel_rfl) ?_)))
 intro β3 w3 H3
 refine wn (wE ((mp+pages)>(cg pg gs)) (fun hb4 hc4=>?_) (fun hb4 hc4=>?_))
 ·
  exact ws<|wa O<|wn<|aC<|aq<|aD (.tmp O .nil) (⟨by rw [jl,if_pos (dT hb4)]; rfl,H3.fr⟩)
 exact aA<|ao<|ws<|wa O<|wn<|aC<|aD (.tmp O .nil) (⟨by rw [jl,if_neg (dF hb4)]; rfl,H3.fr⟩)
theorem EN (c:Nat) (pg:UInt32) (hv:Value) (he:List UInt32) (mb cn:Nat) (gs:List Gr) (mp:UInt32) (ev pv:Value) (xs:List Xt) (ps:List UInt16) (con:Bool) (pb:Nat) (pages:UInt32) (lv:Value) (w:World) (hC:cellsAt w c [(aa pg),hv,(.map (some mb))]) (hH:Arr w hv 1 he.length (Kg aa he)) (hM:w.heap[mb]?=some (mP .i64 (Kg Gr.me gs) cn)) (hG:BsOK 199 Gr.cells Gr.b gs w) (hS:grD.list.ok w gs) (hPb:cellsAt w pb [(aa pages)]) (hME:MEok (Kg Gr.me gs) cn) (hfit: ∀g∈gs,g.ps.length<2^40∧g.xs.length<2^40) (hE:Arr w ev 2 xs.length (Kh xtc xs)) (hP:Arr w pv 1 ps.length (Kg bA ps)) (hn:xs.length<2^40) (hm:ps.length<2^40) (hhe:he.length<2^32) (hL:Arr w lv 1 4 [(.func (.func 208) #[] #[]),(.func (.func 209) #[] #[]),(.func (.func 210) #[] #[]),(.func (.func 173) #[] #[(ptr pb 0)])]) :
  Calls Kf 207 #[(ptr c 0),(.agg #[(aa mp),ev,pv,(.bool con)]),lv] w (fun e w'=>e=.returned (vN (iE pg he gs mp xs ps pages))∧Fr [] w w'):=by
 refine enter Tryz.func207 O O ?_
 have H0:=(((((((aL w []).oldB hC).oldA hH).mpOld hM).bsOld hG).dpOld hS).oldB hPb)
 refine ws<|wo (bK H0 O O (fun b1 w1 H1=>(wa O<|wn<|ap<|ws<|wm O<|wo (bu A332 O (H1.arr hL)<|wm O<|wn<|aB<|WC.unroll 4<|ws<|wo (bm O O<|wn<|ap<|bX O O<|aA<|ao<|ap<|aB<|ws<|wo (aF A332 Fa.vY O (H1.arr hL) O (by simp)<|wo (aj O ((H1.arr hL).at rfl) A308 O<|wa O<|wn<|ws<|wm O<|wm O<|wo (aM (vs:=[_,_,_,_]) O (H1.cells (i:=6) O O) A40 O Fa.I40 O<|wo (gh (f:=208) O (Kd 208) O ((DU c pg hv he mb cn gs mp _ _ xs ps con _ (H1.cellsAtO (i:=0) O) (H1.arrO (i:=1) O) (H1.mpO (i:=2) O) (H1.bsR (i:=3) O) (H1.dpO (i:=4) O) hME (H1.arr hE) (H1.arr hP) hn hm hhe).mono (fun e w2 hq=>?_)))))))))))
 obtain ⟨rfl,hf2⟩:=hq
 refine ⟨_,rfl,?_⟩
 have H2:=H1.fr' hf2
 refine wa O<|wn<|ws<|wm O<|wo (bI (b:=0) O O<|wn (wE ((kJ he xs)≠0) (fun hb3 hc3=>?_) (fun hb3 hc3=>?_)))
 ·
  exact ws<|wm O<|wa O<|wn<|aC<|aZ<|aq<|aq<|aZ<|aq<|aD (.tmp O .nil) (⟨by rw [iE,if_pos (dT hb3)]; rfl,H2.fr⟩)
 refine aA<|aE<|ao<|aG<|wo (aU (b:=1) O O (by simp)<|wm O<|aY<|WQ.again<|ws<|wo (bm O O<|wn<|ap<|bX O O<|aA<|ao<|ap<|aB<|ws<|wo (aF A332 Fa.vY O (H2.arr hL) O (by simp)<|wo (aj O ((H2.arr hL).at rfl) A308 O<|wa O<|wn<|ws<|wm O<|wm O<|wo (aM (vs:=[_,_,_,_]) O (H2.cells (i:=6) O O) A40 O Fa.I40 O<|wo (gh (f:=209) O (Kd 209) O ((Eh c pg hv he mb cn gs mp _ _ xs ps con _ (H2.cellsAtO (i:=0) O) (H2.arrO (i:=1) O) (H2.mpO (i:=2) O) (H2.bsR (i:=3) O) (H2.dpO (i:=4) O) hME (H2.arr hE) (H2.arr hP) hn hm hhe).mono (fun e w4 hq=>?_))))))))
 obtain ⟨rfl,hf4⟩:=hq
 refine ⟨_,rfl,?_⟩
 have H4:=H2.fr' hf4
 refine wa O<|wn<|ws<|wm O<|wo (bI (b:=0) O O<|wn (wE ((kK he xs)≠0) (fun hb5 hc5=>?_) (fun hb5 hc5=>?_)))
 ·
  exact ws<|wm O<|wa O<|wn<|aC<|aZ<|aq<|aq<|aZ<|aq<|aD (.tmp O .nil) (⟨by rw [iE,if_neg (dF hb3),if_pos (dT hb5)]; rfl,H4.fr⟩)
 refine aA<|aE<|ao<|aG<|wo (aU (b:=1) O O (by simp)<|wm O<|aY<|WQ.again<|ws<|wo (bm O O<|wn<|ap<|bX O O<|aA<|ao<|ap<|aB<|ws<|wo (aF A332 Fa.vY O (H4.arr hL) O (by simp)<|wo (aj O ((H4.arr hL).at rfl) A308 O<|wa O<|wn<|ws<|wm O<|wm O<|wo (aM (vs:=[_,_,_,_]) O (H4.cells (i:=6) O O) A40 O Fa.I40 O<|wo (gh (f:=210) O (Kd 210) O ((EX c pg hv he mb cn gs mp _ _ xs ps con _ (H4.cellsAtO (i:=0) O) (H4.arrO (i:=1) O) (H4.mpO (i:=2) O) (H4.bsR (i:=3) O) (H4.dpO (i:=4) O) hME hfit (H4.arr hE) (H4.arr hP) hn hm hhe).mono (fun e w6 hq=>?_))))))))
 obtain ⟨rfl,hf6⟩:=hq
 refine ⟨_,rfl,?_⟩
 have H6:=H4.fr' hf6
 refine wa O<|wn<|ws<|wm O<|wo (bI (b:=0) O O<|wn (wE ((iB gs xs ps)≠0) (fun hb7 hc7=>?_) (fun hb7 hc7=>?_)))
 ·
  exact ws<|wm O<|wa O<|wn<|aC<|aZ<|aq<|aq<|aZ<|aq<|aD (.tmp O .nil) (⟨by rw [iE,if_neg (dF hb3),if_neg (dF hb5),if_pos (dT hb7)]; rfl,H6.fr⟩)
 refine aA<|aE<|ao<|aG<|wo (aU (b:=1) O O (by simp)<|wm O<|aY<|WQ.again<|ws<|wo (bm O O<|wn<|ap<|bX O O<|aA<|ao<|ap<|aB<|ws<|wo (aF A332 Fa.vY O (H6.arr hL) O (by simp)<|wo (aj O ((H6.arr hL).at rfl) A308 O<|wa O<|wn<|ws<|wm O<|wm O<|wo (aM (vs:=[_,_,_,_]) O (H6.cells (i:=6) O O) A40 O Fa.I40 O<|wo (gh (f:=173) O (Kd 173) O ((EC c pg hv he mb cn gs mp _ _ xs ps con pb pages _ (H6.cellsAtO (i:=0) O) (H6.arrO (i:=1) O) (H6.mpO (i:=2) O) (H6.bsR (i:=3) O) (H6.dpO (i:=4) O) (H6.cellsAtO (i:=5) O) hME (H6.arr hE) (H6.arr hP)).mono (fun e w8 hq=>?_))))))))
 obtain ⟨rfl,hf8⟩:=hq
 refine ⟨_,rfl,?_⟩
 have H8:=H6.fr' hf8
 refine wa O<|wn<|ws<|wm O<|wo (bI (b:=0) O O<|wn (wE ((jl pg gs mp pages)≠0) (fun hb9 hc9=>?_) (fun hb9 hc9=>?_)))
 ·
  exact ws<|wm O<|wa O<|wn<|aC<|aZ<|aq<|aq<|aZ<|aq<|aD (.tmp O .nil) (⟨by rw [iE,if_neg (dF hb3),if_neg (dF hb5),if_neg (dF hb7)]; rfl,H8.fr⟩)
 exact aA<|aE<|ao<|aG<|wo (aU (b:=1) O O (by simp)<|wm O<|aY<|WQ.again<|ws<|wo (bm O O<|wn<|ap<|bF O O<|bc<|an<|an<|aS<|ao<|ws<|wa O<|wn<|aC<|aD (.tmp O .nil) (⟨by rw [iE,if_neg (dF hb3),if_neg (dF hb5),if_neg (dF hb7),show jl pg gs mp pages=0 from Classical.not_not.1 (dF hb9)]; rfl,H8.fr⟩)))
theorem vP (c:Nat) (pg:UInt32) (hv:Value) (he:List UInt32) (mb cn:Nat) (gs:List Gr) (mp:UInt32) (ev pv:Value) (xs:List Xt) (ps:List UInt16) (con:Bool) (pb:Nat) (pages:UInt32) (w:World) (hC:cellsAt w c [(aa pg),hv,(.map (some mb))]) (hH:Arr w hv 1 he.length (Kg aa he)) (hM:w.heap[mb]?=some (mP .i64 (Kg Gr.me gs) cn)) (hG:BsOK 199 Gr.cells Gr.b gs w) (hS:grD.list.ok w gs) (hPb:cellsAt w pb [(aa pages)]) (hME:MEok (Kg Gr.me gs) cn) (hfit: ∀g∈gs,g.ps.length<2^40∧g.xs.length<2^40) (hE:Arr w ev 2 xs.length (Kh xtc xs)) (hP:Arr w pv 1 ps.length (Kg bA ps)) (hn:xs.length<2^40) (hm:ps.length<2^40) (hhe:he.length<2^32) :
  Calls Kf 174 #[(ptr c 0),(.agg #[(aa mp),ev,pv,(.bool con)]),(.func (.func 173) #[] #[(ptr pb 0)])] w (fun e w'=>e=.returned (vN (iE pg he gs mp xs ps pages))∧Fr [] w w'):=by
 refine enter Tryz.func174 O O ?_
 have H0:=(((((((aL w []).oldB hC).oldA hH).mpOld hM).bsOld hG).dpOld hS).oldB hPb)
 exact ws<|wo (bK H0 O O (fun b1 w1 H1=>(wa O<|wn<|ws<|wm O<|wo (aM (vs:=[_,_,_,_]) O (H1.cells (i:=6) O O) A40 O Fa.I40 O<|wm O<|wo (aW (cs:=[_,_,_,_]) H1 A332 Fa.vY O O O O (by decide) (by decide) (fun b2 w2 H2=>(wo (cq H2 (Kd 207) O (EN c pg hv he mb cn gs mp _ _ xs ps con pb pages _ _ (H2.cellsAtO (i:=0) O) (H2.arrO (i:=1) O) (H2.mpO (i:=2) O) (H2.bsR (i:=3) O) (H2.dpO (i:=4) O) (H2.cellsAtO (i:=5) O) hME hfit (H2.arr hE) (H2.arr hP) hn hm hhe (H2.arrR (i:=7) O)) fun w3 H3=>(wa O<|wn<|aC<|aD (.tmp O .nil) (⟨rfl,H3.fr⟩))))))))))
theorem mN (lv:Value) (l:List Xt) (w:World) (hA:Arr w lv 2 l.length (Kh xtc l)) (hn:l.length<2^40) :
  Calls Kf 171 #[lv] w (fun e w'=> ∃v,e=.returned v∧Ke [] w w' [.row v 207 2 l.length (Kh xtc l)]):=by
 refine enter Tryz.func171 O O ?_
 have H0:=aL w []
 refine ws<|wa O<|wn<|ap<|ws<|wm O<|wo (lD A37 O (H0.arr hA) O<|wn (wC (nE lv) (fun hb1=>?_) (fun hb1=>?_)))
 ·
  refine ws<|wa O<|wn<|aC<|aq<|aD (.tmp O .nil) ?_
  obtain rfl:l=[]:=List.eq_nil_of_length_eq_zero (hA.isNil0 hb1).1
  exact ⟨_,rfl,(H0.sel [] O O).nilRow 207 2⟩
 refine aA<|ao<|ws<|wo (aW (cs:=[]) H0 A37 Fa.cR O O O O (by decide) (by decide) (fun b2 w2 H2=>(wm O<|wo (fJ (f:=xtc) (l:=[]) (l':=l) (i:=0) H2 A37 Fa.cR O O O O (ck A37 (H2.arr hA)) (iL (fun _=>by simp [xtc,Value.oneCell'])) (by omega) (by omega) (fun v3 w3 H3=>(wa O<|wn<|aC<|aD (.tmp O .nil) ?_))))))
 have h:=H3.sel [0] O O
 rw [Nat.zero_add,List.nil_append] at h
 exact ⟨_,rfl,h⟩
theorem ma (lv:Value) (l:List UInt16) (w:World) (hA:Arr w lv 1 l.length (Kg bA l)) (hn:l.length<2^40) :
  Calls Kf 172 #[lv] w (fun e w'=> ∃v,e=.returned v∧Ke [] w w' [.row v 203 1 l.length (Kg bA l)]):=by
 refine enter Tryz.func172 O O ?_
 have H0:=aL w []
 refine ws<|wa O<|wn<|ap<|ws<|wm O<|wo (lD A38 O (H0.arr hA) O<|wn (wC (nE lv) (fun hb1=>?_) (fun hb1=>?_)))
 ·
  refine ws<|wa O<|wn<|aC<|aq<|aD (.tmp O .nil) ?_
  obtain rfl:l=[]:=List.eq_nil_of_length_eq_zero (hA.isNil0 hb1).1
  exact ⟨_,rfl,(H0.sel [] O O).nilRow 203 1⟩
 refine aA<|ao<|ws<|wo (aW (cs:=[]) H0 A38 Fa.fV O O O O (by decide) (by decide) (fun b2 w2 H2=>(wm O<|wo (hZ (i:=0) H2 A38 Fa.fV O O O O (ck A38 (H2.arr hA)) (by simp [Value.oneCell']) (by omega) (by omega) (fun v3 w3 H3=>(wa O<|wn<|aC<|aD (.tmp O .nil) ?_))))))
 have h:=H3.sel [0] O O
 rw [Nat.zero_add,List.nil_append] at h
 exact ⟨_,rfl,h⟩
theorem BL (c:Nat) (pg:UInt32) (hv:Value) (he:List UInt32) (mb cn:Nat) (gs:List Gr) (en:Nat) (mp:UInt32) (ev pv:Value) (xs:List Xt) (ps:List UInt16) (con:Bool) (pages:UInt32) (T:List Nat) (w:World) (H:Ke T w w [.blk c [(aa pg),hv,(.map (some mb))] 196,Ent.ar hv 1 he.length (Kg aa he),.obj mb (mP .i64 (Kg Gr.me gs) cn),Ent.bs 199 Gr.cells Gr.b gs,Ent.dp grD.list gs,Ent.ar ev 2 xs.length (Kh xtc xs),Ent.ar pv 1 ps.length (Kg bA ps)]) (hME:MEok (Kg Gr.me gs) cn) (h1:1≤en) (h8:en≤8) (hn:xs.length<2^40) (hm:ps.length<2^40) (hhe:he.length<2^32) (hfit: ∀g∈gs,g.ps.length<2^40∧g.xs.length<2^40) (hmf:mfE mp xs ps=0) (hpg:¬pages>4096) (no: ∀g∈gs,(g.e:Int)≠(en:Int)) (hw:(iE pg he gs mp xs ps pages)≠0) :
  Calls Kf 132 #[(ptr c 0),(vN en),(.agg #[(aa mp),ev,pv,(.bool con)]),(aa pages)] w (fun e w'=>e=.returned (vN (iE pg he gs mp xs ps pages))∧Ke T w w' [.blk c [(aa pg),hv,(.map (some mb))] 196,Ent.ar hv 1 he.length (Kg aa he),.obj mb (mP .i64 (Kg Gr.me gs) cn),Ent.bs 199 Gr.cells Gr.b gs,Ent.dp grD.list gs,Ent.ar ev 2 xs.length (Kh xtc xs),Ent.ar pv 1 ps.length (Kg bA ps)]):=by
 exact enter Tryz.func132 O O<|ws<|wo (bK H O O (fun b1 w1 H1=>(wo (bK H1 O O (fun b2 w2 H2=>(wa O<|wn<|ap<|aB<|ws<|wm O<|wo (bG Fa.jm O O<|wa O<|wn<|bF O O<|ws<|wm O<|wo (bm (b:=1) O O<|wm O<|bL O O O (decide_eq_false (by omega)) O (au O<|bL O O O (decide_eq_false (by omega)) O (cm (b:=8) O O<|wo (aN O (decide_eq_false (by omega)) O<|wm O<|bL O O O (decide_eq_false (by omega)) O (aM (vs:=[_,_,_,_]) O (H2.cells (i:=7) O O) A40 O Fa.I40 O<|bL O O O (decide_eq_false (by omega)) O (cq H2 (Kd 90) O (ii mp _ _ xs ps con _ (H2.arrO (i:=5) O) (H2.arrO (i:=6) O) (by omega) (by omega)) fun w3 H3=>(bL O O O (decide_eq_false (by omega)) O (bI (b:=0) O O<|wo (aN O (decide_eq_false (by omega)) O<|wm O<|bL O O O (decide_eq_false (fun h=>h hmf)) O (aj O (H3.cell (i:=8) O O) A22 O<|bL O O O (decide_eq_false (fun h=>h hmf)) O (cI (b:=4096) O O<|wo (aN O (decide_eq_false (fun h=>h hmf)) O<|wa O<|wn<|bF O (decide_eq_false hpg)<|ws<|wm O<|wo (aJ O<|wo (ab O Fa.gA<|wo (aj O (H3.cell (i:=0) O O) A194 O<|wm O<|wo (gH (H3.mp (i:=2) O) no A194 A3 Fa.yA O O<|wo (fy Fa.mS O O<|wa O<|wn<|bF O O<|aA<|aE<|ao<|ws<|wo (fR O O<|wa O<|wn<|ap<|ws<|wm O<|wo (aM (vs:=[_,_,_,_]) O (H3.cells (i:=7) O O) A40 O Fa.I40 O<|wm O<|wo (cq H3 (Kd 174) O (vP c pg hv he mb cn gs mp _ _ xs ps con b2 pages _ (H3.cellsAt (i:=0) O) (H3.arrO (i:=1) O) (H3.mp (i:=2) O) (H3.bsG (i:=3) O) (H3.dpO (i:=4) O) (H3.cellsAt (i:=8) O) hME hfit (H3.arrO (i:=5) O) (H3.arrO (i:=6) O) hn hm hhe) fun w4 H4=>(wa O<|wn<|ws<|wm O<|wo (bI (b:=0) O O<|wn<|bX O (decide_eq_true hw)<|ws<|wm O<|wa O<|wn<|aC<|aq<|aD (.tmp O .nil) (⟨rfl,H4.sel [0,1,2,3,4,5,6] O O⟩))))))))))))))))))))))))))))))
theorem ye (c:Nat) (pg:UInt32) (hv:Value) (he:List UInt32) (mb cn:Nat) (gs:List Gr) (en:Nat) (mp:UInt32) (ev pv:Value) (xs:List Xt) (ps:List UInt16) (con:Bool) (pages:UInt32) (g:Gr) (T:List Nat) (w:World) (H:Ke T w w [.blk c [(aa pg),hv,(.map (some mb))] 196,Ent.ar hv 1 he.length (Kg aa he),.obj mb (mP .i64 (Kg Gr.me gs) cn),Ent.bs 199 Gr.cells Gr.b gs,Ent.dp grD.list gs,Ent.ar ev 2 xs.length (Kh xtc xs),Ent.ar pv 1 ps.length (Kg bA ps)]) (hME:MEok (Kg Gr.me gs) cn) (h1:1≤en) (h8:en≤8) (hn:xs.length<2^40) (hm:ps.length<2^40) (_hhe:he.length<2^32) (_hfit: ∀g∈gs,g.ps.length<2^40∧g.xs.length<2^40) (hmf:mfE mp xs ps=0) (hpg:¬pages>4096) (hg:g∈gs) (hge:(g.e:Int)=(en:Int)) :
  Calls Kf 132 #[(ptr c 0),(vN en),(.agg #[(aa mp),ev,pv,(.bool con)]),(aa pages)] w (fun e w'=>e=.returned (vN 9)∧Ke T w w' [.blk c [(aa pg),hv,(.map (some mb))] 196,Ent.ar hv 1 he.length (Kg aa he),.obj mb (mP .i64 (Kg Gr.me gs) cn),Ent.bs 199 Gr.cells Gr.b gs,Ent.dp grD.list gs,Ent.ar ev 2 xs.length (Kh xtc xs),Ent.ar pv 1 ps.length (Kg bA ps)]):=by
 exact enter Tryz.func132 O O<|ws<|wo (bK H O O (fun b1 w1 H1=>(wo (bK H1 O O (fun b2 w2 H2=>(wa O<|wn<|ap<|aB<|ws<|wm O<|wo (bG Fa.jm O O<|wa O<|wn<|bF O O<|ws<|wm O<|wo (bm (b:=1) O O<|wm O<|bL O O O (decide_eq_false (by omega)) O (au O<|bL O O O (decide_eq_false (by omega)) O (cm (b:=8) O O<|wo (aN O (decide_eq_false (by omega)) O<|wm O<|bL O O O (decide_eq_false (by omega)) O (aM (vs:=[_,_,_,_]) O (H2.cells (i:=7) O O) A40 O Fa.I40 O<|bL O O O (decide_eq_false (by omega)) O (cq H2 (Kd 90) O (ii mp _ _ xs ps con _ (H2.arrO (i:=5) O) (H2.arrO (i:=6) O) (by omega) (by omega)) fun w3 H3=>(bL O O O (decide_eq_false (by omega)) O (bI (b:=0) O O<|wo (aN O (decide_eq_false (by omega)) O<|wm O<|bL O O O (decide_eq_false (fun h=>h hmf)) O (aj O (H3.cell (i:=8) O O) A22 O<|bL O O O (decide_eq_false (fun h=>h hmf)) O (cI (b:=4096) O O<|wo (aN O (decide_eq_false (fun h=>h hmf)) O<|wa O<|wn<|bF O (decide_eq_false hpg)<|ws<|wm O<|wo (aJ O<|wo (ab O Fa.gA<|wo (aj O (H3.cell (i:=0) O O) A194 O<|wm O<|wo (fO (g:=g) (H3.mp (i:=2) O) hME hg hge A194 A3 O O<|wo (fy Fa.mS O O<|wa O<|wn<|bX O O<|ws<|wa O<|wn<|aC<|aZ<|aq<|aD (.tmp O .nil) (⟨rfl,H3.sel [0,1,2,3,4,5,6] O O⟩)))))))))))))))))))))))))
theorem zW (c:Nat) (pg:UInt32) (hv:Value) (he:List UInt32) (mb cn:Nat) (gs:List Gr) (en:Nat) (mp:UInt32) (ev pv:Value) (xs:List Xt) (ps:List UInt16) (con:Bool) (pages:UInt32) (T:List Nat) (w:World) (H:Ke T w w [.blk c [(aa pg),hv,(.map (some mb))] 196,Ent.ar hv 1 he.length (Kg aa he),.obj mb (mP .i64 (Kg Gr.me gs) cn),Ent.bs 199 Gr.cells Gr.b gs,Ent.dp grD.list gs,Ent.ar ev 2 xs.length (Kh xtc xs),Ent.ar pv 1 ps.length (Kg bA ps)]) (hME:MEok (Kg Gr.me gs) cn) (h1:1≤en) (h8:en≤8) (hn:xs.length<2^40) (hm:ps.length<2^40) (hhe:he.length<2^32) (hfit: ∀g∈gs,g.ps.length<2^40∧g.xs.length<2^40) (hmf:mfE mp xs ps=0) (hpg:¬pages>4096) (no: ∀g∈gs,(g.e:Int)≠(en:Int)) (hw:(iE pg he gs mp xs ps pages)=0) (hT: ∀b∈T,b=c∨b=mb∨b∈Kg Gr.b gs) :
    Calls Kf 132 #[(ptr c 0),(vN en),(.agg #[(aa mp),ev,pv,(.bool con)]),(aa pages)] w (fun e w'=> ∃b v1 v2,e=.returned (vN 0)∧(∀x∈grD.ft (Gr.mk en b cn mp v1 xs v2 ps con pages 0),w.heap.size≤x)∧Ke T w w' [.blk c [(aa pg),hv,(.map (some mb))] 196,Ent.ar hv 1 he.length (Kg aa he),.obj mb (mP .i64 (Kg Gr.me (gs++[(Gr.mk en b cn mp v1 xs v2 ps con pages 0)])) (cn+1)),Ent.bs 199 Gr.cells Gr.b (gs++[(Gr.mk en b cn mp v1 xs v2 ps con pages 0)]),Ent.dp grD.list (gs++[(Gr.mk en b cn mp v1 xs v2 ps con pages 0)]),Ent.ar ev 2 xs.length (Kh xtc xs),Ent.ar pv 1 ps.length (Kg bA ps)]):=by
  refine enter Tryz.func132 O O<|ws<|wo (bK H O O (fun b1 w1 H1=>(wo (bK H1 O O (fun b2 w2 H2=>(wa O<|wn<|ap<|aB<|ws<|wm O<|wo (bG Fa.jm O O<|wa O<|wn<|bF O O<|ws<|wm O<|wo (bm (b:=1) O O<|wm O<|bL O O O (decide_eq_false (by omega)) O (au O<|bL O O O (decide_eq_false (by omega)) O (cm (b:=8) O O<|wo (aN O (decide_eq_false (by omega)) O<|wm O<|bL O O O (decide_eq_false (by omega)) O (aM (vs:=[_,_,_,_]) O (H2.cells (i:=7) O O) A40 O Fa.I40 O<|bL O O O (decide_eq_false (by omega)) O (cq H2 (Kd 90) O (ii mp _ _ xs ps con _ (H2.arrO (i:=5) O) (H2.arrO (i:=6) O) (by omega) (by omega)) fun w3 H3=>(bL O O O (decide_eq_false (by omega)) O (bI (b:=0) O O<|wo (aN O (decide_eq_false (by omega)) O<|wm O<|bL O O O (decide_eq_false (fun h=>h hmf)) O (aj O (H3.cell (i:=8) O O) A22 O<|bL O O O (decide_eq_false (fun h=>h hmf)) O (cI (b:=4096) O O<|wo (aN O (decide_eq_false (fun h=>h hmf)) O<|wa O<|wn<|bF O (decide_eq_false hpg)<|ws<|wm O<|wo (aJ O<|wo (ab O Fa.gA<|wo (aj O (H3.cell (i:=0) O O) A194 O<|wm O<|wo (gH (H3.mp (i:=2) O) no A194 A3 Fa.yA O O<|wo (fy Fa.mS O O<|wa O<|wn<|bF O O<|aA<|aE<|ao<|ws<|wo (fR O O<|wa O<|wn<|ap<|ws<|wm O<|wo (aM (vs:=[_,_,_,_]) O (H3.cells (i:=7) O O) A40 O Fa.I40 O<|wm O<|wo (cq H3 (Kd 174) O (vP c pg hv he mb cn gs mp _ _ xs ps con b2 pages _ (H3.cellsAt (i:=0) O) (H3.arrO (i:=1) O) (H3.mp (i:=2) O) (H3.bsG (i:=3) O) (H3.dpO (i:=4) O) (H3.cellsAt (i:=8) O) hME hfit (H3.arrO (i:=5) O) (H3.arrO (i:=6) O) hn hm hhe) fun w4 H4=>(wa O<|wn<|ws<|wm O<|wo (bI (b:=0) O O<|wn<|bF O (decide_eq_false (fun h=>h hw))<|aA<|ao<|ap<|bn 7 Fa.M H4 (oh (fun w1 H1=>ab O Fa.da zr)<|oh (fun w1 H1=>aj O (H1.cell (i:=7) O O) A37 O zr)<|HW.flt (mk:=fun bq=>bq.2) (ent:=fun bq=>.row bq.2 207 2 xs.length (Kh xtc xs)) O (fun w1 H1=>az (Kd 171) O ((mN _ xs _ (H1.arrO (i:=5) O) (by omega)).mono (fun e w2 ⟨v,he,hO⟩=>⟨_,he,(0,v),rfl,hO,ae⟩)))<|oh (fun w1 H1=>ab O Fa.di zr)<|oh (fun w1 H1=>aj O (H1.cell (i:=7) O O) A38 O zr)<|HW.flt (mk:=fun bq=>bq.2) (ent:=fun bq=>.row bq.2 203 1 ps.length (Kg bA ps)) O (fun w1 H1=>az (Kd 172) O ((ma _ ps _ (H1.arrO (i:=6) O) (by omega)).mono (fun e w2 ⟨v,he,hO⟩=>⟨_,he,(0,v),rfl,hO,ae⟩)))<|oh (fun w1 H1=>ab O Fa.da zr)  bD) (by kernel_rfl) ?_)))))))))))))))))))))))))))))
  intro β7 w7 H7
  refine wo (bC (i:=7) H7 O O O O (bS (H7.arrR (i:=9) O)) Fa.I37 (fun w8 H8=>(wo (ab O Fa.di<|wo (bC (i:=7) H8 O O O O (bS (H8.arrR (i:=10) O)) Fa.I38 (fun w9 H9=>(wn<|ap<|bn 9 Fa.M H9 (mh O<|oh (fun w1 H1=>aJ O zr)<|oh (fun w1 H1=>ab O Fa.gA zr)<|oh (fun w1 H1=>aj O (H1.cell (i:=0) O O) A194 O zr)<|mh O<|oh (fun w1 H1=>aM (vs:=[_,_,_,_]) O (H1.cells (i:=7) O O) A40 O Fa.I40 O zr)<|oh (fun w1 H1=>aj O (H1.cell (i:=8) O O) A22 O zr)<|oh (fun w1 H1=>bP (cs:=[_,_,_,_,_,_]) Fa.Gk Fa.Cy O O zr)<|HW.flt (mk:=fun bq=>ptr bq.1 0) (ent:=fun bq=>.blk bq.1 _ _) O (fun w1 _=>bK (aL w1 []) O O (fun bq w2 H2=>⟨(bq,undef),rfl,H2,ae⟩))  bD) (by kernel_rfl) ?_)))))))
  intro β10 w10 H10
  refine wo (qw (i:=2) (k:=en) H10 O A194 A3 (fun x hx hk=>by obtain ⟨g,hg,rfl⟩:=List.mem_map.1 hx; exact no g hg (by show ((Gr.me g).k:Int)=_; omega)) O O O (fun w11 H11=>?_))
  refine wn<|ws<|wa O<|wn<|aC<|aD (.tmp O .nil) ?_
  have h:=H11
  rw [show Kg Gr.me gs++[ME.mk en (β10 8).1 cn]=Kg Gr.me (gs++[(Gr.mk en (β10 8).1 cn mp (β7 2).2 xs (β7 5).2 ps con pages 0)]) from by rw [List.map_append]; rfl] at h
  have h2:=h.fold (i:=3) (j:=11) (f:=Gr.cells) (bl:=Gr.b) (a:=(Gr.mk en (β10 8).1 cn mp (β7 2).2 xs (β7 5).2 ps con pages 0)) (l1:=gs) (l2:=[]) (by rw [List.append_nil]; rfl) O O O O
  have hz1:=h2.rowFreshT (i:=9) O (fun b hb=>by
    rcases hT b hb with h9 | h9 | h9
    · exact ⟨0,_,rfl,by decide,congrArg some h9.symm⟩
    · exact ⟨2,_,rfl,by decide,congrArg some h9.symm⟩
    · exact ⟨3,_,rfl,by decide,by show b∈Kg Gr.b (gs++[_]); rw [List.map_append]; exact List.mem_append.2 (.inl h9)⟩)
  have hz2:=h2.rowFreshT (i:=10) O (fun b hb=>by
    rcases hT b hb with h9 | h9 | h9
    · exact ⟨0,_,rfl,by decide,congrArg some h9.symm⟩
    · exact ⟨2,_,rfl,by decide,congrArg some h9.symm⟩
    · exact ⟨3,_,rfl,by decide,by show b∈Kg Gr.b (gs++[_]); rw [List.map_append]; exact List.mem_append.2 (.inl h9)⟩)
  have h3:=(h2.freeze (i:=9) O).freeze (i:=10) O
  have h4:=h3.join (i:=9) (j:=10) (sr:=grD.st (Gr.mk en (β10 8).1 cn mp (β7 2).2 xs (β7 5).2 ps con pages 0)) O O (fun p q=>⟨p,q⟩) (fun b hb=>List.mem_append.1 hb)
  have h5:=Own.dpSnoc (D:=grD) (l:=gs) (a:=(Gr.mk en (β10 8).1 cn mp (β7 2).2 xs (β7 5).2 ps con pages 0)) (i:=4) (j:=12) h4 O O
  exact ⟨_,_,_,rfl,fun x hx=>(List.mem_append.1 hx).elim (hz1 x) (hz2 x),h5.sel [0,1,2,3,13,5,6] O O⟩
theorem zR (c:Nat) (pg:UInt32) (hv:Value) (he:List UInt32) (mb cn:Nat) (gs:List Gr) (env:Int) (g:Gr) (w:World) (hC:cellsAt w c [(aa pg),hv,(.map (some mb))]) (hH:Arr w hv 1 he.length (Kg aa he)) (hM:w.heap[mb]?=some (mP .i64 (Kg Gr.me gs) cn)) (hG:BsOK 199 Gr.cells Gr.b gs w) (hS:grD.list.ok w gs) (hME:MEok (Kg Gr.me gs) cn) (hg:g∈gs) (hge:(g.e:Int)=env) (_hgp:g.ps.length<2^40) (_hgx:g.xs.length<2^40) :
  Calls Kf 149 #[(ptr c 0),(vI env)] w (fun e w'=>e=.returned (aa (g.pg-g.tk))∧Fr [] w w'):=by
 refine enter Tryz.func149 O O ?_
 have H0:=((((((aL w []).oldB hC).oldA hH).mpOld hM).bsOld hG).dpOld hS)
 refine ws<|wa O<|wn<|ws<|wm O<|wm O ?_
 have H1:=(((H0.bsView (i:=3) (a:=g) O hg).dpView (i:=4) (a:=g) O hg (fun w h=>h.1) (fun b hb=>List.mem_append.2 (.inl hb))).dpView (i:=4) (a:=g) O hg (fun w h=>h.2) (fun b hb=>List.mem_append.2 (.inr hb)))
 refine wo (cq H1 (Kd 170) O (vj c pg hv he mb cn gs env g _ (H1.cellsAtO (i:=0) O) (H1.arrO (i:=1) O) (H1.mpO (i:=2) O) (H1.bsR (i:=3) O) (H1.dpO (i:=4) O) hME hg hge) fun w2 H2=>(wm O<|we O O<|we O O<|wa O<|wa O<|wn<|ap<|bn 11 Fa.M H2 (mh O<|oh (fun w1 H1=>aJ O zr)<|oh (fun w1 H1=>ab O Fa.jv zr)<|oh (fun w1 H1=>ab O Fa.im zr)<|oh (fun w1 H1=>aj O (H1.cellO (i:=5) O O) A22 O zr)<|mh O<|oh (fun w1 H1=>aJ O zr)<|oh (fun w1 H1=>ab O Fa.yG zr)<|oh (fun w1 H1=>aj O (H1.cellO (i:=5) O O) A22 O zr)<|oh (fun w1 H1=>gY O O zr)<|ah O  bD) (by kernel_rfl) ?_))
 intro β3 w3 H3
 exact wn<|aC<|aD (.tmp O .nil) (⟨rfl,H3.fr⟩)
theorem Ej (c:Nat) (pg:UInt32) (hv:Value) (he:List UInt32) (mb cn:Nat) (gs:List Gr) (env:Int) (w:World) (hC:cellsAt w c [(aa pg),hv,(.map (some mb))]) (hH:Arr w hv 1 he.length (Kg aa he)) (hM:w.heap[mb]?=some (mP .i64 (Kg Gr.me gs) cn)) (hG:BsOK 199 Gr.cells Gr.b gs w) (hS:grD.list.ok w gs) (hME:MEok (Kg Gr.me gs) cn) (no: ∀g∈gs,(g.e:Int)≠env) :
  Calls Kf 149 #[(ptr c 0),(vI env)] w (fun e w'=>e=.returned (aa 0)∧Fr [] w w'):=by
 refine enter Tryz.func149 O O ?_
 have H0:=((((((aL w []).oldB hC).oldA hH).mpOld hM).bsOld hG).dpOld hS)
 refine ws<|wa O<|wn<|ws<|wm O<|wm O<|wo (az (Kd 170) O ((Bp c pg hv he mb cn gs env _ (H0.cellsAtO (i:=0) O) (H0.arrO (i:=1) O) (H0.mpO (i:=2) O) (H0.bsR (i:=3) O) (H0.dpO (i:=4) O) hME no).mono (fun e w1 hq=>?_)))
 obtain ⟨b1,rfl,hq1⟩:=hq
 refine ⟨_,rfl,?_⟩
 have H1:=H0.splice [] [] [.blk b1 [(aa 0),(.slice none 0 0),(.slice none 0 0),(.bool false),(aa 0),(aa 0)] 199] O O hq1 (am ae aI)
 refine wm O<|we O O<|we O O<|wa O<|wa O<|wn<|ap<|bn 11 Fa.M H1 (mh O<|oh (fun w1 H1=>aJ O zr)<|oh (fun w1 H1=>ab O Fa.jv zr)<|oh (fun w1 H1=>ab O Fa.im zr)<|oh (fun w1 H1=>aj O (H1.cell (i:=5) O O) A22 O zr)<|mh O<|oh (fun w1 H1=>aJ O zr)<|oh (fun w1 H1=>ab O Fa.yG zr)<|oh (fun w1 H1=>aj O (H1.cell (i:=5) O O) A22 O zr)<|oh (fun w1 H1=>gY (a:=0) (b:=0) O O zr)<|ah O  bD) (by kernel_rfl) ?_
 intro β2 w2 H2
 exact wn<|aC<|aD (.tmp O .nil) (⟨rfl,H2.fr⟩)
theorem ww (c:Nat) (pg:UInt32) (hv:Value) (he:List UInt32) (mb cn:Nat) (l1 l2:List Gr) (g:Gr) (env:Int) (T:List Nat) (w:World) (H:Ke T w w [.blk c [(aa pg),hv,(.map (some mb))] 196,Ent.ar hv 1 he.length (Kg aa he),.obj mb (mP .i64 (Kg Gr.me (l1++g::l2)) cn),Ent.bs 199 Gr.cells Gr.b (l1++g::l2),Ent.dp grD.list (l1++g::l2)]) (hME:MEok (Kg Gr.me (l1++g::l2)) cn) (hge:(g.e:Int)=env) :
  Calls Kf 105 #[(ptr c 0),(vI env)] w (fun e w'=>e=.returned (vN 0)∧Ke T w w' [.blk c [(aa pg),hv,(.map (some mb))] 196,Ent.ar hv 1 he.length (Kg aa he),.obj mb (mP .i64 (Kg Gr.me (l1++l2)) cn),Ent.bs 199 Gr.cells Gr.b (l1++l2),Ent.dp grD.list (l1++l2)]):=by
 refine enter Tryz.func105 O O<|ws<|wa O<|wn<|ap<|aB<|ws<|wm O<|wo (bG Fa.jm O O<|wa O<|wn<|bF O O<|ws<|wm O<|wo (aJ O<|wo (ab O Fa.gA<|wo (aj O (H.cell (i:=0) O O) A194 O<|wm O<|wo (fO (g:=g) (H.mp (i:=2) O) hME (by simp) hge A194 A3 O O<|wo (bG Fa.mS O O<|wa O<|wn<|bF O O<|aA<|aE<|ao<|ws<|wm O<|wo (aJ O<|wo (ab O Fa.gA<|wo (aj O (H.cell (i:=0) O O) A194 O<|wm O ?_)))))))))
 have H1:Ke T w w [.blk c [(aa pg),hv,(.map (some mb))] 196,Ent.ar hv 1 he.length (Kg aa he),.obj mb (mP .i64 (Kg Gr.me l1++Gr.me g::Kg Gr.me l2) cn),Ent.bs 199 Gr.cells Gr.b (l1++g::l2),Ent.dp grD.list (l1++g::l2)]:=by
  have h:=H
  rw [List.map_append,List.map_cons] at h
  exact h
 refine wo (DN (i:=2) (l1:=(Kg Gr.me l1)) (l2:=(Kg Gr.me l2)) H1 O A194 A3 (fun x hx hk=>by rw [List.map_append,List.map_cons] at hME; exact hME.left x hx (hk.trans hge.symm)) hge O O (fun w2 H2=>?_))
 refine wn<|ws<|wa O<|wn<|aC<|aD (.tmp O .nil) ?_
 have h:=H2
 rw [←List.map_append] at h
 have h2:=h.focus (i:=3) (l1:=l1) (l2:=l2) (a:=g) (f:=Gr.cells) (bl:=Gr.b) O
 have h3:=h2.dpLess (i:=4) (D:=grD) (l':=l1++l2) O (fun x hx=>by rcases List.mem_append.1 hx with h9 | h9<;>simp [h9])
 exact ⟨rfl,h3.sel [0,1,2,3,6] O O⟩
theorem xz (c:Nat) (pg:UInt32) (hv:Value) (he:List UInt32) (mb cn:Nat) (gs:List Gr) (env:Int) (w:World) (hC:cellsAt w c [(aa pg),hv,(.map (some mb))]) (hH:Arr w hv 1 he.length (Kg aa he)) (hM:w.heap[mb]?=some (mP .i64 (Kg Gr.me gs) cn)) (hG:BsOK 199 Gr.cells Gr.b gs w) (hS:grD.list.ok w gs) (_hME:MEok (Kg Gr.me gs) cn) (no: ∀g∈gs,(g.e:Int)≠env) :
  Calls Kf 105 #[(ptr c 0),(vI env)] w (fun e w'=>e=.returned (vN 3)∧Fr [] w w'):=by
 refine enter Tryz.func105 O O ?_
 have H0:=((((((aL w []).oldB hC).oldA hH).mpOld hM).bsOld hG).dpOld hS)
 exact ws<|wa O<|wn<|ap<|aB<|ws<|wm O<|wo (bG Fa.jm O O<|wa O<|wn<|bF O O<|ws<|wm O<|wo (aJ O<|wo (ab O Fa.gA<|wo (aj O (H0.cellO (i:=0) O O) A194 O<|wm O<|wo (gH (H0.mpO (i:=2) O) no A194 A3 Fa.yA O O<|wo (bG Fa.mS O O<|wa O<|wn<|bX O O<|ws<|wa O<|wn<|aC<|aZ<|aq<|aD (.tmp O .nil) (⟨rfl,H0.fr⟩)))))))
theorem wM (c:Nat) (pg:UInt32) (hv:Value) (he:List UInt32) (mb cn:Nat) (gs:List Gr) (env:Int) (w:World) (hC:cellsAt w c [(aa pg),hv,(.map (some mb))]) (hH:Arr w hv 1 he.length (Kg aa he)) (hM:w.heap[mb]?=some (mP .i64 (Kg Gr.me gs) cn)) (hG:BsOK 199 Gr.cells Gr.b gs w) (hS:grD.list.ok w gs) (hME:MEok (Kg Gr.me gs) cn) (no: ∀g∈gs,(g.e:Int)≠env) :
  Calls Kf 131 #[(ptr c 0),(vI env)] w (fun e w'=> ∃v1 v2,e=.returned (.tuple #[.agg #[aa 0,v1,v2,.bool false],.bool false])∧Ke [] w w' [.row v1 207 2 0 (Kh xtc []),.row v2 203 1 0 (Kg bA [])]):=by
 refine enter Tryz.func131 O O ?_
 have H0:=((((((aL w []).oldB hC).oldA hH).mpOld hM).bsOld hG).dpOld hS)
 refine ws<|wo (bt H0 Fa.I40 (fun b1 w1 H1=>(wa O<|wn<|ws<|wm O<|wm O<|wo (az (Kd 170) O ((Bp c pg hv he mb cn gs env _ (H1.cellsAtO (i:=0) O) (H1.arrO (i:=1) O) (H1.mpO (i:=2) O) (H1.bsR (i:=3) O) (H1.dpO (i:=4) O) hME no).mono (fun e w2 hq=>?_))))))
 obtain ⟨b2,rfl,hq2⟩:=hq
 refine ⟨_,rfl,?_⟩
 have H2:=H1.splice [] [] [.blk b2 [(aa 0),(.slice none 0 0),(.slice none 0 0),(.bool false),(aa 0),(aa 0)] 199] O O hq2 (am ae aI)
 refine wm O<|we O O<|we O O<|wa O<|wa O<|wn<|ws<|wm O<|wo (aJ O<|wo (ab O Fa.jv<|wo (aM (vs:=[_,_,_,_]) O (H2.cells (i:=6) O O) A40 O Fa.I40 O<|wo (bt H2 Fa.I40 (fun b3 w3 H3=>(wo (bw (i:=7) H3 O O O O O Fa.I40 (fun w4 H4=>(wn<|ap<|bn 7 Fa.M H4 (oh (fun w1 H1=>ab O Fa.da zr)<|oh (fun w1 H1=>aj O (H1.cell (i:=7) O O) A37 O zr)<|HW.flt (mk:=fun bq=>bq.2) (ent:=fun bq=>.row bq.2 207 2 [].length (Kh xtc [])) O (fun w1 H1=>az (Kd 171) O ((mN _ [] _ (Arr.nil _ _) (by simp)).mono (fun e w2 ⟨v,he,hO⟩=>⟨_,he,(0,v),rfl,hO,ae⟩)))<|oh (fun w1 H1=>ab O Fa.di zr)<|oh (fun w1 H1=>aj O (H1.cell (i:=7) O O) A38 O zr)<|HW.flt (mk:=fun bq=>bq.2) (ent:=fun bq=>.row bq.2 203 1 [].length (Kg bA [])) O (fun w1 H1=>az (Kd 172) O ((ma _ [] _ (Arr.nil _ _) (by simp)).mono (fun e w2 ⟨v,he,hO⟩=>⟨_,he,(0,v),rfl,hO,ae⟩)))<|oh (fun w1 H1=>ab O Fa.da zr)  bD) (by kernel_rfl) ?_)))))))))
 intro β7 w7 H7
 exact wo (bC (i:=7) H7 O O O O (bS (H7.arrR (i:=8) O)) Fa.I37 (fun w8 H8=>(wo (ab O Fa.di<|wo (bC (i:=7) H8 O O O O (bS (H8.arrR (i:=9) O)) Fa.I38 (fun w9 H9=>(wn<|ws<|wo (aM (vs:=[_,_,_,_]) O (H9.cells (i:=7) O O) A40 O Fa.I40 O<|wm O<|wo (bw (i:=5) H9 O O O O (bk O (bk (bS (H9.arrR (i:=8) O)) (bk (bS (H9.arrR (i:=9) O)) (bk O er)))) Fa.I40 (fun w10 H10=>(wa O<|wn<|aC<|aD (.cell O (bM (vs:=[_,_,_,_]) (H10.cells (i:=5) O O) A40 O Fa.I40 O) (.tmp O .nil)) (⟨_,_,rfl,H10.sel [8,9] O O⟩))))))))))))
theorem ux (c:Nat) (pg:UInt32) (hv:Value) (he:List UInt32) (mb cn:Nat) (gs:List Gr) (env:Int) (g:Gr) (w:World) (hC:cellsAt w c [(aa pg),hv,(.map (some mb))]) (hH:Arr w hv 1 he.length (Kg aa he)) (hM:w.heap[mb]?=some (mP .i64 (Kg Gr.me gs) cn)) (hG:BsOK 199 Gr.cells Gr.b gs w) (hS:grD.list.ok w gs) (hME:MEok (Kg Gr.me gs) cn) (hg:g∈gs) (hge:(g.e:Int)=env) (hgp:g.ps.length<2^40) (hgx:g.xs.length<2^40) :
  Calls Kf 131 #[(ptr c 0),(vI env)] w (fun e w'=> ∃v1 v2,e=.returned (.tuple #[.agg #[aa g.pg,v1,v2,.bool g.con],.bool true])∧Ke [] w w' [.row v1 207 2 g.xs.length (Kh xtc g.xs),.row v2 203 1 g.ps.length (Kg bA g.ps)]):=by
 refine enter Tryz.func131 O O ?_
 have H0:=((((((aL w []).oldB hC).oldA hH).mpOld hM).bsOld hG).dpOld hS)
 refine ws<|wo (bt H0 Fa.I40 (fun b1 w1 H1=>(wa O<|wn<|ws<|wm O<|wm O ?_)))
 have H2:=(((H1.bsView (i:=3) (a:=g) O hg).dpView (i:=4) (a:=g) O hg (fun w h=>h.1) (fun b hb=>List.mem_append.2 (.inl hb))).dpView (i:=4) (a:=g) O hg (fun w h=>h.2) (fun b hb=>List.mem_append.2 (.inr hb)))
 refine wo (cq H2 (Kd 170) O (vj c pg hv he mb cn gs env g _ (H2.cellsAtO (i:=0) O) (H2.arrO (i:=1) O) (H2.mpO (i:=2) O) (H2.bsR (i:=3) O) (H2.dpO (i:=4) O) hME hg hge) fun w3 H3=>(wm O<|we O O<|we O O<|wa O<|wa O<|wn<|ws<|wm O<|wo (aJ O<|wo (ab O Fa.jv<|wo (aM (vs:=[_,_,_,_]) O (H3.cellsO (i:=6) O O) A40 O Fa.I40 O<|wo (bt H3 Fa.I40 (fun b4 w4 H4=>(wo (bw (i:=9) H4 O O O O (bk O (bk (bS (H4.arrO (i:=7) O)) (bk (bS (H4.arrO (i:=8) O)) (bk O er)))) Fa.I40 (fun w5 H5=>(wn<|ap<|bn 7 Fa.M H5 (oh (fun w1 H1=>ab O Fa.da zr)<|oh (fun w1 H1=>aj O (H1.cell (i:=9) O O) A37 O zr)<|HW.flt (mk:=fun bq=>bq.2) (ent:=fun bq=>.row bq.2 207 2 g.xs.length (Kh xtc g.xs)) O (fun w1 H1=>az (Kd 171) O ((mN _ g.xs _ (H1.arrO (i:=7) O) (by omega)).mono (fun e w2 ⟨v,he,hO⟩=>⟨_,he,(0,v),rfl,hO,ae⟩)))<|oh (fun w1 H1=>ab O Fa.di zr)<|oh (fun w1 H1=>aj O (H1.cell (i:=9) O O) A38 O zr)<|HW.flt (mk:=fun bq=>bq.2) (ent:=fun bq=>.row bq.2 203 1 g.ps.length (Kg bA g.ps)) O (fun w1 H1=>az (Kd 172) O ((ma _ g.ps _ (H1.arrO (i:=8) O) (by omega)).mono (fun e w2 ⟨v,he,hO⟩=>⟨_,he,(0,v),rfl,hO,ae⟩)))<|oh (fun w1 H1=>ab O Fa.da zr)  bD) (by kernel_rfl) ?_)))))))))))
 intro β8 w8 H8
 exact wo (bC (i:=9) H8 O O O O (bS (H8.arrR (i:=10) O)) Fa.I37 (fun w9 H9=>(wo (ab O Fa.di<|wo (bC (i:=9) H9 O O O O (bS (H9.arrR (i:=11) O)) Fa.I38 (fun w10 H10=>(wn<|ws<|wo (aM (vs:=[_,_,_,_]) O (H10.cells (i:=9) O O) A40 O Fa.I40 O<|wm O<|wo (bw (i:=5) H10 O O O O (bk O (bk (bS (H10.arrR (i:=10) O)) (bk (bS (H10.arrR (i:=11) O)) (bk O er)))) Fa.I40 (fun w11 H11=>(wa O<|wn<|aC<|aD (.cell O (bM (vs:=[_,_,_,_]) (H11.cells (i:=5) O O) A40 O Fa.I40 O) (.tmp O .nil)) (⟨_,_,rfl,H11.sel [10,11] O O⟩))))))))))))
theorem yi (c:Nat) (pg:UInt32) (hv:Value) (he:List UInt32) (mb cn:Nat) (gs:List Gr) (env:Int) (mp:UInt32) (ev pv:Value) (xs:List Xt) (ps:List UInt16) (con:Bool) (pages:UInt32) (w:World) (hC:cellsAt w c [(aa pg),hv,(.map (some mb))]) (hH:Arr w hv 1 he.length (Kg aa he)) (hM:w.heap[mb]?=some (mP .i64 (Kg Gr.me gs) cn)) (hG:BsOK 199 Gr.cells Gr.b gs w) (hS:grD.list.ok w gs) (_hE:Arr w ev 2 xs.length (Kh xtc xs)) (_hP:Arr w pv 1 ps.length (Kg bA ps)) (_hn:xs.length<2^40) (_hm:ps.length<2^40) (hb:env<1∨env>8) :
  Calls Kf 132 #[(ptr c 0),(vI env),(.agg #[(aa mp),ev,pv,(.bool con)]),(aa pages)] w (fun e w'=>e=.returned (vN 2)∧Fr [] w w'):=by
 refine enter Tryz.func132 O O ?_
 have H0:=((((((aL w []).oldB hC).oldA hH).mpOld hM).bsOld hG).dpOld hS)
 refine ws<|wo (bK H0 O O (fun b1 w1 H1=>(wo (bK H1 O O (fun b2 w2 H2=>(wa O<|wn<|ap<|aB<|ws<|wm O<|wo (bG Fa.jm O O<|wa O<|wn<|bF O O<|ws<|wm O<|wo (eR (b:=(1:Int)) O O<|wm O (wF 17 (env<(1:Int)) (fun hb3 hc3=>?_) (fun hb3 hc3=>?_))))))))))
 ·
  exact wN hb3<|wN hb3<|wo (aQ O hb3 O<|wm O<|wN O<|wN O<|wN O<|wo (aQ O O O<|wm O<|wN O<|wN O<|wo (aQ O O O<|wa O<|wn<|bX O O<|ws<|wa O<|wn<|aC<|aZ<|aq<|aD (.tmp O .nil) (⟨rfl,H2.fr⟩))))
 exact wY hb3 (au O<|wY hb3 (iY (b:=(8:Int)) O O<|wo (aN O hb3 O<|wm O<|WL.no O O O (decide_eq_true (by omega)) O<|WL.no O O O (decide_eq_true (by omega)) O<|WL.no O O O (decide_eq_true (by omega)) O<|wo (aQ O (decide_eq_true (by omega)) O<|wm O<|wN O<|wN O<|wo (aQ O O O<|wa O<|wn<|bX O O<|ws<|wa O<|wn<|aC<|aZ<|aq<|aD (.tmp O .nil) (⟨rfl,H2.fr⟩))))))
theorem yg (c:Nat) (pg:UInt32) (hv:Value) (he:List UInt32) (mb cn:Nat) (gs:List Gr) (env:Int) (mp:UInt32) (ev pv:Value) (xs:List Xt) (ps:List UInt16) (con:Bool) (pages:UInt32) (w:World) (hC:cellsAt w c [(aa pg),hv,(.map (some mb))]) (hH:Arr w hv 1 he.length (Kg aa he)) (hM:w.heap[mb]?=some (mP .i64 (Kg Gr.me gs) cn)) (hG:BsOK 199 Gr.cells Gr.b gs w) (hS:grD.list.ok w gs) (hE:Arr w ev 2 xs.length (Kh xtc xs)) (hP:Arr w pv 1 ps.length (Kg bA ps)) (hn:xs.length<2^40) (hm:ps.length<2^40) (h1:1≤env) (h8:env≤8) (hmf:mfE mp xs ps≠0) :
  Calls Kf 132 #[(ptr c 0),(vI env),(.agg #[(aa mp),ev,pv,(.bool con)]),(aa pages)] w (fun e w'=>e=.returned (vN 2)∧Fr [] w w'):=by
 refine enter Tryz.func132 O O ?_
 have H0:=((((((aL w []).oldB hC).oldA hH).mpOld hM).bsOld hG).dpOld hS)
 exact ws<|wo (bK H0 O O (fun b1 w1 H1=>(wo (bK H1 O O (fun b2 w2 H2=>(wa O<|wn<|ap<|aB<|ws<|wm O<|wo (bG Fa.jm O O<|wa O<|wn<|bF O O<|ws<|wm O<|wo (eR (b:=(1:Int)) O O<|wm O<|bL O O O (decide_eq_false (by omega)) O (au O<|bL O O O (decide_eq_false (by omega)) O (iY (b:=(8:Int)) O O<|wo (aN O (decide_eq_false (by omega)) O<|wm O<|bL O O O (decide_eq_false (by omega)) O (aM (vs:=[_,_,_,_]) O (H2.cells (i:=5) O O) A40 O Fa.I40 O<|bL O O O (decide_eq_false (by omega)) O (cq H2 (Kd 90) O (ii mp _ _ xs ps con _ (H2.arr hE) (H2.arr hP) (by omega) (by omega)) fun w3 H3=>(bL O O O (decide_eq_false (by omega)) O (bI (b:=0) O O<|wo (aN O (decide_eq_false (by omega)) O<|wm O<|WL.no O O O (decide_eq_true hmf) O<|WL.no O O O (decide_eq_true hmf) O<|wo (aQ O (decide_eq_true hmf) O<|wa O<|wn<|bX O O<|ws<|wa O<|wn<|aC<|aZ<|aq<|aD (.tmp O .nil) (⟨rfl,H3.fr⟩))))))))))))))))))
theorem yf (c:Nat) (pg:UInt32) (hv:Value) (he:List UInt32) (mb cn:Nat) (gs:List Gr) (env:Int) (mp:UInt32) (ev pv:Value) (xs:List Xt) (ps:List UInt16) (con:Bool) (pages:UInt32) (w:World) (hC:cellsAt w c [(aa pg),hv,(.map (some mb))]) (hH:Arr w hv 1 he.length (Kg aa he)) (hM:w.heap[mb]?=some (mP .i64 (Kg Gr.me gs) cn)) (hG:BsOK 199 Gr.cells Gr.b gs w) (hS:grD.list.ok w gs) (hE:Arr w ev 2 xs.length (Kh xtc xs)) (hP:Arr w pv 1 ps.length (Kg bA ps)) (hn:xs.length<2^40) (hm:ps.length<2^40) (h1:1≤env) (h8:env≤8) (hmf:mfE mp xs ps=0) (hpg:pages>4096) :
  Calls Kf 132 #[(ptr c 0),(vI env),(.agg #[(aa mp),ev,pv,(.bool con)]),(aa pages)] w (fun e w'=>e=.returned (vN 2)∧Fr [] w w'):=by
 refine enter Tryz.func132 O O ?_
 have H0:=((((((aL w []).oldB hC).oldA hH).mpOld hM).bsOld hG).dpOld hS)
 exact ws<|wo (bK H0 O O (fun b1 w1 H1=>(wo (bK H1 O O (fun b2 w2 H2=>(wa O<|wn<|ap<|aB<|ws<|wm O<|wo (bG Fa.jm O O<|wa O<|wn<|bF O O<|ws<|wm O<|wo (eR (b:=(1:Int)) O O<|wm O<|bL O O O (decide_eq_false (by omega)) O (au O<|bL O O O (decide_eq_false (by omega)) O (iY (b:=(8:Int)) O O<|wo (aN O (decide_eq_false (by omega)) O<|wm O<|bL O O O (decide_eq_false (by omega)) O (aM (vs:=[_,_,_,_]) O (H2.cells (i:=5) O O) A40 O Fa.I40 O<|bL O O O (decide_eq_false (by omega)) O (cq H2 (Kd 90) O (ii mp _ _ xs ps con _ (H2.arr hE) (H2.arr hP) (by omega) (by omega)) fun w3 H3=>(bL O O O (decide_eq_false (by omega)) O (bI (b:=0) O O<|wo (aN O (decide_eq_false (by omega)) O<|wm O<|bL O O O (decide_eq_false (fun h=>h hmf)) O (aj O (H3.cell (i:=6) O O) A22 O<|bL O O O (decide_eq_false (fun h=>h hmf)) O (cI (b:=4096) O O<|wo (aN O (decide_eq_false (fun h=>h hmf)) O<|wa O<|wn<|bX O (decide_eq_true hpg)<|ws<|wa O<|wn<|aC<|aZ<|aq<|aD (.tmp O .nil) (⟨rfl,H3.fr⟩))))))))))))))))))))
theorem wX (pg:UInt32) (lv:Value) (he:List UInt32) (w:World) (hA:Arr w lv 1 he.length (Kg aa he)) (hn:he.length<2^40) (hok0:gx pg he=0) :
  Calls Kf 126 #[.agg #[aa pg,lv]] w (fun e w'=> ∃c v mb,e=.returned (.tuple #[ptr c 0,vN 0])∧(∀b∈eO v (Kg aa he),w.heap.size≤b)∧Ke [] w w' [.blk c [(aa pg),v,(.map (some mb))] 196,Ent.ar v 1 he.length (Kg aa he),.obj mb (mP .i64 (Kg Gr.me []) 0),Ent.bs 199 Gr.cells Gr.b [],Ent.dp grD.list []]) :=
 (yv pg lv he w hA hn hok0).mono (fun _e _w' ⟨c,v,mb,h1,h⟩=>⟨c,v,mb,h1,h.rowFresh (i:=1) O,((h.freeze (i:=1) O).bsNil 199 Gr.cells Gr.b).dpNil grD⟩)
theorem vL (c:Nat) (pg:UInt32) (hv:Value) (he:List UInt32) (mb cn:Nat) (gs:List Gr) (en:Int) (mp:UInt32) (ev pv:Value) (xs:List Xt) (ps:List UInt16) (con:Bool) (pages:UInt32) (l:List Gr) (T:List Nat) (w:World) (H:Ke T w w [.blk c [(aa pg),hv,(.map (some mb))] 196,Ent.ar hv 1 he.length (Kg aa he),.obj mb (mP .i64 (Kg Gr.me gs) cn),Ent.bs 199 Gr.cells Gr.b gs,Ent.dp grD.list gs,Ent.ar ev 2 xs.length (Kh xtc xs),Ent.ar pv 1 ps.length (Kg bA ps)]) (hR:CapR gs cn l) (hT: ∀b∈T,b=c∨b=mb∨b∈Kg Gr.b gs) (hn:xs.length<2^40) (hm:ps.length<2^40) (hhe:he.length<2^32) :
    Calls Kf 132 #[ptr c 0,vI en,.agg #[aa mp,ev,pv,.bool con],aa pages] w (fun e w'=> ∃cn' gs',e=.returned (vN (dt pg he l en mp xs ps pages))∧CapR gs' cn' (dQ pg he l en mp xs ps con pages)∧DpTo w gs gs'∧Ke T w w' [.blk c [(aa pg),hv,(.map (some mb))] 196,Ent.ar hv 1 he.length (Kg aa he),.obj mb (mP .i64 (Kg Gr.me gs') cn'),Ent.bs 199 Gr.cells Gr.b gs',Ent.dp grD.list gs',Ent.ar ev 2 xs.length (Kh xtc xs),Ent.ar pv 1 ps.length (Kg bA ps)]):=by
  obtain ⟨hI,rfl⟩:=hR
  rw [kN]
  have no: ∀n,n≠0→dt pg he gs en mp xs ps pages=n→CapR gs cn (dQ pg he (gs.map Gr.bare) en mp xs ps con pages):=fun n h0 h=>⟨hI,by rw [dQ,kN,h,if_neg h0]⟩
  by_cases h1:en<1∨en>8
  · have e0:dt pg he gs en mp xs ps pages=2:=if_pos (.inl h1)
    exact (yi c pg hv he mb cn gs en mp ev pv xs ps con pages w (H.cellsAt (i:=0) O) (H.arrO (i:=1) O) (H.mp (i:=2) O) (H.bsG (i:=3) O) (H.dpO (i:=4) O) (H.arrO (i:=5) O) (H.arrO (i:=6) O) hn hm h1).mono (fun e w' ⟨he1,hf⟩=>⟨cn,gs,by rw [e0]; exact he1,no 2 (by decide) e0,DpTo.sub (fun _ h=>h),H.fr' hf⟩)
  by_cases h2:mfE mp xs ps≠0
  · have e0:dt pg he gs en mp xs ps pages=2:=if_pos (.inr (.inl h2))
    exact (yg c pg hv he mb cn gs en mp ev pv xs ps con pages w (H.cellsAt (i:=0) O) (H.arrO (i:=1) O) (H.mp (i:=2) O) (H.bsG (i:=3) O) (H.dpO (i:=4) O) (H.arrO (i:=5) O) (H.arrO (i:=6) O) hn hm (by omega) (by omega) h2).mono (fun e w' ⟨he1,hf⟩=>⟨cn,gs,by rw [e0]; exact he1,no 2 (by decide) e0,DpTo.sub (fun _ h=>h),H.fr' hf⟩)
  by_cases h3:pages>4096
  · have e0:dt pg he gs en mp xs ps pages=2:=if_pos (.inr (.inr h3))
    exact (yf c pg hv he mb cn gs en mp ev pv xs ps con pages w (H.cellsAt (i:=0) O) (H.arrO (i:=1) O) (H.mp (i:=2) O) (H.bsG (i:=3) O) (H.dpO (i:=4) O) (H.arrO (i:=5) O) (H.arrO (i:=6) O) hn hm (by omega) (by omega) (Classical.not_not.1 h2) h3).mono (fun e w' ⟨he1,hf⟩=>⟨cn,gs,by rw [e0]; exact he1,no 2 (by decide) e0,DpTo.sub (fun _ h=>h),H.fr' hf⟩)
  have e1:dt pg he gs en mp xs ps pages=if ei gs en=true then 9 else iE pg he gs mp xs ps pages:=if_neg (fun h=>h.elim h1 (fun h=>h.elim h2 h3))
  obtain ⟨n,rfl⟩: ∃n:Nat,en=n:=⟨en.toNat,by omega⟩
  cases h4:ei gs n with
  | true =>
    obtain ⟨hg,hge⟩:=nC h4
    have e0:=e1.trans (if_pos h4)
    exact (ye c pg hv he mb cn gs n mp ev pv xs ps con pages (obs gs n) T w H hI.me (by omega) (by omega) hn hm hhe hI.fit (Classical.not_not.1 h2) h3 hg hge).mono (fun e w' ⟨he1,h⟩=>⟨cn,gs,by rw [e0]; exact he1,no 9 (by decide) e0,DpTo.sub (fun _ h=>h),h⟩)
  | false =>
    have e0:=e1.trans (if_neg (by rw [h4]; decide))
    by_cases h5:iE pg he gs mp xs ps pages=0
    · rw [h5] at e0
      exact (zW c pg hv he mb cn gs n mp ev pv xs ps con pages T w H hI.me (by omega) (by omega) hn hm hhe hI.fit (Classical.not_not.1 h2) h3 (iz h4) h5 hT).mono (fun e w' ⟨b,v1,v2,he1,hz,h⟩=>⟨cn+1,_,by rw [e0]; exact he1,⟨hI.add (fun g hg he=>iz h4 g hg (by rw [he])) hn hm,by rw [dQ,kN,e0,if_pos O,List.map_append]; rfl⟩,DpTo.add hz,h⟩)
    · exact (BL c pg hv he mb cn gs n mp ev pv xs ps con pages T w H hI.me (by omega) (by omega) hn hm hhe hI.fit (Classical.not_not.1 h2) h3 (iz h4) h5).mono (fun e w' ⟨he1,h⟩=>⟨cn,gs,by rw [e0]; exact he1,no _ h5 e0,DpTo.sub (fun _ h=>h),h⟩)
theorem EW (c:Nat) (pg:UInt32) (hv:Value) (he:List UInt32) (mb cn:Nat) (gs:List Gr) (en:Int) (l:List Gr) (T:List Nat) (w:World) (H:Ke T w w [.blk c [(aa pg),hv,(.map (some mb))] 196,Ent.ar hv 1 he.length (Kg aa he),.obj mb (mP .i64 (Kg Gr.me gs) cn),Ent.bs 199 Gr.cells Gr.b gs,Ent.dp grD.list gs]) (hR:CapR gs cn l) :
  Calls Kf 105 #[ptr c 0,vI en] w (fun e w'=> ∃gs',e=.returned (vN (qU l en))∧CapR gs' cn (ly l en)∧DpTo w gs gs'∧Ke T w w' [.blk c [(aa pg),hv,(.map (some mb))] 196,Ent.ar hv 1 he.length (Kg aa he),.obj mb (mP .i64 (Kg Gr.me gs') cn),Ent.bs 199 Gr.cells Gr.b gs',Ent.dp grD.list gs']):=by
 obtain ⟨hI,rfl⟩:=hR
 have e0:qU (gs.map Gr.bare) en=qU gs en:=by rw [qU,qU,mK]
 rw [e0]
 cases h:ei gs en with
 | false=>exact (xz c pg hv he mb cn gs en w (H.cellsAt (i:=0) O) (H.arrO (i:=1) O) (H.mp (i:=2) O) (H.bsG (i:=3) O) (H.dpO (i:=4) O) hI.me (iz h)).mono (fun e w' ⟨he1,hf⟩=>⟨gs,by rw [qU,h]; exact he1,⟨hI,by rw [qT,Dv h]⟩,DpTo.sub (fun _ h=>h),H.fr' hf⟩)
 | true =>
  obtain ⟨hg,hge⟩:=nC h
  generalize obs gs en=g at hg hge
  obtain ⟨l1,l2,rfl⟩:=List.append_of_mem hg
  exact (ww c pg hv he mb cn l1 l2 g en T w H hI.me hge).mono (fun e w' ⟨he1,h2⟩=>⟨l1++l2,by rw [qU,h]; exact he1,⟨hI.del,by rw [qT,hI.rel hge]⟩,DpTo.sub (fun x hx=>by rcases List.mem_append.1 hx with hx | hx<;>simp [hx]),h2⟩)
theorem Ei (c:Nat) (pg:UInt32) (hv:Value) (he:List UInt32) (mb cn:Nat) (gs:List Gr) (env:Int) (l:List Gr) (w:World) (hC:cellsAt w c [(aa pg),hv,(.map (some mb))]) (hH:Arr w hv 1 he.length (Kg aa he)) (hM:w.heap[mb]?=some (mP .i64 (Kg Gr.me gs) cn)) (hG:BsOK 199 Gr.cells Gr.b gs w) (hS:grD.list.ok w gs) (hR:CapR gs cn l) :
  Calls Kf 149 #[ptr c 0,vI env] w (fun e w'=>e=.returned (aa ((obs l env).pg-(obs l env).tk))∧Fr [] w w'):=by
 rw [hR.obs]
 cases h:ei gs env with
 | false=>rw [xL h]; exact Ej c pg hv he mb cn gs env w hC hH hM hG hS hR.1.me (iz h)
 | true =>
  obtain ⟨hg,hge⟩:=nC h
  exact zR c pg hv he mb cn gs env (obs gs env) w hC hH hM hG hS hR.1.me hg hge (hR.1.fit _ hg).1 (hR.1.fit _ hg).2
theorem wL (c:Nat) (pg:UInt32) (hv:Value) (he:List UInt32) (mb cn:Nat) (gs:List Gr) (env:Int) (l:List Gr) (w:World) (hC:cellsAt w c [(aa pg),hv,(.map (some mb))]) (hH:Arr w hv 1 he.length (Kg aa he)) (hM:w.heap[mb]?=some (mP .i64 (Kg Gr.me gs) cn)) (hG:BsOK 199 Gr.cells Gr.b gs w) (hS:grD.list.ok w gs) (hR:CapR gs cn l) :
  Calls Kf 131 #[ptr c 0,vI env] w (fun e w'=> ∃v1 v2,e=.returned (.tuple #[.agg #[aa (obs l env).pg,v1,v2,.bool (obs l env).con],.bool (ei l env)])∧Ke [] w w' [.row v1 207 2 (obs l env).xs.length (Kh xtc (obs l env).xs),.row v2 203 1 (obs l env).ps.length (Kg bA (obs l env).ps)]):=by
 rw [hR.obs,←hR.has]
 cases h:ei gs env with
 | false=>rw [xL h]; exact wM c pg hv he mb cn gs env w hC hH hM hG hS hR.1.me (iz h)
 | true =>
  obtain ⟨hg,hge⟩:=nC h
  exact ux c pg hv he mb cn gs env (obs gs env) w hC hH hM hG hS hR.1.me hg hge (hR.1.fit _ hg).1 (hR.1.fit _ hg).2
theorem BV (c:Nat) (pg:UInt32) (hv:Value) (he:List UInt32) (mb cn:Nat) (gs:List Gr) (l:List Gr) (w:World) (hC:cellsAt w c [(aa pg),hv,(.map (some mb))]) (hH:Arr w hv 1 he.length (Kg aa he)) (hM:w.heap[mb]?=some (mP .i64 (Kg Gr.me gs) cn)) (hG:BsOK 199 Gr.cells Gr.b gs w) (hS:grD.list.ok w gs) (hR:CapR gs cn l) :
  Calls Kf 60 #[ptr c 0] w (fun e w'=>e=.returned (aa (cg pg l))∧Fr [] w w'):=by
 rw [←hR.free]
 exact nH c pg hv he mb cn gs w hC hH hM hG hS hR.1.me
theorem sB (v:Value) (m:Nat) (l:List UInt8) (w:World) (hA:Arr w v 1 m (l.map vU8)) :
  Calls Kf 187 #[v] w (fun e w'=>e=.returned (str l)∧Fr [] w w'):=by
 refine enter Tryz.func187 O O ?_
 have H0:=aL w []
 exact ws<|wa O<|wn<|ws<|wm O<|wo (cD (l:=l) A114 A5 A9 O (H0.arr hA) O<|wa O<|wn<|aC<|aD (.tmp O .nil) (⟨rfl,H0.fr⟩))
theorem Dy (s:List UInt8) (w:World) :
  Calls Kf 107 #[(str s)] w (fun e w'=>e=.returned (.tuple #[aa (kw s),vN (pN s)])∧Fr [] w w'):=by
 refine enter Tryz.func107 O O ?_
 have H0:=aL w []
 refine ws<|wa O<|wa O<|wn<|ap<|ws<|wm O<|wo (bH A9 O<|wo (bm (b:=1) O O<|wm O (wF 8 (s.length<1) (fun hb1 hc1=>?_) (fun hb1 hc1=>?_))))
 ·
  exact wN hb1<|wN hb1<|wN hb1<|wo (aQ O hb1 O<|wn<|bX O O<|ws<|wa O<|wa O<|wn<|aC<|aq<|aD (.tmp O (.tmp O .nil)) (⟨by first | (have hk:k=s.length:=(by omega); subst hk; rw [kw,pN,if_neg (by omega),if_neg (by omega)]; rfl) | (rw [kw,pN,if_pos (by omega),if_pos (by omega)]; rfl),H0.fr⟩))
 refine wY hb1 (au O<|wY hb1 (bH A9 O<|wY hb1 (cm (b:=4) O O<|wo (aN O hb1 O<|wn (wE (s.length>4) (fun hb2 hc2=>?_) (fun hb2 hc2=>?_))))))
 ·
  exact ws<|wa O<|wa O<|wn<|aC<|aq<|aD (.tmp O (.tmp O .nil)) (⟨by first | (have hk:k=s.length:=(by omega); subst hk; rw [kw,pN,if_neg (by omega),if_neg (by omega)]; rfl) | (rw [kw,pN,if_pos (by omega),if_pos (by omega)]; rfl),H0.fr⟩)
 refine aA<|ao<|ap<|ws<|wm O<|wo (bH A9 O<|wm O<|wn<|aB<|bi (α:=Nat) (fun k=>[(0,(str s)),(3,(vN 0)),(14,(vN s.length)),(15,(vN k)),(2,(aa (mM s k)))]) (fun k w'=>(k≤s.length)∧Ke [] w w' []) (fun k=>s.length-k) 0 ⟨(by omega),H0⟩ ⟨rfl,rfl,rfl,rfl,rfl,trivial⟩ ?_)
 rintro k w3 ⟨hinv,H3⟩
 show WC _ _ _ _ _ [(0,(str s)),(3,(vN 0)),(14,(vN s.length)),(15,(vN k)),(2,(aa (mM s k)))] _
 refine ws<|wo (bm O O<|wn<|ap (wE (k<s.length) (fun hb4 hc4=>?_) (fun hb4 hc4=>?_)))
 ·
  exact aA<|ao<|ap<|aB<|ws<|wm O<|wa O<|wn<|aG<|wm O<|wm O<|wm O<|wo (cl A9 O O (by omega)<|wo (dm (hs:=A5) (hd:=A22) O<|wm O<|wo (fd (a:=8) O O (by omega)<|wo (fj O O<|wo (fQ O O<|wa O<|aY<|aE<|ao<|aG<|wo (aU (b:=1) O O (by omega)<|wm O<|aY<|aX (k+1) ⟨(by omega),H3⟩ ⟨rfl,rfl,rfl,rfl,rfl,trivial⟩ (by omega)))))))
 exact bc<|an<|an<|aS<|ao<|ws<|wm O<|wa O<|wa O<|wn<|aC<|aD (.tmp O (.tmp O .nil)) (⟨by first | (have hk:k=s.length:=(by omega); subst hk; rw [kw,pN,if_neg (by omega),if_neg (by omega)]; rfl) | (rw [kw,pN,if_pos (by omega),if_pos (by omega)]; rfl),H3.fr⟩)
theorem xD (v:UInt32) (n:Int) (w:World) :
  Calls Kf 151 #[(aa v),(vI n)] w (fun e w'=>e=.returned (.tuple #[str (bR v n),vN (ko v n)])∧Fr [] w w'):=by
 refine enter Tryz.func151 O O ?_
 have H0:=aL w []
 refine ws<|wa O<|wa O<|wn<|ap<|aB<|ws<|wm O<|wo (eR (b:=(1:Int)) O O<|wm O (wF 9 (n<(1:Int)) (fun hb1 hc1=>?_) (fun hb1 hc1=>?_)))
 ·
  refine wN hb1<|wN hb1<|wo (aQ O hb1 O<|wa O<|wn<|bX O O<|ws<|wa O<|wa O<|wn<|aC<|aZ<|aq<|aD (.tmp O (.tmp O .nil)) ?_)
  rw [bR,ko,if_pos (show n<1∨n>4 from by omega),if_neg (by decide)]
  exact ⟨rfl,H0.fr⟩
 refine wY hb1 (au O<|wY hb1 (iY (b:=(4:Int)) O O<|wo (aN O hb1 O<|wa O<|wn (wE (n>(4:Int)) (fun hb2 hc2=>?_) (fun hb2 hc2=>?_)))))
 ·
  refine ws<|wa O<|wa O<|wn<|aC<|aZ<|aq<|aD (.tmp O (.tmp O .nil)) ?_
  rw [bR,ko,if_pos (show n<1∨n>4 from by omega),if_neg (by decide)]
  exact ⟨rfl,H0.fr⟩
 obtain ⟨m,rfl⟩: ∃m:Nat,n=(m:Int):=⟨n.toNat,by omega⟩
 refine ws<|wm O<|wo (bm (b:=4) O O<|wm O (wF 16 (m<4) (fun hb3 hc3=>?_) (fun hb3 hc3=>?_)))
 ·
  refine wY hb3 (au O<|wY hb3 (au O<|wY hb3 (fd (a:=8) O O (by omega)<|wY hb3 (cP O O<|wY hb3 (eG (b:=0) O O<|wo (aQ O hb3 O<|wa O<|wn (wE ((cF v (8 * m))≠(0:UInt32)) (fun hb4 hc4=>?_) (fun hb4 hc4=>?_))))))))
  ·
   refine ws<|wa O<|wa O<|wn<|aC<|aZ<|aq<|aD (.tmp O (.tmp O .nil)) ?_
   rw [bR,ko,if_neg (show ¬((m:Int)<1∨(m:Int)>4) from by omega),Int.toNat_natCast,if_pos (show rV v m≠0 from by rw [←sx]; exact hc4),if_neg (by decide)]
   exact ⟨rfl,H0.fr⟩
  refine aA<|aE<|ao<|ws<|wm O<|wo (co (hs:=A22) (hd:=A5) O<|wm O<|wo (cP (s:=8) O O<|wo (co (hs:=A22) (hd:=A5) O<|wm O<|wo (cP (s:=16) O O<|wo (co (hs:=A22) (hd:=A5) O<|wm O<|wo (cP (s:=24) O O<|wo (co (hs:=A22) (hd:=A5) O<|wo (aW (cs:=[_,_,_,_]) H0 A114 Fa.I5 O O O O (by decide) (by decide) (fun b5 w5 H5=>(wm O<|wo (hU A114 Fa.I5 O (H5.arrR (i:=0) O) O (by omega)<|wo (cq H5 (Kd 187) O (sB _ _ (([(UInt8.ofNat v.toNat),(UInt8.ofNat (cF v 8).toNat),(UInt8.ofNat (cF v 16).toNat),(UInt8.ofNat (cF v 24).toNat)].take m)) _ (((H5.arrR (i:=0) O)).cutHiM (f:=vU8) (l:=[(UInt8.ofNat v.toNat),(UInt8.ofNat (cF v 8).toNat),(UInt8.ofNat (cF v 16).toNat),(UInt8.ofNat (cF v 24).toNat)]) (b:=m) (by omega))) fun w6 H6=>(wa O<|wa O<|wn<|aC<|aD (.tmp O (.tmp O .nil)) ?_)))))))))))))
  rw [bR,ko,if_neg (show ¬((m:Int)<1∨(m:Int)>4) from by omega),Int.toNat_natCast,if_neg (show ¬(rV v m≠0) from fun h=>h (by rw [←sx]; exact Decidable.not_not.mp hc4)),if_pos O,←uS v (by omega)]
  exact ⟨rfl,H6.fr⟩
 refine wN hb3<|wN hb3<|wN hb3<|wN hb3<|wN hb3<|wo (aN O hb3 O<|wa O<|wn<|bF O O<|aA<|aE<|ao<|ws<|wm O<|wo (co (hs:=A22) (hd:=A5) O<|wm O<|wo (cP (s:=8) O O<|wo (co (hs:=A22) (hd:=A5) O<|wm O<|wo (cP (s:=16) O O<|wo (co (hs:=A22) (hd:=A5) O<|wm O<|wo (cP (s:=24) O O<|wo (co (hs:=A22) (hd:=A5) O<|wo (aW (cs:=[_,_,_,_]) H0 A114 Fa.I5 O O O O (by decide) (by decide) (fun b7 w7 H7=>(wm O<|wo (hU A114 Fa.I5 O (H7.arrR (i:=0) O) O (by omega)<|wo (cq H7 (Kd 187) O (sB _ _ (([(UInt8.ofNat v.toNat),(UInt8.ofNat (cF v 8).toNat),(UInt8.ofNat (cF v 16).toNat),(UInt8.ofNat (cF v 24).toNat)].take m)) _ (((H7.arrR (i:=0) O)).cutHiM (f:=vU8) (l:=[(UInt8.ofNat v.toNat),(UInt8.ofNat (cF v 8).toNat),(UInt8.ofNat (cF v 16).toNat),(UInt8.ofNat (cF v 24).toNat)]) (b:=m) (by omega))) fun w8 H8=>(wa O<|wa O<|wn<|aC<|aD (.tmp O (.tmp O .nil)) ?_))))))))))))))
 rw [bR,ko,if_neg (show ¬((m:Int)<1∨(m:Int)>4) from by omega),Int.toNat_natCast,if_neg (show ¬(rV v m≠0) from fun h=>h (by rw [show m=4 from by omega]; exact Fw v)),if_pos O,←uS v (by omega)]
 exact ⟨rfl,H8.fr⟩
theorem FK (v:UInt32) (n:Int) (w:World) :
  Calls Kf 196 #[(aa v),(vI n)] w (fun e w'=>e=.returned (.tuple #[str (bR v n),vN (ko v n)])∧Fr [] w w'):=by
 refine enter Tryz.func196 O O ?_
 have H0:=aL w []
 refine ws<|wa O<|wa O<|wn<|ap<|aB<|ws<|wm O<|wo (eR (b:=(1:Int)) O O<|wm O (wF 9 (n<(1:Int)) (fun hb1 hc1=>?_) (fun hb1 hc1=>?_)))
 ·
  refine wN hb1<|wN hb1<|wo (aQ O hb1 O<|wa O<|wn<|bX O O<|ws<|wa O<|wa O<|wn<|aC<|aZ<|aq<|aD (.tmp O (.tmp O .nil)) ?_)
  rw [bR,ko,if_pos (show n<1∨n>4 from by omega),if_neg (by decide)]
  exact ⟨rfl,H0.fr⟩
 refine wY hb1 (au O<|wY hb1 (iY (b:=(4:Int)) O O<|wo (aN O hb1 O<|wa O<|wn (wE (n>(4:Int)) (fun hb2 hc2=>?_) (fun hb2 hc2=>?_)))))
 ·
  refine ws<|wa O<|wa O<|wn<|aC<|aZ<|aq<|aD (.tmp O (.tmp O .nil)) ?_
  rw [bR,ko,if_pos (show n<1∨n>4 from by omega),if_neg (by decide)]
  exact ⟨rfl,H0.fr⟩
 obtain ⟨m,rfl⟩: ∃m:Nat,n=(m:Int):=⟨n.toNat,by omega⟩
 refine ws<|wm O<|wo (bm (b:=4) O O<|wm O (wF 16 (m<4) (fun hb3 hc3=>?_) (fun hb3 hc3=>?_)))
 ·
  refine wY hb3 (au O<|wY hb3 (au O<|wY hb3 (fd (a:=8) O O (by omega)<|wY hb3 (cP O O<|wY hb3 (eG (b:=0) O O<|wo (aQ O hb3 O<|wa O<|wn (wE ((cF v (8 * m))≠(0:UInt32)) (fun hb4 hc4=>?_) (fun hb4 hc4=>?_))))))))
  ·
   refine ws<|wa O<|wa O<|wn<|aC<|aZ<|aq<|aD (.tmp O (.tmp O .nil)) ?_
   rw [bR,ko,if_neg (show ¬((m:Int)<1∨(m:Int)>4) from by omega),Int.toNat_natCast,if_pos (show rV v m≠0 from by rw [←sx]; exact hc4),if_neg (by decide)]
   exact ⟨rfl,H0.fr⟩
  exact aA<|aE<|ao<|ws<|wm O<|wm O<|wo (cq H0 (Kd 151) O (xD v ((m:Nat)) _) fun w5 H5=>(we O O<|we O O<|wa O<|wa O<|wn<|aC<|aD (.tmp O (.tmp O .nil)) (⟨rfl,H5.fr⟩)))
 exact wN hb3<|wN hb3<|wN hb3<|wN hb3<|wN hb3<|wo (aN O hb3 O<|wa O<|wn<|bF O O<|aA<|aE<|ao<|ws<|wm O<|wm O<|wo (cq H0 (Kd 151) O (xD v ((m:Nat)) _) fun w6 H6=>(we O O<|we O O<|wa O<|wa O<|wn<|aC<|aD (.tmp O (.tmp O .nil)) (⟨rfl,H6.fr⟩))))
theorem AT (s:List UInt8) (w:World) :
  Calls Kf 157 #[(str s)] w (fun e w'=> ∃q,e=.returned (ptr q 0)∧Ke [] w w' [.blk q [str s,vN 0,vN 0] 298]):=by
 refine enter Tryz.func157 O O ?_
 have H0:=aL w []
 exact ws<|wa O<|wn<|ws<|wm O<|wo (bP (cs:=[_,_,_]) Fa.Ie Fa.Hw O O<|wo (bP (cs:=[_,_,_]) Fa.Id Fa.Hv O O<|wo (bK H0 O O (fun b1 w1 H1=>(wa O<|wn<|aC<|aD (.tmp O .nil) (⟨_,rfl,H1⟩))))))
theorem iV (q:Nat) (r:Rd) (x:Nat) (TR:TypeId) (T:List Nat) (w:World) (H:Ke T w w [.blk q [(str r.s),(vN r.at_),(vN r.f)] TR]) :
  Calls Kf 198 #[(ptr q 0),(vN x)] w (fun e w'=>e=.returned (vN x)∧Ke T w w' [.blk q [str (r.bad x).s,vN (r.bad x).at_,vN (r.bad x).f] TR]):=by
 exact enter Tryz.func198 O O<|ws<|wa O<|wn<|ws<|wm O<|wm O<|wo (aJ O<|wo (ab O Fa.yD<|wo (bC (i:=0) H O O O O O Fa.I25 (fun w1 H1=>(wn<|ws<|wm O<|wa O<|wn<|aC<|aD (.tmp O .nil) (⟨rfl,H1⟩))))))
theorem sC (q:Nat) (r:Rd) (w:World) (hQ:cellsAt w q [(str r.s),(vN r.at_),(vN r.f)]) (hr:r.s.length<2^47) :
  Calls Kf 201 #[(ptr q 0)] w (fun e w'=>e=.returned (vN (r.s.length-r.at_))∧Fr [] w w'):=by
 refine enter Tryz.func201 O O ?_
 have H0:=((aL w []).oldB hQ)
 have hrh:=r.h
 refine ws<|wa O<|wn<|ap<|bn 11 Fa.M H0 (mh O<|oh (fun w1 H1=>aJ O zr)<|oh (fun w1 H1=>ab O Fa.yE zr)<|oh (fun w1 H1=>aj O (H1.cellO (i:=0) O O) A9 O zr)<|oh (fun w1 H1=>bH A9 O zr)<|mh O<|oh (fun w1 H1=>aJ O zr)<|oh (fun w1 H1=>ab O Fa.nR zr)<|oh (fun w1 H1=>aj O (H1.cellO (i:=0) O O) A3 O zr)<|oh (fun w1 H1=>bE O O (by omega) (by omega) zr)<|ah O  bD) (by kernel_rfl) ?_
 intro β1 w1 H1
 exact wn<|aC<|aD (.tmp O .nil) (⟨rfl,H1.fr⟩)
theorem oX (q:Nat) (r:Rd) (w:World) (hQ:cellsAt w q [(str r.s),(vN r.at_),(vN r.f)]) :
  Calls Kf 197 #[(ptr q 0)] w (fun e w'=>e=.returned (vN r.f)∧Fr [] w w'):=by
 refine enter Tryz.func197 O O ?_
 have H0:=((aL w []).oldB hQ)
 exact ws<|wa O<|wn<|ap<|ws<|wm O<|wo (bG Fa.Hs O O<|wn<|bF O O<|aA<|ao<|ws<|wm O<|wo (aJ O<|wo (ab O Fa.ju<|wo (ab O Fa.yD<|wo (aj O (H0.cellO (i:=0) O O) A25 O<|wa O<|wn<|aC<|aD (.tmp O .nil) (⟨rfl,H0.fr⟩))))))
theorem sk (q:Nat) (r:Rd) (n:Nat) (TR:TypeId) (T:List Nat) (w:World) (H:Ke T w w [.blk q [(str r.s),(vN r.at_),(vN r.f)] TR]) (hr:r.s.length<2^47) :
  Calls Kf 199 #[(ptr q 0),(vN n)] w (fun e w'=>e=.returned (.tuple #[str (cW r n).1.1,vN (cW r n).1.2])∧Ke T w w' [.blk q [str (cW r n).2.s,vN (cW r n).2.at_,vN (cW r n).2.f] TR]):=by
 refine enter Tryz.func199 O O ?_
 have hrh:=r.h
 refine ws<|wa O<|wa O<|wn<|ap<|ws<|wm O<|wm O<|wo (az (Kd 201) O ((sC q r _ (H.cellsAt (i:=0) O) (by first | assumption | omega)).mono (fun e w1 hq=>?_)))
 obtain ⟨rfl,hf1⟩:=hq
 refine ⟨_,rfl,?_⟩
 have H1:=H.fr' hf1
 refine wo (cm O O<|wn (wE (n>(r.s.length-r.at_)) (fun hb2 hc2=>?_) (fun hb2 hc2=>?_)))
 ·
  refine ws<|wm O<|wo (az (Kd 198) O ((iV q r 6 TR _ _ (H1.part [0] O O)).mono (fun e w3 hq=>?_)))
  obtain ⟨rfl,hq3⟩:=hq
  refine ⟨_,rfl,?_⟩
  have H3:=H1.splice [0] [.blk q [(str (r.bad 6).s),(vN (r.bad 6).at_),(vN (r.bad 6).f)] TR] [] O O hq3 (am ae aI)
  refine wa O<|wa O<|wn<|aC<|aq<|aD (.tmp O (.tmp O .nil)) ?_
  rw [ns hc2]
  exact ⟨rfl,H3⟩
 refine aA<|ao<|ws<|wm O<|wo (aJ O<|wo (ab O Fa.nR<|wo (aj O (H1.cell (i:=0) O O) A3 O<|wm O<|wo (aU O O (by omega)<|wo (aJ O<|wo (ab O Fa.nR<|wo (bC (i:=0) H1 O O O O O Fa.I3 (fun w4 H4=>(wn<|ap<|bn 17 Fa.M H4 (mh O<|oh (fun w1 H1=>aJ O zr)<|oh (fun w1 H1=>ab O Fa.yE zr)<|oh (fun w1 H1=>aj O (H1.cell (i:=0) O O) A9 O zr)<|mh O<|oh (fun w1 H1=>aJ O zr)<|oh (fun w1 H1=>ab O Fa.nR zr)<|oh (fun w1 H1=>aj O (H1.cell (i:=0) O O) A3 O zr)<|mh O<|oh (fun w1 H1=>bE O O (by omega) (by omega) zr)<|mh O<|oh (fun w1 H1=>aJ O zr)<|oh (fun w1 H1=>ab O Fa.nR zr)<|oh (fun w1 H1=>aj O (H1.cell (i:=0) O O) A3 O zr)<|oh (fun w1 H1=>wA A9 O O O (by omega) (by omega) zr)<|ah O<|ah O  bD) (by kernel_rfl) ?_)))))))))
 intro β5 w5 H5
 refine wn<|aC<|aD (.tmp O (.tmp O .nil)) ?_
 rw [ke hc2]
 exact ⟨by show _=Ending.returned (.tuple #[str ((r.s.drop r.at_).take n),vN 0]); rw [show r.at_+n-n=r.at_ from by omega,show r.at_+n-r.at_=n from by omega]; rfl,H5⟩
theorem uH (q:Nat) (r:Rd) (n:Int) (TR:TypeId) (T:List Nat) (w:World) (H:Ke T w w [.blk q [(str r.s),(vN r.at_),(vN r.f)] TR]) (hr:r.s.length<2^47) :
  Calls Kf 158 #[(ptr q 0),(vI n)] w (fun e w'=>e=.returned (.tuple #[str (bU r n).1.1,vN (bU r n).1.2])∧Ke T w w' [.blk q [str (bU r n).2.s,vN (bU r n).2.at_,vN (bU r n).2.f] TR]):=by
 refine enter Tryz.func158 O O<|ws<|wa O<|wa O<|wn<|ap<|ws<|wm O<|wo (az (Kd 197) O ((oX q r _ (H.cellsAt (i:=0) O)).mono (fun e w1 hq=>?_)))
 obtain ⟨rfl,hf1⟩:=hq
 refine ⟨_,rfl,?_⟩
 have H1:=H.fr' hf1
 refine wa O<|wn<|ws<|wm O<|wo (bI (b:=0) O O<|wn (wE (r.f≠0) (fun hb2 hc2=>?_) (fun hb2 hc2=>?_)))
 ·
  refine ws<|wm O<|wa O<|wa O<|wn<|aC<|aq<|aD (.tmp O (.tmp O .nil)) ?_
  rw [bU,if_pos hc2]
  exact ⟨rfl,H1⟩
 refine aA<|ao<|ap<|ws<|wm O<|wo (eR (b:=(0:Int)) O O<|wn (wE (n<(0:Int)) (fun hb3 hc3=>?_) (fun hb3 hc3=>?_)))
 ·
  refine ws<|wm O<|wo (aJ O<|wo (ab O Fa.ju<|wo (az (Kd 198) O ((iV q r 2 TR _ _ (H1.part [0] O O)).mono (fun e w4 hq=>?_)))))
  obtain ⟨rfl,hq4⟩:=hq
  refine ⟨_,rfl,?_⟩
  have H4:=H1.splice [0] [.blk q [(str (r.bad 2).s),(vN (r.bad 2).at_),(vN (r.bad 2).f)] TR] [] O O hq4 (am ae aI)
  refine wa O<|wa O<|wn<|aC<|aq<|aD (.tmp O (.tmp O .nil)) ?_
  rw [bU,if_neg hc2,if_pos hc3]
  exact ⟨rfl,H4⟩
 obtain ⟨m,rfl⟩: ∃m:Nat,n=(m:Int):=⟨n.toNat,by omega⟩
 refine aA<|ao<|ws<|wm O<|wo (aJ O<|wo (ab O Fa.ju<|wm O<|wo (az (Kd 199) O ((sk q r ((m:Nat)) TR _ _ (H1.part [0] O O) (by first | assumption | omega)).mono (fun e w5 hq=>?_)))))
 obtain ⟨rfl,hq5⟩:=hq
 refine ⟨_,rfl,?_⟩
 have H5:=H1.splice [0] [.blk q [(str ((cW r (m:Nat)).2).s),(vN ((cW r (m:Nat)).2).at_),(vN ((cW r (m:Nat)).2).f)] TR] [] O O hq5 (am ae aI)
 refine we O O<|we O O<|wa O<|wa O<|wn<|aC<|aD (.tmp O (.tmp O .nil)) ?_
 rw [bU,if_neg hc2,if_neg (show ¬((m:Int)<0) from by omega),Int.toNat_natCast]
 exact ⟨rfl,H5⟩
theorem AS (q:Nat) (r:Rd) (n:Int) (TR:TypeId) (T:List Nat) (w:World) (H:Ke T w w [.blk q [(str r.s),(vN r.at_),(vN r.f)] TR]) (hr:r.s.length<2^47) :
  Calls Kf 200 #[(ptr q 0),(vI n)] w (fun e w'=>e=.returned (.tuple #[aa (aK r n).1.1,vN (aK r n).1.2])∧Ke T w w' [.blk q [str (aK r n).2.s,vN (aK r n).2.at_,vN (aK r n).2.f] TR]):=by
 refine enter Tryz.func200 O O<|ws<|wa O<|wa O<|wn<|ap<|ws<|wm O<|wo (az (Kd 197) O ((oX q r _ (H.cellsAt (i:=0) O)).mono (fun e w1 hq=>?_)))
 obtain ⟨rfl,hf1⟩:=hq
 refine ⟨_,rfl,?_⟩
 have H1:=H.fr' hf1
 refine wa O<|wn<|ws<|wm O<|wo (bI (b:=0) O O<|wn (wE (r.f≠0) (fun hb2 hc2=>?_) (fun hb2 hc2=>?_)))
 ·
  refine ws<|wm O<|wa O<|wa O<|wn<|aC<|aq<|aD (.tmp O (.tmp O .nil)) ?_
  rw [aK,if_pos hc2]
  exact ⟨rfl,H1⟩
 refine aA<|ao<|ap<|ws<|wm O<|wo (eR (b:=(1:Int)) O O<|wm O (wF 16 (n<(1:Int)) (fun hb3 hc3=>?_) (fun hb3 hc3=>?_)))
 ·
  refine wN hb3<|wN hb3<|wo (aQ O hb3 O<|wn<|bX O O<|ws<|wm O<|wo (aJ O<|wo (ab O Fa.ju<|wo (az (Kd 198) O ((iV q r 2 TR _ _ (H1.part [0] O O)).mono (fun e w4 hq=>?_))))))
  obtain ⟨rfl,hq4⟩:=hq
  refine ⟨_,rfl,?_⟩
  have H4:=H1.splice [0] [.blk q [(str (r.bad 2).s),(vN (r.bad 2).at_),(vN (r.bad 2).f)] TR] [] O O hq4 (am ae aI)
  refine wa O<|wa O<|wn<|aC<|aq<|aD (.tmp O (.tmp O .nil)) ?_
  rw [aK,if_neg hc2,if_pos (show n<1∨n>4 from by omega)]
  exact ⟨rfl,H4⟩
 refine wY hb3 (au O<|wY hb3 (iY (b:=(4:Int)) O O<|wo (aN O hb3 O<|wn (wE (n>(4:Int)) (fun hb5 hc5=>?_) (fun hb5 hc5=>?_)))))
 ·
  refine ws<|wm O<|wo (aJ O<|wo (ab O Fa.ju<|wo (az (Kd 198) O ((iV q r 2 TR _ _ (H1.part [0] O O)).mono (fun e w6 hq=>?_)))))
  obtain ⟨rfl,hq6⟩:=hq
  refine ⟨_,rfl,?_⟩
  have H6:=H1.splice [0] [.blk q [(str (r.bad 2).s),(vN (r.bad 2).at_),(vN (r.bad 2).f)] TR] [] O O hq6 (am ae aI)
  refine wa O<|wa O<|wn<|aC<|aq<|aD (.tmp O (.tmp O .nil)) ?_
  rw [aK,if_neg hc2,if_pos (show n<1∨n>4 from by omega)]
  exact ⟨rfl,H6⟩
 obtain ⟨m,rfl⟩: ∃m:Nat,n=(m:Int):=⟨n.toNat,by omega⟩
 refine aA<|ao<|ws<|wm O<|wo (aJ O<|wo (ab O Fa.ju<|wm O<|wo (az (Kd 199) O ((sk q r ((m:Nat)) TR _ _ (H1.part [0] O O) (by first | assumption | omega)).mono (fun e w7 hq=>?_)))))
 obtain ⟨rfl,hq7⟩:=hq
 refine ⟨_,rfl,?_⟩
 have H7:=H1.splice [0] [.blk q [(str ((cW r (m:Nat)).2).s),(vN ((cW r (m:Nat)).2).at_),(vN ((cW r (m:Nat)).2).f)] TR] [] O O hq7 (am ae aI)
 refine wm O<|we O O<|we O O<|wa O<|wa O<|wn<|ap<|ws<|wm O<|wo (bI (b:=0) O O<|wn (wE ((cW r (m:Nat)).1.2≠0) (fun hb8 hc8=>?_) (fun hb8 hc8=>?_)))
 ·
  refine ws<|wm O<|wa O<|wa O<|wn<|aC<|aq<|aD (.tmp O (.tmp O .nil)) ?_
  rw [aK,if_neg hc2,if_neg (show ¬((m:Int)<1∨(m:Int)>4) from by omega),Int.toNat_natCast,if_pos hc8]
  exact ⟨rfl,H7⟩
 refine aA<|ao<|ws<|wm O<|wo (cq H7 (Kd 107) O (Dy ((cW r (m:Nat)).1.1) _) fun w9 H9=>(we O O<|we O O<|wa O<|wa O<|wn<|aC<|aD (.tmp O (.tmp O .nil)) ?_))
 have hl:=ou (Decidable.not_not.mp hc8)
 rw [aK,if_neg hc2,if_neg (show ¬((m:Int)<1∨(m:Int)>4) from by omega),Int.toNat_natCast,if_neg hc8]
 exact ⟨by rw [pN,if_neg (by omega)]; rfl,H9⟩
theorem AU (q:Nat) (r:Rd) (TR:TypeId) (T:List Nat) (w:World) (H:Ke T w w [.blk q [(str r.s),(vN r.at_),(vN r.f)] TR]) (hr:r.s.length<2^47) :
  Calls Kf 161 #[(ptr q 0)] w (fun e w'=>e=.returned (vN (fc r).1)∧Ke T w w' [.blk q [str (fc r).2.s,vN (fc r).2.at_,vN (fc r).2.f] TR]):=by
 refine enter Tryz.func161 O O<|ws<|wa O<|wn<|ap<|ws<|wm O<|wo (az (Kd 197) O ((oX q r _ (H.cellsAt (i:=0) O)).mono (fun e w1 hq=>?_)))
 obtain ⟨rfl,hf1⟩:=hq
 refine ⟨_,rfl,?_⟩
 have H1:=H.fr' hf1
 refine wa O<|wn<|ws<|wm O<|wo (bI (b:=0) O O<|wn (wE (r.f≠0) (fun hb2 hc2=>?_) (fun hb2 hc2=>?_)))
 ·
  refine ws<|wm O<|wa O<|wn<|aC<|aq<|aD (.tmp O .nil) ?_
  rw [fc,if_pos hc2]
  exact ⟨rfl,H1⟩
 refine aA<|ao<|ap<|ws<|wm O<|wo (aJ O<|wo (ab O Fa.ju<|wo (cq H1 (Kd 201) O (sC q r _ (H1.cellsAt (i:=0) O) hr) fun w3 H3=>(wo (cm (b:=0) O O<|wn (wE ((r.s.length-r.at_)>0) (fun hb4 hc4=>?_) (fun hb4 hc4=>?_)))))))
 ·
  refine ws<|wm O<|wo (aJ O<|wo (ab O Fa.ju<|wo (az (Kd 198) O ((iV q r 7 TR _ _ (H3.part [0] O O)).mono (fun e w5 hq=>?_)))))
  obtain ⟨rfl,hq5⟩:=hq
  refine ⟨_,rfl,?_⟩
  have H5:=H3.splice [0] [.blk q [(str (r.bad 7).s),(vN (r.bad 7).at_),(vN (r.bad 7).f)] TR] [] O O hq5 (am ae aI)
  refine wa O<|wn<|aC<|aq<|aD (.tmp O .nil) ?_
  rw [fc,if_neg hc2,if_pos hc4]
  exact ⟨rfl,H5⟩
 refine aA<|ao<|ws<|wa O<|wn<|aC<|aD (.tmp O .nil) ?_
 rw [fc,if_neg hc2,if_neg hc4]
 exact ⟨rfl,H3⟩
theorem jW (q:Nat) (S:List UInt8) (E x:Nat) (T:List Nat) (w:World) (H:Ke T w w [.blk q [(str S),(vN E)] 283]) :
  Calls Kf 222 #[(ptr q 0),(vN x)] w (fun e w'=>e=.returned (vN x)∧Ke T w w' [.blk q [str S,vN x] 283]):=by
 exact enter Tryz.func222 O O<|ws<|wa O<|wn<|ws<|wm O<|wm O<|wo (aJ O<|wo (ab O Fa.mg<|wo (bC (i:=0) H O O O O O Fa.I25 (fun w1 H1=>(wn<|ws<|wm O<|wa O<|wn<|aC<|aD (.tmp O .nil) (⟨rfl,H1⟩))))))
theorem oT (q:Nat) (S:List UInt8) (E:Nat) (n:Int) (T:List Nat) (w:World) (H:Ke T w w [.blk q [(str S),(vN E)] 283]) (_hr:S.length<2^47) :
  Calls Kf 183 #[(ptr q 0),(vI n)] w (fun e w'=>e=.returned (.tuple #[str (bU (Rd.mk S 0 E (Kk _)) n).1.1,vN (bU (Rd.mk S 0 E (Kk _)) n).1.2])∧Ke T w w' [.blk q [str (bU (Rd.mk S 0 E (Kk _)) n).2.rest,vN (bU (Rd.mk S 0 E (Kk _)) n).2.f] 283]):=by
 refine enter Tryz.func183 O O<|ws<|wa O<|wa O<|wn<|ap<|ws<|wm O<|wo (aJ O<|wo (ab O Fa.mg<|wo (aj O (H.cell (i:=0) O O) A25 O<|wo (bI (b:=0) O O<|wn (wE (E≠0) (fun hb1 hc1=>?_) (fun hb1 hc1=>?_))))))
 ·
  refine ap<|bn 6 Fa.M H (mh O<|oh (fun w1 H1=>aJ O zr)<|oh (fun w1 H1=>ab O Fa.mg zr)<|oh (fun w1 H1=>aj O (H1.cell (i:=0) O O) A25 O zr)<|ah O<|ah O  bD) (by kernel_rfl) ?_
  intro β2 w2 H2
  refine wn<|aC<|aq<|aD (.tmp O (.tmp O .nil)) ?_
  rw [mZ (r:=(Rd.mk S 0 E (Kk _))) hc1]
  exact ⟨rfl,(by have h:=(show Ke T w w2 [.blk q [(str S),(vN E)] 283] from H2); simpa only [Rd.rest,Rd.bad,Rd.on,List.drop_zero,Nat.zero_add] using h)⟩
 refine aA<|ao<|ap<|ws<|wm O<|wo (eR (b:=(0:Int)) O O<|wn (wE (n<(0:Int)) (fun hb3 hc3=>?_) (fun hb3 hc3=>?_)))
 ·
  refine ws<|wm O<|wo (az (Kd 222) O ((jW q S E 2 _ _ (H.part [0] O O)).mono (fun e w4 hq=>?_)))
  obtain ⟨rfl,hq4⟩:=hq
  refine ⟨_,rfl,?_⟩
  have H4:=H.splice [0] [.blk q [(str S),(vN 2)] 283] [] O O hq4 (am ae aI)
  refine wa O<|wa O<|wn<|aC<|aq<|aD (.tmp O (.tmp O .nil)) ?_
  rw [CW (r:=(Rd.mk S 0 E (Kk _))) (Decidable.not_not.mp hc1) hc3]
  exact ⟨rfl,(by have h:=(show Ke T w w4 [.blk q [(str S),(vN 2)] 283] from H4); simpa only [Rd.rest,Rd.bad,Rd.on,List.drop_zero,Nat.zero_add] using h)⟩
 obtain ⟨m,rfl⟩: ∃m:Nat,n=(m:Int):=⟨n.toNat,by omega⟩
 refine aA<|ao<|ap<|ws<|wm O<|wm O<|wo (aJ O<|wo (ab O Fa.nS<|wo (aj O (H.cell (i:=0) O O) A9 O<|wo (bH A9 O<|wo (cm O O<|wn (wE (m>S.length) (fun hb5 hc5=>?_) (fun hb5 hc5=>?_)))))))
 ·
  refine ws<|wm O<|wo (az (Kd 222) O ((jW q S E 6 _ _ (H.part [0] O O)).mono (fun e w6 hq=>?_)))
  obtain ⟨rfl,hq6⟩:=hq
  refine ⟨_,rfl,?_⟩
  have H6:=H.splice [0] [.blk q [(str S),(vN 6)] 283] [] O O hq6 (am ae aI)
  refine wa O<|wa O<|wn<|aC<|aq<|aD (.tmp O (.tmp O .nil)) ?_
  rw [jB (r:=(Rd.mk S 0 E (Kk _))) (Decidable.not_not.mp hc1),ns (r:=(Rd.mk S 0 E (Kk _))) (show m>S.length-0 from hc5)]
  exact ⟨rfl,(by have h:=(show Ke T w w6 [.blk q [(str S),(vN 6)] 283] from H6); simpa only [Rd.rest,Rd.bad,Rd.on,List.drop_zero,Nat.zero_add] using h)⟩
 refine aA<|ao<|ws<|wm O<|wo (aJ O<|wo (ab O Fa.nS<|wo (aj O (H.cell (i:=0) O O) A9 O<|wm O<|wo (cT A9 O O (by omega)<|wa O<|wn<|ws<|wm O<|wm O<|wo (aJ O<|wo (ab O Fa.nS<|wo (aj O (H.cell (i:=0) O O) A9 O<|wm O<|wo (jj A9 O O (by omega)<|wo (aJ O<|wo (ab O Fa.nS<|wo (bC (i:=0) H O O O O O Fa.I9 (fun w7 H7=>(wn<|ws<|wm O<|wa O<|wa O<|wn<|aC<|aD (.tmp O (.tmp O .nil)) ?_)))))))))))))
 rw [jB (r:=(Rd.mk S 0 E (Kk _))) (Decidable.not_not.mp hc1),ke (r:=(Rd.mk S 0 E (Kk _))) (show ¬m>S.length-0 from hc5)]
 exact ⟨rfl,(by have h:=(show Ke T w w7 [.blk q [(str (S.drop m)),(vN E)] 283] from H7); simpa only [Rd.rest,Rd.bad,Rd.on,List.drop_zero,Nat.zero_add] using h)⟩
theorem ED (q:Nat) (S:List UInt8) (E:Nat) (n:Int) (T:List Nat) (w:World) (H:Ke T w w [.blk q [(str S),(vN E)] 283]) (hr:S.length<2^47) :
  Calls Kf 223 #[(ptr q 0),(vI n)] w (fun e w'=>e=.returned (.tuple #[aa (aK (Rd.mk S 0 E (Kk _)) n).1.1,vN (aK (Rd.mk S 0 E (Kk _)) n).1.2])∧Ke T w w' [.blk q [str (aK (Rd.mk S 0 E (Kk _)) n).2.rest,vN (aK (Rd.mk S 0 E (Kk _)) n).2.f] 283]):=by
 refine enter Tryz.func223 O O ?_
 have hTl:(bU (Rd.mk S 0 E (Kk _)) n).1.1.length<2^47:=yP _ _ (by exact hr)
 refine ws<|wa O<|wa O<|wn<|ap<|ws<|wm O<|wo (aJ O<|wo (ab O Fa.mg<|wo (aj O (H.cell (i:=0) O O) A25 O<|wo (dk (b:=0) O O<|wm O (wF 15 (E=0) (fun hb1 hc1=>?_) (fun hb1 hc1=>?_))))))
 ·
  refine wY hb1 (au O<|wY hb1 (eR (b:=(1:Int)) O O<|wY hb1 (au O (wF 18 (n<(1:Int)) (fun hb2 hc2=>?_) (fun hb2 hc2=>?_)))))
  ·
   refine wN hb2<|wN hb2<|wY hb1 (aQ O hb2 O<|wo (aQ O hb1 O<|wn<|bX O O<|ws<|wm O<|wo (az (Kd 222) O ((jW q S E 2 _ _ (H.part [0] O O)).mono (fun e w3 hq=>?_)))))
   obtain ⟨rfl,hq3⟩:=hq
   refine ⟨_,rfl,?_⟩
   have H3:=H.splice [0] [.blk q [(str S),(vN 2)] 283] [] O O hq3 (am ae aI)
   refine wa O<|wa O<|wn<|aC<|aq<|aD (.tmp O (.tmp O .nil)) ?_
   rw [sV (r:=(Rd.mk S 0 E (Kk _))) hc1 (by omega)]
   exact ⟨rfl,(by have h:=(show Ke T w w3 [.blk q [(str S),(vN 2)] 283] from H3); simpa only [Rd.rest,Rd.bad,Rd.on,List.drop_zero,Nat.zero_add] using h)⟩
  refine wY hb2 (au O<|wY hb2 (iY (b:=(4:Int)) O O<|wY hb1 (aN O hb2 O<|wo (aQ O hb1 O<|wn (wE (n>(4:Int)) (fun hb4 hc4=>?_) (fun hb4 hc4=>?_))))))
  ·
   refine ws<|wm O<|wo (az (Kd 222) O ((jW q S E 2 _ _ (H.part [0] O O)).mono (fun e w5 hq=>?_)))
   obtain ⟨rfl,hq5⟩:=hq
   refine ⟨_,rfl,?_⟩
   have H5:=H.splice [0] [.blk q [(str S),(vN 2)] 283] [] O O hq5 (am ae aI)
   refine wa O<|wa O<|wn<|aC<|aq<|aD (.tmp O (.tmp O .nil)) ?_
   rw [sV (r:=(Rd.mk S 0 E (Kk _))) hc1 (by omega)]
   exact ⟨rfl,(by have h:=(show Ke T w w5 [.blk q [(str S),(vN 2)] 283] from H5); simpa only [Rd.rest,Rd.bad,Rd.on,List.drop_zero,Nat.zero_add] using h)⟩
  refine aA<|ao<|ws<|wm O<|wm O<|wo (az (Kd 183) O ((oT q S E (n) _ _ (H.part [0] O O) (by first | assumption | omega)).mono (fun e w6 hq=>?_)))
  obtain ⟨rfl,hq6⟩:=hq
  refine ⟨_,rfl,?_⟩
  have H6:=H.splice [0] [.blk q [(str (bU (Rd.mk S 0 E (Kk _)) n).2.rest),(vN (bU (Rd.mk S 0 E (Kk _)) n).2.f)] 283] [] O O hq6 (am ae aI)
  refine wm O<|we O O<|we O O<|wa O<|wa O<|wn<|ws<|wa O<|wn<|ap<|ws<|wm O<|wo (bH A9 O<|wo (eq (a:=(((bU (Rd.mk S 0 E (Kk _)) n).1.1.length:Nat):Int)) (b:=((1:Nat):Int)) O O (by omega)<|wa O<|wn<|aB<|bi (α:=Nat) (fun j=>[(6,(str (bU (Rd.mk S 0 E (Kk _)) n).1.1)),(7,(vN (bU (Rd.mk S 0 E (Kk _)) n).1.2)),(8,(aa (gF ((bU (Rd.mk S 0 E (Kk _)) n).1.1.drop j)))),(9,(vI ((j:Int)-(1:Int))))]) (fun j w'=>(j≤(bU (Rd.mk S 0 E (Kk _)) n).1.1.length)∧Ke T w w' [.blk q [(str (bU (Rd.mk S 0 E (Kk _)) n).2.rest),(vN (bU (Rd.mk S 0 E (Kk _)) n).2.f)] 283]) (fun j=>j) (bU (Rd.mk S 0 E (Kk _)) n).1.1.length ⟨(by omega),H6⟩ ⟨rfl,rfl,(by rw [List.drop_length]; rfl),rfl,trivial⟩ ?_))
  rintro j w7 ⟨hinv,H7⟩
  show WC _ _ _ _ _ [(6,(str (bU (Rd.mk S 0 E (Kk _)) n).1.1)),(7,(vN (bU (Rd.mk S 0 E (Kk _)) n).1.2)),(8,(aa (gF ((bU (Rd.mk S 0 E (Kk _)) n).1.1.drop j)))),(9,(vI ((j:Int)-(1:Int))))] _
  refine ap<|ws<|wm O<|wo (fe (b:=(0:Int)) O O<|wn (wE (((j:Int)-(1:Int))≥(0:Int)) (fun hb8 hc8=>?_) (fun hb8 hc8=>?_)))
  ·
   obtain ⟨m,hm⟩: ∃m,j=m+1:=⟨j-1,by omega⟩
   subst hm
   rw [show (((m+1:Nat):Int)-(1:Int))=(m:Int) from by omega]
   exact aA<|ao<|ap<|aB<|aG<|wm O<|wo (kl (a:=256) O O<|wm O<|wm O<|wo (cl A9 O O (by omega)<|wo (dm (hs:=A5) (hd:=A22) O<|wo (bW O O<|wa O<|aY<|aE<|ao<|aG<|wm O<|wo (eq (a:=((m:Nat):Int)) (b:=((1:Nat):Int)) O O (by omega)<|wa O<|aY<|aX m ⟨(by omega),H7⟩ ⟨rfl,rfl,(congrArg (fun x=>some (aa x)) (vx (bU (Rd.mk S 0 E (Kk _)) n).1.1 m (by omega)).symm),rfl,trivial⟩ (by omega))))))
  refine bc<|an<|an<|aS<|ao<|ws<|wm O<|wm O<|wa O<|wa O<|wn<|aC<|aD (.tmp O (.tmp O .nil)) ?_
  have hj:j=0:=(by omega)
  subst hj
  rw [rm (r:=(Rd.mk S 0 E (Kk _))) (fun h0 hx=>by omega)]
  exact ⟨rfl,H7⟩
 refine wN hb1<|wN hb1<|wN hb1<|WL.non O O O O<|WL.non O O O O<|wN hb1<|wo (aN O hb1 O<|wn<|bF O O<|aA<|ao<|ws<|wm O<|wm O<|wo (az (Kd 183) O ((oT q S E (n) _ _ (H.part [0] O O) (by first | assumption | omega)).mono (fun e w9 hq=>?_))))
 obtain ⟨rfl,hq9⟩:=hq
 refine ⟨_,rfl,?_⟩
 have H9:=H.splice [0] [.blk q [(str (bU (Rd.mk S 0 E (Kk _)) n).2.rest),(vN (bU (Rd.mk S 0 E (Kk _)) n).2.f)] 283] [] O O hq9 (am ae aI)
 refine wm O<|we O O<|we O O<|wa O<|wa O<|wn<|ws<|wa O<|wn<|ap<|ws<|wm O<|wo (bH A9 O<|wo (eq (a:=(((bU (Rd.mk S 0 E (Kk _)) n).1.1.length:Nat):Int)) (b:=((1:Nat):Int)) O O (by omega)<|wa O<|wn<|aB<|bi (α:=Nat) (fun j=>[(6,(str (bU (Rd.mk S 0 E (Kk _)) n).1.1)),(7,(vN (bU (Rd.mk S 0 E (Kk _)) n).1.2)),(8,(aa (gF ((bU (Rd.mk S 0 E (Kk _)) n).1.1.drop j)))),(9,(vI ((j:Int)-(1:Int))))]) (fun j w'=>(j≤(bU (Rd.mk S 0 E (Kk _)) n).1.1.length)∧Ke T w w' [.blk q [(str (bU (Rd.mk S 0 E (Kk _)) n).2.rest),(vN (bU (Rd.mk S 0 E (Kk _)) n).2.f)] 283]) (fun j=>j) (bU (Rd.mk S 0 E (Kk _)) n).1.1.length ⟨(by omega),H9⟩ ⟨rfl,rfl,(by rw [List.drop_length]; rfl),rfl,trivial⟩ ?_))
 rintro j w10 ⟨hinv,H10⟩
 show WC _ _ _ _ _ [(6,(str (bU (Rd.mk S 0 E (Kk _)) n).1.1)),(7,(vN (bU (Rd.mk S 0 E (Kk _)) n).1.2)),(8,(aa (gF ((bU (Rd.mk S 0 E (Kk _)) n).1.1.drop j)))),(9,(vI ((j:Int)-(1:Int))))] _
 refine ap<|ws<|wm O<|wo (fe (b:=(0:Int)) O O<|wn (wE (((j:Int)-(1:Int))≥(0:Int)) (fun hb11 hc11=>?_) (fun hb11 hc11=>?_)))
 ·
  obtain ⟨m,hm⟩: ∃m,j=m+1:=⟨j-1,by omega⟩
  subst hm
  rw [show (((m+1:Nat):Int)-(1:Int))=(m:Int) from by omega]
  exact aA<|ao<|ap<|aB<|aG<|wm O<|wo (kl (a:=256) O O<|wm O<|wm O<|wo (cl A9 O O (by omega)<|wo (dm (hs:=A5) (hd:=A22) O<|wo (bW O O<|wa O<|aY<|aE<|ao<|aG<|wm O<|wo (eq (a:=((m:Nat):Int)) (b:=((1:Nat):Int)) O O (by omega)<|wa O<|aY<|aX m ⟨(by omega),H10⟩ ⟨rfl,rfl,(congrArg (fun x=>some (aa x)) (vx (bU (Rd.mk S 0 E (Kk _)) n).1.1 m (by omega)).symm),rfl,trivial⟩ (by omega))))))
 refine bc<|an<|an<|aS<|ao<|ws<|wm O<|wm O<|wa O<|wa O<|wn<|aC<|aD (.tmp O (.tmp O .nil)) ?_
 have hj:j=0:=(by omega)
 subst hj
 rw [rm (r:=(Rd.mk S 0 E (Kk _))) (fun h0 _=>absurd h0 hc1)]
 exact ⟨rfl,H10⟩
theorem EE (q:Nat) (S:List UInt8) (E:Nat) (T:List Nat) (w:World) (H:Ke T w w [.blk q [(str S),(vN E)] 283]) (_hr:S.length<2^47) :
  Calls Kf 185 #[(ptr q 0)] w (fun e w'=>e=.returned (vN (fc (Rd.mk S 0 E (Kk _))).1)∧Ke T w w' [.blk q [str (fc (Rd.mk S 0 E (Kk _))).2.rest,vN (fc (Rd.mk S 0 E (Kk _))).2.f] 283]):=by
 refine enter Tryz.func185 O O<|ws<|wa O<|wn<|ap<|ws<|wm O<|wo (aJ O<|wo (ab O Fa.mg<|wo (aj O (H.cell (i:=0) O O) A25 O<|wo (bI (b:=0) O O<|wn (wE (E≠0) (fun hb1 hc1=>?_) (fun hb1 hc1=>?_))))))
 ·
  refine ws<|wm O<|wo (aJ O<|wo (ab O Fa.mg<|wo (aj O (H.cell (i:=0) O O) A25 O<|wa O<|wn<|aC<|aq<|aD (.tmp O .nil) ?_)))
  rw [fc,if_pos (show (Rd.mk S 0 E (Kk _)).f≠0 from hc1)]
  exact ⟨rfl,(by have h:=(show Ke T w w [.blk q [(str S),(vN E)] 283] from H); simpa only [Rd.rest,Rd.bad,Rd.on,List.drop_zero,Nat.zero_add] using h)⟩
 refine aA<|ao<|ap<|ws<|wm O<|wo (aJ O<|wo (ab O Fa.nS<|wo (aj O (H.cell (i:=0) O O) A9 O<|wo (iX O O<|wn (wE (S≠[]) (fun hb2 hc2=>?_) (fun hb2 hc2=>?_))))))
 ·
  refine ws<|wm O<|wo (az (Kd 222) O ((jW q S E 7 _ _ (H.part [0] O O)).mono (fun e w3 hq=>?_)))
  obtain ⟨rfl,hq3⟩:=hq
  refine ⟨_,rfl,?_⟩
  have H3:=H.splice [0] [.blk q [(str S),(vN 7)] 283] [] O O hq3 (am ae aI)
  refine wa O<|wn<|aC<|aq<|aD (.tmp O .nil) ?_
  rw [fc,if_neg (show ¬((Rd.mk S 0 E (Kk _)).f≠0) from hc1),if_pos (show S.length-0>0 from List.length_pos_iff.2 hc2)]
  exact ⟨rfl,(by have h:=(show Ke T w w3 [.blk q [(str S),(vN 7)] 283] from H3); simpa only [Rd.rest,Rd.bad,Rd.on,List.drop_zero,Nat.zero_add] using h)⟩
 refine aA<|ao<|ws<|wa O<|wn<|aC<|aD (.tmp O .nil) ?_
 rw [fc,if_neg (show ¬((Rd.mk S 0 E (Kk _)).f≠0) from hc1),if_neg (show ¬(S.length-0>0) from fun h=>hc2 (List.length_pos_iff.1 h))]
 exact ⟨rfl,(by have h:=(show Ke T w w [.blk q [(str S),(vN E)] 283] from H); simpa only [Rd.rest,Rd.bad,Rd.on,List.drop_zero,Nat.zero_add] using h)⟩
theorem Bf (p:UInt8) (w:World) :
  Calls Kf 91 #[(vU8 p)] w (fun e w'=>e=.returned (.bool (kg p))∧Fr [] w w'):=by
 refine enter Tryz.func91 O O ?_
 have H0:=aL w []
 exact ws<|wa O<|wn<|ws<|wo (aW (cs:=[_,_,_]) H0 A114 Fa.I5 O O O O (by decide) (by decide) (fun b1 w1 H1=>(wm O<|wo (cq H1 (Kd 142) O (ES _ ([1,3,5]) p _ (H1.arrR (i:=0) O) (by decide)) fun w2 H2=>(wa O<|wn<|aC<|aD (.tmp O .nil) (⟨rfl,H2.fr⟩))))))
theorem ng (x:Sg) (w:World) :
  Calls Kf 92 #[(.agg #[(aa x.a),(vU8 x.p),(str x.b)])] w (fun e w'=>e=.returned (cB (fv x))∧Fr [] w w'):=by
 refine enter Tryz.func92 O O ?_
 have H0:=aL w []
 exact ws<|wo (bK H0 O O (fun b1 w1 H1=>(wa O<|wn<|ws<|wo (ab O Fa.dE<|wo (aj O (H1.cell (i:=0) O O) A22 O<|wo (cu (hs:=A22) (hd:=A154) O<|wo (ab O Fa.eJ<|wo (aj O (H1.cell (i:=0) O O) A9 O<|wo (bH A9 O<|wo (dq (hs:=A3) (hd:=A154) O<|wo (eH O O<|wa O<|wn<|aC<|aD (.tmp O .nil) (⟨rfl,H1.fr⟩))))))))))))
theorem kr (pg:UInt32) (ev pv sv:Value) (xs:List Xt) (ps:List UInt16) (con:Bool) (en:UInt32) (sg:List Sg) (w:World) (hE:Arr w ev 2 xs.length (Kh xtc xs)) (hP:Arr w pv 1 ps.length (Kg bA ps)) (hS:Arr w sv 3 sg.length (Kh sgc sg)) (hn:xs.length<2^47) (hm:ps.length<2^47) (hk:sg.length<2^47) :
  Calls Kf 41 #[(.agg #[(aa pg),ev,pv,(.bool con),(aa en),sv])] w (fun e w'=>e=.returned (vN (imE pg xs ps en sg))∧Fr [] w w'):=by
 refine enter Tryz.func41 O O ?_
 have H0:=aL w []
 refine ws<|wo (bK H0 O O (fun b1 w1 H1=>(wa O<|wn<|ap<|ws<|wo (ab O Fa.cZ<|wo (aM (vs:=[_,_,_,_]) O (H1.cells (i:=0) O O) A40 O Fa.I40 O<|wo (cq H1 (Kd 90) O (ii pg _ _ xs ps con _ (H1.arr hE) (H1.arr hP) hn hm) fun w2 H2=>(wo (bI (b:=0) O O<|wm O (wF 11 ((mfE pg xs ps)≠0) (fun hb3 hc3=>?_) (fun hb3 hc3=>?_))))))))))
 ·
  exact wN hb3<|wN hb3<|wN hb3<|wN hb3<|wo (aQ O hb3 O<|wm O<|wN O<|wN O<|wN O<|wN O<|wo (aQ O O O<|wm O<|wN O<|wN O<|wN O<|wN O<|wo (aQ O O O<|wn<|bX O O<|ws<|wa O<|wn<|aC<|aq<|aD (.tmp O .nil) (⟨by rw [iy (by (rw [eW,hb3])<;>rfl)]; rfl,H2.fr⟩))))
 refine wY hb3 (ab O Fa.eA<|wY hb3 (aj O (H2.cell (i:=0) O O) A41 O<|wY hb3 (bu A41 O (H2.arr hS)<|wY hb3 (bm (b:=1) O O<|wo (aN O hb3 O<|wm O (wF 17 (sg.length<1) (fun hb4 hc4=>?_) (fun hb4 hc4=>?_)))))))
 ·
  exact wN hb4<|wN hb4<|wN hb4<|wN hb4<|wo (aQ O hb4 O<|wm O<|wN O<|wN O<|wN O<|wN O<|wo (aQ O O O<|wn<|bX O O<|ws<|wa O<|wn<|aC<|aq<|aD (.tmp O .nil) (⟨by rw [iy (by (rw [eW,hb3,hb4])<;>rfl)]; rfl,H2.fr⟩)))
 refine wY hb4 (ab O Fa.eA<|wY hb4 (aj O (H2.cell (i:=0) O O) A41 O<|wY hb4 (bu A41 O (H2.arr hS)<|wY hb4 (cm (b:=8) O O<|wo (aN O hb4 O<|wm O (wF 23 (sg.length>8) (fun hb5 hc5=>?_) (fun hb5 hc5=>?_)))))))
 ·
  exact wN hb5<|wN hb5<|wN hb5<|wN hb5<|wo (aQ O hb5 O<|wn<|bX O O<|ws<|wa O<|wn<|aC<|aq<|aD (.tmp O .nil) (⟨by rw [iy (by (rw [eW,hb3,hb4,hb5])<;>rfl)]; rfl,H2.fr⟩))
 refine wY hb5 (ab O Fa.iU<|wY hb5 (aj O (H2.cell (i:=0) O O) A22 O<|wY hb5 (eQ (b:=8) O O (by decide)<|wY hb5 (eG (b:=0) O O<|wo (aN O hb5 O<|wn (wE ((en%(8:UInt32))≠(0:UInt32)) (fun hb6 hc6=>?_) (fun hb6 hc6=>?_)))))))
 ·
  exact ws<|wa O<|wn<|aC<|aq<|aD (.tmp O .nil) (⟨by rw [iy (by (rw [eW,hb3,hb4,hb5,hb6])<;>rfl)]; rfl,H2.fr⟩)
 refine aA<|ao<|ws<|wa O<|wn<|ws<|wa O<|wn<|ap<|ws<|wo (ab O Fa.eA<|wo (aj O (H2.cell (i:=0) O O) A41 O<|wo (bu A41 O (H2.arr hS)<|wm O<|wn<|aB<|bi (α:=Nat) (fun k=>[(1,(ptr b1 0)),(30,sv),(31,(vN sg.length)),(3,(cB (eY en sg k).1)),(4,(.bool (eY en sg k).2)),(32,(vN k))]) (fun k w'=>(k≤sg.length∧(∀j,j<k→ep (eY en sg j).1 (sg.getD j Sg.zero)=false))∧Ke [] w w' [.blk b1 [(aa pg),ev,pv,(.bool con),(aa en),sv] 43]) (fun k=>sg.length-k) 0 ⟨⟨Kk _,fun j h=>by omega⟩,H2⟩ ⟨rfl,rfl,rfl,rfl,rfl,rfl,trivial⟩ ?_)))
 rintro k w7 ⟨⟨hk1,hok⟩,H7⟩
 show WC _ _ _ _ _ [(1,(ptr b1 0)),(30,sv),(31,(vN sg.length)),(3,(cB (eY en sg k).1)),(4,(.bool (eY en sg k).2)),(32,(vN k))] _
 refine ws<|wo (bm O O<|wn<|ap (wE (k<sg.length) (fun hb8 hc8=>?_) (fun hb8 hc8=>?_)))
 ·
  refine aA<|ao<|ap<|aB<|ws<|wo (bJ A41 Fa.de O (H7.arr hS) O (by omega)<|wo (cH (vs:=sgc (sg.getD k Sg.zero)) O (Arr.atsF (H7.arr hS) (fun _=>rfl) (by decide) Sg.zero (by omega)) A116 O Fa.de O<|wo (bt H7 Fa.de (fun b9 w9 H9=>(wo (bw (i:=1) H9 O O O O O Fa.de (fun w10 H10=>(wn<|ap<|ws<|wo (ab O Fa.gB<|wo (aj O (H10.cell (i:=1) O O) A5 O<|wo (cq H10 (Kd 91) O (Bf ((sg.getD k Sg.zero).p) _) fun w11 H11=>(wo (cQ O<|wm O (wV 40 (!(kg ((sg.getD k Sg.zero).p))) (fun hb12=>?_) (fun hb12=>?_)))))))))))))))
  ·
   have hn12:=(Bool.not_eq_true' _).mp hb12
   exact wN hb12<|wN hb12<|wN hb12<|wN hb12<|wo (aQ O hb12 O<|wm O<|wN O<|wN O<|wN O<|wN O<|wN O<|wo (aQ O O O<|wm O<|wN O<|wN O<|wN O<|wo (aQ O O O<|wm O<|wN O<|wN O<|wN O<|wo (aQ O O O<|wn<|bX O O<|ws<|wa O<|wn<|aC<|aq<|aZ<|aq<|aq<|aZ<|aq<|aD (.tmp O .nil) (⟨by rw [lQ (k:=k) (by omega) (by (rw [ep,hn12])<;>rfl)]; rfl,H11.fr⟩)))))
  have hn12:=(Bool.not_eq_false' _).mp hb12
  refine wY hb12 (ab O Fa.dE<|wY hb12 (aj O (H11.cell (i:=1) O O) A22 O<|wY hb12 (eQ (b:=256) O O (by decide)<|wY hb12 (eG (b:=0) O O<|wo (aN O hb12 O<|wm O (wF 46 (((sg.getD k Sg.zero).a%(256:UInt32))≠(0:UInt32)) (fun hb13 hc13=>?_) (fun hb13 hc13=>?_)))))))
  ·
   exact wN hb13<|wN hb13<|wN hb13<|wN hb13<|wN hb13<|wo (aQ O hb13 O<|wm O<|wN O<|wN O<|wN O<|wo (aQ O O O<|wm O<|wN O<|wN O<|wN O<|wo (aQ O O O<|wn<|bX O O<|ws<|wa O<|wn<|aC<|aq<|aZ<|aq<|aq<|aZ<|aq<|aD (.tmp O .nil) (⟨by rw [lQ (k:=k) (by omega) (by (rw [ep,hn12,hb13])<;>rfl)]; rfl,H11.fr⟩))))
  refine wY hb13 (ab O Fa.dE<|wY hb13 (aj O (H11.cell (i:=1) O O) A22 O<|wY hb13 (cu (hs:=A22) (hd:=A154) O<|wY hb13 (au O<|wY hb13 (ri O O<|wo (aN O hb13 O<|wm O (wF 53 ((Kn (sg.getD k Sg.zero).a.toNat)<(eY en sg k).1) (fun hb14 hc14=>?_) (fun hb14 hc14=>?_))))))))
  ·
   exact wN hb14<|wN hb14<|wN hb14<|wo (aQ O hb14 O<|wm O<|wN O<|wN O<|wN O<|wo (aQ O O O<|wn<|bX O O<|ws<|wa O<|wn<|aC<|aq<|aZ<|aq<|aq<|aZ<|aq<|aD (.tmp O .nil) (⟨by rw [lQ (k:=k) (by omega) (by (rw [ep,hn12,hb13,hb14])<;>rfl)]; rfl,H11.fr⟩)))
  refine wY hb14 (ab O Fa.eJ<|wY hb14 (aj O (H11.cell (i:=1) O O) A9 O<|wY hb14 (zE O O<|wo (aN O hb14 O<|wm O (wF 58 ((sg.getD k Sg.zero).b=[]) (fun hb15 hc15=>?_) (fun hb15 hc15=>?_))))))
  ·
   exact wN hb15<|wN hb15<|wN hb15<|wo (aQ O hb15 O<|wn<|bX O O<|ws<|wa O<|wn<|aC<|aq<|aZ<|aq<|aq<|aZ<|aq<|aD (.tmp O .nil) (⟨by rw [lQ (k:=k) (by omega) (by (rw [ep,hn12,hb13,hb14,hb15])<;>rfl)]; rfl,H11.fr⟩))
  refine wY hb15 (aM (vs:=[_,_,_]) O (H11.cells (i:=1) O O) A116 O Fa.de O<|wY hb15 (cq H11 (Kd 92) O (ng (sg.getD k Sg.zero) _) fun w16 H16=>(wY hb15 (km (b:=131072) O O<|wo (aN O hb15 O<|wn (wE ((fv (sg.getD k Sg.zero))>(131072:UInt64)) (fun hb17 hc17=>?_) (fun hb17 hc17=>?_)))))))
  ·
   exact ws<|wa O<|wn<|aC<|aq<|aZ<|aq<|aq<|aZ<|aq<|aD (.tmp O .nil) (⟨by rw [lQ (k:=k) (by omega) (by (rw [ep,hn12,hb13,hb14,hb15,hb17])<;>rfl)]; rfl,H16.fr⟩)
  refine aA<|ao<|ws<|wo (aM (vs:=[_,_,_]) O (H16.cells (i:=1) O O) A116 O Fa.de O<|wo (cq H16 (Kd 92) O (ng (sg.getD k Sg.zero) _) fun w18 H18=>(wo (eH (b:=256) O O<|wo (mF (b:=1) O O<|wo (zy (b:=256) O O (by decide)<|wo (kj (b:=256) O O<|wa O<|wn (wB (eY en sg k).2 (fun hb19=>?_) (fun hb19=>?_)))))))))
  ·
   refine bn 24 Fa.M H18 (mh O<|mh O<|nh hb19<|nh hb19<|nh hb19<|nh hb19<|nh hb19<|uh<|uh<|uh<|uh<|uh<|nh hb19<|nh hb19<|uh<|uh<|uh<|uh<|uh<|uh<|uh<|nh hb19<|oh (fun w1 H1=>aQ O hb19 O zr)<|ah O  bD) (by kernel_rfl) ?_
   intro β20 w20 H20
   exact aY<|aE<|ao<|aG<|wo (aU (b:=1) O O (by omega)<|wm O<|aY<|aX (k+1) ⟨⟨by omega,cL hok (by (rw [ep,hn12,hb13,hb14,hb15,hb17])<;>rfl)⟩,(H20.take 1)⟩ ⟨rfl,rfl,rfl,rfl,(congrArg (fun b=>some (Value.bool b)) (show true=(eY en sg (k+1)).2 by (rw [nM,sgBegins,hb19])<;>rfl)),rfl,trivial⟩ (by omega))
  refine wG (((sg.getD k Sg.zero).p &&& (4:UInt8))≠(0:UInt8)) (fun hb21 hc21=>?_) (fun hb21 hc21=>?_)
  ·
   refine wG (en≥(sg.getD k Sg.zero).a) (fun hb22 hc22=>?_) (fun hb22 hc22=>?_)
   ·
    refine bn 24 Fa.M H18 (mh O<|mh O<|yh hb19 (fun w1 H1=>ab O Fa.gB zr)<|yh hb19 (fun w1 H1=>aj O (H1.cell (i:=1) O O) A5 O zr)<|yh hb19 (fun w1 H1=>lE (b:=4) O O zr)<|yh hb19 (fun w1 H1=>jK (b:=0) O O zr)<|yh hb19 (fun w1 H1=>au O zr)<|yh hb21 (fun w1 H1=>ab O Fa.iU zr)<|yh hb21 (fun w1 H1=>aj O (H1.cell (i:=0) O O) A22 O zr)<|yh hb21 (fun w1 H1=>ab O Fa.dE zr)<|yh hb21 (fun w1 H1=>aj O (H1.cell (i:=1) O O) A22 O zr)<|yh hb21 (fun w1 H1=>dM O O zr)<|yh hb19 (fun w1 H1=>aQ O hb21 O zr)<|yh hb19 (fun w1 H1=>au O zr)<|yh hb22 (fun w1 H1=>ab O Fa.iU zr)<|yh hb22 (fun w1 H1=>aj O (H1.cell (i:=0) O O) A22 O zr)<|yh hb22 (fun w1 H1=>cu (hs:=A22) (hd:=A154) O zr)<|yh hb22 (fun w1 H1=>eH (b:=8) O O zr)<|yh hb22 (fun w1 H1=>aM (vs:=[_,_,_]) O (H1.cells (i:=1) O O) A116 O Fa.de O zr)<|yh hb22 (fun w1 H1=>az (Kd 92) O ((ng (sg.getD k Sg.zero) _).mono (fun e w2 hq=>⟨_,hq.1,rfl,hq.2⟩)))<|yh hb22 (fun w1 H1=>rj O O zr)<|yh hb19 (fun w1 H1=>aQ O hb22 O zr)<|oh (fun w1 H1=>aN O hb19 O zr)<|ah O  bD) (by kernel_rfl) ?_
    intro β24 w24 H24
    exact aY<|aE<|ao<|aG<|wo (aU (b:=1) O O (by omega)<|wm O<|aY<|aX (k+1) ⟨⟨by omega,cL hok (by (rw [ep,hn12,hb13,hb14,hb15,hb17])<;>rfl)⟩,(H24.take 1)⟩ ⟨rfl,rfl,rfl,rfl,(congrArg (fun b=>some (Value.bool b)) (show (decide (((Kn en.toNat)+(8:UInt64))≤(fv (sg.getD k Sg.zero))))=(eY en sg (k+1)).2 by (rw [nM,sgBegins,hb19,hb21,hb22])<;>rfl)),rfl,trivial⟩ (by omega))
   refine bn 24 Fa.M H18 (mh O<|mh O<|yh hb19 (fun w1 H1=>ab O Fa.gB zr)<|yh hb19 (fun w1 H1=>aj O (H1.cell (i:=1) O O) A5 O zr)<|yh hb19 (fun w1 H1=>lE (b:=4) O O zr)<|yh hb19 (fun w1 H1=>jK (b:=0) O O zr)<|yh hb19 (fun w1 H1=>au O zr)<|yh hb21 (fun w1 H1=>ab O Fa.iU zr)<|yh hb21 (fun w1 H1=>aj O (H1.cell (i:=0) O O) A22 O zr)<|yh hb21 (fun w1 H1=>ab O Fa.dE zr)<|yh hb21 (fun w1 H1=>aj O (H1.cell (i:=1) O O) A22 O zr)<|yh hb21 (fun w1 H1=>dM O O zr)<|yh hb19 (fun w1 H1=>aQ O hb21 O zr)<|yh hb19 (fun w1 H1=>au O zr)<|nh hb22<|nh hb22<|nh hb22<|nh hb22<|nh hb22<|nh hb22<|nh hb22<|yh hb19 (fun w1 H1=>aN O hb22 O zr)<|oh (fun w1 H1=>aN O hb19 O zr)<|ah O  bD) (by kernel_rfl) ?_
   intro β25 w25 H25
   exact aY<|aE<|ao<|aG<|wo (aU (b:=1) O O (by omega)<|wm O<|aY<|aX (k+1) ⟨⟨by omega,cL hok (by (rw [ep,hn12,hb13,hb14,hb15,hb17])<;>rfl)⟩,(H25.take 1)⟩ ⟨rfl,rfl,rfl,rfl,(congrArg (fun b=>some (Value.bool b)) (show false=(eY en sg (k+1)).2 by (rw [nM,sgBegins,hb19,hb21,hb22])<;>rfl)),rfl,trivial⟩ (by omega))
  refine bn 24 Fa.M H18 (mh O<|mh O<|yh hb19 (fun w1 H1=>ab O Fa.gB zr)<|yh hb19 (fun w1 H1=>aj O (H1.cell (i:=1) O O) A5 O zr)<|yh hb19 (fun w1 H1=>lE (b:=4) O O zr)<|yh hb19 (fun w1 H1=>jK (b:=0) O O zr)<|yh hb19 (fun w1 H1=>au O zr)<|nh hb21<|nh hb21<|nh hb21<|nh hb21<|nh hb21<|yh hb19 (fun w1 H1=>aN O hb21 O zr)<|yh hb19 (fun w1 H1=>au O zr)<|nh O<|nh O<|nh O<|nh O<|nh O<|nh O<|nh O<|yh hb19 (fun w1 H1=>aN O O O zr)<|oh (fun w1 H1=>aN O hb19 O zr)<|ah O  bD) (by kernel_rfl) ?_
  intro β26 w26 H26
  exact aY<|aE<|ao<|aG<|wo (aU (b:=1) O O (by omega)<|wm O<|aY<|aX (k+1) ⟨⟨by omega,cL hok (by (rw [ep,hn12,hb13,hb14,hb15,hb17])<;>rfl)⟩,(H26.take 1)⟩ ⟨rfl,rfl,rfl,rfl,(congrArg (fun b=>some (Value.bool b)) (show false=(eY en sg (k+1)).2 by (rw [nM,sgBegins,hb19,hb21])<;>rfl)),rfl,trivial⟩ (by omega))
 refine bc<|an<|an<|aS<|ao<|ap<|ws<|wm O<|wo (cQ O<|wn (wC (!(eY en sg k).2) (fun hb27=>?_) (fun hb27=>?_)))
 ·
  have hn27:=(Bool.not_eq_true' _).mp hb27
  exact ws<|wa O<|wn<|aC<|aq<|aD (.tmp O .nil) (⟨by rw [ya (by (rw [eW,hb3,hb4,hb5,hb6])<;>rfl) (fun j hj=>hok j (by omega)),show sg.length=k by omega,hn27]; rfl,H7.fr⟩)
 have hn27:=(Bool.not_eq_false' _).mp hb27
 exact aA<|ao<|ws<|wa O<|wn<|aC<|aD (.tmp O .nil) (⟨by rw [ya (by (rw [eW,hb3,hb4,hb5,hb6])<;>rfl) (fun j hj=>hok j (by omega)),show sg.length=k by omega,hn27]; rfl,H7.fr⟩)
theorem DA (b:Nat) (v:Value) (T0:TypeId) (T:List Nat) (w:World) (H:Ke T w w [.blk b [(.pointer none),v] T0]) (hc:Tryz.prog.cellsOf T0=2) (hl:liesAt Kf Tryz.prog.depth T0 1 0 175 1=true) :
  Calls Kf 150 #[(ptr b 0)] w (fun e w'=>e=.returned undef∧Ke T w w' [.blk b [ptr b 0,v] T0]):=by
 exact enter Tryz.func150 O O<|ws<|wm O<|wo (aJ O<|wo (ab O Fa.qa<|wo (aj O (H.cell (i:=0) O O) A173 O<|wo (bG Fa.Cv O O<|wn<|bX O O<|aG<|wm O<|wm O<|wo (wz (i:=0) H A173 A285 Fa.xe O O O<|wo (wD Tryz.func186 (by kernel_rfl) (by kernel_rfl) (by kernel_rfl) (by kernel_rfl) O<|wo (uv (i:=0) H A285 A173 Fa.xe O O O hc hl<|wo (aJ O<|wo (ab O Fa.qa<|wo (bC (i:=0) H O O O O O Fa.Ir (fun w1 H1=>(aY<|WQ.outEnd .nil (⟨rfl,H1⟩)))))))))))))
theorem Dz (b:Nat) (v:Value) (T0:TypeId) (T:List Nat) (w:World) (H:Ke T w w [.blk b [(ptr b 0),v] T0]) (_hc:Tryz.prog.cellsOf T0=2) (_hl:liesAt Kf Tryz.prog.depth T0 1 0 175 1=true) :
  Calls Kf 150 #[(ptr b 0)] w (fun e w'=>e=.returned undef∧Ke T w w' [.blk b [ptr b 0,v] T0]):=by
 exact enter Tryz.func150 O O<|ws<|wm O<|wo (aJ O<|wo (ab O Fa.qa<|wo (aj O (H.cell (i:=0) O O) A173 O<|wo (bG Fa.Cv O O<|wn<|bF O O<|ws<|wm O<|wo (aJ O<|wo (ab O Fa.qa<|wo (aj O (H.cell (i:=0) O O) A173 O<|wm O<|wo (Bj A173 Fa.xe O O<|wn<|bF O O<|aA<|WQ.outEnd .nil (⟨rfl,H⟩)))))))))
theorem Fy (b:Nat) (A v:Value) (T0:TypeId) (T:List Nat) (w:World) (H:Ke T w w [.blk b [A,v] T0]) (hA:A=.pointer none∨A=ptr b 0) (hc:Tryz.prog.cellsOf T0=2) (hl:liesAt Kf Tryz.prog.depth T0 1 0 175 1=true) :
    Calls Kf 150 #[ptr b 0] w (fun e w'=>e=.returned undef∧Ke T w w' [.blk b [ptr b 0,v] T0]):=by
  rcases hA with rfl | rfl
  · exact DA b v T0 T w H hc hl
  · exact Dz b v T0 T w H hc hl
theorem sA (b:Nat) (A v:Value) (n:Nat) (bs s:List UInt8) (T0:TypeId) (T:List Nat) (w:World) (H:Ke T w w [.blk b [A,v] T0,.row v 5 1 n (Kg vU8 bs)]) (hA:A=.pointer none∨A=ptr b 0) (hc:Tryz.prog.cellsOf T0=2) (hl:liesAt Kf Tryz.prog.depth T0 1 0 175 1=true) (hs:n+s.length<2^46) :
  Calls Kf 106 #[(ptr b 0),(str s)] w (fun e w'=> ∃v,e=.returned (.tuple #[vN s.length,.nilIface])∧Ke T w w' [.blk b [ptr b 0,v] T0,.row v 5 1 (n+s.length) (Kg vU8 (bs++s))]):=by
 refine enter Tryz.func106 O O<|ws<|wa O<|wa O<|wn<|ws<|wm O<|wo (az (Kd 150) O ((Fy b A v T0 _ _ (H.part [0] O O) hA hc hl).mono (fun e w1 hq=>?_)))
 obtain ⟨rfl,hq1⟩:=hq
 refine ⟨_,rfl,?_⟩
 have H1:=H.splice [0] [.blk b [(ptr b 0),v] T0] [] O O hq1 (am ae aI)
 exact wn<|ws<|wm O<|wm O<|wo (aJ O<|wo (ab O Fa.pZ<|wo (aj O (H1.cell (i:=0) O O) A114 O<|wm O<|wo (cx (f:=vU8) (l:=bs) (l':=s) (i:=1) H1 A114 Fa.I5 O O O O (Src.ofStr A9) (cV (fun _=>rfl)) (by omega) (by omega) (fun v2 w2 H2=>(wo (aJ O<|wo (ab O Fa.pZ<|wo (bC (i:=0) H2 O O O O (bS (H2.arrR (i:=1) O)) Fa.CB (fun w3 H3=>(wn<|ws<|wm O<|wo (bH A9 O<|wa O<|wa O<|wn<|aC<|aD (.tmp O (.tmp O .nil)) (⟨_,rfl,H3⟩)))))))))))))
theorem DB (b:Nat) (A:Value) (n:Nat) (bs:List UInt8) (T0:TypeId) (a0:Option Addr) (cap:Nat) (T:List Nat) (w:World) (H:Ke T w w [.blk b [A,(.slice a0 n cap)] T0,.row (.slice a0 n cap) 5 1 n (Kg vU8 bs)]) (hz:a0=none∨cap≠0) :
  Calls Kf 109 #[(ptr b 0)] w (fun e w'=>e=.returned (str bs)∧Fr T w w'):=by
 refine enter Tryz.func109 O O<|ws<|wa O<|wn<|ap<|bn 10 Fa.M H (mh O<|oh (fun w1 H1=>aJ O zr)<|oh (fun w1 H1=>ab O Fa.pZ zr)<|oh (fun w1 H1=>aj O (H1.cell (i:=0) O O) A114 O zr)<|oh (fun w1 H1=>ve O hz zr)<|mh O<|oh (fun w1 H1=>aJ O zr)<|oh (fun w1 H1=>ab O Fa.pZ zr)<|oh (fun w1 H1=>aj O (H1.cell (i:=0) O O) A114 O zr)<|oh (fun w1 H1=>bu A114 O (H1.arrR (i:=1) O) zr)  bD) (by kernel_rfl) ?_
 intro β1 w1 H1
 exact wo (rN (i:=1) H1 O A243 Fa.CO5 O O (fun w2 H2=>(wa O<|wn<|aC<|aD (.tmp O .nil) (⟨rfl,H1.frPart (I:=[1]) O H2⟩))))
theorem AX (b:Nat) (A v:Value) (n:Nat) (bs:List UInt8) (T0:TypeId) (T:List Nat) (w:World) (H:Ke T w w [.blk b [A,v] T0,.row v 5 1 n (Kg vU8 bs)]) (hz:v=.slice none 0 0∨n≠0) :
  Calls Kf 109 #[ptr b 0] w (fun e w'=>e=.returned (str bs)∧Fr T w w'):=by
 obtain ⟨a0,cap,rfl,h⟩:=H.rowForm (i:=1) O hz
 exact DB b A n bs T0 a0 cap T w H h
theorem DR (b:Nat) (v lv:Value) (q:Nat) (bs:List UInt8) (l:List UInt32) (n:Nat) (T:List Nat) (w:World) (H:Ke T w w [.blk b [(ptr b 0),v] 249,.row v 5 1 q (Kg vU8 bs)]) (hA: ∀w1,Fr T w w1→Arr w1 lv 1 l.length (Kg aa l)) (hb:q+4 * l.length<2^46) :
  Calls Kf 156 #[(ptr b 0),(vN n),lv] w (fun e w'=> ∃v',e=.returned undef∧Ke T w w' [.blk b [ptr b 0,v'] 249,.row v' 5 1 (bs++(fh l n l.length)).length (Kg vU8 (bs++(fh l n l.length)))]):=by
 refine enter Tryz.func156 O O ?_
 obtain rfl:bs.length=q:=Ee H (i:=1) O
 refine ws<|wm O<|wo (bu A73 O (hA _ H.fr)<|wm O<|wn<|aB<|bi (α:=Nat × Value) (fun (k,v2)=>[(0,(ptr b 0)),(1,(vN n)),(10,lv),(11,(vN l.length)),(12,(vN k))]) (fun (k,v2) w'=>(k≤l.length)∧Ke T w w' [.blk b [(ptr b 0),v2] 249,.row v2 5 1 (bs++(fh l n k)).length (Kg vU8 (bs++(fh l n k)))]) (fun (k,v2)=>l.length-k) (0,v) ⟨Kk _,(cM (i:=1) (f:=vU8) H O (List.append_nil bs).symm (by rw [fh,List.append_nil]))⟩ ⟨rfl,rfl,rfl,rfl,rfl,trivial⟩ ?_)
 rintro ⟨k,v2⟩ w1 ⟨hinv,H1⟩
 show WC _ _ _ _ _ [(0,(ptr b 0)),(1,(vN n)),(10,lv),(11,(vN l.length)),(12,(vN k))] _
 have hnl:=pJ l n k
 have hnk:=cG (l.getD k 0) n
 refine ws<|wo (bm O O<|wn<|ap (wE (k<l.length) (fun hb2 hc2=>?_) (fun hb2 hc2=>?_)))
 ·
  refine aA<|ao<|ap<|aB<|ws<|wo (aF A73 Fa.I22 O (hA _ H1.fr) O (by omega)<|wo (aj O ((hA _ H1.fr).at (aR aa 0 (aV (hA _ H1.fr) (by omega)))) A22 O<|wa O<|wn<|ws<|wm O<|wm O<|wo (cq H1 (Kd 196) O (FK (l.getD k 0) ((n:Nat)) _) fun w3 H3=>(wm O<|we O O<|we O O<|wa O<|wa O<|wn<|aG<|wm O<|wo (aJ O<|wo (ab O Fa.pY<|wm O<|wo (az (Kd 106) O ((sA b (ptr b 0) v2 (bs++(fh l n k)).length (bs++(fh l n k)) (bR (l.getD k 0) (n:Nat)) 249 _ _ (H3.part [0,1] O O) (.inr O) Fa.xd Fa.mT (by rw [Kj]; omega)).mono (fun e w4 hq=>?_)))))))))
  obtain ⟨v4,rfl,hq4⟩:=hq
  refine ⟨_,rfl,?_⟩
  have H4:=H3.splice [0,1] [.blk b [(ptr b 0),v4] 249,.row v4 5 1 ((bs++(fh l n k)).length+(bR (l.getD k 0) (n:Nat)).length) (Kg vU8 ((bs++(fh l n k))++(bR (l.getD k 0) (n:Nat))))] [] O O hq4 (am ae (am ae aI))
  exact aY<|aE<|ao<|aG<|wo (aU (b:=1) O O (by omega)<|wm O<|aY<|aX (k+1,v4) ⟨(by omega),(cM (i:=1) (f:=vU8) H4 O (List.append_assoc ..) (by rw [fh]; simp only [Kj]; omega))⟩ ⟨rfl,rfl,rfl,rfl,rfl,trivial⟩ (by show l.length-(k+1)<l.length-k; omega))
 exact bc<|an<|an<|aS<|WQ.outEnd .nil (⟨_,rfl,(by have e:k=l.length:=(by omega); have h:=(show Ke T w w1 [.blk b [(ptr b 0),v2] 249,.row v2 5 1 (bs++(fh l n k)).length (Kg vU8 (bs++(fh l n k)))] from H1); rw [e] at h; exact h)⟩)
theorem eM (b:Nat) (v lv:Value) (q:Nat) (bs:List UInt8) (u:UInt32) (n:Nat) (T:List Nat) (w:World) (H:Ke T w w [.blk b [ptr b 0,v] 249,.row v 5 1 q (Kg vU8 bs)]) (hA: ∀w1,Fr T w w1→Arr w1 lv 1 1 (Kg aa [u])) (hb:q<2^45) :
  Calls Kf 156 #[ptr b 0,vN n,lv] w (fun e w'=> ∃v',e=.returned undef∧Ke T w w' [.blk b [ptr b 0,v'] 249,.row v' 5 1 (bs++bR u n).length (Kg vU8 (bs++bR u n))]):=by
 have h:=DR b v lv q bs [u] n T w H hA (by show q+4 * 1<2^46; omega)
 rw [show fh [u] n [u].length=bR u n from List.nil_append _] at h
 exact h
set_option maxHeartbeats 8000000
theorem En (pg:UInt32) (ev pv sv:Value) (xs:List Xt) (ps:List UInt16) (con:Bool) (en:UInt32) (sg:List Sg) (w:World) (hE:Arr w ev 2 xs.length (Kh xtc xs)) (hP:Arr w pv 1 ps.length (Kg bA ps)) (hS:Arr w sv 3 sg.length (Kh sgc sg)) (bx:xs.length≤2^20) (bp:ps.length≤2^20) (bs:sg.length≤2^10) (bb: ∀x∈sg,x.b.length≤2^30) :
  Calls Kf 113 #[(.agg #[(aa pg),ev,pv,(.bool con),(aa en),sv])] w (fun e w'=>e=.returned (.tuple #[str (imB pg xs ps con en sg),vN (imE pg xs ps en sg)])∧Fr [] w w'):=by
 refine enter Tryz.func113 O O ?_
 have H0:=aL w []
 have hq1:=oN pg xs
 have hq2:=oM pg xs ps
 have hq3:=tu pg xs ps con en sg
 refine ws<|wo (bK H0 O O (fun b1 w1 H1=>(wa O<|wa O<|wn<|ap<|ws<|wo (aM (vs:=[_,_,_,_,_,_]) O (H1.cells (i:=0) O O) A43 O Fa.I43 O<|wo (cq H1 (Kd 41) O (kr pg _ _ _ xs ps con en sg _ (H1.arr hE) (H1.arr hP) (H1.arr hS) (by omega) (by omega) (by omega)) fun w2 H2=>(wa O<|wn<|ws<|wm O<|wo (bI (b:=0) O O<|wn (wE ((imE pg xs ps en sg)≠0) (fun hb3 hc3=>?_) (fun hb3 hc3=>?_)))))))))
 ·
  refine ws<|wm O<|wa O<|wa O<|wn<|aC<|aq<|aD (.tmp O (.tmp O .nil)) ?_
  have h2:=hc3
  rw [imB,if_neg h2]
  exact ⟨rfl,H2.fr⟩
 refine aA<|ao<|ws<|wo (bt H2 Fa.Ii (fun b4 w4 H4=>(wn<|ws ?_)))
 have H5:=H4.nilRow 5 1
 refine wo (ab O Fa.pY<|wo (az (Kd 106) O ((sA b4 (.pointer none) (.slice none 0 0) 0 ([]) ([65,73,77,49]) 249 _ _ (H5.part [1,2] O O) (.inl O) Fa.xd Fa.mT (by first | (show 0+4<2^46; decide) | (simp only [Kj]; omega))).mono (fun e w6 hq=>?_))))
 obtain ⟨v6,rfl,hq6⟩:=hq
 refine ⟨_,rfl,?_⟩
 have H6:=H5.splice [1,2] [.blk b4 [(ptr b4 0),v6] 249,.row v6 5 1 (0+ [65,73,77,49].length) (Kg vU8 ([]++[65,73,77,49]))] [] O O hq6 (am ae (am ae aI))
 refine wn<|ws<|wo (ab O Fa.cZ<|wo (ab O Fa.im<|wo (aj O (H6.cell (i:=0) O O) A22 O<|wo (aW (cs:=[_]) H6 A73 Fa.I22 O O O O (by decide) (by decide) (fun b7 w7 H7=>(wo (az (Kd 156) O ((eM b4 v6 (.slice (some ⟨b7,0,none⟩) 1 1) (0+ [65,73,77,49].length) ([]++[65,73,77,49]) pg 4 _ _ (H7.part [1,2] O O) (H7.stayR (I:=[1,2]) (k:=3) O O O) (by (try simp only [List.length_cons,List.length_nil]); omega)).mono (fun e w8 hq=>?_)))))))))
 obtain ⟨v8,rfl,hq8⟩:=hq
 refine ⟨_,rfl,?_⟩
 have H8:=H7.splice [1,2] [.blk b4 [(ptr b4 0),v8] 249,.row v8 5 1 (([]++[65,73,77,49])++(bR pg 4)).length (Kg vU8 (([]++[65,73,77,49])++(bR pg 4)))] [] O O hq8 (am ae (am ae aI))
 refine wn<|ws<|wo (ab O Fa.cZ<|wo (ab O Fa.da<|wo (aj O (H8.cell (i:=0) O O) A37 O<|wo (bu A37 O (H8.arr hE)<|wo (dB (hs:=A3) (hd:=A22) O<|wo (aW (cs:=[_]) H8 A73 Fa.I22 O O O O (by decide) (by decide) (fun b9 w9 H9=>(wo (az (Kd 156) O ((eM b4 v8 (.slice (some ⟨b9,0,none⟩) 1 1) (([]++[65,73,77,49])++(bR pg 4)).length (([]++[65,73,77,49])++(bR pg 4)) (Kl xs.length) 1 _ _ (H9.part [1,2] O O) (H9.stayR (I:=[1,2]) (k:=4) O O O) (by have:=cG pg 4; (try simp only [Kj,List.length_cons,List.length_nil]); omega)).mono (fun e w10 hq=>?_)))))))))))
 obtain ⟨v10,rfl,hq10⟩:=hq
 refine ⟨_,rfl,?_⟩
 have H10:=H9.splice [1,2] [.blk b4 [(ptr b4 0),v10] 249,.row v10 5 1 ((([]++[65,73,77,49])++(bR pg 4))++(bR (Kl xs.length) 1)).length (Kg vU8 ((([]++[65,73,77,49])++(bR pg 4))++(bR (Kl xs.length) 1)))] [] O O hq10 (am ae (am ae aI))
 refine wn<|ap<|ws ?_
 have H11:Ke [] w w10 [.blk b1 [(aa pg),ev,pv,(.bool con),(aa en),sv] 43,.blk b4 [(ptr b4 0),v10] 249,.row v10 5 1 (gu pg xs).length (Kg vU8 (gu pg xs)),.row (.slice (some ⟨b7,0,none⟩) 1 1) 22 1 1 (Kg aa [pg]),.row (.slice (some ⟨b9,0,none⟩) 1 1) 22 1 1 (Kg aa [(Kl xs.length)])]:=cM (i:=2) (f:=vU8) H10 O O O
 refine wo (ab O Fa.cZ<|wo (ab O Fa.da<|wo (aj O (H11.cell (i:=0) O O) A37 O<|wo (bu A37 O (H11.arr hE)<|wm O<|wn<|aB<|bi (α:=Nat × Value) (fun (k,x)=>[(1,(ptr b1 0)),(5,(ptr b4 0)),(34,ev),(35,(vN xs.length)),(36,(vN k))]) (fun (k,x) w'=>(k≤xs.length)∧Ke [] w w' [.blk b1 [(aa pg),ev,pv,(.bool con),(aa en),sv] 43,.blk b4 [(ptr b4 0),x] 249,.row x 5 1 ((gu pg xs)++ez xs k).length (Kg vU8 ((gu pg xs)++ez xs k)),.row (.slice (some ⟨b7,0,none⟩) 1 1) 22 1 1 (Kg aa [pg]),.row (.slice (some ⟨b9,0,none⟩) 1 1) 22 1 1 (Kg aa [(Kl xs.length)])]) (fun (k,x)=>xs.length-k) (0,v10) ⟨Kk _,(cM (i:=2) (f:=vU8) H11 O (List.append_nil _).symm (congrArg List.length (List.append_nil _).symm))⟩ ⟨rfl,rfl,rfl,rfl,rfl,trivial⟩ ?_))))
 rintro ⟨k,x⟩ w12 ⟨hk1,H12⟩
 show WC _ _ _ _ _ [(1,(ptr b1 0)),(5,(ptr b4 0)),(34,ev),(35,(vN xs.length)),(36,(vN k))] _
 have hq1:=oN pg xs
 have hqx:=ow xs k
 refine ws<|wo (bm O O<|wn<|ap (wE (k<xs.length) (fun hb13 hc13=>?_) (fun hb13 hc13=>?_)))
 ·
  refine aA<|ao<|ap<|aB<|ws<|wo (bJ A37 Fa.cR O (H12.arr hE) O (by omega)<|wo (cH (vs:=xtc (xs.getD k Xt.zero)) O (Arr.atsF (H12.arr hE) (fun _=>rfl) (by decide) Xt.zero (by omega)) A207 O Fa.cR O<|wo (bt H12 Fa.cR (fun b14 w14 H14=>(wo (bw (i:=5) H14 O O O O O Fa.cR (fun w15 H15=>(wn<|ws<|wo (ab O Fa.ey<|wo (aj O (H15.cell (i:=5) O O) A22 O<|wo (aW (cs:=[_]) H15 A73 Fa.I22 O O O O (by decide) (by decide) (fun b16 w16 H16=>(wo (az (Kd 156) O ((eM b4 x (.slice (some ⟨b16,0,none⟩) 1 1) ((gu pg xs)++ez xs k).length ((gu pg xs)++ez xs k) ((xs.getD k Xt.zero).id) 1 _ _ (H16.part [1,2] O O) (H16.stayR (I:=[1,2]) (k:=6) O O O) (by (try simp only [Kj]); omega)).mono (fun e w17 hq=>?_))))))))))))))))
  obtain ⟨v17,rfl,hq17⟩:=hq
  refine ⟨_,rfl,?_⟩
  have H17:=H16.splice [1,2] [.blk b4 [(ptr b4 0),v17] 249,.row v17 5 1 (((gu pg xs)++ez xs k)++(bR ((xs.getD k Xt.zero).id) 1)).length (Kg vU8 (((gu pg xs)++ez xs k)++(bR ((xs.getD k Xt.zero).id) 1)))] [] O O hq17 (am ae (am ae aI))
  refine wn<|aG<|wo (ab O Fa.fW<|wo (aj O (H17.cell (i:=5) O O) A22 O<|wo (aW (cs:=[_]) H17 A73 Fa.I22 O O O O (by decide) (by decide) (fun b18 w18 H18=>(wo (az (Kd 156) O ((eM b4 v17 (.slice (some ⟨b18,0,none⟩) 1 1) (((gu pg xs)++ez xs k)++(bR ((xs.getD k Xt.zero).id) 1)).length (((gu pg xs)++ez xs k)++(bR ((xs.getD k Xt.zero).id) 1)) ((xs.getD k Xt.zero).bl) 2 _ _ (H18.part [1,2] O O) (H18.stayR (I:=[1,2]) (k:=7) O O O) (by have:=cG ((xs.getD k Xt.zero).id) 1; (try simp only [Kj]); omega)).mono (fun e w19 hq=>?_))))))))
  obtain ⟨v19,rfl,hq19⟩:=hq
  refine ⟨_,rfl,?_⟩
  have H19:=H18.splice [1,2] [.blk b4 [(ptr b4 0),v19] 249,.row v19 5 1 ((((gu pg xs)++ez xs k)++(bR ((xs.getD k Xt.zero).id) 1))++(bR ((xs.getD k Xt.zero).bl) 2)).length (Kg vU8 ((((gu pg xs)++ez xs k)++(bR ((xs.getD k Xt.zero).id) 1))++(bR ((xs.getD k Xt.zero).bl) 2)))] [] O O hq19 (am ae (am ae aI))
  exact aY<|aE<|ao<|aG<|wo (aU (b:=1) O O (by omega)<|wm O<|aY<|aX (k+1,v19) ⟨(by omega),(by have h:=(show Ke [] w w19 [.blk b1 [(aa pg),ev,pv,(.bool con),(aa en),sv] 43,.blk b4 [(ptr b4 0),v19] 249,.row v19 5 1 ((((gu pg xs)++ez xs k)++(bR ((xs.getD k Xt.zero).id) 1))++(bR ((xs.getD k Xt.zero).bl) 2)).length (Kg vU8 ((((gu pg xs)++ez xs k)++(bR ((xs.getD k Xt.zero).id) 1))++(bR ((xs.getD k Xt.zero).bl) 2))),.row (.slice (some ⟨b7,0,none⟩) 1 1) 22 1 1 (Kg aa [pg]),.row (.slice (some ⟨b9,0,none⟩) 1 1) 22 1 1 (Kg aa [(Kl xs.length)])] from (H19.take 5)); exact cM (i:=2) (f:=vU8) h O (by simp only [ez,List.append_assoc]) (by simp only [ez,List.append_assoc,Kj]; try omega))⟩ ⟨rfl,rfl,rfl,rfl,rfl,trivial⟩ (by show xs.length-(k+1)<xs.length-k; omega))
 refine bc<|an<|an<|aS<|ao<|ws<|wo (ab O Fa.cZ<|wo (ab O Fa.di<|wo (aj O (H12.cell (i:=0) O O) A38 O<|wo (bu A38 O (H12.arr hP)<|wo (dB (hs:=A3) (hd:=A22) O<|wo (aW (cs:=[_]) H12 A73 Fa.I22 O O O O (by decide) (by decide) (fun b20 w20 H20=>(wo (az (Kd 156) O ((eM b4 x (.slice (some ⟨b20,0,none⟩) 1 1) ((gu pg xs)++ez xs k).length ((gu pg xs)++ez xs k) (Kl ps.length) 1 _ _ (H20.part [1,2] O O) (H20.stayR (I:=[1,2]) (k:=5) O O O) (by (try simp only [Kj]); omega)).mono (fun e w21 hq=>?_)))))))))))
 obtain ⟨v21,rfl,hq21⟩:=hq
 refine ⟨_,rfl,?_⟩
 have H21:=H20.splice [1,2] [.blk b4 [(ptr b4 0),v21] 249,.row v21 5 1 (((gu pg xs)++ez xs k)++(bR (Kl ps.length) 1)).length (Kg vU8 (((gu pg xs)++ez xs k)++(bR (Kl ps.length) 1)))] [] O O hq21 (am ae (am ae aI))
 refine wn<|ap<|ws ?_
 obtain rfl:k=xs.length:=by omega
 have H22:Ke [] w w21 [.blk b1 [(aa pg),ev,pv,(.bool con),(aa en),sv] 43,.blk b4 [(ptr b4 0),v21] 249,.row v21 5 1 (fB pg xs ps).length (Kg vU8 (fB pg xs ps)),.row (.slice (some ⟨b7,0,none⟩) 1 1) 22 1 1 (Kg aa [pg]),.row (.slice (some ⟨b9,0,none⟩) 1 1) 22 1 1 (Kg aa [(Kl xs.length)]),.row (.slice (some ⟨b20,0,none⟩) 1 1) 22 1 1 (Kg aa [(Kl ps.length)])]:=cM (i:=2) (f:=vU8) H21 O O O
 refine wo (ab O Fa.cZ<|wo (ab O Fa.di<|wo (aj O (H22.cell (i:=0) O O) A38 O<|wo (bu A38 O (H22.arr hP)<|wm O<|wn<|aB<|bi (α:=Nat × Value) (fun (j,x)=>[(1,(ptr b1 0)),(5,(ptr b4 0)),(58,pv),(59,(vN ps.length)),(60,(vN j))]) (fun (j,x) w'=>(j≤ps.length)∧Ke [] w w' [.blk b1 [(aa pg),ev,pv,(.bool con),(aa en),sv] 43,.blk b4 [(ptr b4 0),x] 249,.row x 5 1 ((fB pg xs ps)++dS ps j).length (Kg vU8 ((fB pg xs ps)++dS ps j)),.row (.slice (some ⟨b7,0,none⟩) 1 1) 22 1 1 (Kg aa [pg]),.row (.slice (some ⟨b9,0,none⟩) 1 1) 22 1 1 (Kg aa [(Kl xs.length)]),.row (.slice (some ⟨b20,0,none⟩) 1 1) 22 1 1 (Kg aa [(Kl ps.length)])]) (fun (j,x)=>ps.length-j) (0,v21) ⟨Kk _,(cM (i:=2) (f:=vU8) H22 O (List.append_nil _).symm (congrArg List.length (List.append_nil _).symm))⟩ ⟨rfl,rfl,rfl,rfl,rfl,trivial⟩ ?_))))
 rintro ⟨j,x⟩ w23 ⟨hj1,H23⟩
 show WC _ _ _ _ _ [(1,(ptr b1 0)),(5,(ptr b4 0)),(58,pv),(59,(vN ps.length)),(60,(vN j))] _
 have hq2:=oM pg xs ps
 have hqp:=oy ps j
 refine ws<|wo (bm O O<|wn<|ap (wE (j<ps.length) (fun hb24 hc24=>?_) (fun hb24 hc24=>?_)))
 ·
  refine aA<|ao<|ap<|aB<|ws<|wo (aF A38 Fa.fV O (H23.arr hP) O (by omega)<|wo (aj O ((H23.arr hP).at (aR bA 0 (aV (H23.arr hP) (by omega)))) A203 O<|wa O<|wn<|aG<|wm O<|wo (uw (hs:=A203) (hd:=A22) O<|wo (aW (cs:=[_]) H23 A73 Fa.I22 O O O O (by decide) (by decide) (fun b25 w25 H25=>(wo (az (Kd 156) O ((eM b4 x (.slice (some ⟨b25,0,none⟩) 1 1) ((fB pg xs ps)++dS ps j).length ((fB pg xs ps)++dS ps j) (Kl (ps.getD j 0).toNat) 2 _ _ (H25.part [1,2] O O) (H25.stayR (I:=[1,2]) (k:=6) O O O) (by (try simp only [Kj]); omega)).mono (fun e w26 hq=>?_)))))))))
  obtain ⟨v26,rfl,hq26⟩:=hq
  refine ⟨_,rfl,?_⟩
  have H26:=H25.splice [1,2] [.blk b4 [(ptr b4 0),v26] 249,.row v26 5 1 (((fB pg xs ps)++dS ps j)++(bR (Kl (ps.getD j 0).toNat) 2)).length (Kg vU8 (((fB pg xs ps)++dS ps j)++(bR (Kl (ps.getD j 0).toNat) 2)))] [] O O hq26 (am ae (am ae aI))
  exact aY<|aE<|ao<|aG<|wo (aU (b:=1) O O (by omega)<|wm O<|aY<|aX (j+1,v26) ⟨(by omega),(by have h:=(show Ke [] w w26 [.blk b1 [(aa pg),ev,pv,(.bool con),(aa en),sv] 43,.blk b4 [(ptr b4 0),v26] 249,.row v26 5 1 (((fB pg xs ps)++dS ps j)++(bR (Kl (ps.getD j 0).toNat) 2)).length (Kg vU8 (((fB pg xs ps)++dS ps j)++(bR (Kl (ps.getD j 0).toNat) 2))),.row (.slice (some ⟨b7,0,none⟩) 1 1) 22 1 1 (Kg aa [pg]),.row (.slice (some ⟨b9,0,none⟩) 1 1) 22 1 1 (Kg aa [(Kl xs.length)]),.row (.slice (some ⟨b20,0,none⟩) 1 1) 22 1 1 (Kg aa [(Kl ps.length)])] from (H26.take 6)); exact cM (i:=2) (f:=vU8) h O (by simp only [dS,List.append_assoc]) (by simp only [dS,List.append_assoc,Kj]; try omega))⟩ ⟨rfl,rfl,rfl,rfl,rfl,trivial⟩ (by show ps.length-(j+1)<ps.length-j; omega))
 refine bc<|an<|an<|aS<|ao<|ws<|wa O<|wn<|WC.cut (α:=Unit) (fun _=>[(1,(ptr b1 0)),(5,(ptr b4 0)),(10,(aa (fM con)))]) (fun _ w'=>Ke [] w w' [.blk b1 [(aa pg),ev,pv,(.bool con),(aa en),sv] 43,.blk b4 [(ptr b4 0),x] 249,.row x 5 1 ((fB pg xs ps)++dS ps j).length (Kg vU8 ((fB pg xs ps)++dS ps j)),.row (.slice (some ⟨b7,0,none⟩) 1 1) 22 1 1 (Kg aa [pg]),.row (.slice (some ⟨b9,0,none⟩) 1 1) 22 1 1 (Kg aa [(Kl xs.length)]),.row (.slice (some ⟨b20,0,none⟩) 1 1) 22 1 1 (Kg aa [(Kl ps.length)])]) ?_ ?_
 ·
  refine ws<|wo (ab O Fa.cZ<|wo (ab O Fa.qF<|wo (aj O (H23.cell (i:=0) O O) A4 O<|wn (wC con (fun hb27=>?_) (fun hb27=>?_)))))
  ·
   exact aG<|wa O<|aY<|cd () H23 ⟨rfl,rfl,(by rw [fM,hb27]; rfl),trivial⟩
  exact aA<|cd () H23 ⟨rfl,rfl,(by rw [fM,hb27]; rfl),trivial⟩
 rintro ⟨⟩ w28 H28
 show WC _ _ _ _ _ [(1,(ptr b1 0)),(5,(ptr b4 0)),(10,(aa (fM con)))] _
 refine ws<|wm O<|wo (aW (cs:=[_]) H28 A73 Fa.I22 O O O O (by decide) (by decide) (fun b29 w29 H29=>(wo (az (Kd 156) O ((eM b4 x (.slice (some ⟨b29,0,none⟩) 1 1) ((fB pg xs ps)++dS ps j).length ((fB pg xs ps)++dS ps j) (fM con) 1 _ _ (H29.part [1,2] O O) (H29.stayR (I:=[1,2]) (k:=6) O O O) (by (try simp only [Kj]); omega)).mono (fun e w30 hq=>?_))))))
 obtain ⟨v30,rfl,hq30⟩:=hq
 refine ⟨_,rfl,?_⟩
 have H30:=H29.splice [1,2] [.blk b4 [(ptr b4 0),v30] 249,.row v30 5 1 (((fB pg xs ps)++dS ps j)++(bR (fM con) 1)).length (Kg vU8 (((fB pg xs ps)++dS ps j)++(bR (fM con) 1)))] [] O O hq30 (am ae (am ae aI))
 refine wn<|ws<|wo (ab O Fa.iU<|wo (aj O (H30.cell (i:=0) O O) A22 O<|wo (aW (cs:=[_]) H30 A73 Fa.I22 O O O O (by decide) (by decide) (fun b31 w31 H31=>(wo (az (Kd 156) O ((eM b4 v30 (.slice (some ⟨b31,0,none⟩) 1 1) (((fB pg xs ps)++dS ps j)++(bR (fM con) 1)).length (((fB pg xs ps)++dS ps j)++(bR (fM con) 1)) en 4 _ _ (H31.part [1,2] O O) (H31.stayR (I:=[1,2]) (k:=7) O O O) (by have:=cG (fM con) 1; (try simp only [Kj]); omega)).mono (fun e w32 hq=>?_))))))))
 obtain ⟨v32,rfl,hq32⟩:=hq
 refine ⟨_,rfl,?_⟩
 have H32:=H31.splice [1,2] [.blk b4 [(ptr b4 0),v32] 249,.row v32 5 1 ((((fB pg xs ps)++dS ps j)++(bR (fM con) 1))++(bR en 4)).length (Kg vU8 ((((fB pg xs ps)++dS ps j)++(bR (fM con) 1))++(bR en 4)))] [] O O hq32 (am ae (am ae aI))
 refine wn<|ws<|wo (ab O Fa.eA<|wo (aj O (H32.cell (i:=0) O O) A41 O<|wo (bu A41 O (H32.arr hS)<|wo (dB (hs:=A3) (hd:=A22) O<|wo (aW (cs:=[_]) H32 A73 Fa.I22 O O O O (by decide) (by decide) (fun b33 w33 H33=>(wo (az (Kd 156) O ((eM b4 v32 (.slice (some ⟨b33,0,none⟩) 1 1) ((((fB pg xs ps)++dS ps j)++(bR (fM con) 1))++(bR en 4)).length ((((fB pg xs ps)++dS ps j)++(bR (fM con) 1))++(bR en 4)) (Kl sg.length) 1 _ _ (H33.part [1,2] O O) (H33.stayR (I:=[1,2]) (k:=8) O O O) (by have:=cG (fM con) 1; have:=cG en 4; (try simp only [Kj]); omega)).mono (fun e w34 hq=>?_))))))))))
 obtain ⟨v34,rfl,hq34⟩:=hq
 refine ⟨_,rfl,?_⟩
 have H34:=H33.splice [1,2] [.blk b4 [(ptr b4 0),v34] 249,.row v34 5 1 (((((fB pg xs ps)++dS ps j)++(bR (fM con) 1))++(bR en 4))++(bR (Kl sg.length) 1)).length (Kg vU8 (((((fB pg xs ps)++dS ps j)++(bR (fM con) 1))++(bR en 4))++(bR (Kl sg.length) 1)))] [] O O hq34 (am ae (am ae aI))
 refine wn<|ap<|ws ?_
 obtain rfl:j=ps.length:=by omega
 have H35:Ke [] w w34 [.blk b1 [(aa pg),ev,pv,(.bool con),(aa en),sv] 43,.blk b4 [(ptr b4 0),v34] 249,.row v34 5 1 (fq pg xs ps con en sg).length (Kg vU8 (fq pg xs ps con en sg)),.row (.slice (some ⟨b7,0,none⟩) 1 1) 22 1 1 (Kg aa [pg]),.row (.slice (some ⟨b9,0,none⟩) 1 1) 22 1 1 (Kg aa [(Kl xs.length)]),.row (.slice (some ⟨b20,0,none⟩) 1 1) 22 1 1 (Kg aa [(Kl ps.length)]),.row (.slice (some ⟨b29,0,none⟩) 1 1) 22 1 1 (Kg aa [(fM con)]),.row (.slice (some ⟨b31,0,none⟩) 1 1) 22 1 1 (Kg aa [en]),.row (.slice (some ⟨b33,0,none⟩) 1 1) 22 1 1 (Kg aa [(Kl sg.length)])]:=cM (i:=2) (f:=vU8) H34 O O O
 refine wo (ab O Fa.eA<|wo (aj O (H35.cell (i:=0) O O) A41 O<|wo (bu A41 O (H35.arr hS)<|wm O<|wn<|aB<|bi (α:=Nat × Value) (fun (i,x)=>[(1,(ptr b1 0)),(5,(ptr b4 0)),(86,sv),(87,(vN sg.length)),(88,(vN i))]) (fun (i,x) w'=>(i≤sg.length)∧Ke [] w w' [.blk b1 [(aa pg),ev,pv,(.bool con),(aa en),sv] 43,.blk b4 [(ptr b4 0),x] 249,.row x 5 1 ((fq pg xs ps con en sg)++dL sg i).length (Kg vU8 ((fq pg xs ps con en sg)++dL sg i)),.row (.slice (some ⟨b7,0,none⟩) 1 1) 22 1 1 (Kg aa [pg]),.row (.slice (some ⟨b9,0,none⟩) 1 1) 22 1 1 (Kg aa [(Kl xs.length)]),.row (.slice (some ⟨b20,0,none⟩) 1 1) 22 1 1 (Kg aa [(Kl ps.length)]),.row (.slice (some ⟨b29,0,none⟩) 1 1) 22 1 1 (Kg aa [(fM con)]),.row (.slice (some ⟨b31,0,none⟩) 1 1) 22 1 1 (Kg aa [en]),.row (.slice (some ⟨b33,0,none⟩) 1 1) 22 1 1 (Kg aa [(Kl sg.length)])]) (fun (i,x)=>sg.length-i) (0,v34) ⟨Kk _,(cM (i:=2) (f:=vU8) H35 O (List.append_nil _).symm (congrArg List.length (List.append_nil _).symm))⟩ ⟨rfl,rfl,rfl,rfl,rfl,trivial⟩ ?_)))
 rintro ⟨i,x⟩ w36 ⟨hi1,H36⟩
 show WC _ _ _ _ _ [(1,(ptr b1 0)),(5,(ptr b4 0)),(86,sv),(87,(vN sg.length)),(88,(vN i))] _
 have hq3:=tu pg xs ps con en sg
 have hqs:=sH bb i
 have hqb:=gy bb i
 have hn1:=cG (sg.getD i Sg.zero).a 4
 have hn2:=cG (Kl (sg.getD i Sg.zero).p.toNat) 1
 have hn3:=cG (Kl (sg.getD i Sg.zero).b.length) 4
 refine ws<|wo (bm O O<|wn<|ap (wE (i<sg.length) (fun hb37 hc37=>?_) (fun hb37 hc37=>?_)))
 ·
  refine aA<|ao<|ap<|aB<|ws<|wo (bJ A41 Fa.de O (H36.arr hS) O (by omega)<|wo (cH (vs:=sgc (sg.getD i Sg.zero)) O (Arr.atsF (H36.arr hS) (fun _=>rfl) (by decide) Sg.zero (by omega)) A116 O Fa.de O<|wo (bt H36 Fa.de (fun b38 w38 H38=>(wo (bw (i:=9) H38 O O O O O Fa.de (fun w39 H39=>(wn<|ws<|wo (ab O Fa.dE<|wo (aj O (H39.cell (i:=9) O O) A22 O<|wo (aW (cs:=[_]) H39 A73 Fa.I22 O O O O (by decide) (by decide) (fun b40 w40 H40=>(wo (az (Kd 156) O ((eM b4 x (.slice (some ⟨b40,0,none⟩) 1 1) ((fq pg xs ps con en sg)++dL sg i).length ((fq pg xs ps con en sg)++dL sg i) ((sg.getD i Sg.zero).a) 4 _ _ (H40.part [1,2] O O) (H40.stayR (I:=[1,2]) (k:=10) O O O) (by (try simp only [Kj]); omega)).mono (fun e w41 hq=>?_))))))))))))))))
  obtain ⟨v41,rfl,hq41⟩:=hq
  refine ⟨_,rfl,?_⟩
  have H41:=H40.splice [1,2] [.blk b4 [(ptr b4 0),v41] 249,.row v41 5 1 (((fq pg xs ps con en sg)++dL sg i)++(bR ((sg.getD i Sg.zero).a) 4)).length (Kg vU8 (((fq pg xs ps con en sg)++dL sg i)++(bR ((sg.getD i Sg.zero).a) 4)))] [] O O hq41 (am ae (am ae aI))
  refine wn<|ws<|wo (ab O Fa.gB<|wo (aj O (H41.cell (i:=9) O O) A5 O<|wo (dm (hs:=A5) (hd:=A22) O<|wo (aW (cs:=[_]) H41 A73 Fa.I22 O O O O (by decide) (by decide) (fun b42 w42 H42=>(wo (az (Kd 156) O ((eM b4 v41 (.slice (some ⟨b42,0,none⟩) 1 1) (((fq pg xs ps con en sg)++dL sg i)++(bR ((sg.getD i Sg.zero).a) 4)).length (((fq pg xs ps con en sg)++dL sg i)++(bR ((sg.getD i Sg.zero).a) 4)) (Kl (sg.getD i Sg.zero).p.toNat) 1 _ _ (H42.part [1,2] O O) (H42.stayR (I:=[1,2]) (k:=11) O O O) (by have:=cG ((sg.getD i Sg.zero).a) 4; (try simp only [Kj]); omega)).mono (fun e w43 hq=>?_)))))))))
  obtain ⟨v43,rfl,hq43⟩:=hq
  refine ⟨_,rfl,?_⟩
  have H43:=H42.splice [1,2] [.blk b4 [(ptr b4 0),v43] 249,.row v43 5 1 ((((fq pg xs ps con en sg)++dL sg i)++(bR ((sg.getD i Sg.zero).a) 4))++(bR (Kl (sg.getD i Sg.zero).p.toNat) 1)).length (Kg vU8 ((((fq pg xs ps con en sg)++dL sg i)++(bR ((sg.getD i Sg.zero).a) 4))++(bR (Kl (sg.getD i Sg.zero).p.toNat) 1)))] [] O O hq43 (am ae (am ae aI))
  refine wn<|ws<|wo (ab O Fa.eJ<|wo (aj O (H43.cell (i:=9) O O) A9 O<|wo (bH A9 O<|wo (dB (hs:=A3) (hd:=A22) O<|wo (aW (cs:=[_]) H43 A73 Fa.I22 O O O O (by decide) (by decide) (fun b44 w44 H44=>(wo (az (Kd 156) O ((eM b4 v43 (.slice (some ⟨b44,0,none⟩) 1 1) ((((fq pg xs ps con en sg)++dL sg i)++(bR ((sg.getD i Sg.zero).a) 4))++(bR (Kl (sg.getD i Sg.zero).p.toNat) 1)).length ((((fq pg xs ps con en sg)++dL sg i)++(bR ((sg.getD i Sg.zero).a) 4))++(bR (Kl (sg.getD i Sg.zero).p.toNat) 1)) (Kl (sg.getD i Sg.zero).b.length) 4 _ _ (H44.part [1,2] O O) (H44.stayR (I:=[1,2]) (k:=12) O O O) (by have:=cG ((sg.getD i Sg.zero).a) 4; have:=cG (Kl (sg.getD i Sg.zero).p.toNat) 1; (try simp only [Kj]); omega)).mono (fun e w45 hq=>?_))))))))))
  obtain ⟨v45,rfl,hq45⟩:=hq
  refine ⟨_,rfl,?_⟩
  have H45:=H44.splice [1,2] [.blk b4 [(ptr b4 0),v45] 249,.row v45 5 1 (((((fq pg xs ps con en sg)++dL sg i)++(bR ((sg.getD i Sg.zero).a) 4))++(bR (Kl (sg.getD i Sg.zero).p.toNat) 1))++(bR (Kl (sg.getD i Sg.zero).b.length) 4)).length (Kg vU8 (((((fq pg xs ps con en sg)++dL sg i)++(bR ((sg.getD i Sg.zero).a) 4))++(bR (Kl (sg.getD i Sg.zero).p.toNat) 1))++(bR (Kl (sg.getD i Sg.zero).b.length) 4)))] [] O O hq45 (am ae (am ae aI))
  refine wn<|aG<|wo (ab O Fa.pY<|wo (ab O Fa.eJ<|wo (aj O (H45.cell (i:=9) O O) A9 O<|wo (az (Kd 106) O ((sA b4 (ptr b4 0) v45 (((((fq pg xs ps con en sg)++dL sg i)++(bR ((sg.getD i Sg.zero).a) 4))++(bR (Kl (sg.getD i Sg.zero).p.toNat) 1))++(bR (Kl (sg.getD i Sg.zero).b.length) 4)).length (((((fq pg xs ps con en sg)++dL sg i)++(bR ((sg.getD i Sg.zero).a) 4))++(bR (Kl (sg.getD i Sg.zero).p.toNat) 1))++(bR (Kl (sg.getD i Sg.zero).b.length) 4)) ((sg.getD i Sg.zero).b) 249 _ _ (H45.part [1,2] O O) (.inr O) Fa.xd Fa.mT (by first | (show 0+4<2^46; decide) | (simp only [Kj]; omega))).mono (fun e w46 hq=>?_))))))
  obtain ⟨v46,rfl,hq46⟩:=hq
  refine ⟨_,rfl,?_⟩
  have H46:=H45.splice [1,2] [.blk b4 [(ptr b4 0),v46] 249,.row v46 5 1 ((((((fq pg xs ps con en sg)++dL sg i)++(bR ((sg.getD i Sg.zero).a) 4))++(bR (Kl (sg.getD i Sg.zero).p.toNat) 1))++(bR (Kl (sg.getD i Sg.zero).b.length) 4)).length+(sg.getD i Sg.zero).b.length) (Kg vU8 ((((((fq pg xs ps con en sg)++dL sg i)++(bR ((sg.getD i Sg.zero).a) 4))++(bR (Kl (sg.getD i Sg.zero).p.toNat) 1))++(bR (Kl (sg.getD i Sg.zero).b.length) 4))++(sg.getD i Sg.zero).b))] [] O O hq46 (am ae (am ae aI))
  exact aY<|aE<|ao<|aG<|wo (aU (b:=1) O O (by omega)<|wm O<|aY<|aX (i+1,v46) ⟨(by omega),(by have h:=(show Ke [] w w46 [.blk b1 [(aa pg),ev,pv,(.bool con),(aa en),sv] 43,.blk b4 [(ptr b4 0),v46] 249,.row v46 5 1 ((((((fq pg xs ps con en sg)++dL sg i)++(bR ((sg.getD i Sg.zero).a) 4))++(bR (Kl (sg.getD i Sg.zero).p.toNat) 1))++(bR (Kl (sg.getD i Sg.zero).b.length) 4)).length+(sg.getD i Sg.zero).b.length) (Kg vU8 ((((((fq pg xs ps con en sg)++dL sg i)++(bR ((sg.getD i Sg.zero).a) 4))++(bR (Kl (sg.getD i Sg.zero).p.toNat) 1))++(bR (Kl (sg.getD i Sg.zero).b.length) 4))++(sg.getD i Sg.zero).b)),.row (.slice (some ⟨b7,0,none⟩) 1 1) 22 1 1 (Kg aa [pg]),.row (.slice (some ⟨b9,0,none⟩) 1 1) 22 1 1 (Kg aa [(Kl xs.length)]),.row (.slice (some ⟨b20,0,none⟩) 1 1) 22 1 1 (Kg aa [(Kl ps.length)]),.row (.slice (some ⟨b29,0,none⟩) 1 1) 22 1 1 (Kg aa [(fM con)]),.row (.slice (some ⟨b31,0,none⟩) 1 1) 22 1 1 (Kg aa [en]),.row (.slice (some ⟨b33,0,none⟩) 1 1) 22 1 1 (Kg aa [(Kl sg.length)])] from (H46.take 9)); exact cM (i:=2) (f:=vU8) h O (by simp only [dL,List.append_assoc]) (by simp only [dL,List.append_assoc,Kj]; try omega))⟩ ⟨rfl,rfl,rfl,rfl,rfl,trivial⟩ (by show sg.length-(i+1)<sg.length-i; omega))
 refine bc<|an<|an<|aS<|ao<|ws<|wo (ab O Fa.pY<|wo (az (Kd 109) O ((AX b4 (ptr b4 0) x ((fq pg xs ps con en sg)++dL sg i).length ((fq pg xs ps con en sg)++dL sg i) 249 _ _ (H36.part [1,2] O O) (.inr (Er _ _ _ _ _ _ _))).mono (fun e w47 hq=>?_))))
 obtain ⟨rfl,hq47⟩:=hq
 refine ⟨_,rfl,?_⟩
 have H47:=H36.rest (I:=[1,2]) (J:=[0,3,4,5,6,7,8]) O O O O hq47
 refine wa O<|wa O<|wn<|aC<|aD (.tmp O (.tmp O .nil)) ?_
 obtain rfl:i=sg.length:=by omega
 rw [imB,if_pos (Decidable.not_not.mp hc3),Decidable.not_not.mp hc3]
 exact ⟨rfl,H47.fr⟩
theorem zg (pg:UInt32) (c:Bool) (ev pv:Value) (xs:List Xt) (ps:List UInt16) (pg':UInt32) (c':Bool) (ev' pv':Value) (xs':List Xt) (ps':List UInt16) (w:World) (hE:Arr w ev 2 xs.length (Kh xtc xs)) (hP:Arr w pv 1 ps.length (Kg bA ps)) (hF:Arr w ev' 2 xs'.length (Kh xtc xs')) (hQ:Arr w pv' 1 ps'.length (Kg bA ps')) (hn:xs.length<2^47) (hm:ps.length<2^47) :
  Calls Kf 75 #[(.agg #[(aa pg),ev,pv,(.bool c)]),(.agg #[(aa pg'),ev',pv',(.bool c')])] w (fun e w'=>e=.returned (.bool (sd pg c xs ps pg' c' xs' ps'))∧Fr [] w w'):=by
 refine enter Tryz.func75 O O ?_
 have H0:=aL w []
 refine ws<|wo (bK H0 O O (fun b1 w1 H1=>(wo (bK H1 O O (fun b2 w2 H2=>(wa O<|wn<|ap<|ws<|wo (ab O Fa.im<|wo (aj O (H2.cell (i:=0) O O) A22 O<|wo (ab O Fa.im<|wo (aj O (H2.cell (i:=1) O O) A22 O<|wo (eG O O<|wm O (wF 12 (pg≠pg') (fun hb3 hc3=>?_) (fun hb3 hc3=>?_)))))))))))))
 ·
  exact wN hb3<|wN hb3<|wN hb3<|wN hb3<|wN hb3<|wo (aQ O hb3 O<|wm O<|wN O<|wN O<|wN O<|wN O<|wN O<|wN O<|wN O<|wo (aQ O O O<|wm O<|wN O<|wN O<|wN O<|wN O<|wN O<|wN O<|wN O<|wo (aQ O O O<|wn<|bX O O<|ws<|wa O<|wn<|aC<|aq<|aD (.tmp O .nil) (⟨by rw [iH (fun h=>hc3 h.1)]; rfl,H2.fr⟩))))
 refine wY hb3 (ab O Fa.qF<|wY hb3 (aj O (H2.cell (i:=0) O O) A4 O<|wY hb3 (ab O Fa.qF<|wY hb3 (aj O (H2.cell (i:=1) O O) A4 O<|wY hb3 (DL A4 O O<|wo (aN O hb3 O<|wm O (wV 19 (!(c==c')) (fun hb4=>?_) (fun hb4=>?_))))))))
 ·
  have hn4:=(Bool.not_eq_true' _).mp hb4
  exact wN hb4<|wN hb4<|wN hb4<|wN hb4<|wN hb4<|wN hb4<|wN hb4<|wo (aQ O hb4 O<|wm O<|wN O<|wN O<|wN O<|wN O<|wN O<|wN O<|wN O<|wo (aQ O O O<|wn<|bX O O<|ws<|wa O<|wn<|aC<|aq<|aD (.tmp O .nil) (⟨by rw [iH (fun h=>by have h1:=hn4; rw [h.2.1] at h1; simp at h1)]; rfl,H2.fr⟩)))
 have hn4:=(Bool.not_eq_false' _).mp hb4
 refine wY hb4 (ab O Fa.da<|wY hb4 (aj O (H2.cell (i:=0) O O) A37 O<|wY hb4 (bu A37 O (H2.arr hE)<|wY hb4 (ab O Fa.da<|wY hb4 (aj O (H2.cell (i:=1) O O) A37 O<|wY hb4 (bu A37 O (H2.arr hF)<|wY hb4 (bI O O<|wo (aN O hb4 O<|wm O (wF 28 (xs.length≠xs'.length) (fun hb5 hc5=>?_) (fun hb5 hc5=>?_))))))))))
 ·
  exact wN hb5<|wN hb5<|wN hb5<|wN hb5<|wN hb5<|wN hb5<|wN hb5<|wo (aQ O hb5 O<|wn<|bX O O<|ws<|wa O<|wn<|aC<|aq<|aD (.tmp O .nil) (⟨by rw [iH (fun h=>hc5 (by rw [h.2.2.1]))]; rfl,H2.fr⟩))
 refine wY hb5 (ab O Fa.di<|wY hb5 (aj O (H2.cell (i:=0) O O) A38 O<|wY hb5 (bu A38 O (H2.arr hP)<|wY hb5 (ab O Fa.di<|wY hb5 (aj O (H2.cell (i:=1) O O) A38 O<|wY hb5 (bu A38 O (H2.arr hQ)<|wY hb5 (bI O O<|wo (aN O hb5 O<|wn (wE (ps.length≠ps'.length) (fun hb6 hc6=>?_) (fun hb6 hc6=>?_))))))))))
 ·
  exact ws<|wa O<|wn<|aC<|aq<|aD (.tmp O .nil) (⟨by rw [iH (fun h=>hc6 (by rw [h.2.2.2]))]; rfl,H2.fr⟩)
 refine aA<|ao<|ap<|ws<|wa O<|wn<|aB<|bi (α:=Nat) (fun k=>[(2,(ptr b1 0)),(3,(ptr b2 0)),(5,(vN k))]) (fun k w'=>(k≤xs.length∧(∀j,j<k→xs.getD j Xt.zero=xs'.getD j Xt.zero))∧Ke [] w w' [.blk b1 [(aa pg),ev,pv,(.bool c)] 40,.blk b2 [(aa pg'),ev',pv',(.bool c')] 40]) (fun k=>xs.length-k) 0 ⟨⟨Kk _,fun j h=>by omega⟩,H2⟩ ⟨rfl,rfl,rfl,trivial⟩ ?_
 rintro k w7 ⟨⟨hk1,hok⟩,H7⟩
 show WC _ _ _ _ _ [(2,(ptr b1 0)),(3,(ptr b2 0)),(5,(vN k))] _
 refine ap<|ws<|wm O<|wo (ab O Fa.da<|wo (aj O (H7.cell (i:=0) O O) A37 O<|wo (bu A37 O (H7.arr hE)<|wo (bm O O<|wn (wE (k<xs.length) (fun hb8 hc8=>?_) (fun hb8 hc8=>?_))))))
 ·
  refine aA<|ao<|ap<|aB<|ap<|bn 11 Fa.M H7 (oh (fun w1 H1=>ab O Fa.da zr)<|oh (fun w1 H1=>aj O (H1.cell (i:=0) O O) A37 O zr)<|mh O<|oh (fun w1 H1=>bJ A37 Fa.cR O (H1.arr hE) O (by omega) zr)<|oh (fun w1 H1=>cH (vs:=xtc (xs.getD k Xt.zero)) O (Arr.atsF (H1.arr hE) (fun _=>rfl) (by decide) Xt.zero (by omega)) A207 O Fa.cR O zr)<|oh (fun w1 H1=>ab O Fa.da zr)<|oh (fun w1 H1=>aj O (H1.cell (i:=1) O O) A37 O zr)<|mh O<|oh (fun w1 H1=>bJ A37 Fa.cR O (H1.arr hF) O (by omega) zr)<|oh (fun w1 H1=>cH (vs:=xtc (xs'.getD k Xt.zero)) O (Arr.atsF (H1.arr hF) (fun _=>rfl) (by decide) Xt.zero (by omega)) A207 O Fa.cR O zr)<|oh (fun w1 H1=>DK (xs:=[_,_]) (ys:=[_,_]) (b:=(!((decide ((xs.getD k Xt.zero).id=(xs'.getD k Xt.zero).id))&&(decide ((xs.getD k Xt.zero).bl=(xs'.getD k Xt.zero).bl))))) Fa.HM O O O (by simp [lZ,xl]) zr)  bD) (by kernel_rfl) ?_
  intro β9 w9 H9
  refine wn (wC (!((decide ((xs.getD k Xt.zero).id=(xs'.getD k Xt.zero).id))&&(decide ((xs.getD k Xt.zero).bl=(xs'.getD k Xt.zero).bl)))) (fun hb10=>?_) (fun hb10=>?_))
  ·
   have hn10:=(Bool.not_eq_true' _).mp hb10
   exact ws<|wa O<|wn<|aC<|aZ<|aq<|aq<|aZ<|aq<|aD (.tmp O .nil) (⟨by rw [iH (fun h=>Hb hn10 (by rw [h.2.2.1]))]; rfl,H9.fr⟩)
  have hn10:=(Bool.not_eq_false' _).mp hb10
  exact aA<|aE<|ao<|aG<|wm O<|wo (aU (b:=1) O O (by omega)<|wa O<|aY<|aX (k+1) ⟨⟨by omega,cL hok (Hc hn10)⟩,H9⟩ ⟨rfl,rfl,rfl,trivial⟩ (by omega))
 refine bc<|an<|an<|aS<|ao<|ap<|ws<|wa O<|wn<|aB<|bi (α:=Nat) (fun i=>[(2,(ptr b1 0)),(3,(ptr b2 0)),(6,(vN i))]) (fun i w'=>(i≤ps.length∧(∀j,j<i→ps.getD j 0=ps'.getD j 0))∧Ke [] w w' [.blk b1 [(aa pg),ev,pv,(.bool c)] 40,.blk b2 [(aa pg'),ev',pv',(.bool c')] 40]) (fun i=>ps.length-i) 0 ⟨⟨Kk _,fun j h=>by omega⟩,H7⟩ ⟨rfl,rfl,rfl,trivial⟩ ?_
 rintro i w11 ⟨⟨hi1,hoi⟩,H11⟩
 show WC _ _ _ _ _ [(2,(ptr b1 0)),(3,(ptr b2 0)),(6,(vN i))] _
 refine ap<|ws<|wm O<|wo (ab O Fa.di<|wo (aj O (H11.cell (i:=0) O O) A38 O<|wo (bu A38 O (H11.arr hP)<|wo (bm O O<|wn (wE (i<ps.length) (fun hb12 hc12=>?_) (fun hb12 hc12=>?_))))))
 ·
  refine aA<|ao<|ap<|aB<|ap<|bn 11 Fa.M H11 (oh (fun w1 H1=>ab O Fa.di zr)<|oh (fun w1 H1=>aj O (H1.cell (i:=0) O O) A38 O zr)<|mh O<|oh (fun w1 H1=>aF A38 Fa.fV O (H1.arr hP) O (by omega) zr)<|oh (fun w1 H1=>aj O ((H1.arr hP).at (aR bA 0 (aV (H1.arr hP) (by omega)))) A203 O zr)<|oh (fun w1 H1=>ab O Fa.di zr)<|oh (fun w1 H1=>aj O (H1.cell (i:=1) O O) A38 O zr)<|mh O<|oh (fun w1 H1=>aF A38 Fa.fV O (H1.arr hQ) O (by omega) zr)<|oh (fun w1 H1=>aj O ((H1.arr hQ).at (aR bA 0 (aV (H1.arr hQ) (by omega)))) A203 O zr)<|oh (fun w1 H1=>zz O O zr)  bD) (by kernel_rfl) ?_
  intro β13 w13 H13
  refine wn (wE ((ps.getD i 0)≠(ps'.getD i 0)) (fun hb14 hc14=>?_) (fun hb14 hc14=>?_))
  ·
   exact ws<|wa O<|wn<|aC<|aZ<|aq<|aq<|aZ<|aq<|aD (.tmp O .nil) (⟨by rw [iH (fun h=>hc14 (by rw [h.2.2.2]))]; rfl,H13.fr⟩)
  exact aA<|aE<|ao<|aG<|wm O<|wo (aU (b:=1) O O (by omega)<|wa O<|aY<|aX (i+1) ⟨⟨by omega,cL hoi (Decidable.not_not.mp hc14)⟩,H13⟩ ⟨rfl,rfl,rfl,trivial⟩ (by omega))
 exact bc<|an<|an<|aS<|ao<|ws<|wa O<|wn<|aC<|aD (.tmp O .nil) (⟨by rw [gQ.2 ⟨Decidable.not_not.mp hc3,by simpa using hn4,tm (by omega) (fun j hj=>hok j (by omega)),tm (by omega) (fun j hj=>hoi j (by omega))⟩]; rfl,H11.fr⟩)
theorem Dj (x:Sg) (w:World) (_hb:x.b.length<2^47) :
  Calls Kf 76 #[(.agg #[(aa x.a),(vU8 x.p),(str x.b)])] w (fun e w'=>e=.returned (.bool (fP x))∧Fr [] w w'):=by
 refine enter Tryz.func76 O O ?_
 have H0:=aL w []
 have ha:=x.a.toNat_lt
 refine ws<|wo (bK H0 O O (fun b1 w1 H1=>(wa O<|wn<|ws<|wo (ab O Fa.gB<|wo (aj O (H1.cell (i:=0) O O) A5 O<|wo (gZ (b:=1) O O<|wm O (wF 7 (x.p=(1:UInt8)) (fun hb2 hc2=>?_) (fun hb2 hc2=>?_))))))))
 ·
  refine wN hb2<|wN hb2<|wN hb2<|wo (aQ O hb2 O<|wm O<|wN O<|wN O<|wN O<|wo (aQ O O O<|wa O<|wn<|ws<|wm O<|wm O<|wY O (ab O Fa.dE<|wY O (aj O (H1.cell (i:=0) O O) A22 O<|wY O (eQ (b:=256) O O (by decide)<|wY O (eu (b:=0) O O<|wo (aQ O O O<|wm O (wF 24 ((x.a%(256:UInt32))=(0:UInt32)) (fun hb3 hc3=>?_) (fun hb3 hc3=>?_)))))))))
  ·
   refine wY hb3 (ab O Fa.dE<|wY hb3 (aj O (H1.cell (i:=0) O O) A22 O<|wY hb3 (dM (b:=256) O O<|wo (aQ O hb3 O<|wm O (wF 29 (x.a≥(256:UInt32)) (fun hb4 hc4=>?_) (fun hb4 hc4=>?_))))))
   ·
    refine wY hb4 (ab O Fa.dE<|wY hb4 (aj O (H1.cell (i:=0) O O) A22 O<|wY hb4 (ed (b:=131072) O O<|wo (aQ O hb4 O<|wm O (wF 34 (x.a<(131072:UInt32)) (fun hb5 hc5=>?_) (fun hb5 hc5=>?_))))))
    ·
     refine wY hb5 (ab O Fa.eJ<|wY hb5 (aj O (H1.cell (i:=0) O O) A9 O<|wY hb5 (bH A9 O<|wY hb5 (dI (b:=1) O O<|wo (aQ O hb5 O<|wm O (wF 40 (x.b.length≥1) (fun hb6 hc6=>?_) (fun hb6 hc6=>?_)))))))
     ·
      exact wY hb6 (ab O Fa.eJ<|wY hb6 (aj O (H1.cell (i:=0) O O) A9 O<|wY hb6 (bH A9 O<|wY hb6 (ab O Fa.dE<|wY hb6 (aj O (H1.cell (i:=0) O O) A22 O<|wY hb6 (dA (hs:=A22) (hd:=A3) O<|wY hb6 (eq (a:=((131072:Nat):Int)) (b:=((x.a.toNat:Nat):Int)) O O (by omega)<|wY hb6 (nA O O<|wo (aQ O hb6 O<|wa O<|wn<|aC<|aD (.tmp O .nil) (⟨by (rw [fP,eZ,hb2,hb3,hb4,hb5,hb6])<;>rfl,H1.fr⟩))))))))))
     exact wN hb6<|wN hb6<|wN hb6<|wN hb6<|wN hb6<|wN hb6<|wN hb6<|wN hb6<|wo (aN O hb6 O<|wa O<|wn<|aC<|aD (.tmp O .nil) (⟨by (rw [fP,eZ,hb2,hb3,hb4,hb5,hb6])<;>rfl,H1.fr⟩))
    exact wN hb5<|wN hb5<|wN hb5<|wN hb5<|wo (aN O hb5 O<|wm O<|wN O<|wN O<|wN O<|wN O<|wN O<|wN O<|wN O<|wN O<|wo (aN O O O<|wa O<|wn<|aC<|aD (.tmp O .nil) (⟨by (rw [fP,eZ,hb2,hb3,hb4,hb5])<;>rfl,H1.fr⟩)))
   exact wN hb4<|wN hb4<|wN hb4<|wo (aN O hb4 O<|wm O<|wN O<|wN O<|wN O<|wN O<|wo (aN O O O<|wm O<|wN O<|wN O<|wN O<|wN O<|wN O<|wN O<|wN O<|wN O<|wo (aN O O O<|wa O<|wn<|aC<|aD (.tmp O .nil) (⟨by (rw [fP,eZ,hb2,hb3,hb4])<;>rfl,H1.fr⟩))))
  exact wN hb3<|wN hb3<|wN hb3<|wo (aN O hb3 O<|wm O<|wN O<|wN O<|wN O<|wo (aN O O O<|wm O<|wN O<|wN O<|wN O<|wN O<|wo (aN O O O<|wm O<|wN O<|wN O<|wN O<|wN O<|wN O<|wN O<|wN O<|wN O<|wo (aN O O O<|wa O<|wn<|aC<|aD (.tmp O .nil) (⟨by (rw [fP,eZ,hb2,hb3])<;>rfl,H1.fr⟩)))))
 refine wY hb2 (ab O Fa.gB<|wY hb2 (aj O (H1.cell (i:=0) O O) A5 O<|wY hb2 (gZ (b:=3) O O<|wo (aN O hb2 O<|wm O (wF 12 (x.p=(3:UInt8)) (fun hb7 hc7=>?_) (fun hb7 hc7=>?_))))))
 ·
  refine wN hb7<|wN hb7<|wN hb7<|wo (aQ O hb7 O<|wa O<|wn<|ws<|wm O<|wm O<|wY O (ab O Fa.dE<|wY O (aj O (H1.cell (i:=0) O O) A22 O<|wY O (eQ (b:=256) O O (by decide)<|wY O (eu (b:=0) O O<|wo (aQ O O O<|wm O (wF 24 ((x.a%(256:UInt32))=(0:UInt32)) (fun hb8 hc8=>?_) (fun hb8 hc8=>?_))))))))
  ·
   refine wY hb8 (ab O Fa.dE<|wY hb8 (aj O (H1.cell (i:=0) O O) A22 O<|wY hb8 (dM (b:=256) O O<|wo (aQ O hb8 O<|wm O (wF 29 (x.a≥(256:UInt32)) (fun hb9 hc9=>?_) (fun hb9 hc9=>?_))))))
   ·
    refine wY hb9 (ab O Fa.dE<|wY hb9 (aj O (H1.cell (i:=0) O O) A22 O<|wY hb9 (ed (b:=131072) O O<|wo (aQ O hb9 O<|wm O (wF 34 (x.a<(131072:UInt32)) (fun hb10 hc10=>?_) (fun hb10 hc10=>?_))))))
    ·
     refine wY hb10 (ab O Fa.eJ<|wY hb10 (aj O (H1.cell (i:=0) O O) A9 O<|wY hb10 (bH A9 O<|wY hb10 (dI (b:=1) O O<|wo (aQ O hb10 O<|wm O (wF 40 (x.b.length≥1) (fun hb11 hc11=>?_) (fun hb11 hc11=>?_)))))))
     ·
      exact wY hb11 (ab O Fa.eJ<|wY hb11 (aj O (H1.cell (i:=0) O O) A9 O<|wY hb11 (bH A9 O<|wY hb11 (ab O Fa.dE<|wY hb11 (aj O (H1.cell (i:=0) O O) A22 O<|wY hb11 (dA (hs:=A22) (hd:=A3) O<|wY hb11 (eq (a:=((131072:Nat):Int)) (b:=((x.a.toNat:Nat):Int)) O O (by omega)<|wY hb11 (nA O O<|wo (aQ O hb11 O<|wa O<|wn<|aC<|aD (.tmp O .nil) (⟨by (rw [fP,eZ,hb2,hb7,hb8,hb9,hb10,hb11])<;>rfl,H1.fr⟩))))))))))
     exact wN hb11<|wN hb11<|wN hb11<|wN hb11<|wN hb11<|wN hb11<|wN hb11<|wN hb11<|wo (aN O hb11 O<|wa O<|wn<|aC<|aD (.tmp O .nil) (⟨by (rw [fP,eZ,hb2,hb7,hb8,hb9,hb10,hb11])<;>rfl,H1.fr⟩))
    exact wN hb10<|wN hb10<|wN hb10<|wN hb10<|wo (aN O hb10 O<|wm O<|wN O<|wN O<|wN O<|wN O<|wN O<|wN O<|wN O<|wN O<|wo (aN O O O<|wa O<|wn<|aC<|aD (.tmp O .nil) (⟨by (rw [fP,eZ,hb2,hb7,hb8,hb9,hb10])<;>rfl,H1.fr⟩)))
   exact wN hb9<|wN hb9<|wN hb9<|wo (aN O hb9 O<|wm O<|wN O<|wN O<|wN O<|wN O<|wo (aN O O O<|wm O<|wN O<|wN O<|wN O<|wN O<|wN O<|wN O<|wN O<|wN O<|wo (aN O O O<|wa O<|wn<|aC<|aD (.tmp O .nil) (⟨by (rw [fP,eZ,hb2,hb7,hb8,hb9])<;>rfl,H1.fr⟩))))
  exact wN hb8<|wN hb8<|wN hb8<|wo (aN O hb8 O<|wm O<|wN O<|wN O<|wN O<|wo (aN O O O<|wm O<|wN O<|wN O<|wN O<|wN O<|wo (aN O O O<|wm O<|wN O<|wN O<|wN O<|wN O<|wN O<|wN O<|wN O<|wN O<|wo (aN O O O<|wa O<|wn<|aC<|aD (.tmp O .nil) (⟨by (rw [fP,eZ,hb2,hb7,hb8])<;>rfl,H1.fr⟩)))))
 refine wY hb7 (ab O Fa.gB<|wY hb7 (aj O (H1.cell (i:=0) O O) A5 O<|wY hb7 (gZ (b:=5) O O<|wo (aN O hb7 O<|wa O<|wn<|ws<|wm O<|wm O (wF 18 (x.p=(5:UInt8)) (fun hb12 hc12=>?_) (fun hb12 hc12=>?_))))))
 ·
  refine wY hb12 (ab O Fa.dE<|wY hb12 (aj O (H1.cell (i:=0) O O) A22 O<|wY hb12 (eQ (b:=256) O O (by decide)<|wY hb12 (eu (b:=0) O O<|wo (aQ O hb12 O<|wm O (wF 24 ((x.a%(256:UInt32))=(0:UInt32)) (fun hb13 hc13=>?_) (fun hb13 hc13=>?_)))))))
  ·
   refine wY hb13 (ab O Fa.dE<|wY hb13 (aj O (H1.cell (i:=0) O O) A22 O<|wY hb13 (dM (b:=256) O O<|wo (aQ O hb13 O<|wm O (wF 29 (x.a≥(256:UInt32)) (fun hb14 hc14=>?_) (fun hb14 hc14=>?_))))))
   ·
    refine wY hb14 (ab O Fa.dE<|wY hb14 (aj O (H1.cell (i:=0) O O) A22 O<|wY hb14 (ed (b:=131072) O O<|wo (aQ O hb14 O<|wm O (wF 34 (x.a<(131072:UInt32)) (fun hb15 hc15=>?_) (fun hb15 hc15=>?_))))))
    ·
     refine wY hb15 (ab O Fa.eJ<|wY hb15 (aj O (H1.cell (i:=0) O O) A9 O<|wY hb15 (bH A9 O<|wY hb15 (dI (b:=1) O O<|wo (aQ O hb15 O<|wm O (wF 40 (x.b.length≥1) (fun hb16 hc16=>?_) (fun hb16 hc16=>?_)))))))
     ·
      exact wY hb16 (ab O Fa.eJ<|wY hb16 (aj O (H1.cell (i:=0) O O) A9 O<|wY hb16 (bH A9 O<|wY hb16 (ab O Fa.dE<|wY hb16 (aj O (H1.cell (i:=0) O O) A22 O<|wY hb16 (dA (hs:=A22) (hd:=A3) O<|wY hb16 (eq (a:=((131072:Nat):Int)) (b:=((x.a.toNat:Nat):Int)) O O (by omega)<|wY hb16 (nA O O<|wo (aQ O hb16 O<|wa O<|wn<|aC<|aD (.tmp O .nil) (⟨by (rw [fP,eZ,hb2,hb7,hb12,hb13,hb14,hb15,hb16])<;>rfl,H1.fr⟩))))))))))
     exact wN hb16<|wN hb16<|wN hb16<|wN hb16<|wN hb16<|wN hb16<|wN hb16<|wN hb16<|wo (aN O hb16 O<|wa O<|wn<|aC<|aD (.tmp O .nil) (⟨by (rw [fP,eZ,hb2,hb7,hb12,hb13,hb14,hb15,hb16])<;>rfl,H1.fr⟩))
    exact wN hb15<|wN hb15<|wN hb15<|wN hb15<|wo (aN O hb15 O<|wm O<|wN O<|wN O<|wN O<|wN O<|wN O<|wN O<|wN O<|wN O<|wo (aN O O O<|wa O<|wn<|aC<|aD (.tmp O .nil) (⟨by (rw [fP,eZ,hb2,hb7,hb12,hb13,hb14,hb15])<;>rfl,H1.fr⟩)))
   exact wN hb14<|wN hb14<|wN hb14<|wo (aN O hb14 O<|wm O<|wN O<|wN O<|wN O<|wN O<|wo (aN O O O<|wm O<|wN O<|wN O<|wN O<|wN O<|wN O<|wN O<|wN O<|wN O<|wo (aN O O O<|wa O<|wn<|aC<|aD (.tmp O .nil) (⟨by (rw [fP,eZ,hb2,hb7,hb12,hb13,hb14])<;>rfl,H1.fr⟩))))
  exact wN hb13<|wN hb13<|wN hb13<|wo (aN O hb13 O<|wm O<|wN O<|wN O<|wN O<|wo (aN O O O<|wm O<|wN O<|wN O<|wN O<|wN O<|wo (aN O O O<|wm O<|wN O<|wN O<|wN O<|wN O<|wN O<|wN O<|wN O<|wN O<|wo (aN O O O<|wa O<|wn<|aC<|aD (.tmp O .nil) (⟨by (rw [fP,eZ,hb2,hb7,hb12,hb13])<;>rfl,H1.fr⟩)))))
 exact wN hb12<|wN hb12<|wN hb12<|wN hb12<|wo (aN O hb12 O<|wm O<|wN O<|wN O<|wN O<|wo (aN O O O<|wm O<|wN O<|wN O<|wN O<|wo (aN O O O<|wm O<|wN O<|wN O<|wN O<|wN O<|wo (aN O O O<|wm O<|wN O<|wN O<|wN O<|wN O<|wN O<|wN O<|wN O<|wN O<|wo (aN O O O<|wa O<|wn<|aC<|aD (.tmp O .nil) (⟨by (rw [fP,eZ,hb2,hb7,hb12])<;>rfl,H1.fr⟩))))))
theorem qR (x:Sg) (w:World) (hb:x.b.length<2^40) :
  Calls Kf 77 #[(.agg #[(aa x.a),(vU8 x.p),(str x.b)])] w (fun e w'=> ∃v,e=.returned v∧Ke [] w w' [.row v 22 1 (pgN x) (Kg aa (pgL x (pgN x)))]):=by
 refine enter Tryz.func77 O O ?_
 have H0:=aL w []
 refine ws<|wo (bK H0 O O (fun b1 w1 H1=>(wa O<|wn<|ws<|wa O ?_)))
 have H2:=H1.nilRow 22 1
 refine wn<|ap<|ws<|wa O<|wn<|aB<|bi (α:=Nat × Value) (fun (k,q)=>[(1,(ptr b1 0)),(3,q),(4,(vN (256 * k)))]) (fun (k,q) w'=>(k≤pgN x)∧Ke [] w w' [.blk b1 [(aa x.a),(vU8 x.p),(str x.b)] 116,.row q 22 1 k (Kg aa (pgL x k))]) (fun (k,q)=>pgN x-k) (0,(.slice none 0 0)) ⟨Kk _,H2⟩ ⟨rfl,rfl,rfl,trivial⟩ ?_
 rintro ⟨k,q⟩ w3 ⟨hk1,H3⟩
 show WC _ _ _ _ _ [(1,(ptr b1 0)),(3,q),(4,(vN (256 * k)))] _
 have hpg:pgN x=(x.b.length+255) / 256:=rfl
 refine ap<|ws<|wm O<|wo (ab O Fa.eJ<|wo (aj O (H3.cell (i:=0) O O) A9 O<|wo (bH A9 O<|wo (bm O O<|wn (wE ((256 * k)<x.b.length) (fun hb4 hc4=>?_) (fun hb4 hc4=>?_))))))
 ·
  exact aA<|ao<|ap<|aB<|aG<|wm O<|wo (ab O Fa.dE<|wo (aj O (H3.cell (i:=0) O O) A22 O<|wm O<|wo (dB (hs:=A3) (hd:=A22) O<|wo (bW O O<|wo (aW (cs:=[_]) H3 A73 Fa.I22 O O O O (by decide) (by decide) (fun b5 w5 H5=>(wo (cx (f:=aa) (l:=(pgL x k)) (l':=[(x.a+(Kl (256 * k)))]) (i:=1) H5 A73 Fa.I22 O O O O (ck A73 (H5.arrR (i:=2) O)) (cV (fun _=>rfl)) (by omega) (by omega) (fun v6 w6 H6=>(wa O<|aY<|aE<|ao<|aG<|wm O<|wo (aU (b:=256) O O (by omega)<|wa O<|aY<|aX (k+1,v6) ⟨(by omega),(H6.take 2)⟩ ⟨rfl,rfl,(congrArg (fun n=>some (vN n)) (Nat.mul_succ 256 k).symm),trivial⟩ (by show pgN x-(k+1)<pgN x-k; omega))))))))))))
 refine bc<|an<|an<|aS<|ao<|ws<|wm O<|wa O<|wn<|aC<|aD (.tmp O .nil) ?_
 obtain rfl:k=pgN x:=by omega
 exact ⟨_,rfl,H3.sel [1] O O⟩
theorem zh (pg:UInt32) (ev pv:Value) (xs:List Xt) (ps:List UInt16) (con:Bool) (w:World) (hE:Arr w ev 2 xs.length (Kh xtc xs)) (hP:Arr w pv 1 ps.length (Kg bA ps)) (hn:xs.length<2^47) (hm:ps.length<2^47) :
  Calls Kf 78 #[(.agg #[(aa pg),ev,pv,(.bool con)])] w (fun e w'=>e=.returned (.bool (dP pg xs ps))∧Fr [] w w'):=by
 refine enter Tryz.func78 O O ?_
 have H0:=aL w []
 refine ws<|wo (bK H0 O O (fun b1 w1 H1=>(wa O<|wn<|ap<|ws<|wa O<|wn<|aB<|bi (α:=Nat) (fun k=>[(1,(ptr b1 0)),(3,(vN k))]) (fun k w'=>(k≤xs.length∧(∀j,j<k→eV (xs.getD j Xt.zero)=false∧(0<j→¬(xs.getD (j-1) Xt.zero).id≥(xs.getD j Xt.zero).id)))∧Ke [] w w' [.blk b1 [(aa pg),ev,pv,(.bool con)] 40]) (fun k=>xs.length-k) 0 ⟨⟨Kk _,fun j h=>by omega⟩,H1⟩ ⟨rfl,rfl,trivial⟩ ?_)))
 rintro k w2 ⟨⟨hk1,hok⟩,H2⟩
 show WC _ _ _ _ _ [(1,(ptr b1 0)),(3,(vN k))] _
 refine ap<|ws<|wm O<|wo (ab O Fa.da<|wo (aj O (H2.cell (i:=0) O O) A37 O<|wo (bu A37 O (H2.arr hE)<|wo (bm O O<|wn (wE (k<xs.length) (fun hb3 hc3=>?_) (fun hb3 hc3=>?_))))))
 ·
  refine aA<|ao<|ap<|aB<|ws<|wo (ab O Fa.da<|wo (aj O (H2.cell (i:=0) O O) A37 O<|wm O<|wo (bJ A37 Fa.cR O (H2.arr hE) O (by omega)<|wo (cH (vs:=xtc (xs.getD k Xt.zero)) O (Arr.atsF (H2.arr hE) (fun _=>rfl) (by decide) Xt.zero (by omega)) A207 O Fa.cR O<|wo (bt H2 Fa.cR (fun b4 w4 H4=>(wo (bw (i:=1) H4 O O O O O Fa.cR (fun w5 H5=>(wn<|ap (wG ((xs.getD k Xt.zero).id≥(16:UInt32)) (fun hb6 hc6=>?_) (fun hb6 hc6=>?_))))))))))))
  ·
   refine bn 29 Fa.M H5 (oh (fun w1 H1=>ab O Fa.ey zr)<|oh (fun w1 H1=>aj O (H1.cell (i:=1) O O) A22 O zr)<|oh (fun w1 H1=>dM (b:=16) O O zr)<|mh O<|nh hb6<|nh hb6<|nh hb6<|oh (fun w1 H1=>aQ O hb6 O zr)<|mh O<|nh O<|nh O<|nh O<|oh (fun w1 H1=>aQ O O O zr)<|mh O<|nh O<|nh O<|nh O<|uh<|uh<|uh<|uh<|uh<|uh<|uh<|uh<|uh<|uh<|nh O<|oh (fun w1 H1=>aQ O O O zr)  bD) (by kernel_rfl) ?_
   intro β7 w7 H7
   exact wn<|bX O O<|ws<|wa O<|wn<|aC<|aZ<|aq<|aq<|aZ<|aq<|aD (.tmp O .nil) (⟨by rw [qx (k:=k) (by omega) (by (rw [eV,hb6])<;>rfl)]; rfl,H7.fr⟩)
  refine wG ((xs.getD k Xt.zero).bl<(1:UInt32)) (fun hb8 hc8=>?_) (fun hb8 hc8=>?_)
  ·
   refine bn 29 Fa.M H5 (oh (fun w1 H1=>ab O Fa.ey zr)<|oh (fun w1 H1=>aj O (H1.cell (i:=1) O O) A22 O zr)<|oh (fun w1 H1=>dM (b:=16) O O zr)<|mh O<|yh hb6 (fun w1 H1=>ab O Fa.fW zr)<|yh hb6 (fun w1 H1=>aj O (H1.cell (i:=1) O O) A22 O zr)<|yh hb6 (fun w1 H1=>ed (b:=1) O O zr)<|oh (fun w1 H1=>aN O hb6 O zr)<|mh O<|nh hb8<|nh hb8<|nh hb8<|oh (fun w1 H1=>aQ O hb8 O zr)<|mh O<|nh O<|nh O<|nh O<|uh<|uh<|uh<|uh<|uh<|uh<|uh<|uh<|uh<|uh<|nh O<|oh (fun w1 H1=>aQ O O O zr)  bD) (by kernel_rfl) ?_
   intro β9 w9 H9
   exact wn<|bX O O<|ws<|wa O<|wn<|aC<|aZ<|aq<|aq<|aZ<|aq<|aD (.tmp O .nil) (⟨by rw [qx (k:=k) (by omega) (by (rw [eV,hb6,hb8])<;>rfl)]; rfl,H9.fr⟩)
  refine wG ((xs.getD k Xt.zero).bl>(1024:UInt32)) (fun hb10 hc10=>?_) (fun hb10 hc10=>?_)
  ·
   refine bn 29 Fa.M H5 (oh (fun w1 H1=>ab O Fa.ey zr)<|oh (fun w1 H1=>aj O (H1.cell (i:=1) O O) A22 O zr)<|oh (fun w1 H1=>dM (b:=16) O O zr)<|mh O<|yh hb6 (fun w1 H1=>ab O Fa.fW zr)<|yh hb6 (fun w1 H1=>aj O (H1.cell (i:=1) O O) A22 O zr)<|yh hb6 (fun w1 H1=>ed (b:=1) O O zr)<|oh (fun w1 H1=>aN O hb6 O zr)<|mh O<|yh hb8 (fun w1 H1=>ab O Fa.fW zr)<|yh hb8 (fun w1 H1=>aj O (H1.cell (i:=1) O O) A22 O zr)<|yh hb8 (fun w1 H1=>cI (b:=1024) O O zr)<|oh (fun w1 H1=>aN O hb8 O zr)<|mh O<|nh hb10<|nh hb10<|nh hb10<|uh<|uh<|uh<|uh<|uh<|uh<|uh<|uh<|uh<|uh<|nh hb10<|oh (fun w1 H1=>aQ O hb10 O zr)  bD) (by kernel_rfl) ?_
   intro β11 w11 H11
   exact wn<|bX O O<|ws<|wa O<|wn<|aC<|aZ<|aq<|aq<|aZ<|aq<|aD (.tmp O .nil) (⟨by rw [qx (k:=k) (by omega) (by (rw [eV,hb6,hb8,hb10])<;>rfl)]; rfl,H11.fr⟩)
  refine wG (k>0) (fun hb12 hc12=>?_) (fun hb12 hc12=>?_)
  ·
   refine bn 29 Fa.M H5 (oh (fun w1 H1=>ab O Fa.ey zr)<|oh (fun w1 H1=>aj O (H1.cell (i:=1) O O) A22 O zr)<|oh (fun w1 H1=>dM (b:=16) O O zr)<|mh O<|yh hb6 (fun w1 H1=>ab O Fa.fW zr)<|yh hb6 (fun w1 H1=>aj O (H1.cell (i:=1) O O) A22 O zr)<|yh hb6 (fun w1 H1=>ed (b:=1) O O zr)<|oh (fun w1 H1=>aN O hb6 O zr)<|mh O<|yh hb8 (fun w1 H1=>ab O Fa.fW zr)<|yh hb8 (fun w1 H1=>aj O (H1.cell (i:=1) O O) A22 O zr)<|yh hb8 (fun w1 H1=>cI (b:=1024) O O zr)<|oh (fun w1 H1=>aN O hb8 O zr)<|mh O<|yh hb10 (fun w1 H1=>au O zr)<|yh hb10 (fun w1 H1=>cm (b:=0) O O zr)<|yh hb10 (fun w1 H1=>au O zr)<|yh hb12 (fun w1 H1=>ab O Fa.da zr)<|yh hb12 (fun w1 H1=>aj O (H1.cell (i:=0) O O) A37 O zr)<|yh hb12 (fun w1 H1=>au O zr)<|yh hb12 (fun w1 H1=>bE (b:=1) O O (by omega) (by omega) zr)<|yh hb12 (fun w1 H1=>bJ A37 Fa.cR O (H1.arr hE) O (by omega) zr)<|yh hb12 (fun w1 H1=>cU O Fa.ey zr)<|yh hb12 (fun w1 H1=>aj O (Arr.atF (k:=0) (H1.arr hE) (fun _=>rfl) (by decide) Xt.zero (by omega) O) A22 O zr)<|yh hb12 (fun w1 H1=>ab O Fa.ey zr)<|yh hb12 (fun w1 H1=>aj O (H1.cell (i:=1) O O) A22 O zr)<|yh hb12 (fun w1 H1=>dM O O zr)<|yh hb10 (fun w1 H1=>aQ O hb12 O zr)<|oh (fun w1 H1=>aN O hb10 O zr)  bD) (by kernel_rfl) ?_
   intro β13 w13 H13
   refine wn (wE ((xs.getD (k-1) Xt.zero).id≥(xs.getD k Xt.zero).id) (fun hb14 hc14=>?_) (fun hb14 hc14=>?_))
   ·
    exact ws<|wa O<|wn<|aC<|aZ<|aq<|aq<|aZ<|aq<|aD (.tmp O .nil) (⟨by rw [DZ (k:=k) (by omega) (by omega) hc14]; rfl,H13.fr⟩)
   exact aA<|aE<|ao<|aG<|wm O<|wo (aU (b:=1) O O (by omega)<|wa O<|aY<|aX (k+1) ⟨⟨by omega,cL hok ⟨by (rw [eV,hb6,hb8,hb10])<;>rfl,fun h0=>by first | exact hc14 | (exact absurd h0 hc14)⟩⟩,(H13.take 1)⟩ ⟨rfl,rfl,trivial⟩ (by omega))
  refine bn 29 Fa.M H5 (oh (fun w1 H1=>ab O Fa.ey zr)<|oh (fun w1 H1=>aj O (H1.cell (i:=1) O O) A22 O zr)<|oh (fun w1 H1=>dM (b:=16) O O zr)<|mh O<|yh hb6 (fun w1 H1=>ab O Fa.fW zr)<|yh hb6 (fun w1 H1=>aj O (H1.cell (i:=1) O O) A22 O zr)<|yh hb6 (fun w1 H1=>ed (b:=1) O O zr)<|oh (fun w1 H1=>aN O hb6 O zr)<|mh O<|yh hb8 (fun w1 H1=>ab O Fa.fW zr)<|yh hb8 (fun w1 H1=>aj O (H1.cell (i:=1) O O) A22 O zr)<|yh hb8 (fun w1 H1=>cI (b:=1024) O O zr)<|oh (fun w1 H1=>aN O hb8 O zr)<|mh O<|yh hb10 (fun w1 H1=>au O zr)<|yh hb10 (fun w1 H1=>cm (b:=0) O O zr)<|yh hb10 (fun w1 H1=>au O zr)<|nh hb12<|nh hb12<|nh hb12<|nh hb12<|nh hb12<|nh hb12<|nh hb12<|nh hb12<|nh hb12<|nh hb12<|yh hb10 (fun w1 H1=>aN O hb12 O zr)<|oh (fun w1 H1=>aN O hb10 O zr)  bD) (by kernel_rfl) ?_
  intro β15 w15 H15
  exact wn<|bF O O<|aA<|aE<|ao<|aG<|wm O<|wo (aU (b:=1) O O (by omega)<|wa O<|aY<|aX (k+1) ⟨⟨by omega,cL hok ⟨by (rw [eV,hb6,hb8,hb10])<;>rfl,fun h0=>by first | exact hc12 | (exact absurd h0 hc12)⟩⟩,(H15.take 1)⟩ ⟨rfl,rfl,trivial⟩ (by omega))
 refine bc<|an<|an<|aS<|ao<|ap<|ws<|wa O<|wn<|aB<|bi (α:=Nat) (fun i=>[(1,(ptr b1 0)),(5,(vN i))]) (fun i w'=>(i≤ps.length∧(∀j,j<i→ps.getD j 0≠0∧(0<j→¬ps.getD (j-1) 0≥ps.getD j 0)))∧Ke [] w w' [.blk b1 [(aa pg),ev,pv,(.bool con)] 40]) (fun i=>ps.length-i) 0 ⟨⟨Kk _,fun j h=>by omega⟩,H2⟩ ⟨rfl,rfl,trivial⟩ ?_
 rintro i w16 ⟨⟨hi1,hoi⟩,H16⟩
 show WC _ _ _ _ _ [(1,(ptr b1 0)),(5,(vN i))] _
 refine ap<|ws<|wm O<|wo (ab O Fa.di<|wo (aj O (H16.cell (i:=0) O O) A38 O<|wo (bu A38 O (H16.arr hP)<|wo (bm O O<|wn (wE (i<ps.length) (fun hb17 hc17=>?_) (fun hb17 hc17=>?_))))))
 ·
  refine aA<|ao<|ap<|aB<|ap (wG ((ps.getD i 0)=(0:UInt16)) (fun hb18 hc18=>?_) (fun hb18 hc18=>?_))
  ·
   refine bn 24 Fa.M H16 (oh (fun w1 H1=>ab O Fa.di zr)<|oh (fun w1 H1=>aj O (H1.cell (i:=0) O O) A38 O zr)<|mh O<|oh (fun w1 H1=>aF A38 Fa.fV O (H1.arr hP) O (by omega) zr)<|oh (fun w1 H1=>aj O ((H1.arr hP).at (aR bA 0 (aV (H1.arr hP) (by omega)))) A203 O zr)<|oh (fun w1 H1=>iZ (b:=0) O O zr)<|mh O<|nh hb18<|nh hb18<|nh hb18<|uh<|uh<|uh<|uh<|uh<|uh<|uh<|uh<|uh<|uh<|uh<|uh<|nh hb18<|oh (fun w1 H1=>aQ O hb18 O zr)  bD) (by kernel_rfl) ?_
   intro β19 w19 H19
   exact wn<|bX O O<|ws<|wa O<|wn<|aC<|aZ<|aq<|aq<|aZ<|aq<|aD (.tmp O .nil) (⟨by rw [Eb (k:=i) (by omega) hc18]; rfl,H19.fr⟩)
  refine wG (i>0) (fun hb20 hc20=>?_) (fun hb20 hc20=>?_)
  ·
   refine bn 24 Fa.M H16 (oh (fun w1 H1=>ab O Fa.di zr)<|oh (fun w1 H1=>aj O (H1.cell (i:=0) O O) A38 O zr)<|mh O<|oh (fun w1 H1=>aF A38 Fa.fV O (H1.arr hP) O (by omega) zr)<|oh (fun w1 H1=>aj O ((H1.arr hP).at (aR bA 0 (aV (H1.arr hP) (by omega)))) A203 O zr)<|oh (fun w1 H1=>iZ (b:=0) O O zr)<|mh O<|yh hb18 (fun w1 H1=>au O zr)<|yh hb18 (fun w1 H1=>cm (b:=0) O O zr)<|yh hb18 (fun w1 H1=>au O zr)<|yh hb20 (fun w1 H1=>ab O Fa.di zr)<|yh hb20 (fun w1 H1=>aj O (H1.cell (i:=0) O O) A38 O zr)<|yh hb20 (fun w1 H1=>au O zr)<|yh hb20 (fun w1 H1=>bE (b:=1) O O (by omega) (by omega) zr)<|yh hb20 (fun w1 H1=>aF A38 Fa.fV O (H1.arr hP) O (by omega) zr)<|yh hb20 (fun w1 H1=>aj O ((H1.arr hP).at (aR bA 0 (aV (H1.arr hP) (by omega)))) A203 O zr)<|yh hb20 (fun w1 H1=>ab O Fa.di zr)<|yh hb20 (fun w1 H1=>aj O (H1.cell (i:=0) O O) A38 O zr)<|yh hb20 (fun w1 H1=>au O zr)<|yh hb20 (fun w1 H1=>aF A38 Fa.fV O (H1.arr hP) O (by omega) zr)<|yh hb20 (fun w1 H1=>aj O ((H1.arr hP).at (aR bA 0 (aV (H1.arr hP) (by omega)))) A203 O zr)<|yh hb20 (fun w1 H1=>zC O O zr)<|yh hb18 (fun w1 H1=>aQ O hb20 O zr)<|oh (fun w1 H1=>aN O hb18 O zr)  bD) (by kernel_rfl) ?_
   intro β21 w21 H21
   refine wn (wE ((ps.getD (i-1) 0)≥(ps.getD i 0)) (fun hb22 hc22=>?_) (fun hb22 hc22=>?_))
   ·
    exact ws<|wa O<|wn<|aC<|aZ<|aq<|aq<|aZ<|aq<|aD (.tmp O .nil) (⟨by rw [Ea (k:=i) (by omega) (by omega) hc22]; rfl,H21.fr⟩)
   exact aA<|aE<|ao<|aG<|wm O<|wo (aU (b:=1) O O (by omega)<|wa O<|aY<|aX (i+1) ⟨⟨by omega,cL hoi ⟨dF hb18,fun h0=>by first | exact hc22 | (exact absurd h0 hc22)⟩⟩,H21⟩ ⟨rfl,rfl,trivial⟩ (by omega))
  refine bn 24 Fa.M H16 (oh (fun w1 H1=>ab O Fa.di zr)<|oh (fun w1 H1=>aj O (H1.cell (i:=0) O O) A38 O zr)<|mh O<|oh (fun w1 H1=>aF A38 Fa.fV O (H1.arr hP) O (by omega) zr)<|oh (fun w1 H1=>aj O ((H1.arr hP).at (aR bA 0 (aV (H1.arr hP) (by omega)))) A203 O zr)<|oh (fun w1 H1=>iZ (b:=0) O O zr)<|mh O<|yh hb18 (fun w1 H1=>au O zr)<|yh hb18 (fun w1 H1=>cm (b:=0) O O zr)<|yh hb18 (fun w1 H1=>au O zr)<|nh hb20<|nh hb20<|nh hb20<|nh hb20<|nh hb20<|nh hb20<|nh hb20<|nh hb20<|nh hb20<|nh hb20<|nh hb20<|nh hb20<|yh hb18 (fun w1 H1=>aN O hb20 O zr)<|oh (fun w1 H1=>aN O hb18 O zr)  bD) (by kernel_rfl) ?_
  intro β23 w23 H23
  exact wn<|bF O O<|aA<|aE<|ao<|aG<|wm O<|wo (aU (b:=1) O O (by omega)<|wa O<|aY<|aX (i+1) ⟨⟨by omega,cL hoi ⟨dF hb18,fun h0=>by first | exact hc20 | (exact absurd h0 hc20)⟩⟩,H23⟩ ⟨rfl,rfl,trivial⟩ (by omega))
 refine bc<|an<|an<|aS<|ao<|ws<|wo (ab O Fa.im<|wo (aj O (H16.cell (i:=0) O O) A22 O<|wo (rk (b:=1024) O O<|wm O (wF 81 (pg≤(1024:UInt32)) (fun hb24 hc24=>?_) (fun hb24 hc24=>?_)))))
 ·
  exact wY hb24 (ab O Fa.di<|wY hb24 (aj O (H16.cell (i:=0) O O) A38 O<|wY hb24 (bu A38 O (H16.arr hP)<|wY hb24 (dH (b:=16) O O<|wo (aQ O hb24 O<|wa O<|wn<|aC<|aD (.tmp O .nil) (⟨by (rw [rp (fun j hj=>hok j (by omega)) (fun j hj=>hoi j (by omega)),hb24])<;>rfl,H16.fr⟩))))))
 exact wN hb24<|wN hb24<|wN hb24<|wN hb24<|wo (aN O hb24 O<|wa O<|wn<|aC<|aD (.tmp O .nil) (⟨by (rw [rp (fun j hj=>hok j (by omega)) (fun j hj=>hoi j (by omega)),hb24])<;>rfl,H16.fr⟩))
theorem EL (pg:UInt32) (ev pv sv:Value) (xs:List Xt) (ps:List UInt16) (con:Bool) (en:UInt32) (sg:List Sg) (w:World) (_hE:Arr w ev 2 xs.length (Kh xtc xs)) (_hP:Arr w pv 1 ps.length (Kg bA ps)) (hS:Arr w sv 3 sg.length (Kh sgc sg)) (_hn:xs.length<2^47) (_hm:ps.length<2^47) (hk:sg.length<2^47) :
  Calls Kf 79 #[(.agg #[(aa pg),ev,pv,(.bool con),(aa en),sv])] w (fun e w'=>e=.returned (.bool (tJ en sg))∧Fr [] w w'):=by
 refine enter Tryz.func79 O O ?_
 have H0:=aL w []
 refine ws<|wo (bK H0 O O (fun b1 w1 H1=>(wa O<|wn<|ap<|ws<|wa O<|wn<|aB<|bi (α:=Nat) (fun k=>[(1,(ptr b1 0)),(3,(vN k))]) (fun k w'=>(k≤sg.length∧(∀j,j<k→oO en (sg.getD j Sg.zero)=false))∧Ke [] w w' [.blk b1 [(aa pg),ev,pv,(.bool con),(aa en),sv] 43]) (fun k=>sg.length-k) 0 ⟨⟨Kk _,fun j h=>by omega⟩,H1⟩ ⟨rfl,rfl,trivial⟩ ?_)))
 rintro k w2 ⟨⟨hk1,hok⟩,H2⟩
 show WC _ _ _ _ _ [(1,(ptr b1 0)),(3,(vN k))] _
 refine ap<|ws<|wm O<|wo (ab O Fa.eA<|wo (aj O (H2.cell (i:=0) O O) A41 O<|wo (bu A41 O (H2.arr hS)<|wo (bm O O<|wn (wE (k<sg.length) (fun hb3 hc3=>?_) (fun hb3 hc3=>?_))))))
 ·
  refine aA<|ao<|ap<|aB<|ws<|wo (ab O Fa.eA<|wo (aj O (H2.cell (i:=0) O O) A41 O<|wm O<|wo (bJ A41 Fa.de O (H2.arr hS) O (by omega)<|wo (cH (vs:=sgc (sg.getD k Sg.zero)) O (Arr.atsF (H2.arr hS) (fun _=>rfl) (by decide) Sg.zero (by omega)) A116 O Fa.de O<|wo (bt H2 Fa.de (fun b4 w4 H4=>(wo (bw (i:=1) H4 O O O O O Fa.de (fun w5 H5=>(wn<|ws<|wo (ab O Fa.gB<|wo (aj O (H5.cell (i:=1) O O) A5 O<|wo (gZ (b:=5) O O<|wm O (wF 20 ((sg.getD k Sg.zero).p=(5:UInt8)) (fun hb6 hc6=>?_) (fun hb6 hc6=>?_)))))))))))))))
  ·
   refine wY hb6 (ab O Fa.iU<|wY hb6 (aj O (H5.cell (i:=0) O O) A22 O<|wY hb6 (ab O Fa.dE<|wY hb6 (aj O (H5.cell (i:=1) O O) A22 O<|wY hb6 (dM O O<|wo (aQ O hb6 O<|wm O (wF 27 (en≥(sg.getD k Sg.zero).a) (fun hb7 hc7=>?_) (fun hb7 hc7=>?_))))))))
   ·
    refine wY hb7 (ab O Fa.iU<|wY hb7 (aj O (H5.cell (i:=0) O O) A22 O<|wY hb7 (cu (hs:=A22) (hd:=A154) O<|wY hb7 (eH (b:=8) O O<|wY hb7 (ab O Fa.dE<|wY hb7 (aj O (H5.cell (i:=1) O O) A22 O<|wY hb7 (cu (hs:=A22) (hd:=A154) O<|wY hb7 (ab O Fa.eJ<|wY hb7 (aj O (H5.cell (i:=1) O O) A9 O<|wY hb7 (bH A9 O<|wY hb7 (dq (hs:=A3) (hd:=A154) O<|wY hb7 (eH O O<|wY hb7 (rj O O<|wo (aQ O hb7 O<|wn (wE (((Kn en.toNat)+(8:UInt64))≤((Kn (sg.getD k Sg.zero).a.toNat)+(Kn (sg.getD k Sg.zero).b.length))) (fun hb8 hc8=>?_) (fun hb8 hc8=>?_))))))))))))))))
    ·
     exact ws<|wo (ab O Fa.iU<|wo (aj O (H5.cell (i:=0) O O) A22 O<|wo (eQ (b:=8) O O (by decide)<|wo (eu (b:=0) O O<|wa O<|wn<|aC<|aZ<|aq<|aq<|aZ<|aq<|aD (.tmp O .nil) (⟨by rw [tJ,eD (d:=Sg.zero) (k:=k) (by omega) (by (rw [oO,fv,hb6,hb7,hb8])<;>rfl)]; rfl,H5.fr⟩)))))
    exact aA<|aE<|ao<|aG<|wm O<|wo (aU (b:=1) O O (by omega)<|wa O<|aY<|aX (k+1) ⟨⟨by omega,cL hok (by (rw [oO,fv,hb6,hb7,hb8])<;>rfl)⟩,(H5.take 1)⟩ ⟨rfl,rfl,trivial⟩ (by omega))
   exact wN hb7<|wN hb7<|wN hb7<|wN hb7<|wN hb7<|wN hb7<|wN hb7<|wN hb7<|wN hb7<|wN hb7<|wN hb7<|wN hb7<|wN hb7<|wo (aN O hb7 O<|wn<|bF O O<|aA<|aE<|ao<|aG<|wm O<|wo (aU (b:=1) O O (by omega)<|wa O<|aY<|aX (k+1) ⟨⟨by omega,cL hok (by (rw [oO,fv,hb6,hb7])<;>rfl)⟩,(H5.take 1)⟩ ⟨rfl,rfl,trivial⟩ (by omega)))
  exact wN hb6<|wN hb6<|wN hb6<|wN hb6<|wN hb6<|wo (aN O hb6 O<|wm O<|wN O<|wN O<|wN O<|wN O<|wN O<|wN O<|wN O<|wN O<|wN O<|wN O<|wN O<|wN O<|wN O<|wo (aN O O O<|wn<|bF O O<|aA<|aE<|ao<|aG<|wm O<|wo (aU (b:=1) O O (by omega)<|wa O<|aY<|aX (k+1) ⟨⟨by omega,cL hok (by (rw [oO,fv,hb6])<;>rfl)⟩,(H5.take 1)⟩ ⟨rfl,rfl,trivial⟩ (by omega))))
 exact bc<|an<|an<|aS<|ao<|ws<|wa O<|wn<|aC<|aD (.tmp O .nil) (⟨by rw [tJ,ew (d:=Sg.zero) (fun j hj=>hok j (by omega))]; rfl,H2.fr⟩)
theorem qS (pg:UInt32) (ev pv sv:Value) (xs:List Xt) (ps:List UInt16) (con:Bool) (en:UInt32) (sg:List Sg) (w:World) (hE:Arr w ev 2 xs.length (Kh xtc xs)) (hP:Arr w pv 1 ps.length (Kg bA ps)) (hS:Arr w sv 3 sg.length (Kh sgc sg)) (hn:xs.length<2^47) (hm:ps.length<2^47) (hk:sg.length<2^47) (hB: ∀x∈sg,x.b.length≤2^30) :
  Calls Kf 34 #[(.agg #[(aa pg),ev,pv,(.bool con),(aa en),sv])] w (fun e w'=>e=.returned (.bool (fo pg xs ps en sg))∧Fr [] w w'):=by
 refine enter Tryz.func34 O O ?_
 have H0:=aL w []
 refine ws<|wo (bK H0 O O (fun b1 w1 H1=>(wa O<|wn<|ws<|wa O<|wn<|ap<|ws<|wa O<|wn<|aB<|bi (α:=Nat) (fun k=>[(1,(ptr b1 0)),(3,(vI (kq sg k))),(4,(vN k))]) (fun k w'=>(k≤sg.length∧(∀j,j<k→eL sg j=true))∧Ke [] w w' [.blk b1 [(aa pg),ev,pv,(.bool con),(aa en),sv] 43]) (fun k=>sg.length-k) 0 ⟨⟨Kk _,fun j h=>by omega⟩,H1⟩ ⟨rfl,rfl,rfl,trivial⟩ ?_)))
 rintro k w2 ⟨⟨hk1,hok⟩,H2⟩
 show WC _ _ _ _ _ [(1,(ptr b1 0)),(3,(vI (kq sg k))),(4,(vN k))] _
 refine ap<|ws<|wm O<|wo (ab O Fa.eA<|wo (aj O (H2.cell (i:=0) O O) A41 O<|wo (bu A41 O (H2.arr hS)<|wo (bm O O<|wn (wE (k<sg.length) (fun hb3 hc3=>?_) (fun hb3 hc3=>?_))))))
 ·
  refine aA<|ao<|ap<|aB<|ap<|ws<|wo (ab O Fa.eA<|wo (aj O (H2.cell (i:=0) O O) A41 O<|wm O<|wo (bJ A41 Fa.de O (H2.arr hS) O (by omega)<|wo (cH (vs:=sgc (sg.getD k Sg.zero)) O (Arr.atsF (H2.arr hS) (fun _=>rfl) (by decide) Sg.zero (by omega)) A116 O Fa.de O<|wo (cq H2 (Kd 76) O (Dj (sg.getD k Sg.zero) _ (by have:=gy hB k; omega)) fun w4 H4=>(wo (cQ O<|wm O (wV 20 (!(fP (sg.getD k Sg.zero))) (fun hb5=>?_) (fun hb5=>?_)))))))))
  ·
   have hn5:=(Bool.not_eq_true' _).mp hb5
   exact wN hb5<|wN hb5<|wN hb5<|wN hb5<|wN hb5<|wN hb5<|wN hb5<|wN hb5<|wN hb5<|wo (aQ O hb5 O<|wn<|bX O O<|ws<|wa O<|wn<|aC<|aq<|aZ<|aq<|aq<|aZ<|aq<|aD (.tmp O .nil) (⟨by rw [qu (k:=k) (by omega) (by (rw [eL,hn5])<;>rfl)]; rfl,H4.fr⟩))
  have hn5:=(Bool.not_eq_false' _).mp hb5
  refine wY hb5 (ab O Fa.eA<|wY hb5 (aj O (H4.cell (i:=0) O O) A41 O<|wY hb5 (au O<|wY hb5 (bJ A41 Fa.de O (H4.arr hS) O (by omega)<|wY hb5 (cU O Fa.dE<|wY hb5 (aj O (Arr.atF (k:=0) (H4.arr hS) (fun _=>rfl) (by decide) Sg.zero (by omega) O) A22 O<|wY hb5 (dA (hs:=A22) (hd:=A3) O<|wY hb5 (au O<|wY hb5 (nA O O<|wo (aN O hb5 O<|wn (wE (((sg.getD k Sg.zero).a.toNat:Int)≤(kq sg k)) (fun hb6 hc6=>?_) (fun hb6 hc6=>?_))))))))))))
  ·
   exact ws<|wa O<|wn<|aC<|aq<|aZ<|aq<|aq<|aZ<|aq<|aD (.tmp O .nil) (⟨by rw [qu (k:=k) (by omega) (by (rw [eL,hn5,hb6])<;>rfl)]; rfl,H4.fr⟩)
  have hstp:eL sg k=true:=by (rw [eL,hn5,hb6])<;>rfl
  have hsg:=sc (x:=sg.getD k Sg.zero) (by simpa using hn5)
  have hgb:=gy hB k
  have hpg:pgN (sg.getD k Sg.zero)=((sg.getD k Sg.zero).b.length+255) / 256:=rfl
  refine aA<|ao<|ws<|wo (ab O Fa.eA<|wo (aj O (H4.cell (i:=0) O O) A41 O<|wm O<|wo (bJ A41 Fa.de O (H4.arr hS) O (by omega)<|wo (cH (vs:=sgc (sg.getD k Sg.zero)) O (Arr.atsF (H4.arr hS) (fun _=>rfl) (by decide) Sg.zero (by omega)) A116 O Fa.de O<|wo (az (Kd 77) O ((qR (sg.getD k Sg.zero) _ (by have:=gy hB k; omega)).mono (fun e w7 hq=>?_)))))))
  obtain ⟨v7,rfl,hq7⟩:=hq
  refine ⟨_,rfl,?_⟩
  have H7:=H4.splice [] [] [.row v7 22 1 (pgN (sg.getD k Sg.zero)) (Kg aa (pgL (sg.getD k Sg.zero) (pgN (sg.getD k Sg.zero))))] O O hq7 (am ae aI)
  exact wa O<|wn<|aG<|wm O<|wm O<|wo (bu A73 O (H7.arrR (i:=1) O)<|wo (bE (b:=1) O O (by omega) (by omega)<|wo (aF A73 Fa.I22 O (H7.arrR (i:=1) O) O (by omega)<|wo (aj O ((H7.arrR (i:=1) O).at (aR aa 0 (aV (H7.arrR (i:=1) O) (by omega)))) A22 O<|wo (dA (hs:=A22) (hd:=A3) O<|wa O<|aY<|aE<|ao<|aG<|wm O<|wo (aU (b:=1) O O (by omega)<|wa O<|aY<|aX (k+1) ⟨⟨by omega,cL hok hstp⟩,(H7.take 1)⟩ ⟨rfl,rfl,rfl,trivial⟩ (by omega)))))))
 refine bc<|an<|an<|aS<|ao<|ws<|wo (ab O Fa.cZ<|wo (aM (vs:=[_,_,_,_]) O (H2.cells (i:=0) O O) A40 O Fa.I40 O<|wo (cq H2 (Kd 78) O (zh pg _ _ xs ps con _ (H2.arr hE) (H2.arr hP) (by omega) (by omega)) fun w8 H8=>(wm O (wV 47 (dP pg xs ps) (fun hb9=>?_) (fun hb9=>?_))))))
 ·
  refine wY hb9 (ab O Fa.eA<|wY hb9 (aj O (H8.cell (i:=0) O O) A41 O<|wY hb9 (bu A41 O (H8.arr hS)<|wY hb9 (dI (b:=1) O O<|wo (aQ O hb9 O<|wm O (wF 53 (sg.length≥1) (fun hb10 hc10=>?_) (fun hb10 hc10=>?_)))))))
  ·
   refine wY hb10 (ab O Fa.eA<|wY hb10 (aj O (H8.cell (i:=0) O O) A41 O<|wY hb10 (bu A41 O (H8.arr hS)<|wY hb10 (dH (b:=8) O O<|wo (aQ O hb10 O<|wm O (wF 59 (sg.length≤8) (fun hb11 hc11=>?_) (fun hb11 hc11=>?_)))))))
   ·
    exact wY hb11 (aM (vs:=[_,_,_,_,_,_]) O (H8.cells (i:=0) O O) A43 O Fa.I43 O<|wY hb11 (cq H8 (Kd 79) O (EL pg _ _ _ xs ps con en sg _ (H8.arr hE) (H8.arr hP) (H8.arr hS) (by omega) (by omega) (by omega)) fun w12 H12=>(wo (aQ O hb11 O<|wa O<|wn<|aC<|aD (.tmp O .nil) (⟨by (rw [jH (fun j hj=>hok j (by omega)),hb9,hb10,hb11])<;>rfl,H12.fr⟩)))))
   exact wN hb11<|wN hb11<|wo (aN O hb11 O<|wa O<|wn<|aC<|aD (.tmp O .nil) (⟨by (rw [jH (fun j hj=>hok j (by omega)),hb9,hb10,hb11])<;>rfl,H8.fr⟩))
  exact wN hb10<|wN hb10<|wN hb10<|wN hb10<|wo (aN O hb10 O<|wm O<|wN O<|wN O<|wo (aN O O O<|wa O<|wn<|aC<|aD (.tmp O .nil) (⟨by (rw [jH (fun j hj=>hok j (by omega)),hb9,hb10])<;>rfl,H8.fr⟩)))
 exact wN hb9<|wN hb9<|wN hb9<|wN hb9<|wo (aN O hb9 O<|wm O<|wN O<|wN O<|wN O<|wN O<|wo (aN O O O<|wm O<|wN O<|wN O<|wo (aN O O O<|wa O<|wn<|aC<|aD (.tmp O .nil) (⟨by (rw [jH (fun j hj=>hok j (by omega)),hb9])<;>rfl,H8.fr⟩))))
theorem uP (pg:UInt32) (ev pv sv:Value) (xs:List Xt) (ps:List UInt16) (con:Bool) (en:UInt32) (sg:List Sg) (w:World) (hE:Arr w ev 2 xs.length (Kh xtc xs)) (hP:Arr w pv 1 ps.length (Kg bA ps)) (hS:Arr w sv 3 sg.length (Kh sgc sg)) (hn:xs.length<2^47) (hm:ps.length<2^47) (hk:sg.length<2^47) (hB: ∀x∈sg,x.b.length≤2^30) (hs:sg.length≤2^20) :
    Calls Kf 101 #[(.agg #[(aa pg),ev,pv,(.bool con),(aa en),sv])] w (fun e w'=> ∃v,e=.returned v∧Ke [] w w' [.row v 22 1 (if fo pg xs ps en sg then aT sg sg.length else []).length (Kg aa (if fo pg xs ps en sg then aT sg sg.length else []))]):=by
  refine enter Tryz.func101 O O ?_
  have H0:=aL w []
  refine ws<|wo (bK H0 O O (fun b1 w1 H1=>(wa O<|wn<|ws<|wa O ?_)))
  have H2:=H1.nilRow 22 1
  refine wn<|WC.cut (α:=Nat × Value) (fun (k,q)=>[(3,q)]) (fun (k,q) w'=>((k=sg.length∧(k=0∨fo pg xs ps en sg=true))∨(k=0∧fo pg xs ps en sg=false))∧Ke [] w w' [.blk b1 [(aa pg),ev,pv,(.bool con),(aa en),sv] 43,.row q 22 1 (aT sg k).length (Kg aa (aT sg k))]) ?_ ?_
  ·
    refine ws<|wa O<|wn<|aB<|bi (α:=Nat × Value) (fun (k,q)=>[(1,(ptr b1 0)),(3,q),(4,(vN k))]) (fun (k,q) w'=>(k≤sg.length∧(k=0∨fo pg xs ps en sg=true))∧Ke [] w w' [.blk b1 [(aa pg),ev,pv,(.bool con),(aa en),sv] 43,.row q 22 1 (aT sg k).length (Kg aa (aT sg k))]) (fun (k,q)=>sg.length-k) (0,(.slice none 0 0)) ⟨⟨Kk _,.inl O⟩,H2⟩ ⟨rfl,rfl,rfl,trivial⟩ ?_
    rintro ⟨k,q⟩ w3 ⟨⟨hk1,hk2⟩,H3⟩
    show WC _ _ _ _ _ [(1,(ptr b1 0)),(3,q),(4,(vN k))] _
    have hpl:=kE hB k
    have hgb:=gy hB k
    have hpg:pgN (sg.getD k Sg.zero)=((sg.getD k Sg.zero).b.length+255) / 256:=rfl
    refine ap<|ws<|wm O<|wo (ab O Fa.eA<|wo (aj O (H3.cell (i:=0) O O) A41 O<|wo (bu A41 O (H3.arr hS)<|wo (bm O O<|wm O (wF 10 (k<sg.length) (fun hb4 hc4=>?_) (fun hb4 hc4=>?_))))))
    ·
      refine wY hb4 (aM (vs:=[_,_,_,_,_,_]) O (H3.cells (i:=0) O O) A43 O Fa.I43 O<|wY hb4 (cq H3 (Kd 34) O (qS pg _ _ _ xs ps con en sg _ (H3.arr hE) (H3.arr hP) (H3.arr hS) hn hm hk hB) fun w5 H5=>(wo (aQ O hb4 O<|wn (wC (fo pg xs ps en sg) (fun hb6=>?_) (fun hb6=>?_))))))
      ·
        refine aA<|ao<|ap<|aB<|aG<|wm O<|wo (ab O Fa.eA<|wo (aj O (H5.cell (i:=0) O O) A41 O<|wm O<|wo (bJ A41 Fa.de O (H5.arr hS) O (by omega)<|wo (cH (vs:=sgc (sg.getD k Sg.zero)) O (Arr.atsF (H5.arr hS) (fun _=>rfl) (by decide) Sg.zero (by omega)) A116 O Fa.de O<|wo (az (Kd 77) O ((qR (sg.getD k Sg.zero) _ (by omega)).mono (fun e w7 hq=>?_)))))))
        obtain ⟨v7,rfl,hq7⟩:=hq
        refine ⟨_,rfl,?_⟩
        have H7:=H5.splice [] [] [.row v7 22 1 (pgN (sg.getD k Sg.zero)) (Kg aa (pgL (sg.getD k Sg.zero) (pgN (sg.getD k Sg.zero))))] O O hq7 (am ae aI)
        exact wo (cx (f:=aa) (l:=(aT sg k)) (l':=(pgL (sg.getD k Sg.zero) (pgN (sg.getD k Sg.zero)))) (i:=1) H7 A73 Fa.I22 O O O O (ck A73 (H7.arrR (i:=2) O)) (cV (fun _=>rfl)) (by omega) (by omega) (fun v8 w8 H8=>(wa O<|aY<|aE<|ao<|aG<|wm O<|wo (aU (b:=1) O O (by omega)<|wa O<|aY<|aX (k+1,v8) ⟨⟨by omega,.inr hb6⟩,(cM (i:=1) (f:=aa) (show Ke [] w w8 [.blk b1 [(aa pg),ev,pv,(.bool con),(aa en),sv] 43,.row v8 22 1 ((aT sg k).length+(pgN (sg.getD k Sg.zero))) (Kg aa ((aT sg k)++(pgL (sg.getD k Sg.zero) (pgN (sg.getD k Sg.zero)))))] from (H8.take 2)) O O (by rw [aT,Kj,iu]))⟩ ⟨rfl,rfl,rfl,trivial⟩ (by show sg.length-(k+1)<sg.length-k; omega)))))
      exact bc<|an<|an<|aS<|cd (k,q) ⟨.inr ⟨hk2.resolve_right (by rw [hb6]; decide),hb6⟩,(show Ke [] w w5 [.blk b1 [(aa pg),ev,pv,(.bool con),(aa en),sv] 43,.row q 22 1 (aT sg k).length (Kg aa (aT sg k))] from H5)⟩ ⟨rfl,trivial⟩
    exact wN hb4<|wN hb4<|wo (aN O hb4 O<|wn<|bF O O<|bc<|an<|an<|aS<|cd (k,q) ⟨.inl ⟨by omega,hk2⟩,(show Ke [] w w3 [.blk b1 [(aa pg),ev,pv,(.bool con),(aa en),sv] 43,.row q 22 1 (aT sg k).length (Kg aa (aT sg k))] from H3)⟩ ⟨rfl,trivial⟩)
  rintro ⟨k,q⟩ w9 ⟨hk2,H9⟩
  show WC _ _ _ _ _ [(3,q)] _
  refine ws<|wm O<|wa O<|wn<|aC<|aD (.tmp O .nil) ?_
  have hL:(if fo pg xs ps en sg then aT sg sg.length else [])=aT sg k:=by
    rcases hk2 with ⟨h1,h2⟩ | ⟨h1,h2⟩
    · subst h1; rcases h2 with h2 | h2
      · rw [h2,aT]; split<;>rfl
      · rw [h2]; rfl
    · rw [h2,h1]; rfl
  rw [hL]
  exact ⟨_,rfl,H9.sel [1] O O⟩
theorem jR (pg:UInt32) (ev pv sv:Value) (xs:List Xt) (ps:List UInt16) (con:Bool) (en:UInt32) (sg:List Sg) (w:World) (hE:Arr w ev 2 xs.length (Kh xtc xs)) (hP:Arr w pv 1 ps.length (Kg bA ps)) (hS:Arr w sv 3 sg.length (Kh sgc sg)) (hn:xs.length<2^47) (hm:ps.length<2^47) (hk:sg.length<2^47) (hB: ∀x∈sg,x.b.length≤2^30) (hs:sg.length≤2^20) :
  Calls Kf 87 #[(.agg #[(aa pg),ev,pv,(.bool con),(aa en),sv])] w (fun e w'=> ∃v,e=.returned v∧Ke [] w w' [.row v 22 1 (if imE pg xs ps en sg=0 then aT sg sg.length else []).length (Kg aa (if imE pg xs ps en sg=0 then aT sg sg.length else []))]):=by
 refine enter Tryz.func87 O O ?_
 have H0:=aL w []
 refine ws<|wo (bK H0 O O (fun b1 w1 H1=>(wa O ?_)))
 have H2:=H1.nilRow 22 1
 refine wn<|ap<|ws<|wo (aM (vs:=[_,_,_,_,_,_]) O (H2.cells (i:=0) O O) A43 O Fa.I43 O<|wo (cq H2 (Kd 41) O (kr pg _ _ _ xs ps con en sg _ (H2.arr hE) (H2.arr hP) (H2.arr hS) (by omega) (by omega) (by omega)) fun w3 H3=>(wo (bI (b:=0) O O<|wn (wE ((imE pg xs ps en sg)≠0) (fun hb4 hc4=>?_) (fun hb4 hc4=>?_))))))
 ·
  refine ws<|wa O<|wn<|aC<|aq<|aD (.tmp O .nil) ?_
  rw [if_neg hc4]
  exact ⟨_,rfl,(H3.nilRow 22 1).sel [2] O O⟩
 have him:imE pg xs ps en sg=0:=Decidable.not_not.mp hc4
 refine aA<|ao<|ap<|ws<|wo (ab O Fa.eA<|wo (aj O (H3.cell (i:=0) O O) A41 O<|wo (bu A41 O (H3.arr hS)<|wm O<|wn<|aB<|bi (α:=Nat × Value) (fun (k,q)=>[(1,(ptr b1 0)),(2,q),(10,sv),(11,(vN sg.length)),(12,(vN k))]) (fun (k,q) w'=>(k≤sg.length)∧Ke [] w w' [.blk b1 [(aa pg),ev,pv,(.bool con),(aa en),sv] 43,.row q 22 1 (aT sg k).length (Kg aa (aT sg k))]) (fun (k,q)=>sg.length-k) (0,(.slice none 0 0)) ⟨Kk _,H3⟩ ⟨rfl,rfl,rfl,rfl,rfl,trivial⟩ ?_)))
 rintro ⟨k,q⟩ w5 ⟨hk1,H5⟩
 show WC _ _ _ _ _ [(1,(ptr b1 0)),(2,q),(10,sv),(11,(vN sg.length)),(12,(vN k))] _
 have hpl:=kE hB k
 have hgb:=gy hB k
 have hpg:pgN (sg.getD k Sg.zero)=((sg.getD k Sg.zero).b.length+255) / 256:=rfl
 refine ws<|wo (bm O O<|wn<|ap (wE (k<sg.length) (fun hb6 hc6=>?_) (fun hb6 hc6=>?_)))
 ·
  refine aA<|ao<|ap<|aB<|ws<|wo (bJ A41 Fa.de O (H5.arr hS) O (by omega)<|wo (cH (vs:=sgc (sg.getD k Sg.zero)) O (Arr.atsF (H5.arr hS) (fun _=>rfl) (by decide) Sg.zero (by omega)) A116 O Fa.de O<|wo (bt H5 Fa.de (fun b7 w7 H7=>(wo (bw (i:=2) H7 O O O O O Fa.de (fun w8 H8=>(wn<|ws<|wo (ab O Fa.dE<|wo (aj O (H8.cell (i:=2) O O) A22 O<|wo (cu (hs:=A22) (hd:=A154) O<|wa O<|wn<|aB<|bi (α:=Nat × Value) (fun (j,r)=>[(1,(ptr b1 0)),(2,r),(4,(ptr b7 0)),(5,(cB (Kn ((sg.getD k Sg.zero).a.toNat+256 * j)))),(10,sv),(11,(vN sg.length)),(12,(vN k))]) (fun (j,r) w'=>(j≤pgN (sg.getD k Sg.zero))∧Ke [] w w' [.blk b1 [(aa pg),ev,pv,(.bool con),(aa en),sv] 43,.row r 22 1 (aT sg k++pgL (sg.getD k Sg.zero) j).length (Kg aa (aT sg k++pgL (sg.getD k Sg.zero) j)),.blk b7 [(aa (sg.getD k Sg.zero).a),(vU8 (sg.getD k Sg.zero).p),(str (sg.getD k Sg.zero).b)] 116]) (fun (j,r)=>pgN (sg.getD k Sg.zero)-j) (0,q) ⟨Kk _,(cM (i:=1) (f:=aa) H8 O (List.append_nil _).symm (congrArg List.length (List.append_nil _).symm))⟩ ⟨rfl,rfl,rfl,rfl,rfl,rfl,rfl,trivial⟩ ?_)))))))))))
  rintro ⟨j,r⟩ w9 ⟨hj1,H9⟩
  show WC _ _ _ _ _ [(1,(ptr b1 0)),(2,r),(4,(ptr b7 0)),(5,(cB (Kn ((sg.getD k Sg.zero).a.toNat+256 * j)))),(10,sv),(11,(vN sg.length)),(12,(vN k))] _
  have hnb:=nF him k (by omega)
  have hlt:=Hj hnb (by omega) hj1
  have hpj:(aT sg k++pgL (sg.getD k Sg.zero) j).length=(aT sg k).length+j:=by rw [Kj,iu]
  have hal:=(sg.getD k Sg.zero).a.toNat_lt
  refine ap<|ws<|wm O<|wo (aM (vs:=[_,_,_]) O (H9.cells (i:=2) O O) A116 O Fa.de O<|wo (cq H9 (Kd 92) O (ng (sg.getD k Sg.zero) _) fun w10 H10=>(wo (ri O O<|wn (wE ((Kn ((sg.getD k Sg.zero).a.toNat+256 * j))<(fv (sg.getD k Sg.zero))) (fun hb11 hc11=>?_) (fun hb11 hc11=>?_))))))
  ·
   exact aA<|ao<|ap<|aB<|aG<|wm O<|wm O<|wo (ek (hs:=A154) (hd:=A22) O<|wo (aW (cs:=[_]) H10 A73 Fa.I22 O O O O (by decide) (by decide) (fun b12 w12 H12=>(wo (cx (f:=aa) (l:=(aT sg k++pgL (sg.getD k Sg.zero) j)) (l':=[(Kl (Kn ((sg.getD k Sg.zero).a.toNat+256 * j)).toNat)]) (i:=1) H12 A73 Fa.I22 O O O O (ck A73 (H12.arrR (i:=3) O)) (cV (fun _=>rfl)) (by omega) (by omega) (fun v13 w13 H13=>(wa O<|aY<|aE<|ao<|aG<|wm O<|wo (eH (b:=256) O O<|wa O<|aY<|aX (j+1,v13) ⟨(by have:=hlt.1 hc11; omega),(cM (i:=1) (f:=aa) (show Ke [] w w13 [.blk b1 [(aa pg),ev,pv,(.bool con),(aa en),sv] 43,.row v13 22 1 ((aT sg k++pgL (sg.getD k Sg.zero) j).length+1) (Kg aa ((aT sg k++pgL (sg.getD k Sg.zero) j)++[(Kl (Kn ((sg.getD k Sg.zero).a.toNat+256 * j)).toNat)])),.blk b7 [(aa (sg.getD k Sg.zero).a),(vU8 (sg.getD k Sg.zero).p),(str (sg.getD k Sg.zero).b)] 116] from (H13.take 3)) O (by rw [FD (by omega),List.append_assoc]; rfl) (by simp only [Kj,iu]; omega))⟩ ⟨rfl,rfl,rfl,(congrArg (fun n=>some (cB n)) (FE _ _)),rfl,rfl,rfl,trivial⟩ (by have:=hlt.1 hc11; show pgN (sg.getD k Sg.zero)-(j+1)<pgN (sg.getD k Sg.zero)-j; omega)))))))))
  have hjn:¬256 * j<(sg.getD k Sg.zero).b.length:=fun h=>hc11 (hlt.2 h)
  refine bc<|an<|an<|aS<|aE<|ao<|aG<|wo (aU (b:=1) O O (by omega)<|wm O<|aY ?_)
  have hje:j=pgN (sg.getD k Sg.zero):=by omega
  exact aX (k+1,r) ⟨(by omega),(by have h:=(show Ke [] w w10 [.blk b1 [(aa pg),ev,pv,(.bool con),(aa en),sv] 43,.row r 22 1 (aT sg k++pgL (sg.getD k Sg.zero) j).length (Kg aa (aT sg k++pgL (sg.getD k Sg.zero) j))] from (H10.take 2)); rw [hje] at h; exact cM (i:=1) (f:=aa) h O O (by rw [aT]))⟩ ⟨rfl,rfl,rfl,rfl,rfl,trivial⟩ (by show sg.length-(k+1)<sg.length-k; omega)
 refine bc<|an<|an<|aS<|ao<|ws<|wm O<|wa O<|wn<|aC<|aD (.tmp O .nil) ?_
 obtain rfl:k=sg.length:=by omega
 rw [if_pos him]
 exact ⟨_,rfl,H5.sel [1] O O⟩
theorem cK (q:Nat) (r:Rd) (n:Int) (TR:TypeId) (T:List Nat) (w:World) (H:Ke T w w [.blk q [(str r.s),(vN r.at_),(vN r.f)] TR]) (hr:r.s.length<2^47) :
  Calls Kf 159 #[(.agg #[(ptr q 0)]),(vI n)] w (fun e w'=>e=.returned (aa (aK r n).1.1)∧Ke T w w' [.blk q [str (aK r n).2.s,vN (aK r n).2.at_,vN (aK r n).2.f] TR]):=by
 refine enter Tryz.func159 O O<|ws<|wo (bK H O O (fun b1 w1 H1=>(wa O<|wn<|ws<|wo (ab O Fa.pX<|wo (aj O (H1.cell (i:=1) O O) A251 O<|wm O<|wo (az (Kd 200) O ((AS q r (n) TR _ _ (H1.part [0] O O) hr).mono (fun e w2 hq=>?_))))))))
 obtain ⟨rfl,hq2⟩:=hq
 refine ⟨_,rfl,?_⟩
 have H2:=H1.splice [0] [.blk q [(str ((aK r n).2).s),(vN ((aK r n).2).at_),(vN ((aK r n).2).f)] TR] [] O O hq2 (am ae aI)
 exact wm O<|we O O<|we O O<|wa O<|wa O<|wn<|ws<|wm O<|wa O<|wn<|aC<|aD (.tmp O .nil) (⟨rfl,H2.take 1⟩)
theorem Bn (q:Nat) (S:List UInt8) (E:Nat) (n:Int) (T:List Nat) (w:World) (H:Ke T w w [.blk q [(str S),(vN E)] 283]) (hr:S.length<2^47) :
  Calls Kf 184 #[(ptr q 0),(vI n)] w (fun e w'=>e=.returned (aa (aK (Rd.mk S 0 E (Kk _)) n).1.1)∧Ke T w w' [.blk q [str (aK (Rd.mk S 0 E (Kk _)) n).2.rest,vN (aK (Rd.mk S 0 E (Kk _)) n).2.f] 283]):=by
 refine enter Tryz.func184 O O<|ws<|wa O<|wn<|ws<|wm O<|wm O<|wo (az (Kd 223) O ((ED q S E (n) _ _ (H.part [0] O O) hr).mono (fun e w1 hq=>?_)))
 obtain ⟨rfl,hq1⟩:=hq
 refine ⟨_,rfl,?_⟩
 have H1:=H.splice [0] [.blk q [(str (aK (Rd.mk S 0 E (Kk _)) n).2.rest),(vN (aK (Rd.mk S 0 E (Kk _)) n).2.f)] 283] [] O O hq1 (am ae aI)
 exact wm O<|we O O<|we O O<|wa O<|wa O<|wn<|ws<|wm O<|wa O<|wn<|aC<|aD (.tmp O .nil) (⟨rfl,H1⟩)
theorem qz (q:Nat) (r:Rd) (TR:TypeId) (T:List Nat) (w:World) (H:Ke T w w [.blk q [(str r.s),(vN r.at_),(vN r.f)] TR]) (hr:r.s.length<2^47) :
  Calls Kf 160 #[(.agg #[(ptr q 0)])] w (fun e w'=>e=.returned (.agg #[aa (dn r).1.a,vU8 (dn r).1.p,str (dn r).1.b])∧Ke T w w' [.blk q [str (dn r).2.s,vN (dn r).2.at_,vN (dn r).2.f] TR]):=by
 refine enter Tryz.func160 O O<|ws<|wo (bK H O O (fun b1 w1 H1=>(wo (bt H1 Fa.de (fun b2 w2 H2=>(wn<|ap<|WC.drawn 8 O Fa.M H2 ?_))))))
 intro w3 H3
 refine WD.named (fun W hW=>?_)
 let B1:Ent:=.blk q [(str r.s),(vN r.at_),(vN r.f)] TR
 let Bm:Ent:=.blk b1 [(ptr q 0)] 254
 let B0:Ent:=.blk b2 [(aa 0),(vU8 0),(str [])] 116
 let B3:Ent:=.blk q [(str ((aK r 4).2).s),(vN ((aK r 4).2).at_),(vN ((aK r 4).2).f)] TR
 let B2:Ent:=.blk q [(str ((aK ((aK r 4).2) 1).2).s),(vN ((aK ((aK r 4).2) 1).2).at_),(vN ((aK ((aK r 4).2) 1).2).f)] TR
 have C4: ∀b19 wS,Ke T w wS [B2,Bm,B0,.blk b19 [(aa (aK r 4).1.1),(vU8 (UInt8.ofNat (aK ((aK r 4).2) 1).1.1.toNat)),(str [])] 116]→W 0 (bz 8 255) [(0,(.agg #[(ptr q 0)])),(1,(ptr b1 0)),(2,(ptr b2 0)),(3,(ptr b19 0))] wS:=fun b19 wS HS=>by
  rw [hW]
  refine WD.done (by kernel_rfl)<|ao<|WC.cut (α:=Unit) (fun _=>[(2,(ptr b2 0)),(3,(ptr b19 0))]) (fun _ w'=>Ke T w w' [.blk q [(str ((dn r).2).s),(vN ((dn r).2).at_),(vN ((dn r).2).f)] TR,.blk b1 [(ptr q 0)] 254,.blk b2 [(aa 0),(vU8 0),(str [])] 116,.blk b19 [(aa (dn r).1.a),(vU8 (dn r).1.p),(str (dn r).1.b)] 116]) ?_ ?_
  ·
   refine ws<|wo (aM (vs:=[_]) O (HS.cells (i:=1) O O) A254 O Fa.dU O<|wo (az (Kd 159) O ((cK q ((aK ((aK r 4).2) 1).2) (4) TR _ _ (HS.part [0] O O) (by first | with_reducible exact hr | ((repeat rw [ba]); with_reducible exact hr))).mono (fun e w5 hq=>?_))))
   obtain ⟨rfl,hq5⟩:=hq
   refine ⟨_,rfl,?_⟩
   have H5:=HS.splice [0] [.blk q [(str ((aK ((aK ((aK r 4).2) 1).2) 4).2).s),(vN ((aK ((aK ((aK r 4).2) 1).2) 4).2).at_),(vN ((aK ((aK ((aK r 4).2) 1).2) 4).2).f)] TR] [] O O hq5 (am ae aI)
   refine wa O<|wn<|ws<|wm O<|wo (rk (b:=131072) O O<|wn (wE ((aK ((aK ((aK r 4).2) 1).2) 4).1.1≤(131072:UInt32)) (fun hb6 hc6=>?_) (fun hb6 hc6=>?_)))
   ·
    refine aG<|wo (ab O Fa.pX<|wo (aj O (H5.cell (i:=1) O O) A251 O<|wm O<|wo (dA (hs:=A22) (hd:=A3) O<|wo (az (Kd 158) O ((uH q ((aK ((aK ((aK r 4).2) 1).2) 4).2) (((aK ((aK ((aK r 4).2) 1).2) 4).1.1.toNat:Nat)) TR _ _ (H5.part [0] O O) (by first | with_reducible exact hr | ((repeat rw [ba]); with_reducible exact hr))).mono (fun e w7 hq=>?_))))))
    obtain ⟨rfl,hq7⟩:=hq
    refine ⟨_,rfl,?_⟩
    have H7:=H5.splice [0] [.blk q [(str ((bU ((aK ((aK ((aK r 4).2) 1).2) 4).2) ((aK ((aK ((aK r 4).2) 1).2) 4).1.1.toNat:Nat)).2).s),(vN ((bU ((aK ((aK ((aK r 4).2) 1).2) 4).2) ((aK ((aK ((aK r 4).2) 1).2) 4).1.1.toNat:Nat)).2).at_),(vN ((bU ((aK ((aK ((aK r 4).2) 1).2) 4).2) ((aK ((aK ((aK r 4).2) 1).2) 4).1.1.toNat:Nat)).2).f)] TR] [] O O hq7 (am ae aI)
    exact wm O<|we O O<|we O O<|wo (ab O Fa.eJ<|wo (bC (i:=3) H7 O O O O O Fa.I9 (fun w8 H8=>(aY<|cd () (by rw [jC hc6]; exact H8) ⟨rfl,rfl,trivial⟩))))
   exact aA<|cd () (by rw [ni hc6]; exact H5) ⟨rfl,rfl,trivial⟩
  rintro ⟨⟩ w9 H9
  show WC _ _ _ _ _ [(2,(ptr b2 0)),(3,(ptr b19 0))] _
  exact ws<|wo (aM (vs:=[_,_,_]) O (H9.cells (i:=3) O O) A116 O Fa.de O<|wo (bw (i:=2) H9 O O O O O Fa.de (fun w10 H10=>(wn<|aC<|aD (.cell O (bM (vs:=[_,_,_]) (H10.cells (i:=2) O O) A116 O Fa.de O) .nil) (⟨rfl,H10.take 1⟩)))))
 have B6: ∀b19 wS,Ke T w wS [B2,Bm,B0,.blk b19 [(aa 0),(vU8 0),(str [])] 116]→W 1 (bz 8 127) [(0,(.agg #[(ptr q 0)])),(1,(ptr b1 0)),(2,(ptr b2 0)),(3,(ptr b19 0)),(10,(.agg #[(aa (aK r 4).1.1),(vU8 (UInt8.ofNat (aK ((aK r 4).2) 1).1.1.toNat)),(str [])]))] wS:=fun b19 wS HS=>by
  rw [hW]
  exact wd1 7<|kS 7 O (bw (i:=3) HS O O O O O Fa.de (fun w23 H23=>(aO hW (C4 b19 w23 H23))))
 have C5: ∀wS,Ke T w wS [B2,Bm,B0]→W 2 (bz 8 63) [(0,(.agg #[(ptr q 0)])),(1,(ptr b1 0)),(2,(ptr b2 0)),(10,(.agg #[(aa (aK r 4).1.1),(vU8 (UInt8.ofNat (aK ((aK r 4).2) 1).1.1.toNat)),(str [])]))] wS:=fun wS HS=>by
  rw [hW]
  exact wd1 6<|kS 6 O (bt HS Fa.de (fun b19 w19 H19=>(aO hW (B6 b19 w19 H19))))
 have B7: ∀b19 wS,Ke T w wS [B2,Bm,B0,.blk b19 [(aa 0),(vU8 0),(str [])] 116]→W 2 (bz 8 95) [(0,(.agg #[(ptr q 0)])),(1,(ptr b1 0)),(2,(ptr b2 0)),(3,(ptr b19 0)),(6,(aa (aK r 4).1.1)),(9,(vU8 (UInt8.ofNat (aK ((aK r 4).2) 1).1.1.toNat)))] wS:=fun b19 wS HS=>by
  rw [hW]
  exact wd1 5<|kS 5 O (bP (cs:=[_,_,_]) Fa.de Fa.tZ O O<|aO hW (B6 b19 wS HS))
 have C6: ∀wS,Ke T w wS [B2,Bm,B0]→W 3 (bz 8 31) [(0,(.agg #[(ptr q 0)])),(1,(ptr b1 0)),(2,(ptr b2 0)),(6,(aa (aK r 4).1.1)),(9,(vU8 (UInt8.ofNat (aK ((aK r 4).2) 1).1.1.toNat)))] wS:=fun wS HS=>by
  rw [hW]
  refine wd2 5 6 ?_ ?_
  ·
   exact kS 5 O (bP (cs:=[_,_,_]) Fa.de Fa.tZ O O<|aO hW (C5 wS HS))
  exact kS 6 O (bt HS Fa.de (fun b19 w19 H19=>(aO hW (B7 b19 w19 H19))))
 have B8: ∀b19 wS,Ke T w wS [B2,Bm,B0,.blk b19 [(aa 0),(vU8 0),(str [])] 116]→W 3 (bz 8 79) [(0,(.agg #[(ptr q 0)])),(1,(ptr b1 0)),(2,(ptr b2 0)),(3,(ptr b19 0)),(6,(aa (aK r 4).1.1)),(8,(aa (aK ((aK r 4).2) 1).1.1))] wS:=fun b19 wS HS=>by
  rw [hW]
  exact wd1 4<|kS 4 O (co (hs:=A22) (hd:=A5) O<|aO hW (B7 b19 wS HS))
 have C7: ∀wS,Ke T w wS [B2,Bm,B0]→W 4 (bz 8 15) [(0,(.agg #[(ptr q 0)])),(1,(ptr b1 0)),(2,(ptr b2 0)),(6,(aa (aK r 4).1.1)),(8,(aa (aK ((aK r 4).2) 1).1.1))] wS:=fun wS HS=>by
  rw [hW]
  refine wd2 4 6 ?_ ?_
  ·
   exact kS 4 O (co (hs:=A22) (hd:=A5) O<|aO hW (C6 wS HS))
  exact kS 6 O (bt HS Fa.de (fun b19 w19 H19=>(aO hW (B8 b19 w19 H19))))
 have B4: ∀b19 wS,Ke T w wS [B3,Bm,B0,.blk b19 [(aa 0),(vU8 0),(str [])] 116]→W 4 (bz 8 71) [(0,(.agg #[(ptr q 0)])),(1,(ptr b1 0)),(2,(ptr b2 0)),(3,(ptr b19 0)),(6,(aa (aK r 4).1.1)),(7,(.agg #[(ptr q 0)]))] wS:=fun b19 wS HS=>by
  rw [hW]
  refine wd1 3<|kS 3 O (az (Kd 159) O ((cK q ((aK r 4).2) (1) TR _ _ (HS.part [0] O O) (by first | with_reducible exact hr | ((repeat rw [ba]); with_reducible exact hr))).mono (fun e w21 hq=>?_)))
  obtain ⟨rfl,hq21⟩:=hq
  refine ⟨_,rfl,?_⟩
  have H21:=HS.splice [0] [.blk q [(str ((aK ((aK r 4).2) 1).2).s),(vN ((aK ((aK r 4).2) 1).2).at_),(vN ((aK ((aK r 4).2) 1).2).f)] TR] [] O O hq21 (am ae aI)
  exact aO hW (B8 b19 w21 H21)
 have B9: ∀wS,Ke T w wS [B3,Bm,B0]→W 5 (bz 8 7) [(0,(.agg #[(ptr q 0)])),(1,(ptr b1 0)),(2,(ptr b2 0)),(6,(aa (aK r 4).1.1)),(7,(.agg #[(ptr q 0)]))] wS:=fun wS HS=>by
  rw [hW]
  refine wd2 3 6 ?_ ?_
  ·
   refine kS 3 O (az (Kd 159) O ((cK q ((aK r 4).2) (1) TR _ _ (HS.part [0] O O) (by first | with_reducible exact hr | ((repeat rw [ba]); with_reducible exact hr))).mono (fun e w21 hq=>?_)))
   obtain ⟨rfl,hq21⟩:=hq
   refine ⟨_,rfl,?_⟩
   have H21:=HS.splice [0] [.blk q [(str ((aK ((aK r 4).2) 1).2).s),(vN ((aK ((aK r 4).2) 1).2).at_),(vN ((aK ((aK r 4).2) 1).2).f)] TR] [] O O hq21 (am ae aI)
   exact aO hW (C7 w21 H21)
  exact kS 6 O (bt HS Fa.de (fun b19 w19 H19=>(aO hW (B4 b19 w19 H19))))
 have C0: ∀b19 wS,Ke T w wS [B3,Bm,B0,.blk b19 [(aa 0),(vU8 0),(str [])] 116]→W 5 (bz 8 67) [(0,(.agg #[(ptr q 0)])),(1,(ptr b1 0)),(2,(ptr b2 0)),(3,(ptr b19 0)),(6,(aa (aK r 4).1.1))] wS:=fun b19 wS HS=>by
  rw [hW]
  exact wd1 2<|kS 2 O (aM (vs:=[_]) O (HS.cells (i:=1) O O) A254 O Fa.dU O<|aO hW (B4 b19 wS HS))
 have B5: ∀b19 wS,Ke T w wS [B1,Bm,B0,.blk b19 [(aa 0),(vU8 0),(str [])] 116]→W 5 (bz 8 69) [(0,(.agg #[(ptr q 0)])),(1,(ptr b1 0)),(2,(ptr b2 0)),(3,(ptr b19 0)),(5,(.agg #[(ptr q 0)])),(7,(.agg #[(ptr q 0)]))] wS:=fun b19 wS HS=>by
  rw [hW]
  refine wd1 1<|kS 1 O (az (Kd 159) O ((cK q r (4) TR _ _ (HS.part [0] O O) (by first | with_reducible exact hr | ((repeat rw [ba]); with_reducible exact hr))).mono (fun e w20 hq=>?_)))
  obtain ⟨rfl,hq20⟩:=hq
  refine ⟨_,rfl,?_⟩
  have H20:=HS.splice [0] [.blk q [(str ((aK r 4).2).s),(vN ((aK r 4).2).at_),(vN ((aK r 4).2).f)] TR] [] O O hq20 (am ae aI)
  exact aO hW (B4 b19 w20 H20)
 have C8: ∀wS,Ke T w wS [B3,Bm,B0]→W 6 (bz 8 3) [(0,(.agg #[(ptr q 0)])),(1,(ptr b1 0)),(2,(ptr b2 0)),(6,(aa (aK r 4).1.1))] wS:=fun wS HS=>by
  rw [hW]
  refine wd2 2 6 ?_ ?_
  ·
   exact kS 2 O (aM (vs:=[_]) O (HS.cells (i:=1) O O) A254 O Fa.dU O<|aO hW (B9 wS HS))
  exact kS 6 O (bt HS Fa.de (fun b19 w19 H19=>(aO hW (C0 b19 w19 H19))))
 have C1: ∀wS,Ke T w wS [B1,Bm,B0]→W 6 (bz 8 5) [(0,(.agg #[(ptr q 0)])),(1,(ptr b1 0)),(2,(ptr b2 0)),(5,(.agg #[(ptr q 0)])),(7,(.agg #[(ptr q 0)]))] wS:=fun wS HS=>by
  rw [hW]
  refine wd2 1 6 ?_ ?_
  ·
   refine kS 1 O (az (Kd 159) O ((cK q r (4) TR _ _ (HS.part [0] O O) (by first | with_reducible exact hr | ((repeat rw [ba]); with_reducible exact hr))).mono (fun e w20 hq=>?_)))
   obtain ⟨rfl,hq20⟩:=hq
   refine ⟨_,rfl,?_⟩
   have H20:=HS.splice [0] [.blk q [(str ((aK r 4).2).s),(vN ((aK r 4).2).at_),(vN ((aK r 4).2).f)] TR] [] O O hq20 (am ae aI)
   exact aO hW (B9 w20 H20)
  exact kS 6 O (bt HS Fa.de (fun b19 w19 H19=>(aO hW (B5 b19 w19 H19))))
 have C2: ∀b19 wS,Ke T w wS [B1,Bm,B0,.blk b19 [(aa 0),(vU8 0),(str [])] 116]→W 6 (bz 8 65) [(0,(.agg #[(ptr q 0)])),(1,(ptr b1 0)),(2,(ptr b2 0)),(3,(ptr b19 0)),(5,(.agg #[(ptr q 0)]))] wS:=fun b19 wS HS=>by
  rw [hW]
  refine wd2 1 2 ?_ ?_
  ·
   refine kS 1 O (az (Kd 159) O ((cK q r (4) TR _ _ (HS.part [0] O O) (by first | with_reducible exact hr | ((repeat rw [ba]); with_reducible exact hr))).mono (fun e w20 hq=>?_)))
   obtain ⟨rfl,hq20⟩:=hq
   refine ⟨_,rfl,?_⟩
   have H20:=HS.splice [0] [.blk q [(str ((aK r 4).2).s),(vN ((aK r 4).2).at_),(vN ((aK r 4).2).f)] TR] [] O O hq20 (am ae aI)
   exact aO hW (C0 b19 w20 H20)
  exact kS 2 O (aM (vs:=[_]) O (HS.cells (i:=1) O O) A254 O Fa.dU O<|aO hW (B5 b19 wS HS))
 have C3: ∀b19 wS,Ke T w wS [B1,Bm,B0,.blk b19 [(aa 0),(vU8 0),(str [])] 116]→W 6 (bz 8 68) [(0,(.agg #[(ptr q 0)])),(1,(ptr b1 0)),(2,(ptr b2 0)),(3,(ptr b19 0)),(7,(.agg #[(ptr q 0)]))] wS:=fun b19 wS HS=>by
  rw [hW]
  exact wd1 0<|kS 0 O (aM (vs:=[_]) O (HS.cells (i:=1) O O) A254 O Fa.dU O<|aO hW (B5 b19 wS HS))
 have C9: ∀wS,Ke T w wS [B1,Bm,B0]→W 7 (bz 8 1) [(0,(.agg #[(ptr q 0)])),(1,(ptr b1 0)),(2,(ptr b2 0)),(5,(.agg #[(ptr q 0)]))] wS:=fun wS HS=>by
  rw [hW]
  refine wd3 1 2 6 ?_ ?_ ?_
  ·
   refine kS 1 O (az (Kd 159) O ((cK q r (4) TR _ _ (HS.part [0] O O) (by first | with_reducible exact hr | ((repeat rw [ba]); with_reducible exact hr))).mono (fun e w20 hq=>?_)))
   obtain ⟨rfl,hq20⟩:=hq
   refine ⟨_,rfl,?_⟩
   have H20:=HS.splice [0] [.blk q [(str ((aK r 4).2).s),(vN ((aK r 4).2).at_),(vN ((aK r 4).2).f)] TR] [] O O hq20 (am ae aI)
   exact aO hW (C8 w20 H20)
  ·
   exact kS 2 O (aM (vs:=[_]) O (HS.cells (i:=1) O O) A254 O Fa.dU O<|aO hW (C1 wS HS))
  exact kS 6 O (bt HS Fa.de (fun b19 w19 H19=>(aO hW (C2 b19 w19 H19))))
 have D0: ∀wS,Ke T w wS [B1,Bm,B0]→W 7 (bz 8 4) [(0,(.agg #[(ptr q 0)])),(1,(ptr b1 0)),(2,(ptr b2 0)),(7,(.agg #[(ptr q 0)]))] wS:=fun wS HS=>by
  rw [hW]
  refine wd2 0 6 ?_ ?_
  ·
   exact kS 0 O (aM (vs:=[_]) O (HS.cells (i:=1) O O) A254 O Fa.dU O<|aO hW (C1 wS HS))
  exact kS 6 O (bt HS Fa.de (fun b19 w19 H19=>(aO hW (C3 b19 w19 H19))))
 have D1: ∀b19 wS,Ke T w wS [B1,Bm,B0,.blk b19 [(aa 0),(vU8 0),(str [])] 116]→W 7 (bz 8 64) [(0,(.agg #[(ptr q 0)])),(1,(ptr b1 0)),(2,(ptr b2 0)),(3,(ptr b19 0))] wS:=fun b19 wS HS=>by
  rw [hW]
  refine wd2 0 2 ?_ ?_
  ·
   exact kS 0 O (aM (vs:=[_]) O (HS.cells (i:=1) O O) A254 O Fa.dU O<|aO hW (C2 b19 wS HS))
  exact kS 2 O (aM (vs:=[_]) O (HS.cells (i:=1) O O) A254 O Fa.dU O<|aO hW (C3 b19 wS HS))
 have D2: ∀wS,Ke T w wS [B1,Bm,B0]→W 8 (bz 8 0) [(0,(.agg #[(ptr q 0)])),(1,(ptr b1 0)),(2,(ptr b2 0))] wS:=fun wS HS=>by
  rw [hW]
  refine wd3 0 2 6 ?_ ?_ ?_
  ·
   exact kS 0 O (aM (vs:=[_]) O (HS.cells (i:=1) O O) A254 O Fa.dU O<|aO hW (C9 wS HS))
  ·
   exact kS 2 O (aM (vs:=[_]) O (HS.cells (i:=1) O O) A254 O Fa.dU O<|aO hW (D0 wS HS))
  exact kS 6 O (bt HS Fa.de (fun b19 w19 H19=>(aO hW (D1 b19 w19 H19))))
 have hq:=D2 w3 H3
 rw [hW] at hq ⊢
 refine WD.cov ?_ hq
 exact by repeat (first | exact trivial | refine ⟨rfl,?_⟩)
end Go.Proofs.YtbjhccnffacbcaaGreat
