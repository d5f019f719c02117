/- General lemmas and walks. No condition but what each theorem names. -/
import Derived.Test.YtbjhccnffacbcaaGreatQ408a00e3
import Derived.Test.YtbjhccnffacbcaaGreatQef73a67a
import Derived.Test.YtbjhccnffacbcaaGreatQc70aff79
set_option maxRecDepth 100000
set_option maxHeartbeats 8000000
open Go.Owl renaming Own→Ke
open Go.Proofs.Tryz renaming prog→Kf
open List renaming map→Kg
open List renaming flatMap→Kh
open List renaming replicate→Ki
open List renaming length_append→Kj
open Nat renaming zero_le→Kk
open UInt32 renaming ofNat→Kl
open UInt16 renaming ofNat→Km
open UInt64 renaming ofNat→Kn
namespace Go.Proofs.YtbjhccnffacbcaaGreat
open Go.Owl Go.Spec
theorem yS (x k:Nat) (pk:UInt32) (hx nv bv:Value) (c:Nat) (pg:UInt32) (hv:Value) (he:List UInt32) (mb cn:Nat) (gs:List Gr) (sl:List Slt) (l:List Gr) (lv:Value) (key s:List UInt8) (T:List Nat) (w:World) (H:Ke T w w [.blk x (xoC k sl) 146,Ent.bo k [(aa pk),hx,(ptr c 0),nv,bv,(aa 0)],.blk c [(aa pg),hv,(.map (some mb))] 196,Ent.ar hv 1 he.length (Kg aa he),.obj mb (mP .i64 (Kg Gr.me gs) cn),Ent.bs 199 Gr.cells Gr.b gs,Ent.dp grD.list gs,Ent.dp (bY 211).list sl,Ent.ar lv 1 he.length (Kg aa he)]) (hR:CapR gs cn l) (hX:InvX l sl) (hhe:he.length<2^32) (hkl:key.length<2^40) (hsl:s.length<2^37) :
  Calls Kf 45 #[(ptr x 0),(.agg #[(aa pg),lv]),(str key),(str s)] w (fun e w'=> ∃cn' gs' l' sl',e=.returned (.bool true)∧CapR gs' cn' l'∧InvX l' sl'∧DpTo w gs gs'∧SltTo 211 w sl sl'∧Ke T w w' [.blk x (xoC k sl') 146,Ent.bo k [(aa pk),hx,(ptr c 0),nv,bv,(aa 0)],.blk c [(aa pg),hv,(.map (some mb))] 196,Ent.ar hv 1 he.length (Kg aa he),.obj mb (mP .i64 (Kg Gr.me gs') cn'),Ent.bs 199 Gr.cells Gr.b gs',Ent.dp grD.list gs',Ent.dp (bY 211).list sl',Ent.ar lv 1 he.length (Kg aa he)]):=by
 refine enter Tryz.func45 O O<|ws<|wo (bK H O O (fun b1 w1 H1=>(wa O<|wn<|ws<|wm O<|wo (cq H1 (Kd 38) O (jb x k pk hx nv bv c pg hv he mb cn gs sl l _ (H1.cellsAt (i:=0) O) (H1.cellsAtO (i:=1) O) (H1.cellsAt (i:=2) O) (H1.arrO (i:=3) O) (H1.mp (i:=4) O) (H1.bsG (i:=5) O) (H1.dpO (i:=6) O) (H1.dpO (i:=7) O) hR hX.len) fun w2 H2=>(wo (bt H2 Fa.I81 (fun b3 w3 H3=>(wo (ff (i:=10) H3 O O O (by rfl) (oQ _ _ _) O Fa.I81 (fun w4 H4=>(wn<|ws<|wm O<|wm O<|wo (az (Kd 97) O ((zd key s _ hkl (by omega)).mono (fun e w5 hq=>?_))))))))))))))
 obtain ⟨v5,u5,q5,rfl,hq5⟩:=hq
 refine ⟨_,rfl,?_⟩
 have H5:=H4.splice [] [] [.row v5 207 2 (opI key s).xs.length (Kh xtc (opI key s).xs),.row u5 203 1 (opI key s).ps.length (Kg bA (opI key s).ps),.row q5 116 3 (opI key s).sg.length (Kh sgc (opI key s).sg)] O O hq5 (am ae (am ae (am ae aI)))
 refine wm O<|we O O<|we O O<|wo (bt H5 Fa.I43 (fun b6 w6 H6=>(wo (bw (i:=14) H6 O O O O (bk O (bk (bS (H6.arrR (i:=11) O)) (bk (bS (H6.arrR (i:=12) O)) (bk O (bk O (bk (bS (H6.arrR (i:=13) O)) er)))))) Fa.I43 (fun w7 H7=>(wa O<|wn<|WC.cut (α:=Unit) (fun _=>[(0,(ptr x 0)),(2,(str key)),(3,(str s)),(9,(ptr b3 0)),(10,(ptr b6 0)),(11,(vN (stE pg he l sl key s)))]) (fun _ w'=>Ke T w w' [.blk x (xoC k sl) 146,Ent.bo k [(aa pk),hx,(ptr c 0),nv,bv,(aa 0)],.blk c [(aa pg),hv,(.map (some mb))] 196,Ent.ar hv 1 he.length (Kg aa he),.obj mb (mP .i64 (Kg Gr.me gs) cn),Ent.bs 199 Gr.cells Gr.b gs,Ent.dp grD.list gs,Ent.dp (bY 211).list sl,Ent.ar lv 1 he.length (Kg aa he),.blk b1 [(aa pg),lv] 75,.blk b3 (fa (cg pg l) l 9) 81,.row v5 207 2 (opI key s).xs.length (Kh xtc (opI key s).xs),.row u5 203 1 (opI key s).ps.length (Kg bA (opI key s).ps),.row q5 116 3 (opI key s).sg.length (Kh sgc (opI key s).sg),.blk b6 [(aa (opI key s).pg),v5,u5,(.bool (opI key s).c),(aa (opI key s).en),q5] 43]) ?_ ?_))))))
 ·
  refine ws<|wm O<|wo (dk (b:=0) O O<|wn (wE ((opC key s)=0) (fun hb8 hc8=>?_) (fun hb8 hc8=>?_)))
  ·
   have hO:=dT hb8
   obtain ⟨hn,hm,hk,hB,_⟩:=ja hO hsl
   have h0:=(gV hO).1
   have hB47: ∀x∈(opI key s).sg,x.b.length≤2^47:=fun x hx=>Nat.le_trans (hB x hx) (by decide)
   have hmy:=xQ h0 (fun x hx=>Nat.lt_of_le_of_lt (hB x hx) (by decide))
   refine ws<|wa O<|wn<|ws<|wa O<|wn<|aB<|bi (α:=Nat) (fun i=>[(0,(ptr x 0)),(2,(str key)),(3,(str s)),(5,(ptr b1 0)),(9,(ptr b3 0)),(10,(ptr b6 0)),(11,(vN 4)),(12,(vN i))]) (fun i w'=>(1≤i∧i≤9∧∀j,1≤j→j<i→ei l ((j:Nat):Int)=true)∧Ke T w w' [.blk x (xoC k sl) 146,Ent.bo k [(aa pk),hx,(ptr c 0),nv,bv,(aa 0)],.blk c [(aa pg),hv,(.map (some mb))] 196,Ent.ar hv 1 he.length (Kg aa he),.obj mb (mP .i64 (Kg Gr.me gs) cn),Ent.bs 199 Gr.cells Gr.b gs,Ent.dp grD.list gs,Ent.dp (bY 211).list sl,Ent.ar lv 1 he.length (Kg aa he),.blk b1 [(aa pg),lv] 75,.blk b3 (fa (cg pg l) l 9) 81,.row v5 207 2 (opI key s).xs.length (Kh xtc (opI key s).xs),.row u5 203 1 (opI key s).ps.length (Kg bA (opI key s).ps),.row q5 116 3 (opI key s).sg.length (Kh sgc (opI key s).sg),.blk b6 [(aa (opI key s).pg),v5,u5,(.bool (opI key s).c),(aa (opI key s).en),q5] 43]) (fun i=>9-i) 1 ⟨⟨Nat.le_refl _,by decide,fun j a b=>by omega⟩,H7⟩ ⟨rfl,rfl,rfl,rfl,rfl,rfl,rfl,rfl,trivial⟩ ?_
   rintro i w9 ⟨⟨hi1,hi9,hall⟩,H9⟩
   show WC _ _ _ _ _ [(0,(ptr x 0)),(2,(str key)),(3,(str s)),(5,(ptr b1 0)),(9,(ptr b3 0)),(10,(ptr b6 0)),(11,(vN 4)),(12,(vN i))] _
   refine ap<|ws<|wm O<|wo (dH (b:=8) O O<|wn (wE (i≤8) (fun hb10 hc10=>?_) (fun hb10 hc10=>?_)))
   ·
    refine aA<|ao<|ap<|aB<|ws<|wm O<|wo (ab O Fa.uf<|wo (br A79 Fa.I4 O O (by omega)<|wo (aj O (H9.cell (i:=10) O (yj hi1 (by omega))) A4 O<|wo (cQ O<|wn (wC (!(ei l ((i:Nat):Int))) (fun hb11=>?_) (fun hb11=>?_))))))
    ·
     have hn11:=(Bool.not_eq_true' _).mp hb11
     have hfi:=hX.first (i:=i) hi1 (by omega) hall (.inr hn11)
     have hF:ffS sl≠9:=by omega
     refine ap<|WC.drawn 8 O Fa.M H9 ?_
     intro w12 H12
     refine WD.named (fun W hW=>?_)
     let e9:List (Nat × Value)→List (Nat × Value):=fun r=>(0,(ptr x 0))::(2,(str key))::(3,(str s))::(5,(ptr b1 0))::(9,(ptr b3 0))::(10,(ptr b6 0))::(12,(vN i))::(28,(vN i))::(29,(.bool (decide (i≤8))))::(32,(vN i))::(33,(ptr b3 1))::(34,(ptr b3 (1+i)))::(35,(.bool (ei l ((i:Nat):Int))))::(36,(.bool (!(ei l ((i:Nat):Int)))))::r
     let Bm:Ent:=.blk x (xoC k sl) 146
     let B0:Ent:=Ent.bo k [(aa pk),hx,(ptr c 0),nv,bv,(aa 0)]
     let B1:Ent:=.blk c [(aa pg),hv,(.map (some mb))] 196
     let B2:Ent:=Ent.ar hv 1 he.length (Kg aa he)
     let B3:Ent:=.obj mb (mP .i64 (Kg Gr.me gs) cn)
     let B4:Ent:=Ent.bs 199 Gr.cells Gr.b gs
     let B5:Ent:=Ent.dp grD.list gs
     let B6:Ent:=Ent.dp (bY 211).list sl
     let B7:Ent:=Ent.ar lv 1 he.length (Kg aa he)
     let B8:Ent:=.blk b1 [(aa pg),lv] 75
     let B9:Ent:=.blk b3 (fa (cg pg l) l 9) 81
     let C0:Ent:=.row v5 207 2 (opI key s).xs.length (Kh xtc (opI key s).xs)
     let C1:Ent:=.row u5 203 1 (opI key s).ps.length (Kg bA (opI key s).ps)
     let C2:Ent:=.row q5 116 3 (opI key s).sg.length (Kh sgc (opI key s).sg)
     let C3:Ent:=.blk b6 [(aa (opI key s).pg),v5,u5,(.bool (opI key s).c),(aa (opI key s).en),q5] 43
     have Ft: ∀ms38 v38 wS,Ke T w wS [Bm,B0,B1,B2,B3,B4,B5,B6,B7,B8,B9,C0,C1,C2,C3,.row v38 40 4 ms38.length (Kh mmc ms38),Ent.dp MmD.list ms38,Ent.fact (ms38.map Mm.f=eK l 8)]→W 0 (bz 8 255) (e9 [(11,(vN (mq he (cg pg l) (ms38.map Mm.f) ((opI key s).pg) ((opI key s).xs) ((opI key s).ps) (if fo ((opI key s).pg) ((opI key s).xs) ((opI key s).ps) ((opI key s).en) ((opI key s).sg) then aT ((opI key s).sg) ((opI key s).sg).length else []).length)))]) wS:=fun ms38 v38 wS HS=>by
      rw [hW]
      exact WD.done (by kernel_rfl)<|ao<|bc<|WQ.inPass O<|an<|an<|aS<|cd () (HS.take 15) ⟨rfl,rfl,rfl,rfl,rfl,(by rw [nc hO hF,←BX hX hF h0 hmy hB47 (HS.fact (i:=17) O)]; rfl),trivial⟩
     have F0: ∀ms38 v38 wS,Ke T w wS [Bm,B0,B1,B2,B3,B4,B5,B6,B7,B8,B9,C0,C1,C2,C3,.row v38 40 4 ms38.length (Kh mmc ms38),Ent.dp MmD.list ms38,Ent.fact (ms38.map Mm.f=eK l 8)]→W 1 (bz 8 127) (e9 [(11,(vN 4)),(43,(vN (mq he (cg pg l) (ms38.map Mm.f) ((opI key s).pg) ((opI key s).xs) ((opI key s).ps) (if fo ((opI key s).pg) ((opI key s).xs) ((opI key s).ps) ((opI key s).en) ((opI key s).sg) then aT ((opI key s).sg) ((opI key s).sg).length else []).length)))]) wS:=fun ms38 v38 wS HS=>by
      rw [hW]
      exact wd1 7<|kS 7 O (ee O<|aO hW (Ft ms38 v38 wS HS))
     have C4: ∀v38 ms38 wS,Ke T w wS [Bm,B0,B1,B2,B3,B4,B5,B6,B7,B8,B9,C0,C1,C2,C3,.row v38 40 4 ms38.length (Kh mmc ms38),Ent.dp MmD.list ms38,Ent.fact (ms38.map Mm.f=eK l 8)]→W 2 (bz 8 63) (e9 [(11,(vN 4)),(37,(.agg #[(aa pg),lv])),(39,(aa (cg pg l))),(41,v38),(42,(.agg #[(aa (opI key s).pg),v5,u5,(.bool (opI key s).c),(aa (opI key s).en),q5]))]) wS:=fun v38 ms38 wS HS=>by
      rw [hW]
      exact wd1 6<|kS 6 O (cq HS (Kd 98) O (zY pg _ he (cg pg l) _ ms38 ((opI key s).pg) _ _ _ ((opI key s).xs) ((opI key s).ps) ((opI key s).c) ((opI key s).en) ((opI key s).sg) _ (HS.arrO (i:=8) O) (HS.arrR (i:=15) O) (HS.dpO (i:=16) O) (HS.arrR (i:=11) O) (HS.arrR (i:=12) O) (HS.arrR (i:=13) O) (by omega) (by omega) (by omega) hB (by omega) (by rw [pM h0 hmy]; exact vv h0 hB47)) fun w39 H39=>(aO hW (F0 ms38 v38 w39 H39)))
     have C8: ∀v38 ms38 wS,Ke T w wS [Bm,B0,B1,B2,B3,B4,B5,B6,B7,B8,B9,C0,C1,C2,C3,.row v38 40 4 ms38.length (Kh mmc ms38),Ent.dp MmD.list ms38,Ent.fact (ms38.map Mm.f=eK l 8)]→W 3 (bz 8 31) (e9 [(11,(vN 4)),(37,(.agg #[(aa pg),lv])),(39,(aa (cg pg l))),(41,v38)]) wS:=fun v38 ms38 wS HS=>by
      rw [hW]
      exact wd1 5<|kS 5 O (aM (vs:=[_,_,_,_,_,_]) O (HS.cells (i:=14) O O) A43 O Fa.I43 O<|aO hW (C4 v38 ms38 wS HS))
     have C5: ∀wS,Ke T w wS [Bm,B0,B1,B2,B3,B4,B5,B6,B7,B8,B9,C0,C1,C2,C3]→W 3 (bz 8 47) (e9 [(11,(vN 4)),(37,(.agg #[(aa pg),lv])),(39,(aa (cg pg l))),(40,(ptr x 0)),(42,(.agg #[(aa (opI key s).pg),v5,u5,(.bool (opI key s).c),(aa (opI key s).en),q5]))]) wS:=fun wS HS=>by
      rw [hW]
      refine wd1 4<|kS 4 O (az (Kd 99) O ((dz x k pk hx nv bv c pg hv he mb cn gs sl l _ (HS.cellsAt (i:=0) O) (HS.cellsAtO (i:=1) O) (HS.cellsAt (i:=2) O) (HS.arrO (i:=3) O) (HS.mp (i:=4) O) (HS.bsG (i:=5) O) (HS.dpO (i:=6) O) (HS.dpO (i:=7) O) hR).mono (fun e w38 hq=>?_)))
      obtain ⟨v38,ms38,rfl,ho38,hm38,hq38⟩:=hq
      refine ⟨_,rfl,?_⟩
      have H38:Ke T w w38 [.blk x (xoC k sl) 146,Ent.bo k [(aa pk),hx,(ptr c 0),nv,bv,(aa 0)],.blk c [(aa pg),hv,(.map (some mb))] 196,Ent.ar hv 1 he.length (Kg aa he),.obj mb (mP .i64 (Kg Gr.me gs) cn),Ent.bs 199 Gr.cells Gr.b gs,Ent.dp grD.list gs,Ent.dp (bY 211).list sl,Ent.ar lv 1 he.length (Kg aa he),.blk b1 [(aa pg),lv] 75,.blk b3 (fa (cg pg l) l 9) 81,.row v5 207 2 (opI key s).xs.length (Kh xtc (opI key s).xs),.row u5 203 1 (opI key s).ps.length (Kg bA (opI key s).ps),.row q5 116 3 (opI key s).sg.length (Kh sgc (opI key s).sg),.blk b6 [(aa (opI key s).pg),v5,u5,(.bool (opI key s).c),(aa (opI key s).en),q5] 43,.row v38 40 4 ms38.length (Kh mmc ms38),Ent.dp MmD.list ms38]:=HS.splice [] [] [.row v38 40 4 ms38.length (Kh mmc ms38),Ent.dp MmD.list ms38] O O hq38 (am ae (cr hm38 aI))
      have H38f:=H38.addFact (p:=ms38.map Mm.f=eK l 8) ho38
      exact aO hW (C4 v38 ms38 w38 H38f)
     have C6: ∀v38 ms38 wS,Ke T w wS [Bm,B0,B1,B2,B3,B4,B5,B6,B7,B8,B9,C0,C1,C2,C3,.row v38 40 4 ms38.length (Kh mmc ms38),Ent.dp MmD.list ms38,Ent.fact (ms38.map Mm.f=eK l 8)]→W 3 (bz 8 59) (e9 [(11,(vN 4)),(37,(.agg #[(aa pg),lv])),(38,(ptr b3 0)),(41,v38),(42,(.agg #[(aa (opI key s).pg),v5,u5,(.bool (opI key s).c),(aa (opI key s).en),q5]))]) wS:=fun v38 ms38 wS HS=>by
      rw [hW]
      exact wd1 2<|kS 2 O (aj O (HS.cell (i:=10) O O) A22 O<|aO hW (C4 v38 ms38 wS HS))
     have C9: ∀v38 ms38 wS,Ke T w wS [Bm,B0,B1,B2,B3,B4,B5,B6,B7,B8,B9,C0,C1,C2,C3,.row v38 40 4 ms38.length (Kh mmc ms38),Ent.dp MmD.list ms38,Ent.fact (ms38.map Mm.f=eK l 8)]→W 3 (bz 8 62) (e9 [(11,(vN 4)),(39,(aa (cg pg l))),(41,v38),(42,(.agg #[(aa (opI key s).pg),v5,u5,(.bool (opI key s).c),(aa (opI key s).en),q5]))]) wS:=fun v38 ms38 wS HS=>by
      rw [hW]
      exact wd1 0<|kS 0 O (aM (vs:=[_,_]) O (HS.cells (i:=9) O O) A75 O Fa.I75 O<|aO hW (C4 v38 ms38 wS HS))
     have D0: ∀wS,Ke T w wS [Bm,B0,B1,B2,B3,B4,B5,B6,B7,B8,B9,C0,C1,C2,C3]→W 4 (bz 8 15) (e9 [(11,(vN 4)),(37,(.agg #[(aa pg),lv])),(39,(aa (cg pg l))),(40,(ptr x 0))]) wS:=fun wS HS=>by
      rw [hW]
      refine wd2 4 5 ?_ ?_
      ·
       refine kS 4 O (az (Kd 99) O ((dz x k pk hx nv bv c pg hv he mb cn gs sl l _ (HS.cellsAt (i:=0) O) (HS.cellsAtO (i:=1) O) (HS.cellsAt (i:=2) O) (HS.arrO (i:=3) O) (HS.mp (i:=4) O) (HS.bsG (i:=5) O) (HS.dpO (i:=6) O) (HS.dpO (i:=7) O) hR).mono (fun e w38 hq=>?_)))
       obtain ⟨v38,ms38,rfl,ho38,hm38,hq38⟩:=hq
       refine ⟨_,rfl,?_⟩
       have H38:=HS.splice [] [] [.row v38 40 4 ms38.length (Kh mmc ms38),Ent.dp MmD.list ms38] O O hq38 (am ae (cr hm38 aI))
       have H38f:=H38.addFact (p:=ms38.map Mm.f=eK l 8) ho38
       exact aO hW (C8 v38 ms38 w38 H38f)
      exact kS 5 O (aM (vs:=[_,_,_,_,_,_]) O (HS.cells (i:=14) O O) A43 O Fa.I43 O<|aO hW (C5 wS HS))
     have D1: ∀wS,Ke T w wS [Bm,B0,B1,B2,B3,B4,B5,B6,B7,B8,B9,C0,C1,C2,C3]→W 4 (bz 8 39) (e9 [(11,(vN 4)),(37,(.agg #[(aa pg),lv])),(39,(aa (cg pg l))),(42,(.agg #[(aa (opI key s).pg),v5,u5,(.bool (opI key s).c),(aa (opI key s).en),q5]))]) wS:=fun wS HS=>by
      rw [hW]
      exact wd1 3<|kS 3 O (au O<|aO hW (C5 wS HS))
     have D2: ∀v38 ms38 wS,Ke T w wS [Bm,B0,B1,B2,B3,B4,B5,B6,B7,B8,B9,C0,C1,C2,C3,.row v38 40 4 ms38.length (Kh mmc ms38),Ent.dp MmD.list ms38,Ent.fact (ms38.map Mm.f=eK l 8)]→W 4 (bz 8 27) (e9 [(11,(vN 4)),(37,(.agg #[(aa pg),lv])),(38,(ptr b3 0)),(41,v38)]) wS:=fun v38 ms38 wS HS=>by
      rw [hW]
      refine wd2 2 5 ?_ ?_
      ·
       exact kS 2 O (aj O (HS.cell (i:=10) O O) A22 O<|aO hW (C8 v38 ms38 wS HS))
      exact kS 5 O (aM (vs:=[_,_,_,_,_,_]) O (HS.cells (i:=14) O O) A43 O Fa.I43 O<|aO hW (C6 v38 ms38 wS HS))
     have C7: ∀wS,Ke T w wS [Bm,B0,B1,B2,B3,B4,B5,B6,B7,B8,B9,C0,C1,C2,C3]→W 4 (bz 8 43) (e9 [(11,(vN 4)),(37,(.agg #[(aa pg),lv])),(38,(ptr b3 0)),(40,(ptr x 0)),(42,(.agg #[(aa (opI key s).pg),v5,u5,(.bool (opI key s).c),(aa (opI key s).en),q5]))]) wS:=fun wS HS=>by
      rw [hW]
      refine wd2 2 4 ?_ ?_
      ·
       exact kS 2 O (aj O (HS.cell (i:=10) O O) A22 O<|aO hW (C5 wS HS))
      refine kS 4 O (az (Kd 99) O ((dz x k pk hx nv bv c pg hv he mb cn gs sl l _ (HS.cellsAt (i:=0) O) (HS.cellsAtO (i:=1) O) (HS.cellsAt (i:=2) O) (HS.arrO (i:=3) O) (HS.mp (i:=4) O) (HS.bsG (i:=5) O) (HS.dpO (i:=6) O) (HS.dpO (i:=7) O) hR).mono (fun e w38 hq=>?_)))
      obtain ⟨v38,ms38,rfl,ho38,hm38,hq38⟩:=hq
      refine ⟨_,rfl,?_⟩
      have H38:Ke T w w38 [.blk x (xoC k sl) 146,Ent.bo k [(aa pk),hx,(ptr c 0),nv,bv,(aa 0)],.blk c [(aa pg),hv,(.map (some mb))] 196,Ent.ar hv 1 he.length (Kg aa he),.obj mb (mP .i64 (Kg Gr.me gs) cn),Ent.bs 199 Gr.cells Gr.b gs,Ent.dp grD.list gs,Ent.dp (bY 211).list sl,Ent.ar lv 1 he.length (Kg aa he),.blk b1 [(aa pg),lv] 75,.blk b3 (fa (cg pg l) l 9) 81,.row v5 207 2 (opI key s).xs.length (Kh xtc (opI key s).xs),.row u5 203 1 (opI key s).ps.length (Kg bA (opI key s).ps),.row q5 116 3 (opI key s).sg.length (Kh sgc (opI key s).sg),.blk b6 [(aa (opI key s).pg),v5,u5,(.bool (opI key s).c),(aa (opI key s).en),q5] 43,.row v38 40 4 ms38.length (Kh mmc ms38),Ent.dp MmD.list ms38]:=HS.splice [] [] [.row v38 40 4 ms38.length (Kh mmc ms38),Ent.dp MmD.list ms38] O O hq38 (am ae (cr hm38 aI))
      have H38f:=H38.addFact (p:=ms38.map Mm.f=eK l 8) ho38
      exact aO hW (C6 v38 ms38 w38 H38f)
     have D3: ∀v38 ms38 wS,Ke T w wS [Bm,B0,B1,B2,B3,B4,B5,B6,B7,B8,B9,C0,C1,C2,C3,.row v38 40 4 ms38.length (Kh mmc ms38),Ent.dp MmD.list ms38,Ent.fact (ms38.map Mm.f=eK l 8)]→W 4 (bz 8 57) (e9 [(11,(vN 4)),(37,(.agg #[(aa pg),lv])),(41,v38),(42,(.agg #[(aa (opI key s).pg),v5,u5,(.bool (opI key s).c),(aa (opI key s).en),q5]))]) wS:=fun v38 ms38 wS HS=>by
      rw [hW]
      exact wd1 1<|kS 1 O (ab O Fa.ik<|aO hW (C6 v38 ms38 wS HS))
     have Eq: ∀v38 ms38 wS,Ke T w wS [Bm,B0,B1,B2,B3,B4,B5,B6,B7,B8,B9,C0,C1,C2,C3,.row v38 40 4 ms38.length (Kh mmc ms38),Ent.dp MmD.list ms38,Ent.fact (ms38.map Mm.f=eK l 8)]→W 4 (bz 8 30) (e9 [(11,(vN 4)),(39,(aa (cg pg l))),(41,v38)]) wS:=fun v38 ms38 wS HS=>by
      rw [hW]
      refine wd2 0 5 ?_ ?_
      ·
       exact kS 0 O (aM (vs:=[_,_]) O (HS.cells (i:=9) O O) A75 O Fa.I75 O<|aO hW (C8 v38 ms38 wS HS))
      exact kS 5 O (aM (vs:=[_,_,_,_,_,_]) O (HS.cells (i:=14) O O) A43 O Fa.I43 O<|aO hW (C9 v38 ms38 wS HS))
     have D4: ∀wS,Ke T w wS [Bm,B0,B1,B2,B3,B4,B5,B6,B7,B8,B9,C0,C1,C2,C3]→W 4 (bz 8 46) (e9 [(11,(vN 4)),(39,(aa (cg pg l))),(40,(ptr x 0)),(42,(.agg #[(aa (opI key s).pg),v5,u5,(.bool (opI key s).c),(aa (opI key s).en),q5]))]) wS:=fun wS HS=>by
      rw [hW]
      refine wd2 0 4 ?_ ?_
      ·
       exact kS 0 O (aM (vs:=[_,_]) O (HS.cells (i:=9) O O) A75 O Fa.I75 O<|aO hW (C5 wS HS))
      refine kS 4 O (az (Kd 99) O ((dz x k pk hx nv bv c pg hv he mb cn gs sl l _ (HS.cellsAt (i:=0) O) (HS.cellsAtO (i:=1) O) (HS.cellsAt (i:=2) O) (HS.arrO (i:=3) O) (HS.mp (i:=4) O) (HS.bsG (i:=5) O) (HS.dpO (i:=6) O) (HS.dpO (i:=7) O) hR).mono (fun e w38 hq=>?_)))
      obtain ⟨v38,ms38,rfl,ho38,hm38,hq38⟩:=hq
      refine ⟨_,rfl,?_⟩
      have H38:=HS.splice [] [] [.row v38 40 4 ms38.length (Kh mmc ms38),Ent.dp MmD.list ms38] O O hq38 (am ae (cr hm38 aI))
      have H38f:=H38.addFact (p:=ms38.map Mm.f=eK l 8) ho38
      exact aO hW (C9 v38 ms38 w38 H38f)
     have D5: ∀v38 ms38 wS,Ke T w wS [Bm,B0,B1,B2,B3,B4,B5,B6,B7,B8,B9,C0,C1,C2,C3,.row v38 40 4 ms38.length (Kh mmc ms38),Ent.dp MmD.list ms38,Ent.fact (ms38.map Mm.f=eK l 8)]→W 4 (bz 8 58) (e9 [(11,(vN 4)),(38,(ptr b3 0)),(41,v38),(42,(.agg #[(aa (opI key s).pg),v5,u5,(.bool (opI key s).c),(aa (opI key s).en),q5]))]) wS:=fun v38 ms38 wS HS=>by
      rw [hW]
      refine wd2 0 2 ?_ ?_
      ·
       exact kS 0 O (aM (vs:=[_,_]) O (HS.cells (i:=9) O O) A75 O Fa.I75 O<|aO hW (C6 v38 ms38 wS HS))
      exact kS 2 O (aj O (HS.cell (i:=10) O O) A22 O<|aO hW (C9 v38 ms38 wS HS))
     have E0: ∀wS,Ke T w wS [Bm,B0,B1,B2,B3,B4,B5,B6,B7,B8,B9,C0,C1,C2,C3]→W 5 (bz 8 7) (e9 [(11,(vN 4)),(37,(.agg #[(aa pg),lv])),(39,(aa (cg pg l)))]) wS:=fun wS HS=>by
      rw [hW]
      refine wd2 3 5 ?_ ?_
      ·
       exact kS 3 O (au O<|aO hW (D0 wS HS))
      exact kS 5 O (aM (vs:=[_,_,_,_,_,_]) O (HS.cells (i:=14) O O) A43 O Fa.I43 O<|aO hW (D1 wS HS))
     have D6: ∀wS,Ke T w wS [Bm,B0,B1,B2,B3,B4,B5,B6,B7,B8,B9,C0,C1,C2,C3]→W 5 (bz 8 11) (e9 [(11,(vN 4)),(37,(.agg #[(aa pg),lv])),(38,(ptr b3 0)),(40,(ptr x 0))]) wS:=fun wS HS=>by
      rw [hW]
      refine wd3 2 4 5 ?_ ?_ ?_
      ·
       exact kS 2 O (aj O (HS.cell (i:=10) O O) A22 O<|aO hW (D0 wS HS))
      ·
       refine kS 4 O (az (Kd 99) O ((dz x k pk hx nv bv c pg hv he mb cn gs sl l _ (HS.cellsAt (i:=0) O) (HS.cellsAtO (i:=1) O) (HS.cellsAt (i:=2) O) (HS.arrO (i:=3) O) (HS.mp (i:=4) O) (HS.bsG (i:=5) O) (HS.dpO (i:=6) O) (HS.dpO (i:=7) O) hR).mono (fun e w38 hq=>?_)))
       obtain ⟨v38,ms38,rfl,ho38,hm38,hq38⟩:=hq
       refine ⟨_,rfl,?_⟩
       have H38:Ke T w w38 [.blk x (xoC k sl) 146,Ent.bo k [(aa pk),hx,(ptr c 0),nv,bv,(aa 0)],.blk c [(aa pg),hv,(.map (some mb))] 196,Ent.ar hv 1 he.length (Kg aa he),.obj mb (mP .i64 (Kg Gr.me gs) cn),Ent.bs 199 Gr.cells Gr.b gs,Ent.dp grD.list gs,Ent.dp (bY 211).list sl,Ent.ar lv 1 he.length (Kg aa he),.blk b1 [(aa pg),lv] 75,.blk b3 (fa (cg pg l) l 9) 81,.row v5 207 2 (opI key s).xs.length (Kh xtc (opI key s).xs),.row u5 203 1 (opI key s).ps.length (Kg bA (opI key s).ps),.row q5 116 3 (opI key s).sg.length (Kh sgc (opI key s).sg),.blk b6 [(aa (opI key s).pg),v5,u5,(.bool (opI key s).c),(aa (opI key s).en),q5] 43,.row v38 40 4 ms38.length (Kh mmc ms38),Ent.dp MmD.list ms38]:=HS.splice [] [] [.row v38 40 4 ms38.length (Kh mmc ms38),Ent.dp MmD.list ms38] O O hq38 (am ae (cr hm38 aI))
       have H38f:=H38.addFact (p:=ms38.map Mm.f=eK l 8) ho38
       exact aO hW (D2 v38 ms38 w38 H38f)
      exact kS 5 O (aM (vs:=[_,_,_,_,_,_]) O (HS.cells (i:=14) O O) A43 O Fa.I43 O<|aO hW (C7 wS HS))
     have D7: ∀wS,Ke T w wS [Bm,B0,B1,B2,B3,B4,B5,B6,B7,B8,B9,C0,C1,C2,C3]→W 5 (bz 8 35) (e9 [(11,(vN 4)),(37,(.agg #[(aa pg),lv])),(38,(ptr b3 0)),(42,(.agg #[(aa (opI key s).pg),v5,u5,(.bool (opI key s).c),(aa (opI key s).en),q5]))]) wS:=fun wS HS=>by
      rw [hW]
      refine wd2 2 3 ?_ ?_
      ·
       exact kS 2 O (aj O (HS.cell (i:=10) O O) A22 O<|aO hW (D1 wS HS))
      exact kS 3 O (au O<|aO hW (C7 wS HS))
     have E1: ∀v38 ms38 wS,Ke T w wS [Bm,B0,B1,B2,B3,B4,B5,B6,B7,B8,B9,C0,C1,C2,C3,.row v38 40 4 ms38.length (Kh mmc ms38),Ent.dp MmD.list ms38,Ent.fact (ms38.map Mm.f=eK l 8)]→W 5 (bz 8 25) (e9 [(11,(vN 4)),(37,(.agg #[(aa pg),lv])),(41,v38)]) wS:=fun v38 ms38 wS HS=>by
      rw [hW]
      refine wd2 1 5 ?_ ?_
      ·
       exact kS 1 O (ab O Fa.ik<|aO hW (D2 v38 ms38 wS HS))
      exact kS 5 O (aM (vs:=[_,_,_,_,_,_]) O (HS.cells (i:=14) O O) A43 O Fa.I43 O<|aO hW (D3 v38 ms38 wS HS))
     have D8: ∀wS,Ke T w wS [Bm,B0,B1,B2,B3,B4,B5,B6,B7,B8,B9,C0,C1,C2,C3]→W 5 (bz 8 41) (e9 [(11,(vN 4)),(37,(.agg #[(aa pg),lv])),(40,(ptr x 0)),(42,(.agg #[(aa (opI key s).pg),v5,u5,(.bool (opI key s).c),(aa (opI key s).en),q5]))]) wS:=fun wS HS=>by
      rw [hW]
      refine wd2 1 4 ?_ ?_
      ·
       exact kS 1 O (ab O Fa.ik<|aO hW (C7 wS HS))
      refine kS 4 O (az (Kd 99) O ((dz x k pk hx nv bv c pg hv he mb cn gs sl l _ (HS.cellsAt (i:=0) O) (HS.cellsAtO (i:=1) O) (HS.cellsAt (i:=2) O) (HS.arrO (i:=3) O) (HS.mp (i:=4) O) (HS.bsG (i:=5) O) (HS.dpO (i:=6) O) (HS.dpO (i:=7) O) hR).mono (fun e w38 hq=>?_)))
      obtain ⟨v38,ms38,rfl,ho38,hm38,hq38⟩:=hq
      refine ⟨_,rfl,?_⟩
      have H38:=HS.splice [] [] [.row v38 40 4 ms38.length (Kh mmc ms38),Ent.dp MmD.list ms38] O O hq38 (am ae (cr hm38 aI))
      have H38f:=H38.addFact (p:=ms38.map Mm.f=eK l 8) ho38
      exact aO hW (D3 v38 ms38 w38 H38f)
     have E2: ∀wS,Ke T w wS [Bm,B0,B1,B2,B3,B4,B5,B6,B7,B8,B9,C0,C1,C2,C3]→W 5 (bz 8 14) (e9 [(11,(vN 4)),(39,(aa (cg pg l))),(40,(ptr x 0))]) wS:=fun wS HS=>by
      rw [hW]
      refine wd3 0 4 5 ?_ ?_ ?_
      ·
       exact kS 0 O (aM (vs:=[_,_]) O (HS.cells (i:=9) O O) A75 O Fa.I75 O<|aO hW (D0 wS HS))
      ·
       refine kS 4 O (az (Kd 99) O ((dz x k pk hx nv bv c pg hv he mb cn gs sl l _ (HS.cellsAt (i:=0) O) (HS.cellsAtO (i:=1) O) (HS.cellsAt (i:=2) O) (HS.arrO (i:=3) O) (HS.mp (i:=4) O) (HS.bsG (i:=5) O) (HS.dpO (i:=6) O) (HS.dpO (i:=7) O) hR).mono (fun e w38 hq=>?_)))
       obtain ⟨v38,ms38,rfl,ho38,hm38,hq38⟩:=hq
       refine ⟨_,rfl,?_⟩
       have H38:Ke T w w38 [.blk x (xoC k sl) 146,Ent.bo k [(aa pk),hx,(ptr c 0),nv,bv,(aa 0)],.blk c [(aa pg),hv,(.map (some mb))] 196,Ent.ar hv 1 he.length (Kg aa he),.obj mb (mP .i64 (Kg Gr.me gs) cn),Ent.bs 199 Gr.cells Gr.b gs,Ent.dp grD.list gs,Ent.dp (bY 211).list sl,Ent.ar lv 1 he.length (Kg aa he),.blk b1 [(aa pg),lv] 75,.blk b3 (fa (cg pg l) l 9) 81,.row v5 207 2 (opI key s).xs.length (Kh xtc (opI key s).xs),.row u5 203 1 (opI key s).ps.length (Kg bA (opI key s).ps),.row q5 116 3 (opI key s).sg.length (Kh sgc (opI key s).sg),.blk b6 [(aa (opI key s).pg),v5,u5,(.bool (opI key s).c),(aa (opI key s).en),q5] 43,.row v38 40 4 ms38.length (Kh mmc ms38),Ent.dp MmD.list ms38]:=HS.splice [] [] [.row v38 40 4 ms38.length (Kh mmc ms38),Ent.dp MmD.list ms38] O O hq38 (am ae (cr hm38 aI))
       have H38f:=H38.addFact (p:=ms38.map Mm.f=eK l 8) ho38
       exact aO hW (Eq v38 ms38 w38 H38f)
      exact kS 5 O (aM (vs:=[_,_,_,_,_,_]) O (HS.cells (i:=14) O O) A43 O Fa.I43 O<|aO hW (D4 wS HS))
     have E3: ∀wS,Ke T w wS [Bm,B0,B1,B2,B3,B4,B5,B6,B7,B8,B9,C0,C1,C2,C3]→W 5 (bz 8 38) (e9 [(11,(vN 4)),(39,(aa (cg pg l))),(42,(.agg #[(aa (opI key s).pg),v5,u5,(.bool (opI key s).c),(aa (opI key s).en),q5]))]) wS:=fun wS HS=>by
      rw [hW]
      refine wd2 0 3 ?_ ?_
      ·
       exact kS 0 O (aM (vs:=[_,_]) O (HS.cells (i:=9) O O) A75 O Fa.I75 O<|aO hW (D1 wS HS))
      exact kS 3 O (au O<|aO hW (D4 wS HS))
     have E4: ∀v38 ms38 wS,Ke T w wS [Bm,B0,B1,B2,B3,B4,B5,B6,B7,B8,B9,C0,C1,C2,C3,.row v38 40 4 ms38.length (Kh mmc ms38),Ent.dp MmD.list ms38,Ent.fact (ms38.map Mm.f=eK l 8)]→W 5 (bz 8 26) (e9 [(11,(vN 4)),(38,(ptr b3 0)),(41,v38)]) wS:=fun v38 ms38 wS HS=>by
      rw [hW]
      refine wd3 0 2 5 ?_ ?_ ?_
      ·
       exact kS 0 O (aM (vs:=[_,_]) O (HS.cells (i:=9) O O) A75 O Fa.I75 O<|aO hW (D2 v38 ms38 wS HS))
      ·
       exact kS 2 O (aj O (HS.cell (i:=10) O O) A22 O<|aO hW (Eq v38 ms38 wS HS))
      exact kS 5 O (aM (vs:=[_,_,_,_,_,_]) O (HS.cells (i:=14) O O) A43 O Fa.I43 O<|aO hW (D5 v38 ms38 wS HS))
     have D9: ∀wS,Ke T w wS [Bm,B0,B1,B2,B3,B4,B5,B6,B7,B8,B9,C0,C1,C2,C3]→W 5 (bz 8 42) (e9 [(11,(vN 4)),(38,(ptr b3 0)),(40,(ptr x 0)),(42,(.agg #[(aa (opI key s).pg),v5,u5,(.bool (opI key s).c),(aa (opI key s).en),q5]))]) wS:=fun wS HS=>by
      rw [hW]
      refine wd3 0 2 4 ?_ ?_ ?_
      ·
       exact kS 0 O (aM (vs:=[_,_]) O (HS.cells (i:=9) O O) A75 O Fa.I75 O<|aO hW (C7 wS HS))
      ·
       exact kS 2 O (aj O (HS.cell (i:=10) O O) A22 O<|aO hW (D4 wS HS))
      refine kS 4 O (az (Kd 99) O ((dz x k pk hx nv bv c pg hv he mb cn gs sl l _ (HS.cellsAt (i:=0) O) (HS.cellsAtO (i:=1) O) (HS.cellsAt (i:=2) O) (HS.arrO (i:=3) O) (HS.mp (i:=4) O) (HS.bsG (i:=5) O) (HS.dpO (i:=6) O) (HS.dpO (i:=7) O) hR).mono (fun e w38 hq=>?_)))
      obtain ⟨v38,ms38,rfl,ho38,hm38,hq38⟩:=hq
      refine ⟨_,rfl,?_⟩
      have H38:=HS.splice [] [] [.row v38 40 4 ms38.length (Kh mmc ms38),Ent.dp MmD.list ms38] O O hq38 (am ae (cr hm38 aI))
      have H38f:=H38.addFact (p:=ms38.map Mm.f=eK l 8) ho38
      exact aO hW (D5 v38 ms38 w38 H38f)
     have E5: ∀v38 ms38 wS,Ke T w wS [Bm,B0,B1,B2,B3,B4,B5,B6,B7,B8,B9,C0,C1,C2,C3,.row v38 40 4 ms38.length (Kh mmc ms38),Ent.dp MmD.list ms38,Ent.fact (ms38.map Mm.f=eK l 8)]→W 5 (bz 8 56) (e9 [(11,(vN 4)),(41,v38),(42,(.agg #[(aa (opI key s).pg),v5,u5,(.bool (opI key s).c),(aa (opI key s).en),q5]))]) wS:=fun v38 ms38 wS HS=>by
      rw [hW]
      refine wd2 0 1 ?_ ?_
      ·
       exact kS 0 O (aM (vs:=[_,_]) O (HS.cells (i:=9) O O) A75 O Fa.I75 O<|aO hW (D3 v38 ms38 wS HS))
      exact kS 1 O (ab O Fa.ik<|aO hW (D5 v38 ms38 wS HS))
     have E6: ∀wS,Ke T w wS [Bm,B0,B1,B2,B3,B4,B5,B6,B7,B8,B9,C0,C1,C2,C3]→W 6 (bz 8 3) (e9 [(11,(vN 4)),(37,(.agg #[(aa pg),lv])),(38,(ptr b3 0))]) wS:=fun wS HS=>by
      rw [hW]
      refine wd3 2 3 5 ?_ ?_ ?_
      ·
       exact kS 2 O (aj O (HS.cell (i:=10) O O) A22 O<|aO hW (E0 wS HS))
      ·
       exact kS 3 O (au O<|aO hW (D6 wS HS))
      exact kS 5 O (aM (vs:=[_,_,_,_,_,_]) O (HS.cells (i:=14) O O) A43 O Fa.I43 O<|aO hW (D7 wS HS))
     have E7: ∀wS,Ke T w wS [Bm,B0,B1,B2,B3,B4,B5,B6,B7,B8,B9,C0,C1,C2,C3]→W 6 (bz 8 9) (e9 [(11,(vN 4)),(37,(.agg #[(aa pg),lv])),(40,(ptr x 0))]) wS:=fun wS HS=>by
      rw [hW]
      refine wd3 1 4 5 ?_ ?_ ?_
      ·
       exact kS 1 O (ab O Fa.ik<|aO hW (D6 wS HS))
      ·
       refine kS 4 O (az (Kd 99) O ((dz x k pk hx nv bv c pg hv he mb cn gs sl l _ (HS.cellsAt (i:=0) O) (HS.cellsAtO (i:=1) O) (HS.cellsAt (i:=2) O) (HS.arrO (i:=3) O) (HS.mp (i:=4) O) (HS.bsG (i:=5) O) (HS.dpO (i:=6) O) (HS.dpO (i:=7) O) hR).mono (fun e w38 hq=>?_)))
       obtain ⟨v38,ms38,rfl,ho38,hm38,hq38⟩:=hq
       refine ⟨_,rfl,?_⟩
       have H38:Ke T w w38 [.blk x (xoC k sl) 146,Ent.bo k [(aa pk),hx,(ptr c 0),nv,bv,(aa 0)],.blk c [(aa pg),hv,(.map (some mb))] 196,Ent.ar hv 1 he.length (Kg aa he),.obj mb (mP .i64 (Kg Gr.me gs) cn),Ent.bs 199 Gr.cells Gr.b gs,Ent.dp grD.list gs,Ent.dp (bY 211).list sl,Ent.ar lv 1 he.length (Kg aa he),.blk b1 [(aa pg),lv] 75,.blk b3 (fa (cg pg l) l 9) 81,.row v5 207 2 (opI key s).xs.length (Kh xtc (opI key s).xs),.row u5 203 1 (opI key s).ps.length (Kg bA (opI key s).ps),.row q5 116 3 (opI key s).sg.length (Kh sgc (opI key s).sg),.blk b6 [(aa (opI key s).pg),v5,u5,(.bool (opI key s).c),(aa (opI key s).en),q5] 43,.row v38 40 4 ms38.length (Kh mmc ms38),Ent.dp MmD.list ms38]:=HS.splice [] [] [.row v38 40 4 ms38.length (Kh mmc ms38),Ent.dp MmD.list ms38] O O hq38 (am ae (cr hm38 aI))
       have H38f:=H38.addFact (p:=ms38.map Mm.f=eK l 8) ho38
       exact aO hW (E1 v38 ms38 w38 H38f)
      exact kS 5 O (aM (vs:=[_,_,_,_,_,_]) O (HS.cells (i:=14) O O) A43 O Fa.I43 O<|aO hW (D8 wS HS))
     have E8: ∀wS,Ke T w wS [Bm,B0,B1,B2,B3,B4,B5,B6,B7,B8,B9,C0,C1,C2,C3]→W 6 (bz 8 33) (e9 [(11,(vN 4)),(37,(.agg #[(aa pg),lv])),(42,(.agg #[(aa (opI key s).pg),v5,u5,(.bool (opI key s).c),(aa (opI key s).en),q5]))]) wS:=fun wS HS=>by
      rw [hW]
      refine wd2 1 3 ?_ ?_
      ·
       exact kS 1 O (ab O Fa.ik<|aO hW (D7 wS HS))
      exact kS 3 O (au O<|aO hW (D8 wS HS))
     have F1: ∀wS,Ke T w wS [Bm,B0,B1,B2,B3,B4,B5,B6,B7,B8,B9,C0,C1,C2,C3]→W 6 (bz 8 6) (e9 [(11,(vN 4)),(39,(aa (cg pg l)))]) wS:=fun wS HS=>by
      rw [hW]
      refine wd3 0 3 5 ?_ ?_ ?_
      ·
       exact kS 0 O (aM (vs:=[_,_]) O (HS.cells (i:=9) O O) A75 O Fa.I75 O<|aO hW (E0 wS HS))
      ·
       exact kS 3 O (au O<|aO hW (E2 wS HS))
      exact kS 5 O (aM (vs:=[_,_,_,_,_,_]) O (HS.cells (i:=14) O O) A43 O Fa.I43 O<|aO hW (E3 wS HS))
     have E9: ∀wS,Ke T w wS [Bm,B0,B1,B2,B3,B4,B5,B6,B7,B8,B9,C0,C1,C2,C3]→W 6 (bz 8 10) (e9 [(11,(vN 4)),(38,(ptr b3 0)),(40,(ptr x 0))]) wS:=fun wS HS=>by
      rw [hW]
      refine WD.all4 (i:=0) (j:=2) (m:=4) (q:=5) (by kernel_rfl) ?_ ?_ ?_ ?_
      ·
       exact kS 0 O (aM (vs:=[_,_]) O (HS.cells (i:=9) O O) A75 O Fa.I75 O<|aO hW (D6 wS HS))
      ·
       exact kS 2 O (aj O (HS.cell (i:=10) O O) A22 O<|aO hW (E2 wS HS))
      ·
       refine kS 4 O (az (Kd 99) O ((dz x k pk hx nv bv c pg hv he mb cn gs sl l _ (HS.cellsAt (i:=0) O) (HS.cellsAtO (i:=1) O) (HS.cellsAt (i:=2) O) (HS.arrO (i:=3) O) (HS.mp (i:=4) O) (HS.bsG (i:=5) O) (HS.dpO (i:=6) O) (HS.dpO (i:=7) O) hR).mono (fun e w38 hq=>?_)))
       obtain ⟨v38,ms38,rfl,ho38,hm38,hq38⟩:=hq
       refine ⟨_,rfl,?_⟩
       have H38:=HS.splice [] [] [.row v38 40 4 ms38.length (Kh mmc ms38),Ent.dp MmD.list ms38] O O hq38 (am ae (cr hm38 aI))
       have H38f:=H38.addFact (p:=ms38.map Mm.f=eK l 8) ho38
       exact aO hW (E4 v38 ms38 w38 H38f)
      exact kS 5 O (aM (vs:=[_,_,_,_,_,_]) O (HS.cells (i:=14) O O) A43 O Fa.I43 O<|aO hW (D9 wS HS))
     have Fl: ∀wS,Ke T w wS [Bm,B0,B1,B2,B3,B4,B5,B6,B7,B8,B9,C0,C1,C2,C3]→W 6 (bz 8 34) (e9 [(11,(vN 4)),(38,(ptr b3 0)),(42,(.agg #[(aa (opI key s).pg),v5,u5,(.bool (opI key s).c),(aa (opI key s).en),q5]))]) wS:=fun wS HS=>by
      rw [hW]
      refine wd3 0 2 3 ?_ ?_ ?_
      ·
       exact kS 0 O (aM (vs:=[_,_]) O (HS.cells (i:=9) O O) A75 O Fa.I75 O<|aO hW (D7 wS HS))
      ·
       exact kS 2 O (aj O (HS.cell (i:=10) O O) A22 O<|aO hW (E3 wS HS))
      exact kS 3 O (au O<|aO hW (D9 wS HS))
     have F2: ∀v38 ms38 wS,Ke T w wS [Bm,B0,B1,B2,B3,B4,B5,B6,B7,B8,B9,C0,C1,C2,C3,.row v38 40 4 ms38.length (Kh mmc ms38),Ent.dp MmD.list ms38,Ent.fact (ms38.map Mm.f=eK l 8)]→W 6 (bz 8 24) (e9 [(11,(vN 4)),(41,v38)]) wS:=fun v38 ms38 wS HS=>by
      rw [hW]
      refine wd3 0 1 5 ?_ ?_ ?_
      ·
       exact kS 0 O (aM (vs:=[_,_]) O (HS.cells (i:=9) O O) A75 O Fa.I75 O<|aO hW (E1 v38 ms38 wS HS))
      ·
       exact kS 1 O (ab O Fa.ik<|aO hW (E4 v38 ms38 wS HS))
      exact kS 5 O (aM (vs:=[_,_,_,_,_,_]) O (HS.cells (i:=14) O O) A43 O Fa.I43 O<|aO hW (E5 v38 ms38 wS HS))
     have Fn: ∀wS,Ke T w wS [Bm,B0,B1,B2,B3,B4,B5,B6,B7,B8,B9,C0,C1,C2,C3]→W 6 (bz 8 40) (e9 [(11,(vN 4)),(40,(ptr x 0)),(42,(.agg #[(aa (opI key s).pg),v5,u5,(.bool (opI key s).c),(aa (opI key s).en),q5]))]) wS:=fun wS HS=>by
      rw [hW]
      refine wd3 0 1 4 ?_ ?_ ?_
      ·
       exact kS 0 O (aM (vs:=[_,_]) O (HS.cells (i:=9) O O) A75 O Fa.I75 O<|aO hW (D8 wS HS))
      ·
       exact kS 1 O (ab O Fa.ik<|aO hW (D9 wS HS))
      refine kS 4 O (az (Kd 99) O ((dz x k pk hx nv bv c pg hv he mb cn gs sl l _ (HS.cellsAt (i:=0) O) (HS.cellsAtO (i:=1) O) (HS.cellsAt (i:=2) O) (HS.arrO (i:=3) O) (HS.mp (i:=4) O) (HS.bsG (i:=5) O) (HS.dpO (i:=6) O) (HS.dpO (i:=7) O) hR).mono (fun e w38 hq=>?_)))
      obtain ⟨v38,ms38,rfl,ho38,hm38,hq38⟩:=hq
      refine ⟨_,rfl,?_⟩
      have H38:Ke T w w38 [.blk x (xoC k sl) 146,Ent.bo k [(aa pk),hx,(ptr c 0),nv,bv,(aa 0)],.blk c [(aa pg),hv,(.map (some mb))] 196,Ent.ar hv 1 he.length (Kg aa he),.obj mb (mP .i64 (Kg Gr.me gs) cn),Ent.bs 199 Gr.cells Gr.b gs,Ent.dp grD.list gs,Ent.dp (bY 211).list sl,Ent.ar lv 1 he.length (Kg aa he),.blk b1 [(aa pg),lv] 75,.blk b3 (fa (cg pg l) l 9) 81,.row v5 207 2 (opI key s).xs.length (Kh xtc (opI key s).xs),.row u5 203 1 (opI key s).ps.length (Kg bA (opI key s).ps),.row q5 116 3 (opI key s).sg.length (Kh sgc (opI key s).sg),.blk b6 [(aa (opI key s).pg),v5,u5,(.bool (opI key s).c),(aa (opI key s).en),q5] 43,.row v38 40 4 ms38.length (Kh mmc ms38),Ent.dp MmD.list ms38]:=HS.splice [] [] [.row v38 40 4 ms38.length (Kh mmc ms38),Ent.dp MmD.list ms38] O O hq38 (am ae (cr hm38 aI))
      have H38f:=H38.addFact (p:=ms38.map Mm.f=eK l 8) ho38
      exact aO hW (E5 v38 ms38 w38 H38f)
     have F3: ∀wS,Ke T w wS [Bm,B0,B1,B2,B3,B4,B5,B6,B7,B8,B9,C0,C1,C2,C3]→W 7 (bz 8 1) (e9 [(11,(vN 4)),(37,(.agg #[(aa pg),lv]))]) wS:=fun wS HS=>by
      rw [hW]
      refine wd3 1 3 5 ?_ ?_ ?_
      ·
       exact kS 1 O (ab O Fa.ik<|aO hW (E6 wS HS))
      ·
       exact kS 3 O (au O<|aO hW (E7 wS HS))
      exact kS 5 O (aM (vs:=[_,_,_,_,_,_]) O (HS.cells (i:=14) O O) A43 O Fa.I43 O<|aO hW (E8 wS HS))
     have F4: ∀wS,Ke T w wS [Bm,B0,B1,B2,B3,B4,B5,B6,B7,B8,B9,C0,C1,C2,C3]→W 7 (bz 8 2) (e9 [(11,(vN 4)),(38,(ptr b3 0))]) wS:=fun wS HS=>by
      rw [hW]
      refine WD.all4 (i:=0) (j:=2) (m:=3) (q:=5) (by kernel_rfl) ?_ ?_ ?_ ?_
      ·
       exact kS 0 O (aM (vs:=[_,_]) O (HS.cells (i:=9) O O) A75 O Fa.I75 O<|aO hW (E6 wS HS))
      ·
       exact kS 2 O (aj O (HS.cell (i:=10) O O) A22 O<|aO hW (F1 wS HS))
      ·
       exact kS 3 O (au O<|aO hW (E9 wS HS))
      exact kS 5 O (aM (vs:=[_,_,_,_,_,_]) O (HS.cells (i:=14) O O) A43 O Fa.I43 O<|aO hW (Fl wS HS))
     have F5: ∀wS,Ke T w wS [Bm,B0,B1,B2,B3,B4,B5,B6,B7,B8,B9,C0,C1,C2,C3]→W 7 (bz 8 8) (e9 [(11,(vN 4)),(40,(ptr x 0))]) wS:=fun wS HS=>by
      rw [hW]
      refine WD.all4 (i:=0) (j:=1) (m:=4) (q:=5) (by kernel_rfl) ?_ ?_ ?_ ?_
      ·
       exact kS 0 O (aM (vs:=[_,_]) O (HS.cells (i:=9) O O) A75 O Fa.I75 O<|aO hW (E7 wS HS))
      ·
       exact kS 1 O (ab O Fa.ik<|aO hW (E9 wS HS))
      ·
       refine kS 4 O (az (Kd 99) O ((dz x k pk hx nv bv c pg hv he mb cn gs sl l _ (HS.cellsAt (i:=0) O) (HS.cellsAtO (i:=1) O) (HS.cellsAt (i:=2) O) (HS.arrO (i:=3) O) (HS.mp (i:=4) O) (HS.bsG (i:=5) O) (HS.dpO (i:=6) O) (HS.dpO (i:=7) O) hR).mono (fun e w38 hq=>?_)))
       obtain ⟨v38,ms38,rfl,ho38,hm38,hq38⟩:=hq
       refine ⟨_,rfl,?_⟩
       have H38:=HS.splice [] [] [.row v38 40 4 ms38.length (Kh mmc ms38),Ent.dp MmD.list ms38] O O hq38 (am ae (cr hm38 aI))
       have H38f:=H38.addFact (p:=ms38.map Mm.f=eK l 8) ho38
       exact aO hW (F2 v38 ms38 w38 H38f)
      exact kS 5 O (aM (vs:=[_,_,_,_,_,_]) O (HS.cells (i:=14) O O) A43 O Fa.I43 O<|aO hW (Fn wS HS))
     have F6: ∀wS,Ke T w wS [Bm,B0,B1,B2,B3,B4,B5,B6,B7,B8,B9,C0,C1,C2,C3]→W 7 (bz 8 32) (e9 [(11,(vN 4)),(42,(.agg #[(aa (opI key s).pg),v5,u5,(.bool (opI key s).c),(aa (opI key s).en),q5]))]) wS:=fun wS HS=>by
      rw [hW]
      refine wd3 0 1 3 ?_ ?_ ?_
      ·
       exact kS 0 O (aM (vs:=[_,_]) O (HS.cells (i:=9) O O) A75 O Fa.I75 O<|aO hW (E8 wS HS))
      ·
       exact kS 1 O (ab O Fa.ik<|aO hW (Fl wS HS))
      exact kS 3 O (au O<|aO hW (Fn wS HS))
     have F7: ∀wS,Ke T w wS [Bm,B0,B1,B2,B3,B4,B5,B6,B7,B8,B9,C0,C1,C2,C3]→W 8 (bz 8 0) (e9 [(11,(vN 4))]) wS:=fun wS HS=>by
      rw [hW]
      refine WD.all4 (i:=0) (j:=1) (m:=3) (q:=5) (by kernel_rfl) ?_ ?_ ?_ ?_
      ·
       exact kS 0 O (aM (vs:=[_,_]) O (HS.cells (i:=9) O O) A75 O Fa.I75 O<|aO hW (F3 wS HS))
      ·
       exact kS 1 O (ab O Fa.ik<|aO hW (F4 wS HS))
      ·
       exact kS 3 O (au O<|aO hW (F5 wS HS))
      exact kS 5 O (aM (vs:=[_,_,_,_,_,_]) O (HS.cells (i:=14) O O) A43 O Fa.I43 O<|aO hW (F6 wS HS))
     have hq:=F7 w12 H12
     rw [hW] at hq ⊢
     refine WD.cov ?_ hq
     exact by repeat (first | exact trivial | refine ⟨rfl,?_⟩)
    have hn11:=(Bool.not_eq_false' _).mp hb11
    exact aA<|aE<|ao<|aG<|wm O<|wo (aU (b:=1) O O (by omega)<|wa O<|aY<|aX (i+1) ⟨⟨by omega,by omega,fun j a b=>by rcases Nat.lt_or_ge j i with q | q; exact hall j a q; rw [show j=i by omega]; exact hn11⟩,H9⟩ ⟨rfl,rfl,rfl,rfl,rfl,rfl,rfl,rfl,trivial⟩ (by omega))
   exact bc<|an<|an<|aS<|cd () H9 ⟨rfl,rfl,rfl,rfl,rfl,(by rw [od hO ((hX.first (i:=i) (by omega) (by omega) hall (.inl (by omega))).trans (by omega))]; rfl),trivial⟩
  exact aA<|cd () H7 ⟨rfl,rfl,rfl,rfl,rfl,(by rw [qj (dF hb8)]; rfl),trivial⟩
 rintro ⟨⟩ w14 H14
 show WC _ _ _ _ _ [(0,(ptr x 0)),(2,(str key)),(3,(str s)),(9,(ptr b3 0)),(10,(ptr b6 0)),(11,(vN (stE pg he l sl key s)))] _
 refine ws (wB (decide (opC key s=0)) (fun hb15=>?_) (fun hb15=>?_))
 ·
  have hO:=dT hb15
  obtain ⟨hn,hm,hk,hB,_⟩:=ja hO hsl
  have h0:=(gV hO).1
  have hB47: ∀x∈(opI key s).sg,x.b.length≤2^47:=fun x hx=>Nat.le_trans (hB x hx) (by decide)
  have hmy:=xQ h0 (fun x hx=>Nat.lt_of_le_of_lt (hB x hx) (by decide))
  refine wm O (wB (decide (ffS sl=9)) (fun hb16=>?_) (fun hb16=>?_))
  ·
   have hF:=dT hb16
   refine wm O<|wm O<|wo (az (Kd 21) O ((xR x k pk hx nv bv c pg hv he mb cn gs sl l key s _ _ (H14.part [0,1,2,3,4,5,6,7] O O) hR hX.len hhe hkl hsl hO hF).mono (fun e w17 hq=>?_)))
   obtain ⟨rfl,hq17⟩:=hq
   refine ⟨_,rfl,?_⟩
   have H17:Ke T w w17 [.blk x (xoC k sl) 146,Ent.bo k [(aa pk),hx,(ptr c 0),nv,bv,(aa 0)],.blk c [(aa pg),hv,(.map (some mb))] 196,Ent.ar hv 1 he.length (Kg aa he),.obj mb (mP .i64 (Kg Gr.me gs) cn),Ent.bs 199 Gr.cells Gr.b gs,Ent.dp grD.list gs,Ent.dp (bY 211).list sl,Ent.ar lv 1 he.length (Kg aa he),.blk b1 [(aa pg),lv] 75,.blk b3 (fa (cg pg l) l 9) 81,.row v5 207 2 (opI key s).xs.length (Kh xtc (opI key s).xs),.row u5 203 1 (opI key s).ps.length (Kg bA (opI key s).ps),.row q5 116 3 (opI key s).sg.length (Kh sgc (opI key s).sg),.blk b6 [(aa (opI key s).pg),v5,u5,(.bool (opI key s).c),(aa (opI key s).en),q5] 43]:=H14.splice [0,1,2,3,4,5,6,7] [.blk x (xoC k sl) 146,Ent.bo k [(aa pk),hx,(ptr c 0),nv,bv,(aa 0)],.blk c [(aa pg),hv,(.map (some mb))] 196,Ent.ar hv 1 he.length (Kg aa he),.obj mb (mP .i64 (Kg Gr.me gs) cn),Ent.bs 199 Gr.cells Gr.b gs,Ent.dp grD.list gs,Ent.dp (bY 211).list sl] [] O O hq17 (am ae (bf (j:=1) O (am ae (bf (j:=3) O (am ae (am ae (bf (j:=6) O (bf (j:=7) O aI))))))))
   refine wm O<|we O O<|we O O<|wa O<|wa O<|wn<|ap<|ws<|wm O<|wm O<|wo (bI O O<|wn<|bF O (decide_eq_false (fun h=>h (od hO hF)))<|aA<|ao<|ap<|ws<|wm O<|wo (bI (b:=0) O O<|wn<|bX O (decide_eq_true (by rw [od hO hF]; decide))<|ap<|bn 9 Fa.M H17 (mh O<|oh (fun w1 H1=>dk (b:=0) O O zr)<|mh O<|cy O O O (by decide) (fun w1 H1=>au O zr)<|cy O O O (by decide) (fun w1 H1=>az (Kd 38) O ((jb x k pk hx nv bv c pg hv he mb cn gs sl l _ (H1.cellsAt (i:=0) O) (H1.cellsAtO (i:=1) O) (H1.cellsAt (i:=2) O) (H1.arrO (i:=3) O) (H1.mp (i:=4) O) (H1.bsG (i:=5) O) (H1.dpO (i:=6) O) (H1.dpO (i:=7) O) hR hX.len).mono (fun e w2 hq=>⟨_,hq.1,rfl,hq.2⟩)))<|cy O O O (by decide) (fun w1 H1=>aM O (H1.cellsW (i:=10) O) A81 O Fa.I81 (fC _ _ _) zr)<|cy O O O (by decide) (fun w1 H1=>jq (by kernel_rfl) (nG _ _ _) (by first | (rw [kp hw]<;>rfl) | rfl) O O zr)<|oh (fun w1 H1=>aQ O (by decide) O zr)<|ah O  bD) (by kernel_rfl) ?_))
   intro β19 w19 H19
   exact wn<|aC<|aq<|aD (.tmp O .nil) (⟨_,_,l,sl,rfl,hR,hX,DpTo.refl,SltTo.refl,H19.sel [0,1,2,3,4,5,6,7,8] O O⟩)
  have hF:ffS sl≠9:=dF hb16
  refine wm O (wB (decide (fH pg he l sl (opI key s)=0)) (fun hb20=>?_) (fun hb20=>?_))
  ·
   have hw:=dT hb20
   refine wm O<|wo (az (Kd 21) O ((rt x k pk hx nv bv c pg hv he mb cn gs sl l key s _ _ (H14.part [0,1,2,3,4,5,6,7] O O) hR hX.len hhe hkl hsl hO hF hw).mono (fun e w21 hq=>?_)))
   obtain ⟨cn21,gs21,a21,rfl,hi21,ha21,hd21,hs21,hq21⟩:=hq
   refine ⟨_,rfl,?_⟩
   have H21:=H14.splice [0,1,2,3,4,5,6,7] [.blk x (xoC k (cO sl (opI key s) a21)) 146,Ent.bo k [(aa pk),hx,(ptr c 0),nv,bv,(aa 0)],.blk c [(aa pg),hv,(.map (some mb))] 196,Ent.ar hv 1 he.length (Kg aa he),.obj mb (mP .i64 (Kg Gr.me gs21) cn21),Ent.bs 199 Gr.cells Gr.b gs21,Ent.dp grD.list gs21,Ent.dp (bY 211).list (cO sl (opI key s) a21)] [] O O hq21 (am ae (bf (j:=1) O (am ae (bf (j:=3) O (am ae (am ae (Fits.dpTo 6 O hd21 (Fits.dpTo 7 O hs21 aI))))))))
   refine wm O<|we O O<|we O O<|wa O<|wa O<|wn<|ap<|ws<|wm O<|wm O<|wo (bI O O<|wn<|bF O (decide_eq_false (fun h=>h ((nc hO hF).trans hw)))<|aA<|ao<|ap<|ws<|wm O<|wo (bI (b:=0) O O<|wn<|bF O (decide_eq_false (fun h=>h ((nc hO hF).trans hw)))<|aA<|ao<|ap<|ws<|wm O<|wo (bm (b:=1) O O<|wm O<|bL O O O (decide_eq_false (by have:=gj sl; omega)) O (au O<|bL O O O (decide_eq_false (by have:=gj sl; omega)) O (cm (b:=8) O O<|wo (aN O (decide_eq_false (by have:=gj sl; omega)) O<|wm O<|bL O O O (decide_eq_false (by have:=eP hX.len; omega)) O (au O<|bL O O O (decide_eq_false (by have:=eP hX.len; omega)) O (ab O Fa.uf<|bL O O O (decide_eq_false (by have:=eP hX.len; omega)) O (br A79 Fa.I4 O O (by have:=eP hX.len; omega)<|bL O O O (decide_eq_false (by have:=eP hX.len; omega)) O (aj O (H21.cell (i:=10) O (yj (gj sl) (by have:=eP hX.len; omega))) A4 O<|wo (aN O (decide_eq_false (by have:=eP hX.len; omega)) O<|wm O<|bL O O O (hX.free hF) O (au O<|bL O O O (hX.free hF) O (au O<|bL O O O (hX.free hF) O (cq H21 (Kd 42) O (qK x k (cO sl (opI key s) a21) (ffS sl) a21 _ (H21.cellsAt (i:=0) O) (iq (i:=(ffS sl)) (H21.dpO (i:=7) O) (eS hX hF)).1 (eT hX.len) (jP hX hF) (eS hX hF)) fun w22 H22=>(bL O O O (hX.free hF) O (bG Fa.pf O O<|wo (aN O (hX.free hF) O<|wm O<|wY O (au O<|wY O (au O<|wY O (cq H22 (Kd 100) O (uA x k (cO sl (opI key s) a21) (ffS sl) a21 _ (H22.cellsAt (i:=0) O) (iq (i:=(ffS sl)) (H22.dpO (i:=7) O) (eS hX hF)).1 (eT hX.len) (jP hX hF) (eS hX hF)) fun w23 H23=>(wY O (bG Fa.Cw O O<|wo (aN O O O<|wn<|bF O O<|aA<|ao<|ws<|wm O<|wm O<|wo (az (Kd 85) O ((mu x k pk hx nv bv c pg hv he mb cn21 gs21 (cO sl (opI key s) a21) (df pg he l sl (opI key s)) (ffS sl) _ (H23.cellsAt (i:=0) O) (H23.cellsAtO (i:=1) O) (H23.cellsAt (i:=2) O) (H23.arrO (i:=3) O) (H23.mp (i:=4) O) (H23.bsG (i:=5) O) (H23.dpO (i:=6) O) (H23.dpO (i:=7) O) hi21).mono (fun e w24 hq=>?_))))))))))))))))))))))))))
   obtain ⟨v24,u24,rfl,hq24⟩:=hq
   refine ⟨_,rfl,?_⟩
   have H24:Ke T w w24 [.blk x (xoC k (cO sl (opI key s) a21)) 146,Ent.bo k [(aa pk),hx,(ptr c 0),nv,bv,(aa 0)],.blk c [(aa pg),hv,(.map (some mb))] 196,Ent.ar hv 1 he.length (Kg aa he),.obj mb (mP .i64 (Kg Gr.me gs21) cn21),Ent.bs 199 Gr.cells Gr.b gs21,Ent.dp grD.list gs21,Ent.dp (bY 211).list (cO sl (opI key s) a21),Ent.ar lv 1 he.length (Kg aa he),.blk b1 [(aa pg),lv] 75,.blk b3 (fa (cg pg l) l 9) 81,.row v5 207 2 (opI key s).xs.length (Kh xtc (opI key s).xs),.row u5 203 1 (opI key s).ps.length (Kg bA (opI key s).ps),.row q5 116 3 (opI key s).sg.length (Kh sgc (opI key s).sg),.blk b6 [(aa (opI key s).pg),v5,u5,(.bool (opI key s).c),(aa (opI key s).en),q5] 43,.row v24 207 2 (obs (df pg he l sl (opI key s)) (((ffS sl):Nat):Int)).xs.length (Kh xtc (obs (df pg he l sl (opI key s)) (((ffS sl):Nat):Int)).xs),.row u24 203 1 (obs (df pg he l sl (opI key s)) (((ffS sl):Nat):Int)).ps.length (Kg bA (obs (df pg he l sl (opI key s)) (((ffS sl):Nat):Int)).ps)]:=H23.splice [] [] [.row v24 207 2 (obs (df pg he l sl (opI key s)) (((ffS sl):Nat):Int)).xs.length (Kh xtc (obs (df pg he l sl (opI key s)) (((ffS sl):Nat):Int)).xs),.row u24 203 1 (obs (df pg he l sl (opI key s)) (((ffS sl):Nat):Int)).ps.length (Kg bA (obs (df pg he l sl (opI key s)) (((ffS sl):Nat):Int)).ps)] O O hq24 (am ae (am ae aI))
   refine wm O<|we O O<|we O O<|wo (bt H24 Fa.I40 (fun b25 w25 H25=>(wo (bw (i:=17) H25 O O O O (bk O (bk (bS (H25.arrR (i:=15) O)) (bk (bS (H25.arrR (i:=16) O)) (bk O er)))) Fa.I40 (fun w26 H26=>(wa O<|wn<|ws<|wm O<|wo (cq H26 (Kd 38) O (jb x k pk hx nv bv c pg hv he mb cn21 gs21 (cO sl (opI key s) a21) (df pg he l sl (opI key s)) _ (H26.cellsAt (i:=0) O) (H26.cellsAtO (i:=1) O) (H26.cellsAt (i:=2) O) (H26.arrO (i:=3) O) (H26.mp (i:=4) O) (H26.bsG (i:=5) O) (H26.dpO (i:=6) O) (H26.dpO (i:=7) O) hi21 (eT hX.len)) fun w27 H27=>(wo (bt H27 Fa.I81 (fun b28 w28 H28=>(wo (ff (i:=18) H28 O O O (by rfl) (oQ _ _ _) O Fa.I81 (fun w29 H29=>(wn<|ws<|wm O<|wo (ab O Fa.uf<|wo (br A79 Fa.I4 O O (by have:=eP hX.len; omega)<|wo (bC (i:=18) H29 O O O (by rw [Nat.blt_eq,fC]; have:=eP hX.len; omega) O Fa.I4 (fun w30 H30=>(wn<|ap<|bn 12 Fa.M H30 (oh (fun w1 H1=>ab O Fa.ik zr)<|oh (fun w1 H1=>aj O (H1.cell (i:=18) O BM) A22 O zr)<|oh (fun w1 H1=>ab O Fa.cZ zr)<|oh (fun w1 H1=>ab O Fa.im zr)<|oh (fun w1 H1=>aj O (H1.cell (i:=14) O O) A22 O zr)<|oh (fun w1 H1=>bW O O zr)<|oh (fun w1 H1=>aM (vs:=[_,_,_,_,_,_]) O (H1.cells (i:=14) O O) A43 O Fa.I43 O zr)<|HW.flt (mk:=fun bq=>bq.2) (ent:=fun bq=>.row bq.2 22 1 (if fo ((opI key s).pg) ((opI key s).xs) ((opI key s).ps) ((opI key s).en) ((opI key s).sg) then aT ((opI key s).sg) ((opI key s).sg).length else []).length (Kg aa (if fo ((opI key s).pg) ((opI key s).xs) ((opI key s).ps) ((opI key s).en) ((opI key s).sg) then aT ((opI key s).sg) ((opI key s).sg).length else []))) O (fun w1 H1=>az (Kd 101) O ((uP ((opI key s).pg) _ _ _ ((opI key s).xs) ((opI key s).ps) ((opI key s).c) ((opI key s).en) ((opI key s).sg) _ (H1.arrR (i:=11) O) (H1.arrR (i:=12) O) (H1.arrR (i:=13) O) (by omega) (by omega) (by omega) hB (by omega)).mono (fun e w2 ⟨v,he,hO⟩=>⟨_,he,(0,v),rfl,hO,ae⟩)))<|HW.opFs 0 O O (fun bq w1 H1=>bu A73 O (H1.arrR (i:=19) O) zr)<|oh (fun w1 H1=>dB (hs:=A3) (hd:=A22) O zr)<|oh (fun w1 H1=>bW O O zr)<|oh (fun w1 H1=>ab O Fa.ik zr)  bD) (by kernel_rfl) ?_)))))))))))))))))))
   intro β32 w32 H32
   refine wo (bC (i:=18) H32 O O O (by rw [Nat.blt_eq,List.length_set,fC]; omega) O Fa.I22 (fun w33 H33=>(wn<|ap<|bn 45 Fa.M H33 (mh O<|mh O<|cy O O O (jc hX hF hw) (fun w1 H1=>aM (vs:=[_,_,_,_]) O (H1.cells (i:=17) O O) A40 O Fa.I40 O zr)<|cy O O O (jc hX hF hw) (fun w1 H1=>ab O Fa.cZ zr)<|cy O O O (jc hX hF hw) (fun w1 H1=>aM (vs:=[_,_,_,_]) O (H1.cells (i:=14) O O) A40 O Fa.I40 O zr)<|cy O O O (jc hX hF hw) (fun w1 H1=>az (Kd 75) O ((zg ((obs (df pg he l sl (opI key s)) (((ffS sl):Nat):Int)).pg) ((obs (df pg he l sl (opI key s)) (((ffS sl):Nat):Int)).con) _ _ ((obs (df pg he l sl (opI key s)) (((ffS sl):Nat):Int)).xs) ((obs (df pg he l sl (opI key s)) (((ffS sl):Nat):Int)).ps) ((opI key s).pg) ((opI key s).c) _ _ ((opI key s).xs) ((opI key s).ps) _ (H1.arrR (i:=15) O) (H1.arrR (i:=16) O) (H1.arrR (i:=11) O) (H1.arrR (i:=12) O) (by rw [ia hX hF hw]; show (opI key s).xs.length<_; omega) (by rw [ia hX hF hw]; show (opI key s).ps.length<_; omega)).mono (fun e w2 hq=>⟨_,hq.1,rfl,hq.2⟩)))<|oh (fun w1 H1=>aQ O (jc hX hF hw) O zr)<|mh O<|cy O O O (by rw [ia hX hF hw]; exact gQ.2 ⟨rfl,rfl,rfl,rfl⟩) (fun w1 H1=>aM O (H1.cellsW (i:=18) O) A81 O Fa.I81 (by rw [List.length_set,List.length_set]; exact fC _ _ _) zr)<|cy O O O (by rw [ia hX hF hw]; exact gQ.2 ⟨rfl,rfl,rfl,rfl⟩) (fun w1 H1=>aM O (H1.cellsW (i:=10) O) A81 O Fa.I81 (fC _ _ _) zr)<|cy O O O (by rw [ia hX hF hw]; exact gQ.2 ⟨rfl,rfl,rfl,rfl⟩) (fun w1 H1=>jq (by kernel_rfl) ((show (fa (cg pg l) l 9).toArray=((((fa (cg pg (df pg he l sl (opI key s))) (df pg he l sl (opI key s)) 9).set (1+(ffS sl)) (.bool false)).set 0 (aa (((cg pg (df pg he l sl (opI key s)))+(opI key s).pg)+(Kl (if fo ((opI key s).pg) ((opI key s).xs) ((opI key s).ps) ((opI key s).en) ((opI key s).sg) then aT ((opI key s).sg) ((opI key s).sg).length else []).length))))).toArray from congrArg List.toArray (vm hX hF hw (by rw [pM h0 hmy]; exact rA hw))) ▸ nG (cg pg l) l 9) (show (fa (cg pg l) l 9).toArray=((((fa (cg pg (df pg he l sl (opI key s))) (df pg he l sl (opI key s)) 9).set (1+(ffS sl)) (.bool false)).set 0 (aa (((cg pg (df pg he l sl (opI key s)))+(opI key s).pg)+(Kl (if fo ((opI key s).pg) ((opI key s).xs) ((opI key s).ps) ((opI key s).en) ((opI key s).sg) then aT ((opI key s).sg) ((opI key s).sg).length else []).length))))).toArray from congrArg List.toArray (vm hX hF hw (by rw [pM h0 hmy]; exact rA hw))) O O zr)<|oh (fun w1 H1=>aQ O (by rw [ia hX hF hw]; exact gQ.2 ⟨rfl,rfl,rfl,rfl⟩) O zr)<|mh O<|yh O (fun w1 H1=>au O zr)<|yh O (fun w1 H1=>au O zr)<|yh O (fun w1 H1=>az (Kd 42) O ((qK x k (cO sl (opI key s) a21) (ffS sl) a21 _ (H1.cellsAt (i:=0) O) (iq (i:=(ffS sl)) (H1.dpO (i:=7) O) (eS hX hF)).1 (eT hX.len) (jP hX hF) (eS hX hF)).mono (fun e w2 hq=>⟨_,hq.1,rfl,hq.2⟩)))<|yh O (fun w1 H1=>aM (vs:=[_,_,_,_,_,_]) O (H1.cells (i:=14) O O) A43 O Fa.I43 O zr)<|yh O (fun w1 H1=>az (Kd 35) O ((xH a21.s a21.mb a21.cn a21.ps ((opI key s).pg) _ _ _ ((opI key s).xs) ((opI key s).ps) ((opI key s).c) ((opI key s).en) ((opI key s).sg) _ (iq (i:=(ffS sl)) (H1.dpO (i:=7) O) (eS hX hF)).2.1 (iq (i:=(ffS sl)) (H1.dpO (i:=7) O) (eS hX hF)).2.2.1 (iq (i:=(ffS sl)) (H1.dpO (i:=7) O) (eS hX hF)).2.2.2.1 ha21.1 (H1.arrR (i:=11) O) (H1.arrR (i:=12) O) (H1.arrR (i:=13) O) (by omega) (by omega) (by omega) hB h0 ha21.2.1).mono (fun e w2 hq=>⟨_,hq.1,rfl,hq.2⟩)))<|oh (fun w1 H1=>aQ O O O zr)<|mh O<|yh O (fun w1 H1=>au O zr)<|yh O (fun w1 H1=>au O zr)<|yh O (fun w1 H1=>az (Kd 100) O ((uA x k (cO sl (opI key s) a21) (ffS sl) a21 _ (H1.cellsAt (i:=0) O) (iq (i:=(ffS sl)) (H1.dpO (i:=7) O) (eS hX hF)).1 (eT hX.len) (jP hX hF) (eS hX hF)).mono (fun e w2 hq=>⟨_,hq.1,rfl,hq.2⟩)))<|yh O (fun w1 H1=>az (Kd 102) O ((Hm a21.c a21.pc _ (iq (i:=(ffS sl)) (H1.dpO (i:=7) O) (eS hX hF)).2.2.2.2).mono (fun e w2 hq=>⟨_,hq.1,rfl,hq.2⟩)))<|yh O (fun w1 H1=>ab O Fa.iU zr)<|yh O (fun w1 H1=>aj O (H1.cell (i:=14) O O) A22 O zr)<|yh O (fun w1 H1=>eu O O zr)<|oh (fun w1 H1=>aQ O O O zr)<|mh O<|cy O O O (decide_eq_true ha21.2.2.2) (fun w1 H1=>au O zr)<|cy O O O (decide_eq_true ha21.2.2.2) (fun w1 H1=>au O zr)<|cy O O O (decide_eq_true ha21.2.2.2) (fun w1 H1=>az (Kd 72) O ((qJ x k (cO sl (opI key s) a21) (ffS sl) a21 _ (H1.cellsAt (i:=0) O) (iq (i:=(ffS sl)) (H1.dpO (i:=7) O) (eS hX hF)).1 (eT hX.len) (jP hX hF) (eS hX hF)).mono (fun e w2 hq=>⟨_,hq.1,rfl,hq.2⟩)))<|cy O O O (decide_eq_true ha21.2.2.2) (fun w1 H1=>bP (cs:=[_,_,_]) Fa.pi Fa.CA O O zr)<|cy O O O (decide_eq_true ha21.2.2.2) (fun w1 H1=>DM (xs:=[_,_,_]) (ys:=[_,_,_]) (b:=(decide ((2:UInt8)=(2:UInt8))&&(decide ((0:UInt32)=(0:UInt32))&&decide ((0:Nat)=0)))) Fa.HN O O O (yz (Hf (2:UInt8) (2:UInt8)) (yz (xl (0:UInt32) (0:UInt32)) (Gf (HO 0 0)))) zr)<|oh (fun w1 H1=>aQ O (decide_eq_true ha21.2.2.2) O zr)<|mh O<|cy O O O (by decide) (fun w1 H1=>au O zr)<|cy O O O (by decide) (fun w1 H1=>au O zr)<|cy O O O (by decide) (fun w1 H1=>az (Kd 103) O ((Aw x k pk hx nv bv c pg hv he mb cn21 gs21 (cO sl (opI key s) a21) (df pg he l sl (opI key s)) (ffS sl) _ (H1.cellsAt (i:=0) O) (H1.cellsAtO (i:=1) O) (H1.cellsAt (i:=2) O) (H1.arrO (i:=3) O) (H1.mp (i:=4) O) (H1.bsG (i:=5) O) (H1.dpO (i:=6) O) (H1.dpO (i:=7) O) hi21).mono (fun e w2 hq=>⟨_,hq.1,rfl,hq.2⟩)))<|cy O O O (by decide) (fun w1 H1=>ab O Fa.cZ zr)<|cy O O O (by decide) (fun w1 H1=>ab O Fa.im zr)<|cy O O O (by decide) (fun w1 H1=>aj O (H1.cell (i:=14) O O) A22 O zr)<|cy O O O (by decide) (fun w1 H1=>eu O O zr)<|oh (fun w1 H1=>aQ O (by decide) O zr)<|ah O  bD) (by kernel_rfl) ?_)))
   intro β41 w41 H41
   exact wn<|aC<|aD (.tmp O .nil) (⟨_,_,_,_,(by rw [ia hX hF hw,show (oI sl (opI key s)).pg-(oI sl (opI key s)).tk=(opI key s).pg from UInt32.sub_zero _,decide_eq_true (rfl:(opI key s).pg=(opI key s).pg)]; rfl),hi21,hX.load hF hw,hd21.mono H14.fr.size,SltTo.mono hs21 H14.fr.size,H41.sel [0,1,2,3,4,5,6,7,8] O O⟩)
  have hw:=dF hb20
  refine wm O<|wo (az (Kd 21) O ((tl x k pk hx nv bv c pg hv he mb cn gs sl l key s _ _ (H14.part [0,1,2,3,4,5,6,7] O O) hR hX.len hhe hkl hsl hO hF hw).mono (fun e w42 hq=>?_)))
  obtain ⟨cn42,gs42,rfl,hi42,hd42,hq42⟩:=hq
  refine ⟨_,rfl,?_⟩
  have H42:=H14.splice [0,1,2,3,4,5,6,7] [.blk x (xoC k sl) 146,Ent.bo k [(aa pk),hx,(ptr c 0),nv,bv,(aa 0)],.blk c [(aa pg),hv,(.map (some mb))] 196,Ent.ar hv 1 he.length (Kg aa he),.obj mb (mP .i64 (Kg Gr.me gs42) cn42),Ent.bs 199 Gr.cells Gr.b gs42,Ent.dp grD.list gs42,Ent.dp (bY 211).list sl] [] O O hq42 (am ae (bf (j:=1) O (am ae (bf (j:=3) O (am ae (am ae (Fits.dpTo 6 O hd42 (bf (j:=7) O aI))))))))
  refine wm O<|we O O<|we O O<|wa O<|wa O<|wn<|ap<|ws<|wm O<|wm O<|wo (bI O O<|wn<|bF O (decide_eq_false (fun h=>h (nc hO hF)))<|aA<|ao<|ap<|ws<|wm O<|wo (bI (b:=0) O O<|wn<|bX O (decide_eq_true (fun h=>hw ((nc hO hF).symm.trans h)))<|ap<|bn 9 Fa.M H42 (mh O<|oh (fun w1 H1=>dk (b:=0) O O zr)<|mh O<|cy O O O (by decide) (fun w1 H1=>au O zr)<|cy O O O (by decide) (fun w1 H1=>az (Kd 38) O ((jb x k pk hx nv bv c pg hv he mb cn42 gs42 sl (df pg he l sl (opI key s)) _ (H1.cellsAt (i:=0) O) (H1.cellsAtO (i:=1) O) (H1.cellsAt (i:=2) O) (H1.arrO (i:=3) O) (H1.mp (i:=4) O) (H1.bsG (i:=5) O) (H1.dpO (i:=6) O) (H1.dpO (i:=7) O) hi42 hX.len).mono (fun e w2 hq=>⟨_,hq.1,rfl,hq.2⟩)))<|cy O O O (by decide) (fun w1 H1=>aM O (H1.cellsW (i:=10) O) A81 O Fa.I81 (fC _ _ _) zr)<|cy O O O (by decide) (fun w1 H1=>jq (by kernel_rfl) (nG _ _ _) (by first | (rw [kp hw]<;>rfl) | rfl) O O zr)<|oh (fun w1 H1=>aQ O (by decide) O zr)<|ah O  bD) (by kernel_rfl) ?_))
  intro β44 w44 H44
  exact wn<|aC<|aq<|aD (.tmp O .nil) (⟨_,_,_,sl,rfl,hi42,(kp hw).symm ▸ hX,hd42.mono H14.fr.size,SltTo.refl,H44.sel [0,1,2,3,4,5,6,7,8] O O⟩)
 have hO:=dF hb15
 refine wm O<|wm O<|wm O<|wo (az (Kd 21) O ((ru x k pk hx nv bv c pg hv he mb cn gs sl l key s _ _ (H14.part [0,1,2,3,4,5,6,7] O O) hR hX.len hhe hkl hsl hO).mono (fun e w45 hq=>?_)))
 obtain ⟨rfl,hq45⟩:=hq
 refine ⟨_,rfl,?_⟩
 have H45:Ke T w w45 [.blk x (xoC k sl) 146,Ent.bo k [(aa pk),hx,(ptr c 0),nv,bv,(aa 0)],.blk c [(aa pg),hv,(.map (some mb))] 196,Ent.ar hv 1 he.length (Kg aa he),.obj mb (mP .i64 (Kg Gr.me gs) cn),Ent.bs 199 Gr.cells Gr.b gs,Ent.dp grD.list gs,Ent.dp (bY 211).list sl,Ent.ar lv 1 he.length (Kg aa he),.blk b1 [(aa pg),lv] 75,.blk b3 (fa (cg pg l) l 9) 81,.row v5 207 2 (opI key s).xs.length (Kh xtc (opI key s).xs),.row u5 203 1 (opI key s).ps.length (Kg bA (opI key s).ps),.row q5 116 3 (opI key s).sg.length (Kh sgc (opI key s).sg),.blk b6 [(aa (opI key s).pg),v5,u5,(.bool (opI key s).c),(aa (opI key s).en),q5] 43]:=H14.splice [0,1,2,3,4,5,6,7] [.blk x (xoC k sl) 146,Ent.bo k [(aa pk),hx,(ptr c 0),nv,bv,(aa 0)],.blk c [(aa pg),hv,(.map (some mb))] 196,Ent.ar hv 1 he.length (Kg aa he),.obj mb (mP .i64 (Kg Gr.me gs) cn),Ent.bs 199 Gr.cells Gr.b gs,Ent.dp grD.list gs,Ent.dp (bY 211).list sl] [] O O hq45 (am ae (bf (j:=1) O (am ae (bf (j:=3) O (am ae (am ae (bf (j:=6) O (bf (j:=7) O aI))))))))
 refine wm O<|we O O<|we O O<|wa O<|wa O<|wn<|ap<|ws<|wm O<|wm O<|wo (bI O O<|wn<|bF O (decide_eq_false (fun h=>h (qj hO)))<|aA<|ao<|ap<|ws<|wm O<|wo (bI (b:=0) O O<|wn<|bX O (decide_eq_true (fun h=>hO ((qj hO).symm.trans h)))<|ap<|bn 9 Fa.M H45 (mh O<|oh (fun w1 H1=>dk (b:=0) O O zr)<|mh O<|cy O O O (by decide) (fun w1 H1=>au O zr)<|cy O O O (by decide) (fun w1 H1=>az (Kd 38) O ((jb x k pk hx nv bv c pg hv he mb cn gs sl l _ (H1.cellsAt (i:=0) O) (H1.cellsAtO (i:=1) O) (H1.cellsAt (i:=2) O) (H1.arrO (i:=3) O) (H1.mp (i:=4) O) (H1.bsG (i:=5) O) (H1.dpO (i:=6) O) (H1.dpO (i:=7) O) hR hX.len).mono (fun e w2 hq=>⟨_,hq.1,rfl,hq.2⟩)))<|cy O O O (by decide) (fun w1 H1=>aM O (H1.cellsW (i:=10) O) A81 O Fa.I81 (fC _ _ _) zr)<|cy O O O (by decide) (fun w1 H1=>jq (by kernel_rfl) (nG _ _ _) (by first | (rw [kp hw]<;>rfl) | rfl) O O zr)<|oh (fun w1 H1=>aQ O (by decide) O zr)<|ah O  bD) (by kernel_rfl) ?_))
 intro β47 w47 H47
 exact wn<|aC<|aq<|aD (.tmp O .nil) (⟨_,_,l,sl,rfl,hR,hX,DpTo.refl,SltTo.refl,H47.sel [0,1,2,3,4,5,6,7,8] O O⟩)
theorem tj (pg:UInt32) (hv:Value) (he:List UInt32) (key:List UInt8) (lv:Value) (L:List (List UInt8)) (gv:Value) (gone:List Int) (w:World) (hH:Arr w hv 1 he.length (Kg aa he)) (hA:Arr w lv 1 L.length (Kg str L)) (hB: ∀x∈L,x.length≤140737488351232) (hk:key.length≤140737488351232) (hn:he.length<2^47) (hl:L.length<2^47) (hG:Arr w gv 1 gone.length (Kg vI gone)) (_hgl:gone.length<2^47) :
  Calls Kf 9 #[(.agg #[(aa pg),hv]),(str key),lv,gv] w (fun e w'=>e=.returned (.bool true)∧Fr [] w w'):=by
 refine enter Tryz.func9 O O ?_
 have H0:=((aL w []).oldA hH)
 refine ws<|wo (bK H0 O O (fun b1 w1 H1=>(wa O<|wn<|ap<|ws<|wo (aM (vs:=[_,_]) O (H1.cells (i:=1) O O) A75 O Fa.I75 O<|wm O<|wm O<|wo (cq H1 (Kd 36) O (xT pg _ he key _ L _ (H1.arrO (i:=0) O) (H1.arr hA) hB hk hn hl) fun w2 H2=>(wm O (wV 16 (jd he key L) (fun hb3=>?_) (fun hb3=>?_))))))))
 ·
  exact wN hb3<|wN hb3<|wN hb3<|wo (aQ O hb3 O<|wn<|bX O O<|ws<|wo (cq H2 (Kd 31) O (jt _) fun w4 H4=>(wa O<|wn<|aC<|aq<|aD (.tmp O .nil) (⟨rfl,H4.fr⟩))))
 refine wY hb3 (au O<|wY hb3 (bu A83 O (H2.arr hG)<|wY hb3 (cm (b:=20) O O<|wo (aN O hb3 O<|wn (wE (gone.length>20) (fun hb5 hc5=>?_) (fun hb5 hc5=>?_))))))
 ·
  exact ws<|wo (cq H2 (Kd 31) O (jt _) fun w6 H6=>(wa O<|wn<|aC<|aq<|aD (.tmp O .nil) (⟨rfl,H6.fr⟩)))
 obtain ⟨hh40,hl12,hk17,hs17⟩:=xU hb3
 refine aA<|ao<|ws (wB (decide (gx pg he=0)) (fun hb7=>?_) (fun hb7=>?_))
 ·
  refine wo (aM (vs:=[_,_]) O (H2.cells (i:=1) O O) A75 O Fa.I75 O<|wo (az (Kd 37) O ((pQ pg _ he _ (H2.arrO (i:=0) O) (dT hb7) (by omega)).mono (fun e w8 hq=>?_))))
  obtain ⟨x8,k8,hx8,nv8,bv8,c8,yv8,mb8,rfl,hk8,hv8,hq8⟩:=hq
  refine ⟨_,rfl,?_⟩
  have H8:=H2.splice [] [] [.blk x8 (xoC k8 (Ki 9 Slt.zero)) 146,Ent.bo k8 [(aa pg),hx8,(ptr c8 0),nv8,bv8,(aa 0)],.blk c8 [(aa pg),yv8,(.map (some mb8))] 196,Ent.ar yv8 1 he.length (Kg aa he),.obj mb8 (mP .i64 (Kg Gr.me []) 0),Ent.bs 199 Gr.cells Gr.b [],Ent.dp grD.list [],Ent.dp (bY 211).list (Ki 9 Slt.zero)] O O hq8 (am ae (cr (fun b hb=>by cases List.mem_singleton.1 hb; exact hk8) (am ae (cr hv8 (am ae (am ae (cr (fun b hb=>by cases hb) (cr (fun b hb=>by cases slt_zero_ft b hb) aI))))))))
  refine wm O<|we O O<|we O O<|wa O<|wa O<|wn<|ap<|ws<|wm O<|wo (bI (b:=0) O O<|wm O<|bL O O O (by decide) O (au O<|bL O O O (by decide) O (bG Fa.gE O O<|wo (aN O (by decide) O<|wn<|bF O O<|aA<|ao<|ap<|ws<|wa O<|wn<|aB<|bi (α:=Nat × Nat × List Gr × List Gr × List Slt) (fun (i,cn1,gs1,l1,sl1)=>[(1,(str key)),(2,lv),(3,gv),(4,(ptr b1 0)),(9,(ptr x8 0)),(11,(vN i))]) (fun (i,cn1,gs1,l1,sl1) w'=>(i≤L.length∧CapR gs1 cn1 l1∧InvX l1 sl1)∧Ke [] w w' [Ent.ar hv 1 he.length (Kg aa he),.blk b1 [(aa pg),hv] 75,.blk x8 (xoC k8 sl1) 146,Ent.bo k8 [(aa pg),hx8,(ptr c8 0),nv8,bv8,(aa 0)],.blk c8 [(aa pg),yv8,(.map (some mb8))] 196,Ent.ar yv8 1 he.length (Kg aa he),.obj mb8 (mP .i64 (Kg Gr.me gs1) cn1),Ent.bs 199 Gr.cells Gr.b gs1,Ent.dp grD.list gs1,Ent.dp (bY 211).list sl1]) (fun (i,cn1,gs1,l1,sl1)=>L.length-i) (0,0,[],[],(Ki 9 Slt.zero)) ⟨⟨Kk _,EV,InvX.nil⟩,H8⟩ ⟨rfl,rfl,rfl,rfl,rfl,rfl,trivial⟩ ?_))))
  rintro ⟨i,cn1,gs1,l1,sl1⟩ w9 ⟨⟨hi1,hR1,hX1⟩,H9⟩
  show WC _ _ _ _ _ [(1,(str key)),(2,lv),(3,gv),(4,(ptr b1 0)),(9,(ptr x8 0)),(11,(vN i))] _
  refine ap<|ws<|wm O<|wm O<|wo (bu A59 O (H9.arr hA)<|wo (bm O O<|wn (wE (i<L.length) (fun hb10 hc10=>?_) (fun hb10 hc10=>?_))))
  ·
   refine aA<|ao<|ap<|aB<|ap<|ap<|WC.drawn 9 O Fa.M H9 ?_
   intro w11 H11
   refine WD.early (i:=0) O O O O O (by kernel_rfl)<|WD.early (i:=2) O O O O O (by kernel_rfl)<|WD.early (i:=3) O O O O O (by kernel_rfl)<|WD.early (i:=4) O O O O O (by kernel_rfl)<|WD.named (fun W hW=>?_)
   let e9:List (Nat × Value)→List (Nat × Value):=fun r=>(1,(str key))::(2,lv)::(3,gv)::(4,(ptr b1 0))::(9,(ptr x8 0))::(11,(vN i))::(34,(vN i))::(35,lv)::(36,(vN L.length))::(37,(.bool (decide (i<L.length))))::r
   let Bm:Ent:=Ent.ar hv 1 he.length (Kg aa he)
   let B0:Ent:=.blk b1 [(aa pg),hv] 75
   let B4:Ent:=.blk x8 (xoC k8 sl1) 146
   let B1:Ent:=Ent.bo k8 [(aa pg),hx8,(ptr c8 0),nv8,bv8,(aa 0)]
   let B2:Ent:=.blk c8 [(aa pg),yv8,(.map (some mb8))] 196
   let B3:Ent:=Ent.ar yv8 1 he.length (Kg aa he)
   let B5:Ent:=.obj mb8 (mP .i64 (Kg Gr.me gs1) cn1)
   let B6:Ent:=Ent.bs 199 Gr.cells Gr.b gs1
   let B7:Ent:=Ent.dp grD.list gs1
   let B8:Ent:=Ent.dp (bY 211).list sl1
   have C1: ∀sl18 gs18 cn18 l18 wS,Ke [] w wS [Bm,B0,.blk x8 (xoC k8 sl18) 146,B1,B2,B3,.obj mb8 (mP .i64 (Kg Gr.me gs18) cn18),Ent.bs 199 Gr.cells Gr.b gs18,Ent.dp grD.list gs18,Ent.dp (bY 211).list sl18,Ent.fact (CapR gs18 cn18 l18∧InvX l18 sl18)]→W 0 (bz 9 511) (e9 [(48,(.bool (!true)))]) wS:=fun sl18 gs18 cn18 l18 wS HS=>by
    rw [hW]
    refine WD.done (by kernel_rfl)<|ao<|bF O (congrArg Bool.not O)<|aA<|ao<|ws ?_
    have hiF:=HS.fact (i:=10) O
    refine wm O<|wm O<|wo (bu A83 O (HS.arr hG)<|wo (bm O O<|wn (wE (i<gone.length) (fun hb13 hc13=>?_) (fun hb13 hc13=>?_))))
    ·
     refine aG<|wm O<|wm O<|wm O<|wo (aF A83 Fa.I3 O (HS.arr hG) O (by omega)<|wo (aj O ((HS.arr hG).at (aR vI 0 (aV (HS.arr hG) (by omega)))) A3 O<|wo (az (Kd 46) O ((Ar x8 k8 pg hx8 nv8 bv8 c8 pg yv8 he mb8 cn18 gs18 sl18 l18 (gone.getD i 0) _ _ (HS.part [2,3,4,5,6,7,8,9] O O) hiF.1 hiF.2).mono (fun e w14 hq=>?_)))))
     obtain ⟨v14,gs14,l14,sl14,rfl,hi14,hx14,hd14,hs14,hq14⟩:=hq
     refine ⟨_,rfl,?_⟩
     have H14:=HS.splice [2,3,4,5,6,7,8,9] [.blk x8 (xoC k8 sl14) 146,Ent.bo k8 [(aa pg),hx8,(ptr c8 0),nv8,bv8,(aa 0)],.blk c8 [(aa pg),yv8,(.map (some mb8))] 196,Ent.ar yv8 1 he.length (Kg aa he),.obj mb8 (mP .i64 (Kg Gr.me gs14) cn18),Ent.bs 199 Gr.cells Gr.b gs14,Ent.dp grD.list gs14,Ent.dp (bY 211).list sl14] [] O O hq14 (am ae (bf (j:=1) O (am ae (bf (j:=3) O (am ae (am ae (Fits.dpTo 6 O hd14 (Fits.dpTo 7 O hs14 aI))))))))
     exact aY<|aE<|ao<|aG<|wm O<|wo (aU (b:=1) O O (by omega)<|wa O<|aY<|aX (i+1,cn18,gs14,l14,sl14) ⟨⟨by omega,hi14,hx14⟩,(H14.take 10)⟩ ⟨rfl,rfl,rfl,rfl,rfl,rfl,trivial⟩ (by show L.length-(i+1)<L.length-i; omega))
    exact aA<|aE<|ao<|aG<|wm O<|wo (aU (b:=1) O O (by omega)<|wa O<|aY<|aX (i+1,cn18,gs18,l18,sl18) ⟨⟨by omega,hiF.1,hiF.2⟩,(HS.take 10)⟩ ⟨rfl,rfl,rfl,rfl,rfl,rfl,trivial⟩ (by show L.length-(i+1)<L.length-i; omega))
   have C2: ∀sl18 gs18 cn18 l18 wS,Ke [] w wS [Bm,B0,.blk x8 (xoC k8 sl18) 146,B1,B2,B3,.obj mb8 (mP .i64 (Kg Gr.me gs18) cn18),Ent.bs 199 Gr.cells Gr.b gs18,Ent.dp grD.list gs18,Ent.dp (bY 211).list sl18,Ent.fact (CapR gs18 cn18 l18∧InvX l18 sl18)]→W 1 (bz 9 255) (e9 [(47,(.bool true))]) wS:=fun sl18 gs18 cn18 l18 wS HS=>by
    rw [hW]
    exact wd1 8<|kS 8 O (cQ O<|aO hW (C1 sl18 gs18 cn18 l18 wS HS))
   have B9: ∀wS,Ke [] w wS [Bm,B0,B4,B1,B2,B3,B5,B6,B7,B8]→W 2 (bz 9 127) (e9 [(40,(ptr x8 0)),(41,(.agg #[(aa pg),hv])),(42,(str key)),(46,(str (L.getD i [])))]) wS:=fun wS HS=>by
    rw [hW]
    refine wd1 7<|kS 7 O (az (Kd 45) O ((yS x8 k8 pg hx8 nv8 bv8 c8 pg yv8 he mb8 cn1 gs1 sl1 l1 _ key (L.getD i []) _ _ (HS.part [2,3,4,5,6,7,8,9,0] O O) hR1 hX1 (by omega) (by omega) (Nat.lt_of_le_of_lt (hs17 i (by omega)) (by decide))).mono (fun e w18 hq=>?_)))
    obtain ⟨cn18,gs18,l18,sl18,rfl,hi18,hx18,hd18,hs18,hq18⟩:=hq
    refine ⟨_,rfl,?_⟩
    have H18:=HS.splice [2,3,4,5,6,7,8,9,0] [.blk x8 (xoC k8 sl18) 146,Ent.bo k8 [(aa pg),hx8,(ptr c8 0),nv8,bv8,(aa 0)],.blk c8 [(aa pg),yv8,(.map (some mb8))] 196,Ent.ar yv8 1 he.length (Kg aa he),.obj mb8 (mP .i64 (Kg Gr.me gs18) cn18),Ent.bs 199 Gr.cells Gr.b gs18,Ent.dp grD.list gs18,Ent.dp (bY 211).list sl18,Ent.ar hv 1 he.length (Kg aa he)] [] O O hq18 (am ae (bf (j:=1) O (am ae (bf (j:=3) O (am ae (am ae (Fits.dpTo 6 O hd18 (Fits.dpTo 7 O hs18 (bf (j:=8) O aI)))))))))
    have H18f:=H18.addFact (p:=CapR gs18 cn18 l18∧InvX l18 sl18) ⟨hi18,hx18⟩
    exact aO hW (C2 sl18 gs18 cn18 l18 w18 H18f)
   have C0: ∀wS,Ke [] w wS [Bm,B0,B4,B1,B2,B3,B5,B6,B7,B8]→W 3 (bz 9 63) (e9 [(40,(ptr x8 0)),(41,(.agg #[(aa pg),hv])),(42,(str key)),(45,(.pointer (some (sp lv i))))]) wS:=fun wS HS=>by
    rw [hW]
    exact wd1 6<|kS 6 O (aj O ((HS.arr hA).at (aR str [] (aV (HS.arr hA) (by omega)))) A9 O<|aO hW (B9 wS HS))
   have C3: ∀wS,Ke [] w wS [Bm,B0,B4,B1,B2,B3,B5,B6,B7,B8]→W 3 (bz 9 125) (e9 [(40,(ptr x8 0)),(42,(str key)),(46,(str (L.getD i [])))]) wS:=fun wS HS=>by
    rw [hW]
    exact wd1 1<|kS 1 O (aM (vs:=[_,_]) O (HS.cells (i:=1) O O) A75 O Fa.I75 O<|aO hW (B9 wS HS))
   have C4: ∀wS,Ke [] w wS [Bm,B0,B4,B1,B2,B3,B5,B6,B7,B8]→W 4 (bz 9 31) (e9 [(40,(ptr x8 0)),(41,(.agg #[(aa pg),hv])),(42,(str key)),(43,lv),(44,(vN i))]) wS:=fun wS HS=>by
    rw [hW]
    exact wd1 5<|kS 5 O (aF A59 Fa.I9 O (HS.arr hA) O (by omega)<|aO hW (C0 wS HS))
   have C5: ∀wS,Ke [] w wS [Bm,B0,B4,B1,B2,B3,B5,B6,B7,B8]→W 4 (bz 9 61) (e9 [(40,(ptr x8 0)),(42,(str key)),(45,(.pointer (some (sp lv i))))]) wS:=fun wS HS=>by
    rw [hW]
    refine wd2 1 6 ?_ ?_
    ·
     exact kS 1 O (aM (vs:=[_,_]) O (HS.cells (i:=1) O O) A75 O Fa.I75 O<|aO hW (C0 wS HS))
    exact kS 6 O (aj O ((HS.arr hA).at (aR str [] (aV (HS.arr hA) (by omega)))) A9 O<|aO hW (C3 wS HS))
   have C6: ∀wS,Ke [] w wS [Bm,B0,B4,B1,B2,B3,B5,B6,B7,B8]→W 5 (bz 9 29) (e9 [(40,(ptr x8 0)),(42,(str key)),(43,lv),(44,(vN i))]) wS:=fun wS HS=>by
    rw [hW]
    refine wd2 1 5 ?_ ?_
    ·
     exact kS 1 O (aM (vs:=[_,_]) O (HS.cells (i:=1) O O) A75 O Fa.I75 O<|aO hW (C4 wS HS))
    exact kS 5 O (aF A59 Fa.I9 O (HS.arr hA) O (by omega)<|aO hW (C5 wS HS))
   have hq:=C6 w11 H11
   rw [hW] at hq ⊢
   refine WD.cov ?_ hq
   exact by repeat (first | exact trivial | refine ⟨rfl,?_⟩)
  exact bc<|an<|an<|aS<|ao<|ws<|wo (cq H9 (Kd 31) O (jt _) fun w15 H15=>(wa O<|wn<|aC<|aD (.tmp O .nil) (⟨rfl,H15.fr⟩)))
 exact wo (aM (vs:=[_,_]) O (H2.cells (i:=1) O O) A75 O Fa.I75 O<|wo (cq H2 (Kd 37) O (yp pg _ he _ (H2.arrO (i:=0) O) (dF hb7) (by omega)) fun w16 H16=>(wm O<|we O O<|we O O<|wa O<|wa O<|wn<|ap<|ws<|wm O<|wo (bI (b:=0) O O<|wm O<|WL.no O O O (by decide) O<|WL.no O O O (by decide) O<|wo (aQ O (by decide) O<|wn<|bX O O<|ws<|wo (cq H16 (Kd 31) O (jt _) fun w17 H17=>(wa O<|wn<|aC<|aq<|aD (.tmp O .nil) (⟨rfl,H17.fr⟩))))))))
end Go.Proofs.YtbjhccnffacbcaaGreat
