/- General lemmas and walks. No condition but what each theorem names. -/
import Derived.Test.YtbjhccnffacbcaaGreatQ408a00e3
import Derived.Test.YtbjhccnffacbcaaGreatQ8d180dbd
import Derived.Test.YtbjhccnffacbcaaGreatQc70aff79
import Derived.Test.YtbjhccnffacbcaaGreatQ78a60e17
import Derived.Test.YtbjhccnffacbcaaGreatQf3aef562
set_option maxRecDepth 100000
set_option maxHeartbeats 8000000
open Go.Owl renaming Own→Ke
open Go.Proofs.Tryz renaming prog→Kf
open List renaming map→Kg
open List renaming flatMap→Kh
open List renaming replicate→Ki
open List renaming length_append→Kj
open Nat renaming zero_le→Kk
open UInt32 renaming ofNat→Kl
open UInt16 renaming ofNat→Km
open UInt64 renaming ofNat→Kn
namespace Go.Proofs.YtbjhccnffacbcaaGreat
open Go.Owl Go.Spec
theorem vO (pg:UInt32) (lv:Value) (l:List UInt32) (w:World) (hA:Arr w lv 1 l.length (Kg aa l)) (hok0:gx pg l=0) (hn:l.length<2^40) :
  Calls Kf 83 #[(.agg #[(aa pg),lv])] w (fun e w'=> ∃k hx nv bv c hv mb,e=.returned (.tuple #[ptr k 0,vN 0])∧w.heap.size≤k∧(∀b∈eO hv (Kg aa l),w.heap.size≤b)∧Ke [] w w' [Ent.bo k [(aa pg),hx,(ptr c 0),nv,bv,(aa 0)],.blk c [(aa pg),hv,(.map (some mb))] 196,Ent.ar hv 1 l.length (Kg aa l),.obj mb (mP .i64 (Kg Gr.me []) 0),Ent.bs 199 Gr.cells Gr.b [],Ent.dp grD.list []]):=by
 refine enter Tryz.func83 O O ?_
 have H0:=aL w []
 refine ws<|wo (bK H0 O O (fun b1 w1 H1=>(wa O<|wa O<|wn<|ws<|wo (aM (vs:=[_,_]) O (H1.cells (i:=0) O O) A75 O Fa.I75 O<|wo (az (Kd 126) O ((wX pg _ l _ (H1.arr hA) hn hok0).mono (fun e w2 hq=>?_)))))))
 obtain ⟨c2,v2,mb2,rfl,hv2,hq2⟩:=hq
 refine ⟨_,rfl,?_⟩
 have H2:=H1.splice [] [] [.blk c2 [(aa pg),v2,(.map (some mb2))] 196,Ent.ar v2 1 l.length (Kg aa l),.obj mb2 (mP .i64 (Kg Gr.me []) 0),Ent.bs 199 Gr.cells Gr.b [],Ent.dp grD.list []] O O hq2 (am ae (cr hv2 (am ae (am ae (cr (fun b hb=>by cases hb) aI)))))
 refine wm O<|we O O<|we O O<|wa O<|wa O<|wn<|ap<|ws<|wm O<|wo (bI (b:=0) O O<|wn<|bF O (by decide)<|aA<|ao<|ws<|wo (ab O Fa.il<|wo (aj O (H2.cell (i:=0) O O) A73 O<|wo (az (Kd 127) O ((pR _ l _ (H2.arr hA) hn).mono (fun e w3 hq=>?_))))))
 obtain ⟨v3,rfl,hq3⟩:=hq
 refine ⟨_,rfl,?_⟩
 have H3:=H2.splice [] [] [.row v3 22 1 l.length (Kg aa l)] O O hq3 (am ae aI)
 refine wo (ab O Fa.il<|wo (bC (i:=0) H3 O O O O (bS (H3.arrR (i:=6) O)) Fa.I73 (fun w4 H4=>(wn<|ap<|WC.held 6 O Fa.M H4 (fun w'=> ∃L',Ke [] w w' ([.blk b1 [(aa pg),v3] 75,.blk c2 [(aa pg),v2,(.map (some mb2))] 196,Ent.ar v2 1 l.length (Kg aa l),.obj mb2 (mP .i64 (Kg Gr.me []) 0),Ent.bs 199 Gr.cells Gr.b [],Ent.dp grD.list [],.row v3 22 1 l.length (Kg aa l)]++L')) ?_))))
 intro w5 H5
 refine xt 0 O (.agg #[(aa pg),v3]) H5 (fun _ _ HX=>aM (vs:=[_,_]) O (HX.cells (i:=0) O O) A75 O Fa.I75 O ⟨rfl,rfl⟩)<|xt 1 O (ptr c2 0) H5 (fun _ _ HX=>au O ⟨rfl,rfl⟩)<|dh (fun W hW=>?_)
 let e5:List (Nat × Value)→List (Nat × Value):=fun r=>(0,(.agg #[(aa pg),lv]))::(1,(ptr b1 0))::(2,(.pointer none))::(3,(vN 0))::(4,(ptr c2 0))::(5,(vN 0))::(9,(.tuple #[(ptr c2 0),(vN 0)]))::(10,(.agg #[(aa pg),lv]))::(11,(.tuple #[(ptr c2 0),(vN 0)]))::(12,(ptr c2 0))::(13,(vN 0))::(14,(vN 0))::(15,(.bool (decide (0≠0))))::(17,(ptr b1 1))::(18,lv)::(19,v3)::(20,(ptr b1 1))::r
 let C0:Ent:=.blk b1 [(aa pg),v3] 75
 let C1:Ent:=.blk c2 [(aa pg),v2,(.map (some mb2))] 196
 let C2:Ent:=Ent.ar v2 1 l.length (Kg aa l)
 let C3:Ent:=.obj mb2 (mP .i64 (Kg Gr.me []) 0)
 let C4:Ent:=Ent.bs 199 Gr.cells Gr.b []
 let C5:Ent:=.row v3 22 1 l.length (Kg aa l)
 have D6: ∀(b25:Nat) (q26:Nat) (mb26:Nat) (wS:World),Ke [] w wS [C0,C1,C2,C3,C4,Ent.dp grD.list [],C5,.blk q26 [(.map (some mb26)),(.slice none 0 0),(vN 0)] 264,.obj mb26 (mP .u16 [] 0),.blk b25 [(aa pg),v3,(ptr c2 0),(ptr q26 0),(.slice none 0 0),(aa 0)] 193]→W 0 (bz 6 63) (e5 [(6,(ptr b25 0))]) wS:=by
  intro b25 q26 mb26 wS HS
  rw [hW]
  refine WH.done (by kernel_rfl)<|ao<|ap<|ws ?_
  have H7:=HS.nilRow 59 1
  refine wo (ab O Fa.il<|wo (aj O (H7.cell (i:=0) O O) A73 O<|wo (bu A73 O (H7.arrR (i:=6) O)<|wm O<|wn<|aB<|bi (α:=Nat × Value × List Value) (fun (i,bv,xs)=>[(1,(ptr b1 0)),(4,(ptr c2 0)),(6,(ptr b25 0)),(27,v3),(28,(vN l.length)),(29,(vN i))]) (fun (i,bv,xs) w'=>(i≤l.length∧xs.length=i)∧Ke [] w w' [.blk b1 [(aa pg),v3] 75,.blk c2 [(aa pg),v2,(.map (some mb2))] 196,Ent.ar v2 1 l.length (Kg aa l),.obj mb2 (mP .i64 (Kg Gr.me []) 0),Ent.bs 199 Gr.cells Gr.b [],Ent.dp grD.list [],.row v3 22 1 l.length (Kg aa l),.blk q26 [(.map (some mb26)),(.slice none 0 0),(vN 0)] 264,.obj mb26 (mP .u16 [] 0),.blk b25 [(aa pg),v3,(ptr c2 0),(ptr q26 0),bv,(aa 0)] 193,.row bv 59 1 i xs]) (fun (i,bv,xs)=>l.length-i) (0,.slice none 0 0,[]) ⟨⟨Kk _,rfl⟩,H7⟩ ⟨rfl,rfl,rfl,rfl,rfl,rfl,trivial⟩ ?_)))
  rintro ⟨i,bv,xs⟩ w8 ⟨⟨hi1,hx⟩,H8⟩
  show WC _ _ _ _ _ [(1,(ptr b1 0)),(4,(ptr c2 0)),(6,(ptr b25 0)),(27,v3),(28,(vN l.length)),(29,(vN i))] _
  refine ws<|wo (bm O O<|wn<|ap (wE (i<l.length) (fun hb9 hc9=>?_) (fun hb9 hc9=>?_)))
  ·
   refine aA<|ao<|ap<|aB<|ws<|wo (aF A73 Fa.I22 O (H8.arrR (i:=6) O) O (by omega)<|wo (aj O ((H8.arrR (i:=6) O).at (aR aa 0 (aV (H8.arrR (i:=6) O) (by omega)))) A22 O<|wa O<|wn<|WC.held 16 O Fa.M H8 (fun w'=> ∃L',Ke [] w w' ([.blk b1 [(aa pg),v3] 75,.blk c2 [(aa pg),v2,(.map (some mb2))] 196,Ent.ar v2 1 l.length (Kg aa l),.obj mb2 (mP .i64 (Kg Gr.me []) 0),Ent.bs 199 Gr.cells Gr.b [],Ent.dp grD.list [],.row v3 22 1 l.length (Kg aa l),.blk q26 [(.map (some mb26)),(.slice none 0 0),(vN 0)] 264,.obj mb26 (mP .u16 [] 0)]++L')) ?_))
   intro w10 H10
   refine xt 0 O (ptr b25 0) H10 (fun _ _ HX=>au O ⟨rfl,rfl⟩)<|xt 1 O (ptr b25 0) H10 (fun _ _ HX=>au O ⟨rfl,rfl⟩)<|xt 8 O (aa (l.getD i 0)) H10 (fun _ _ HX=>au O ⟨rfl,rfl⟩)<|xt 9 O (vN (l.getD i 0).toNat) H10 (fun _ _ HX=>dA (hs:=A22) (hd:=A3) O ⟨rfl,rfl⟩)<|dh (fun W hW=>?_)
   let e9:List (Nat × Value)→List (Nat × Value):=fun r=>(1,(ptr b1 0))::(4,(ptr c2 0))::(6,(ptr b25 0))::(8,(aa (l.getD i 0)))::(27,v3)::(28,(vN l.length))::(29,(vN i))::(30,(.bool (decide (i<l.length))))::(31,(.pointer (some (sp v3 i))))::(32,(aa (l.getD i 0)))::r
   let Bm:Ent:=.blk b1 [(aa pg),v3] 75
   let B0:Ent:=.blk c2 [(aa pg),v2,(.map (some mb2))] 196
   let B1:Ent:=Ent.ar v2 1 l.length (Kg aa l)
   let B2:Ent:=.obj mb2 (mP .i64 (Kg Gr.me []) 0)
   let B3:Ent:=Ent.bs 199 Gr.cells Gr.b []
   let B4:Ent:=Ent.dp grD.list []
   let B5:Ent:=.row v3 22 1 l.length (Kg aa l)
   let B6:Ent:=.blk q26 [(.map (some mb26)),(.slice none 0 0),(vN 0)] 264
   let B7:Ent:=.obj mb26 (mP .u16 [] 0)
   let B8:Ent:=.blk b25 [(aa pg),v3,(ptr c2 0),(ptr q26 0),bv,(aa 0)] 193
   let B9:Ent:=.row bv 59 1 i xs
   have D7: ∀(v28:Value) (v23:Value) (b21:Nat) (b24:Nat) (b27:Nat) (wS:World),Ke [] w wS [Bm,B0,B1,B2,B3,B4,B5,B6,B7,.blk b25 [(aa pg),v3,(ptr c2 0),(ptr q26 0),v28,(aa 0)] 193,.row v28 59 1 (i+1) (xs++[v23]),.row (.slice (some ⟨b21,0,none⟩) 64 64) 5 1 64 (Kg vU8 (Ki 64 0)),.row (.slice (some ⟨b24,0,none⟩) 1 1) 9 1 1 (Kg str [(Ki 64 0)]),.row v23 9 1 ((l.getD i 0).toNat) (Kg str (Ki ((l.getD i 0).toNat) (Ki 64 0))),.row (.slice (some ⟨b27,0,none⟩) 1 1) 59 1 1 [v23]]→W 0 (bz 16 65535) (e9 []) wS:=by
    intro v28 v23 b21 b24 b27 wS HS
    rw [hW]
    exact WH.done (by kernel_rfl)<|aE<|ao<|aG<|wo (aU (b:=1) O O (by omega)<|wm O<|aY<|aX (i+1,v28,(xs++[v23])) ⟨⟨by omega,by rw [Kj,hx]; rfl⟩,(by have h:=(show Ke [] w wS [.blk b1 [(aa pg),v3] 75,.blk c2 [(aa pg),v2,(.map (some mb2))] 196,Ent.ar v2 1 l.length (Kg aa l),.obj mb2 (mP .i64 (Kg Gr.me []) 0),Ent.bs 199 Gr.cells Gr.b [],Ent.dp grD.list [],.row v3 22 1 l.length (Kg aa l),.blk q26 [(.map (some mb26)),(.slice none 0 0),(vN 0)] 264,.obj mb26 (mP .u16 [] 0),.blk b25 [(aa pg),v3,(ptr c2 0),(ptr q26 0),v28,(aa 0)] 193,.row v28 59 1 (i+1) (xs++[v23]),.row (.slice (some ⟨b21,0,none⟩) 64 64) 5 1 64 (Kg vU8 (Ki 64 0)),.row (.slice (some ⟨b24,0,none⟩) 1 1) 9 1 1 (Kg str [(Ki 64 0)]),.row v23 9 1 ((l.getD i 0).toNat) (Kg str (Ki ((l.getD i 0).toNat) (Ki 64 0))),.row (.slice (some ⟨b27,0,none⟩) 1 1) 59 1 1 [v23]] from HS); exact h.take 11)⟩ ⟨rfl,rfl,rfl,rfl,rfl,rfl,trivial⟩ (by show l.length-(i+1)<l.length-i; omega))
   have D8: ∀(v28:Value) (v23:Value) (b21:Nat) (b24:Nat) (b27:Nat) (wS:World),Ke [] w wS [Bm,B0,B1,B2,B3,B4,B5,B6,B7,B8,.row v28 59 1 (i+1) (xs++[v23]),.row (.slice (some ⟨b21,0,none⟩) 64 64) 5 1 64 (Kg vU8 (Ki 64 0)),.row (.slice (some ⟨b24,0,none⟩) 1 1) 9 1 1 (Kg str [(Ki 64 0)]),.row v23 9 1 ((l.getD i 0).toNat) (Kg str (Ki ((l.getD i 0).toNat) (Ki 64 0))),.row (.slice (some ⟨b27,0,none⟩) 1 1) 59 1 1 [v23]]→W 1 (bz 16 32767) (e9 [(45,v28),(47,(ptr b25 4))]) wS:=by
    intro v28 v23 b21 b24 b27 wS HS
    rw [hW]
    refine wh1 15<|kH 15 O (bC (i:=9) HS O O O O (bS (HS.arrR (i:=10) O)) Fa.Iq (fun w29 H29=>(⟨⟨_,H29⟩,?_⟩)))
    exact bh hW (D7 v28 v23 b21 b24 b27 w29 H29)
   have D9: ∀(v28:Value) (v23:Value) (b21:Nat) (b24:Nat) (b27:Nat) (wS:World),Ke [] w wS [Bm,B0,B1,B2,B3,B4,B5,B6,B7,B8,.row v28 59 1 (i+1) (xs++[v23]),.row (.slice (some ⟨b21,0,none⟩) 64 64) 5 1 64 (Kg vU8 (Ki 64 0)),.row (.slice (some ⟨b24,0,none⟩) 1 1) 9 1 1 (Kg str [(Ki 64 0)]),.row v23 9 1 ((l.getD i 0).toNat) (Kg str (Ki ((l.getD i 0).toNat) (Ki 64 0))),.row (.slice (some ⟨b27,0,none⟩) 1 1) 59 1 1 [v23]]→W 3 (bz 16 8191) (e9 [(33,(ptr b25 0)),(45,v28)]) wS:=by
    intro v28 v23 b21 b24 b27 wS HS
    rw [hW]
    refine wh1 13<|kH 13 O (aJ O (⟨⟨_,HS⟩,?_⟩))
    exact xt 14 O (ptr b25 4) HS (fun _ _ HX=>ab O Fa.kC ⟨rfl,rfl⟩)<|bh hW (D8 v28 v23 b21 b24 b27 wS HS)
   have C6: ∀(b27:Nat) (b21:Nat) (b24:Nat) (v23:Value) (wS:World),Ke [] w wS [Bm,B0,B1,B2,B3,B4,B5,B6,B7,B8,B9,.row (.slice (some ⟨b21,0,none⟩) 64 64) 5 1 64 (Kg vU8 (Ki 64 0)),.row (.slice (some ⟨b24,0,none⟩) 1 1) 9 1 1 (Kg str [(Ki 64 0)]),.row v23 9 1 ((l.getD i 0).toNat) (Kg str (Ki ((l.getD i 0).toNat) (Ki 64 0))),.row (.slice (some ⟨b27,0,none⟩) 1 1) 59 1 1 [v23]]→W 4 (bz 16 4095) (e9 [(33,(ptr b25 0)),(37,bv),(44,(.slice (some ⟨b27,0,none⟩) 1 1))]) wS:=by
    intro b27 b21 b24 v23 wS HS
    rw [hW]
    refine wh1 12<|kH 12 O (hZ (i:=10) HS A191 Fa.I59 O O O O (ck A191 (HS.arrR (i:=14) O)) (fun c hc=>by rw [List.mem_singleton.1 hc]; exact bS (HS.arrR (i:=13) O)) (by omega) (by omega) (fun v28 w28 H28=>?_))
    refine ⟨⟨_,H28⟩,?_⟩
    exact bh hW (D9 v28 v23 b21 b24 b27 w28 H28)
   have C7: ∀(v23:Value) (b21:Nat) (b24:Nat) (wS:World),Ke [] w wS [Bm,B0,B1,B2,B3,B4,B5,B6,B7,B8,B9,.row (.slice (some ⟨b21,0,none⟩) 64 64) 5 1 64 (Kg vU8 (Ki 64 0)),.row (.slice (some ⟨b24,0,none⟩) 1 1) 9 1 1 (Kg str [(Ki 64 0)]),.row v23 9 1 ((l.getD i 0).toNat) (Kg str (Ki ((l.getD i 0).toNat) (Ki 64 0)))]→W 5 (bz 16 2047) (e9 [(33,(ptr b25 0)),(37,bv),(43,v23)]) wS:=by
    intro v23 b21 b24 wS HS
    rw [hW]
    refine wh1 11<|kH 11 O (aW (cs:=[v23]) HS A191 Fa.I59 O O (by obtain ⟨_,_,e0,_⟩:=(HS.arrR (i:=13) O).form; rw [e0]; rfl) O (by decide) (by decide) (fun b27 w27 H27=>?_))
    refine ⟨⟨_,H27⟩,?_⟩
    exact bh hW (C6 b27 b21 b24 v23 w27 H27)
   have C8: ∀(b27:Nat) (b21:Nat) (b24:Nat) (v23:Value) (wS:World),Ke [] w wS [Bm,B0,B1,B2,B3,B4,B5,B6,B7,B8,B9,.row (.slice (some ⟨b21,0,none⟩) 64 64) 5 1 64 (Kg vU8 (Ki 64 0)),.row (.slice (some ⟨b24,0,none⟩) 1 1) 9 1 1 (Kg str [(Ki 64 0)]),.row v23 9 1 ((l.getD i 0).toNat) (Kg str (Ki ((l.getD i 0).toNat) (Ki 64 0))),.row (.slice (some ⟨b27,0,none⟩) 1 1) 59 1 1 [v23]]→W 5 (bz 16 4079) (e9 [(33,(ptr b25 0)),(36,(ptr b25 4)),(44,(.slice (some ⟨b27,0,none⟩) 1 1))]) wS:=by
    intro b27 b21 b24 v23 wS HS
    rw [hW]
    refine wh1 4<|kH 4 O (aj O (HS.cell (i:=9) O O) A191 O (⟨⟨_,HS⟩,?_⟩))
    exact bh hW (C6 b27 b21 b24 v23 wS HS)
   have C9: ∀(b24:Nat) (b21:Nat) (wS:World),Ke [] w wS [Bm,B0,B1,B2,B3,B4,B5,B6,B7,B8,B9,.row (.slice (some ⟨b21,0,none⟩) 64 64) 5 1 64 (Kg vU8 (Ki 64 0)),.row (.slice (some ⟨b24,0,none⟩) 1 1) 9 1 1 (Kg str [(Ki 64 0)])]→W 6 (bz 16 1023) (e9 [(33,(ptr b25 0)),(37,bv),(40,(.slice (some ⟨b24,0,none⟩) 1 1)),(42,(vN (l.getD i 0).toNat))]) wS:=by
    intro b24 b21 wS HS
    rw [hW]
    refine wh1 10<|kH 10 O (az (Kd 129) O ((lx _ (Ki 64 0) ((l.getD i 0).toNat) _ (HS.arrR (i:=12) O) (UInt32.toNat_lt _)).mono (fun e w23 hq=>?_)))
    obtain ⟨v23,rfl,hq23⟩:=hq
    refine ⟨_,rfl,?_⟩
    have H23:=HS.splice [] [] [.row v23 9 1 ((l.getD i 0).toNat) (Kg str (Ki ((l.getD i 0).toNat) (Ki 64 0)))] O O hq23 (am ae aI)
    refine ⟨⟨_,H23⟩,?_⟩
    exact bh hW (C7 v23 b21 b24 w23 H23)
   have D0: ∀(v23:Value) (b21:Nat) (b24:Nat) (wS:World),Ke [] w wS [Bm,B0,B1,B2,B3,B4,B5,B6,B7,B8,B9,.row (.slice (some ⟨b21,0,none⟩) 64 64) 5 1 64 (Kg vU8 (Ki 64 0)),.row (.slice (some ⟨b24,0,none⟩) 1 1) 9 1 1 (Kg str [(Ki 64 0)]),.row v23 9 1 ((l.getD i 0).toNat) (Kg str (Ki ((l.getD i 0).toNat) (Ki 64 0)))]→W 6 (bz 16 2031) (e9 [(33,(ptr b25 0)),(36,(ptr b25 4)),(43,v23)]) wS:=by
    intro v23 b21 b24 wS HS
    rw [hW]
    refine wh2 4 11 ?_ ?_
    ·
     refine kH 4 O (aj O (HS.cell (i:=9) O O) A191 O (⟨⟨_,HS⟩,?_⟩))
     exact bh hW (C7 v23 b21 b24 wS HS)
    refine kH 11 O (aW (cs:=[v23]) HS A191 Fa.I59 O O (by obtain ⟨_,_,e0,_⟩:=(HS.arrR (i:=13) O).form; rw [e0]; rfl) O (by decide) (by decide) (fun b27 w27 H27=>?_))
    refine ⟨⟨_,H27⟩,?_⟩
    exact bh hW (C8 b27 b21 b24 v23 w27 H27)
   have D1: ∀(b21:Nat) (wS:World),Ke [] w wS [Bm,B0,B1,B2,B3,B4,B5,B6,B7,B8,B9,.row (.slice (some ⟨b21,0,none⟩) 64 64) 5 1 64 (Kg vU8 (Ki 64 0))]→W 7 (bz 16 895) (e9 [(33,(ptr b25 0)),(37,bv),(39,(str (Ki 64 0))),(42,(vN (l.getD i 0).toNat))]) wS:=by
    intro b21 wS HS
    rw [hW]
    refine wh1 7<|kH 7 O (aW (cs:=[_]) HS A59 Fa.I9 O O O O (by decide) (by decide) (fun b24 w24 H24=>(⟨⟨_,H24⟩,?_⟩)))
    exact bh hW (C9 b24 b21 w24 H24)
   have D2: ∀(b24:Nat) (b21:Nat) (wS:World),Ke [] w wS [Bm,B0,B1,B2,B3,B4,B5,B6,B7,B8,B9,.row (.slice (some ⟨b21,0,none⟩) 64 64) 5 1 64 (Kg vU8 (Ki 64 0)),.row (.slice (some ⟨b24,0,none⟩) 1 1) 9 1 1 (Kg str [(Ki 64 0)])]→W 7 (bz 16 1007) (e9 [(33,(ptr b25 0)),(36,(ptr b25 4)),(40,(.slice (some ⟨b24,0,none⟩) 1 1)),(42,(vN (l.getD i 0).toNat))]) wS:=by
    intro b24 b21 wS HS
    rw [hW]
    refine wh2 4 10 ?_ ?_
    ·
     refine kH 4 O (aj O (HS.cell (i:=9) O O) A191 O (⟨⟨_,HS⟩,?_⟩))
     exact bh hW (C9 b24 b21 wS HS)
    refine kH 10 O (az (Kd 129) O ((lx _ (Ki 64 0) ((l.getD i 0).toNat) _ (HS.arrR (i:=12) O) (UInt32.toNat_lt _)).mono (fun e w23 hq=>?_)))
    obtain ⟨v23,rfl,hq23⟩:=hq
    refine ⟨_,rfl,?_⟩
    have H23:=HS.splice [] [] [.row v23 9 1 ((l.getD i 0).toNat) (Kg str (Ki ((l.getD i 0).toNat) (Ki 64 0)))] O O hq23 (am ae aI)
    refine ⟨⟨_,H23⟩,?_⟩
    exact bh hW (D0 v23 b21 b24 w23 H23)
   have Eq: ∀(b27:Nat) (b21:Nat) (b24:Nat) (v23:Value) (wS:World),Ke [] w wS [Bm,B0,B1,B2,B3,B4,B5,B6,B7,B8,B9,.row (.slice (some ⟨b21,0,none⟩) 64 64) 5 1 64 (Kg vU8 (Ki 64 0)),.row (.slice (some ⟨b24,0,none⟩) 1 1) 9 1 1 (Kg str [(Ki 64 0)]),.row v23 9 1 ((l.getD i 0).toNat) (Kg str (Ki ((l.getD i 0).toNat) (Ki 64 0))),.row (.slice (some ⟨b27,0,none⟩) 1 1) 59 1 1 [v23]]→W 7 (bz 16 4067) (e9 [(33,(ptr b25 0)),(34,(ptr b25 0)),(44,(.slice (some ⟨b27,0,none⟩) 1 1))]) wS:=by
    intro b27 b21 b24 v23 wS HS
    rw [hW]
    refine wh1 2<|kH 2 O (aJ O (⟨⟨_,HS⟩,?_⟩))
    exact xt 3 O (ptr b25 4) HS (fun _ _ HX=>ab O Fa.kC ⟨rfl,rfl⟩)<|bh hW (C8 b27 b21 b24 v23 wS HS)
   have D3: ∀(b21:Nat) (wS:World),Ke [] w wS [Bm,B0,B1,B2,B3,B4,B5,B6,B7,B8,B9,.row (.slice (some ⟨b21,0,none⟩) 64 64) 5 1 64 (Kg vU8 (Ki 64 0))]→W 8 (bz 16 831) (e9 [(33,(ptr b25 0)),(37,bv),(38,(.slice (some ⟨b21,0,none⟩) 64 64)),(42,(vN (l.getD i 0).toNat))]) wS:=by
    intro b21 wS HS
    rw [hW]
    refine wh1 6<|kH 6 O (cD (l:=(Ki 64 0)) A114 A5 A9 O (HS.arrR (i:=11) O) O (⟨⟨_,HS⟩,?_⟩))
    exact bh hW (D1 b21 wS HS)
   have D4: ∀(b21:Nat) (wS:World),Ke [] w wS [Bm,B0,B1,B2,B3,B4,B5,B6,B7,B8,B9,.row (.slice (some ⟨b21,0,none⟩) 64 64) 5 1 64 (Kg vU8 (Ki 64 0))]→W 8 (bz 16 879) (e9 [(33,(ptr b25 0)),(36,(ptr b25 4)),(39,(str (Ki 64 0))),(42,(vN (l.getD i 0).toNat))]) wS:=by
    intro b21 wS HS
    rw [hW]
    refine wh2 4 7 ?_ ?_
    ·
     refine kH 4 O (aj O (HS.cell (i:=9) O O) A191 O (⟨⟨_,HS⟩,?_⟩))
     exact bh hW (D1 b21 wS HS)
    refine kH 7 O (aW (cs:=[_]) HS A59 Fa.I9 O O O O (by decide) (by decide) (fun b24 w24 H24=>(⟨⟨_,H24⟩,?_⟩)))
    exact bh hW (D2 b24 b21 w24 H24)
   have E0: ∀(v23:Value) (b21:Nat) (b24:Nat) (wS:World),Ke [] w wS [Bm,B0,B1,B2,B3,B4,B5,B6,B7,B8,B9,.row (.slice (some ⟨b21,0,none⟩) 64 64) 5 1 64 (Kg vU8 (Ki 64 0)),.row (.slice (some ⟨b24,0,none⟩) 1 1) 9 1 1 (Kg str [(Ki 64 0)]),.row v23 9 1 ((l.getD i 0).toNat) (Kg str (Ki ((l.getD i 0).toNat) (Ki 64 0)))]→W 8 (bz 16 2019) (e9 [(33,(ptr b25 0)),(34,(ptr b25 0)),(43,v23)]) wS:=by
    intro v23 b21 b24 wS HS
    rw [hW]
    refine wh2 2 11 ?_ ?_
    ·
     refine kH 2 O (aJ O (⟨⟨_,HS⟩,?_⟩))
     exact xt 3 O (ptr b25 4) HS (fun _ _ HX=>ab O Fa.kC ⟨rfl,rfl⟩)<|bh hW (D0 v23 b21 b24 wS HS)
    refine kH 11 O (aW (cs:=[v23]) HS A191 Fa.I59 O O (by obtain ⟨_,_,e0,_⟩:=(HS.arrR (i:=13) O).form; rw [e0]; rfl) O (by decide) (by decide) (fun b27 w27 H27=>?_))
    refine ⟨⟨_,H27⟩,?_⟩
    exact bh hW (Eq b27 b21 b24 v23 w27 H27)
   have E1: ∀wS,Ke [] w wS [Bm,B0,B1,B2,B3,B4,B5,B6,B7,B8,B9]→W 9 (bz 16 799) (e9 [(33,(ptr b25 0)),(37,bv),(42,(vN (l.getD i 0).toNat))]) wS:=fun wS HS=>by
    rw [hW]
    refine wh1 5<|kH 5 O (dj (f:=vU8) (c:=0) (m:=64) HS A114 Fa.I5 O O (by omega) (by omega) (fun b21 w21 H21=>(⟨⟨_,H21⟩,?_⟩)))
    exact bh hW (D3 b21 w21 H21)
   have D5: ∀(b21:Nat) (wS:World),Ke [] w wS [Bm,B0,B1,B2,B3,B4,B5,B6,B7,B8,B9,.row (.slice (some ⟨b21,0,none⟩) 64 64) 5 1 64 (Kg vU8 (Ki 64 0))]→W 9 (bz 16 815) (e9 [(33,(ptr b25 0)),(36,(ptr b25 4)),(38,(.slice (some ⟨b21,0,none⟩) 64 64)),(42,(vN (l.getD i 0).toNat))]) wS:=by
    intro b21 wS HS
    rw [hW]
    refine wh2 4 6 ?_ ?_
    ·
     refine kH 4 O (aj O (HS.cell (i:=9) O O) A191 O (⟨⟨_,HS⟩,?_⟩))
     exact bh hW (D3 b21 wS HS)
    refine kH 6 O (cD (l:=(Ki 64 0)) A114 A5 A9 O (HS.arrR (i:=11) O) O (⟨⟨_,HS⟩,?_⟩))
    exact bh hW (D4 b21 wS HS)
   have E2: ∀(b24:Nat) (b21:Nat) (wS:World),Ke [] w wS [Bm,B0,B1,B2,B3,B4,B5,B6,B7,B8,B9,.row (.slice (some ⟨b21,0,none⟩) 64 64) 5 1 64 (Kg vU8 (Ki 64 0)),.row (.slice (some ⟨b24,0,none⟩) 1 1) 9 1 1 (Kg str [(Ki 64 0)])]→W 9 (bz 16 995) (e9 [(33,(ptr b25 0)),(34,(ptr b25 0)),(40,(.slice (some ⟨b24,0,none⟩) 1 1)),(42,(vN (l.getD i 0).toNat))]) wS:=by
    intro b24 b21 wS HS
    rw [hW]
    refine wh2 2 10 ?_ ?_
    ·
     refine kH 2 O (aJ O (⟨⟨_,HS⟩,?_⟩))
     exact xt 3 O (ptr b25 4) HS (fun _ _ HX=>ab O Fa.kC ⟨rfl,rfl⟩)<|bh hW (D2 b24 b21 wS HS)
    refine kH 10 O (az (Kd 129) O ((lx _ (Ki 64 0) ((l.getD i 0).toNat) _ (HS.arrR (i:=12) O) (UInt32.toNat_lt _)).mono (fun e w23 hq=>?_)))
    obtain ⟨v23,rfl,hq23⟩:=hq
    refine ⟨_,rfl,?_⟩
    have H23:=HS.splice [] [] [.row v23 9 1 ((l.getD i 0).toNat) (Kg str (Ki ((l.getD i 0).toNat) (Ki 64 0)))] O O hq23 (am ae aI)
    refine ⟨⟨_,H23⟩,?_⟩
    exact bh hW (E0 v23 b21 b24 w23 H23)
   have E3: ∀wS,Ke [] w wS [Bm,B0,B1,B2,B3,B4,B5,B6,B7,B8,B9]→W 10 (bz 16 783) (e9 [(33,(ptr b25 0)),(36,(ptr b25 4)),(42,(vN (l.getD i 0).toNat))]) wS:=fun wS HS=>by
    rw [hW]
    refine wh2 4 5 ?_ ?_
    ·
     refine kH 4 O (aj O (HS.cell (i:=9) O O) A191 O (⟨⟨_,HS⟩,?_⟩))
     exact bh hW (E1 wS HS)
    refine kH 5 O (dj (f:=vU8) (c:=0) (m:=64) HS A114 Fa.I5 O O (by omega) (by omega) (fun b21 w21 H21=>(⟨⟨_,H21⟩,?_⟩)))
    exact bh hW (D5 b21 w21 H21)
   have E4: ∀(b21:Nat) (wS:World),Ke [] w wS [Bm,B0,B1,B2,B3,B4,B5,B6,B7,B8,B9,.row (.slice (some ⟨b21,0,none⟩) 64 64) 5 1 64 (Kg vU8 (Ki 64 0))]→W 10 (bz 16 867) (e9 [(33,(ptr b25 0)),(34,(ptr b25 0)),(39,(str (Ki 64 0))),(42,(vN (l.getD i 0).toNat))]) wS:=by
    intro b21 wS HS
    rw [hW]
    refine wh2 2 7 ?_ ?_
    ·
     refine kH 2 O (aJ O (⟨⟨_,HS⟩,?_⟩))
     exact xt 3 O (ptr b25 4) HS (fun _ _ HX=>ab O Fa.kC ⟨rfl,rfl⟩)<|bh hW (D4 b21 wS HS)
    refine kH 7 O (aW (cs:=[_]) HS A59 Fa.I9 O O O O (by decide) (by decide) (fun b24 w24 H24=>(⟨⟨_,H24⟩,?_⟩)))
    exact bh hW (E2 b24 b21 w24 H24)
   have E5: ∀(b21:Nat) (wS:World),Ke [] w wS [Bm,B0,B1,B2,B3,B4,B5,B6,B7,B8,B9,.row (.slice (some ⟨b21,0,none⟩) 64 64) 5 1 64 (Kg vU8 (Ki 64 0))]→W 11 (bz 16 803) (e9 [(33,(ptr b25 0)),(34,(ptr b25 0)),(38,(.slice (some ⟨b21,0,none⟩) 64 64)),(42,(vN (l.getD i 0).toNat))]) wS:=by
    intro b21 wS HS
    rw [hW]
    refine wh2 2 6 ?_ ?_
    ·
     refine kH 2 O (aJ O (⟨⟨_,HS⟩,?_⟩))
     exact xt 3 O (ptr b25 4) HS (fun _ _ HX=>ab O Fa.kC ⟨rfl,rfl⟩)<|bh hW (D5 b21 wS HS)
    refine kH 6 O (cD (l:=(Ki 64 0)) A114 A5 A9 O (HS.arrR (i:=11) O) O (⟨⟨_,HS⟩,?_⟩))
    exact bh hW (E4 b21 wS HS)
   have E6: ∀wS,Ke [] w wS [Bm,B0,B1,B2,B3,B4,B5,B6,B7,B8,B9]→W 12 (bz 16 771) (e9 [(33,(ptr b25 0)),(34,(ptr b25 0)),(42,(vN (l.getD i 0).toNat))]) wS:=fun wS HS=>by
    rw [hW]
    refine wh2 2 5 ?_ ?_
    ·
     refine kH 2 O (aJ O (⟨⟨_,HS⟩,?_⟩))
     exact xt 3 O (ptr b25 4) HS (fun _ _ HX=>ab O Fa.kC ⟨rfl,rfl⟩)<|bh hW (E3 wS HS)
    refine kH 5 O (dj (f:=vU8) (c:=0) (m:=64) HS A114 Fa.I5 O O (by omega) (by omega) (fun b21 w21 H21=>(⟨⟨_,H21⟩,?_⟩)))
    exact bh hW (E5 b21 w21 H21)
   have hq:=E6 w10 H10
   rw [hW] at hq ⊢
   exact WH.cv hq
  refine bc<|an<|an<|aS<|ao<|ws<|wm O<|wa O<|wa O<|wn<|aC<|aD (.tmp O (.tmp O .nil)) ?_
  have h:=(show Ke [] w w8 [.blk b1 [(aa pg),v3] 75,.blk c2 [(aa pg),v2,(.map (some mb2))] 196,Ent.ar v2 1 l.length (Kg aa l),.obj mb2 (mP .i64 (Kg Gr.me []) 0),Ent.bs 199 Gr.cells Gr.b [],Ent.dp grD.list [],.row v3 22 1 l.length (Kg aa l),.blk q26 [(.map (some mb26)),(.slice none 0 0),(vN 0)] 264,.obj mb26 (mP .u16 [] 0),.blk b25 [(aa pg),v3,(ptr c2 0),(ptr q26 0),bv,(aa 0)] 193,.row bv 59 1 i xs] from H8)
  exact ⟨b25,v3,(ptr q26 0),bv,c2,v2,mb2,rfl,h.fresh0 (i:=9) O O,up hv2 H1.fr.size,(h.toBo (i:=9) O 6 O).sel [9,1,2,3,4,5] O O⟩
 have E7: ∀(q26:Nat) (mb26:Nat) (wS:World),Ke [] w wS [C0,C1,C2,C3,C4,Ent.dp grD.list [],C5,.blk q26 [(.map (some mb26)),(.slice none 0 0),(vN 0)] 264,.obj mb26 (mP .u16 [] 0)]→W 2 (bz 6 15) (e5 [(24,(.agg #[(aa pg),v3,(ptr c2 0),(ptr q26 0),(.slice none 0 0),(aa 0)]))]) wS:=by
  intro q26 mb26 wS HS
  rw [hW]
  refine wh1 4<|kH 4 O (bK HS O O (fun b25 w25 H25=>(⟨⟨_,H25⟩,?_⟩)))
  exact xt 5 O (ptr b25 0) H25 (fun _ _ HX=>ee O ⟨rfl,rfl⟩)<|bh hW (D6 b25 q26 mb26 w25 H25)
 have E8: ∀wS,Ke [] w wS [C0,C1,C2,C3,C4,Ent.dp grD.list [],C5]→W 4 (bz 6 3) (e5 [(21,(.agg #[(aa pg),v3])),(22,(ptr c2 0))]) wS:=fun wS HS=>by
  rw [hW]
  refine wh1 2<|kH 2 O (az (Kd 128) O ((zI _).mono (fun e w26 hq=>?_)))
  obtain ⟨q26,mb26,rfl,hq26⟩:=hq
  refine ⟨_,rfl,?_⟩
  have H26:=HS.splice [] [] [.blk q26 [(.map (some mb26)),(.slice none 0 0),(vN 0)] 264,.obj mb26 (mP .u16 [] 0)] O O hq26 (am ae (am ae aI))
  refine ⟨⟨_,H26⟩,?_⟩
  exact xt 3 O (.agg #[(aa pg),v3,(ptr c2 0),(ptr q26 0),(.slice none 0 0),(aa 0)]) H26 (fun _ _ HX=>bP (cs:=[_,_,_,_,_,_]) Fa.Ip Fa.HF O O ⟨rfl,rfl⟩)<|bh hW (E7 q26 mb26 w26 H26)
 have hq:=E8 w5 H5
 rw [hW] at hq ⊢
 exact WH.cv hq
theorem pQ (pg:UInt32) (lv:Value) (l:List UInt32) (w:World) (hA:Arr w lv 1 l.length (Kg aa l)) (hok0:gx pg l=0) (hn:l.length<2^40) :
  Calls Kf 37 #[(.agg #[(aa pg),lv])] w (fun e w'=> ∃x k hx nv bv c hv mb,e=.returned (.tuple #[ptr x 0,vN 0])∧w.heap.size≤k∧(∀b∈eO hv (Kg aa l),w.heap.size≤b)∧Ke [] w w' [.blk x (xoC k (Ki 9 Slt.zero)) 146,Ent.bo k [(aa pg),hx,(ptr c 0),nv,bv,(aa 0)],.blk c [(aa pg),hv,(.map (some mb))] 196,Ent.ar hv 1 l.length (Kg aa l),.obj mb (mP .i64 (Kg Gr.me []) 0),Ent.bs 199 Gr.cells Gr.b [],Ent.dp grD.list [],Ent.dp (bY 211).list (Ki 9 Slt.zero)]):=by
 refine enter Tryz.func37 O O ?_
 have H0:=aL w []
 refine ws<|wo (bK H0 O O (fun b1 w1 H1=>(wa O<|wa O<|wn<|ws<|wo (aM (vs:=[_,_]) O (H1.cells (i:=0) O O) A75 O Fa.I75 O<|wo (az (Kd 83) O ((vO pg _ l _ (H1.arr hA) hok0 hn).mono (fun e w2 hq=>?_)))))))
 obtain ⟨k2,hx2,nv2,bv2,c2,yv2,mb2,rfl,hk2,hv2,hq2⟩:=hq
 refine ⟨_,rfl,?_⟩
 have H2:=H1.splice [] [] [Ent.bo k2 [(aa pg),hx2,(ptr c2 0),nv2,bv2,(aa 0)],.blk c2 [(aa pg),yv2,(.map (some mb2))] 196,Ent.ar yv2 1 l.length (Kg aa l),.obj mb2 (mP .i64 (Kg Gr.me []) 0),Ent.bs 199 Gr.cells Gr.b [],Ent.dp grD.list []] O O hq2 (cr (fun b hb=>by cases List.mem_singleton.1 hb; exact hk2) (am ae (cr hv2 (am ae (am ae (cr (fun b hb=>by cases hb) aI))))))
 refine wm O<|we O O<|we O O<|wa O<|wa O<|wn<|ap<|ws<|wm O<|wo (bI (b:=0) O O<|wn<|bF O (by decide)<|aA<|ao<|ws<|wm O<|wo (bP (cs:=[_,_,_,_,_,_,_,_,_,_,_,_,_,_,_,_,_,_,_,_,_,_,_,_,_,_,_,_,_]) Fa.It Fa.HH O O<|wo (bK H2 O O (fun b3 w3 H3=>(wa O<|wa O<|wn<|aC<|aD (.tmp O (.tmp O .nil)) ?_)))))
 have h:=(H3.dpNil (bY 211)).dpOf (l:=[]) (l':=Ki 9 Slt.zero) (i:=8) O (fun w _=>wi) slt_zero_ft
 exact ⟨b3,k2,hx2,nv2,bv2,c2,yv2,mb2,rfl,Nat.le_trans H1.fr.size hk2,up hv2 H1.fr.size,h.sel [7,1,2,3,4,5,6,9] O O⟩
theorem vM (pg:UInt32) (lv:Value) (l:List UInt32) (w:World) (hA:Arr w lv 1 l.length (Kg aa l)) (hok0:gx pg l≠0) (hn:l.length<2^40) :
  Calls Kf 83 #[(.agg #[(aa pg),lv])] w (fun e w'=>e=.returned (.tuple #[.pointer none,vN 2])∧Fr [] w w'):=by
 refine enter Tryz.func83 O O ?_
 have H0:=aL w []
 exact ws<|wo (bK H0 O O (fun b1 w1 H1=>(wa O<|wa O<|wn<|ws<|wo (aM (vs:=[_,_]) O (H1.cells (i:=0) O O) A75 O Fa.I75 O<|wo (cq H1 (Kd 126) O (wW pg _ l _ (H1.arr hA) hn hok0) fun w2 H2=>(wm O<|we O O<|we O O<|wa O<|wa O<|wn<|ap<|ws<|wm O<|wo (bI (b:=0) O O<|wn<|bX O (by decide)<|ws<|wm O<|wa O<|wa O<|wn<|aC<|aq<|aD (.tmp O (.tmp O .nil)) (⟨rfl,H2.fr⟩))))))))
theorem yp (pg:UInt32) (lv:Value) (l:List UInt32) (w:World) (hA:Arr w lv 1 l.length (Kg aa l)) (hok0:gx pg l≠0) (hn:l.length<2^40) :
  Calls Kf 37 #[(.agg #[(aa pg),lv])] w (fun e w'=>e=.returned (.tuple #[.pointer none,vN 2])∧Fr [] w w'):=by
 refine enter Tryz.func37 O O ?_
 have H0:=aL w []
 exact ws<|wo (bK H0 O O (fun b1 w1 H1=>(wa O<|wa O<|wn<|ws<|wo (aM (vs:=[_,_]) O (H1.cells (i:=0) O O) A75 O Fa.I75 O<|wo (cq H1 (Kd 83) O (vM pg _ l _ (H1.arr hA) hok0 hn) fun w2 H2=>(wm O<|we O O<|we O O<|wa O<|wa O<|wn<|ap<|ws<|wm O<|wo (bI (b:=0) O O<|wn<|bX O (by decide)<|ws<|wm O<|wa O<|wa O<|wn<|aC<|aq<|aD (.tmp O (.tmp O .nil)) (⟨rfl,H2.fr⟩))))))))
theorem CQ (x k:Nat) (pk:UInt32) (hx nv bv:Value) (c:Nat) (pg:UInt32) (hv:Value) (he:List UInt32) (mb cn:Nat) (gs:List Gr) (sl:List Slt) (l:List Gr) (i:Nat) (T:List Nat) (w:World) (H:Ke T w w [.blk x (xoC k sl) 146,Ent.bo k [(aa pk),hx,(ptr c 0),nv,bv,(aa 0)],.blk c [(aa pg),hv,(.map (some mb))] 196,Ent.ar hv 1 he.length (Kg aa he),.obj mb (mP .i64 (Kg Gr.me gs) cn),Ent.bs 199 Gr.cells Gr.b gs,Ent.dp grD.list gs,Ent.dp (bY 211).list sl]) (hR:CapR gs cn l) (h9:sl.length=9) (hs:ic sl i=true) :
  Calls Kf 46 #[(ptr x 0),(vN i)] w (fun e w'=> ∃gs',e=.returned (vN 0)∧CapR gs' cn (ly l ((i:Nat):Int))∧DpTo w gs gs'∧Ke T w w' [.blk x (xoC k (sl.set i Slt.zero)) 146,Ent.bo k [(aa pk),hx,(ptr c 0),nv,bv,(aa 0)],.blk c [(aa pg),hv,(.map (some mb))] 196,Ent.ar hv 1 he.length (Kg aa he),.obj mb (mP .i64 (Kg Gr.me gs') cn),Ent.bs 199 Gr.cells Gr.b gs',Ent.dp grD.list gs',Ent.dp (bY 211).list (sl.set i Slt.zero)]):=by
 refine enter Tryz.func46 O O ?_
 have hs9:=je hs
 refine ws<|wa O<|wn<|ap<|aB<|ws<|wm O<|wo (bG Fa.gE O O<|wa O<|wn<|bF O O<|ws<|wm O<|wm O<|wo (az (Kd 104) O ((kU x k sl i _ (H.cellsAt (i:=0) O) h9).mono (fun e w1 hq=>?_))))
 obtain ⟨rfl,hf1⟩:=hq
 refine ⟨_,rfl,?_⟩
 have H1:=H.fr' hf1
 refine wo (cQ O<|wa O<|wn<|bF O (by rw [hs]; rfl)<|aA<|aE<|ao<|ws<|wm O<|wo (aJ O<|wo (ab O Fa.qc<|wo (aj O (H1.cell (i:=0) O O) A111 O<|wo (cq H1 (Kd 59) O (iN k pk hx c nv bv _ (H1.cellsAtO (i:=1) O)) fun w2 H2=>(wm O<|wo (az (Kd 105) O ((EW c pg hv he mb cn gs ((i:Nat):Int) l _ _ (H2.part [2,3,4,5,6] O O) hR).mono (fun e w3 hq=>?_)))))))))
 obtain ⟨gs3,rfl,hi3,hd3,hq3⟩:=hq
 refine ⟨_,rfl,?_⟩
 have H3:=H2.splice [2,3,4,5,6] [.blk c [(aa pg),hv,(.map (some mb))] 196,Ent.ar hv 1 he.length (Kg aa he),.obj mb (mP .i64 (Kg Gr.me gs3) cn),Ent.bs 199 Gr.cells Gr.b gs3,Ent.dp grD.list gs3] [] O O hq3 (am ae (bf (j:=1) O (am ae (am ae (Fits.dpTo 4 O hd3 aI)))))
 have hd3:DpTo w gs gs3:=hd3.mono H2.fr.size
 refine wn<|ws<|wm O<|wm O<|wo (bP (cs:=[_,_,_]) Fa.iT Fa.Cz O O<|wo (aJ O<|wo (ab O Fa.fN<|wo (cC A143 Fa.iT O O hs9.2.1<|wo (pI (j:=0) (s:=Slt.zero) H3 h9 hs9.2.1 O O O Fa.iT (fun w4 H4=>(wn<|ws<|wa O<|wn<|aC<|aD (.tmp O .nil) ?_)))))))
 have h3:=Owl.Own.dpOf (D:=bY 211) (l:=sl) (l':=sl.set i Slt.zero) (i:=7) H4 O (fun w h=>ln h ae) gq
 exact ⟨_,rfl,hi3,hd3,h3.sel [0,1,2,3,4,5,6,8] O O⟩
theorem jb (x k:Nat) (pk:UInt32) (hx nv bv:Value) (c:Nat) (pg:UInt32) (hv:Value) (he:List UInt32) (mb cn:Nat) (gs:List Gr) (sl:List Slt) (l:List Gr) (w:World) (hX:cellsAt w x (xoC k sl)) (hK:cellsAt w k [(aa pk),hx,(ptr c 0),nv,bv,(aa 0)]) (hC:cellsAt w c [(aa pg),hv,(.map (some mb))]) (hH:Arr w hv 1 he.length (Kg aa he)) (hM:w.heap[mb]?=some (mP .i64 (Kg Gr.me gs) cn)) (hG:BsOK 199 Gr.cells Gr.b gs w) (hS:grD.list.ok w gs) (hD:(bY 211).list.ok w sl) (hR:CapR gs cn l) (h9:sl.length=9) :
  Calls Kf 38 #[(ptr x 0)] w (fun e w'=>e=.returned (.agg (fa (cg pg l) l 9).toArray)∧Fr [] w w'):=by
 refine enter Tryz.func38 O O ?_
 have H0:=(((((((((aL w []).oldB hX).oldB hK).oldB hC).oldA hH).mpOld hM).bsOld hG).dpOld hS).dpOld hD)
 refine ws<|wo (bt H0 Fa.I81 (fun b1 w1 H1=>(wn<|ws<|wm O<|wo (cq H1 (Kd 22) O (rR x k pk hx nv bv c pg hv he mb cn gs sl l _ (H1.cellsAtO (i:=0) O) (H1.cellsAtO (i:=1) O) (H1.cellsAtO (i:=2) O) (H1.arrO (i:=3) O) (H1.mpO (i:=4) O) (H1.bsR (i:=5) O) (H1.dpO (i:=6) O) (H1.dpO (i:=7) O) hR) fun w2 H2=>(wm O<|wo (cq H2 (Kd 84) O (yL x k sl _ (H2.cellsAtO (i:=0) O) h9) fun w3 H3=>(wo (bu A144 O (Arr.nil _ 1)<|wo (bP (cs:=[_,_,_,_,_,_,_,_,_,_,_]) Fa.I81 Fa.HZ O O<|wo (bt H3 Fa.I81 (fun b4 w4 H4=>(wo (bw (i:=9) H4 O O O O O Fa.I81 (fun w5 H5=>(wn<|ap<|ws<|wa O<|wn<|aB<|bi (α:=Nat) (fun i=>[(0,(ptr x 0)),(2,(ptr b1 0)),(3,(ptr b4 0)),(4,(vN i))]) (fun i w'=>(1≤i∧i≤9)∧Ke [] w w' [Ent.bo x (xoC k sl),Ent.bo k [(aa pk),hx,(ptr c 0),nv,bv,(aa 0)],Ent.bo c [(aa pg),hv,(.map (some mb))],Ent.ar hv 1 he.length (Kg aa he),Ent.mo .i64 mb (Kg Gr.me gs) cn,Ent.bsO 199 Gr.cells Gr.b gs,Ent.dp grD.list gs,Ent.dp (bY 211).list sl,.blk b1 [(aa 0),(.bool false),(.bool false),(.bool false),(.bool false),(.bool false),(.bool false),(.bool false),(.bool false),(.bool false),(vN 0)] 81,.blk b4 (fa (cg pg l) l i) 81]) (fun i=>9-i) 1 ⟨⟨Nat.le_refl _,by decide⟩,H5⟩ ⟨rfl,rfl,rfl,rfl,trivial⟩ ?_)))))))))))))))
 rintro i w6 ⟨⟨hi1,hi9⟩,H6⟩
 show WC _ _ _ _ _ [(0,(ptr x 0)),(2,(ptr b1 0)),(3,(ptr b4 0)),(4,(vN i))] _
 refine ap<|ws<|wm O<|wo (dH (b:=8) O O<|wn (wE (i≤8) (fun hb7 hc7=>?_) (fun hb7 hc7=>?_)))
 ·
  refine aA<|ao<|ap<|aB<|aG<|wm O<|wm O<|wm O<|wo (az (Kd 85) O ((mu x k pk hx nv bv c pg hv he mb cn gs sl l i _ (H6.cellsAtO (i:=0) O) (H6.cellsAtO (i:=1) O) (H6.cellsAtO (i:=2) O) (H6.arrO (i:=3) O) (H6.mpO (i:=4) O) (H6.bsR (i:=5) O) (H6.dpO (i:=6) O) (H6.dpO (i:=7) O) hR).mono (fun e w8 hq=>?_)))
  obtain ⟨v8,u8,rfl,hq8⟩:=hq
  refine ⟨_,rfl,?_⟩
  have H8:=H6.splice [] [] [.row v8 207 2 (obs l ((i:Nat):Int)).xs.length (Kh xtc (obs l ((i:Nat):Int)).xs),.row u8 203 1 (obs l ((i:Nat):Int)).ps.length (Kg bA (obs l ((i:Nat):Int)).ps)] O O hq8 (am ae (am ae aI))
  exact wm O<|we O O<|we O O<|wo (ab O Fa.uf<|wo (br A79 Fa.I4 O O (by omega)<|wo (bC (i:=9) H8 O O O (by rw [Nat.blt_eq,fC]; omega) O Fa.I4 (fun w9 H9=>(aY<|aE<|ao<|aG<|wm O<|wo (aU (b:=1) O O (by omega)<|wa O<|aY<|aX (i+1) ⟨⟨by omega,by omega⟩,(by have h:=(show Ke [] w w9 [Ent.bo x (xoC k sl),Ent.bo k [(aa pk),hx,(ptr c 0),nv,bv,(aa 0)],Ent.bo c [(aa pg),hv,(.map (some mb))],Ent.ar hv 1 he.length (Kg aa he),Ent.mo .i64 mb (Kg Gr.me gs) cn,Ent.bsO 199 Gr.cells Gr.b gs,Ent.dp grD.list gs,Ent.dp (bY 211).list sl,.blk b1 [(aa 0),(.bool false),(.bool false),(.bool false),(.bool false),(.bool false),(.bool false),(.bool false),(.bool false),(.bool false),(vN 0)] 81,.blk b4 ((fa (cg pg l) l i).set (1+i) (.bool (ei l ((i:Nat):Int)))) 81,.row v8 207 2 (obs l ((i:Nat):Int)).xs.length (Kh xtc (obs l ((i:Nat):Int)).xs),.row u8 203 1 (obs l ((i:Nat):Int)).ps.length (Kg bA (obs l ((i:Nat):Int)).ps)] from H9); rw [BN hi1 (by omega)] at h; exact h.take 10)⟩ ⟨rfl,rfl,rfl,rfl,trivial⟩ (by omega)))))))
 obtain rfl:i=9:=by omega
 exact bc<|an<|an<|aS<|ao<|ws<|wo (aM O (H6.cellsW (i:=9) O) A81 O Fa.I81 (fC _ _ _)<|wo (ff (i:=8) H6 O O O (by rfl) (oQ _ _ _) O Fa.I81 (fun w10 H10=>(wn<|aC<|aD (.cell O (bM (H10.cellsW (i:=8) O) A81 O Fa.I81 (fC _ _ _)) .nil) (⟨rfl,H10.fr⟩)))))
theorem nG (fr:UInt32) (l:List Gr) (i:Nat):(keyOf Kf 81 (.agg (fa fr l i).toArray)).isSome=true :=
 xV A81 (by kernel_rfl) (by kernel_rfl) (by kernel_rfl) O (El (v:=fr) (by kernel_rfl) A22 (by kernel_rfl)) (by kernel_rfl) (by kernel_rfl)
theorem xT (pg:UInt32) (hv:Value) (he:List UInt32) (key:List UInt8) (lv:Value) (L:List (List UInt8)) (w:World) (hH:Arr w hv 1 he.length (Kg aa he)) (hA:Arr w lv 1 L.length (Kg str L)) (hB: ∀x∈L,x.length≤140737488351232) (hk:key.length≤140737488351232) (_hn:he.length<2^47) (hl:L.length<2^47) :
  Calls Kf 36 #[(.agg #[(aa pg),hv]),(str key),lv] w (fun e w'=>e=.returned (.bool (jd he key L))∧Fr [] w w'):=by
 refine enter Tryz.func36 O O ?_
 have H0:=aL w []
 refine ws<|wo (bK H0 O O (fun b1 w1 H1=>(wa O<|wn<|ws<|wm O<|wo (bH A9 O<|wa O<|wn<|WC.cut (α:=Unit) (fun _=>[(0,(.agg #[(aa pg),hv])),(1,(str key)),(2,lv),(3,(ptr b1 0)),(7,(vN (key.length+jQ L (min L.length 40))))]) (fun _ w'=>Ke [] w w' [.blk b1 [(aa pg),hv] 75]) ?_ ?_))))
 ·
  refine ws<|wa O<|wn<|aB<|bi (α:=Nat) (fun i=>[(0,(.agg #[(aa pg),hv])),(1,(str key)),(2,lv),(3,(ptr b1 0)),(7,(vN (key.length+jQ L i))),(8,(vN i))]) (fun i w'=>(i≤L.length∧i≤40)∧Ke [] w w' [.blk b1 [(aa pg),hv] 75]) (fun i=>L.length-i) 0 ⟨⟨by omega,by omega⟩,H1⟩ ⟨rfl,rfl,rfl,rfl,rfl,rfl,trivial⟩ ?_
  rintro i w2 ⟨⟨hi1,hi2⟩,H2⟩
  show WC _ _ _ _ _ [(0,(.agg #[(aa pg),hv])),(1,(str key)),(2,lv),(3,(ptr b1 0)),(7,(vN (key.length+jQ L i))),(8,(vN i))] _
  have hs0:=vq hB i
  have hg0:=BO hB i
  refine ap<|ws<|wm O<|wm O<|wo (bu A59 O (H2.arr hA)<|wo (bm O O<|wm O (wF 15 (i<L.length) (fun hb3 hc3=>?_) (fun hb3 hc3=>?_))))
  ·
   refine wY hb3 (au O<|wY hb3 (bm (b:=40) O O<|wo (aQ O hb3 O<|wn (wE (i<40) (fun hb4 hc4=>?_) (fun hb4 hc4=>?_)))))
   ·
    exact aA<|ao<|ap<|aB<|aG<|wm O<|wm O<|wm O<|wo (aF A59 Fa.I9 O (H2.arr hA) O (by omega)<|wo (aj O ((H2.arr hA).at (aR str [] (aV (H2.arr hA) (by omega)))) A9 O<|wo (bH A9 O<|wo (aU O O (by omega)<|wa O<|aY<|aE<|ao<|aG<|wm O<|wo (aU (b:=1) O O (by omega)<|wa O<|aY<|aX (i+1) ⟨⟨by omega,by omega⟩,H2⟩ ⟨rfl,rfl,rfl,rfl,(by rw [jQ,←Nat.add_assoc]; rfl),rfl,trivial⟩ (by omega))))))
   exact bc<|an<|an<|aS<|cd () H2 ⟨rfl,rfl,rfl,rfl,(by rw [show min L.length 40=i by omega]; rfl),trivial⟩
  exact wN hb3<|wN hb3<|wo (aN O hb3 O<|wn<|bF O O<|bc<|an<|an<|aS<|cd () H2 ⟨rfl,rfl,rfl,rfl,(by rw [show min L.length 40=i by omega]; rfl),trivial⟩)
 rintro ⟨⟩ w5 H5
 show WC _ _ _ _ _ [(0,(.agg #[(aa pg),hv])),(1,(str key)),(2,lv),(3,(ptr b1 0)),(7,(vN (key.length+jQ L (min L.length 40))))] _
 refine ws<|wo (ab O Fa.il<|wo (aj O (H5.cell (i:=0) O O) A73 O<|wo (bu A73 O (H5.arr hH)<|wo (cm (b:=40) O O<|wm O (wF 32 (he.length>40) (fun hb6 hc6=>?_) (fun hb6 hc6=>?_))))))
 ·
  exact wN hb6<|wN hb6<|wN hb6<|wo (aQ O hb6 O<|wm O<|wN O<|wN O<|wo (aQ O O O<|wa O<|wn<|aC<|aD (.tmp O .nil) (⟨by rw [jd,hb6]; rfl,H5.fr⟩)))
 refine wY hb6 (au O<|wY hb6 (bu A59 O (H5.arr hA)<|wY hb6 (cm (b:=12) O O<|wo (aN O hb6 O<|wm O (wF 37 (L.length>12) (fun hb7 hc7=>?_) (fun hb7 hc7=>?_))))))
 ·
  exact wN hb7<|wN hb7<|wo (aQ O hb7 O<|wa O<|wn<|aC<|aD (.tmp O .nil) (⟨by rw [jd,hb6,hb7]; rfl,H5.fr⟩))
 exact wY hb7 (au O<|wY hb7 (cm (b:=131072) O O<|wo (aN O hb7 O<|wa O<|wn<|aC<|aD (.tmp O .nil) (⟨by rw [jd,hb6,hb7]; rfl,H5.fr⟩))))
theorem xP (ag:UInt32) (av aw:Value) (ax:List Xt) (ay:List UInt16) (ac:Bool) (dg:UInt32) (dv dw:Value) (dx:List Xt) (dy:List UInt16) (dc:Bool) (w:World) (hA:Arr w av 2 ax.length (Kh xtc ax)) (hB:Arr w aw 1 ay.length (Kg bA ay)) (hC:Arr w dv 2 dx.length (Kh xtc dx)) (hD:Arr w dw 1 dy.length (Kg bA dy)) :
  Calls Kf 147 #[(.agg #[(aa ag),av,aw,(.bool ac)]),(.agg #[(aa dg),dv,dw,(.bool dc)])] w (fun e w'=>e=.returned (.bool (gt ax ay dx dy))∧Fr [] w w'):=by
 refine enter Tryz.func147 O O ?_
 have H0:=aL w []
 have hbX1:ax.length≤9223372036854775807:=by obtain ⟨_,_,_,h1,h2,_⟩:=hA.form; exact Nat.le_trans h1 h2
 have hbX2:ay.length≤9223372036854775807:=by obtain ⟨_,_,_,h1,h2,_⟩:=hB.form; exact Nat.le_trans h1 h2
 have hbX3:dx.length≤9223372036854775807:=by obtain ⟨_,_,_,h1,h2,_⟩:=hC.form; exact Nat.le_trans h1 h2
 have hbX4:dy.length≤9223372036854775807:=by obtain ⟨_,_,_,h1,h2,_⟩:=hD.form; exact Nat.le_trans h1 h2
 refine ws<|wo (bK H0 O O (fun b1 w1 H1=>(wo (bK H1 O O (fun b2 w2 H2=>(wa O<|wn<|ap<|ws<|wa O<|wn<|aB<|bi (α:=Nat) (fun i=>[(2,(ptr b1 0)),(3,(ptr b2 0)),(5,(vN i))]) (fun i w'=>(i≤ax.length∧∀j,j<i→dx.any (idB (ax.getD j Xt.zero))=false)∧Ke [] w w' [.blk b1 [(aa ag),av,aw,(.bool ac)] 40,.blk b2 [(aa dg),dv,dw,(.bool dc)] 40]) (fun i=>ax.length-i) 0 ⟨⟨Kk _,fun j h=>absurd h (Nat.not_lt_zero j)⟩,H2⟩ ⟨rfl,rfl,rfl,trivial⟩ ?_))))))
 rintro i w3 ⟨⟨hi1,ha1⟩,H3⟩
 show WC _ _ _ _ _ [(2,(ptr b1 0)),(3,(ptr b2 0)),(5,(vN i))] _
 refine ap<|ws<|wm O<|wo (ab O Fa.da<|wo (aj O (H3.cell (i:=0) O O) A37 O<|wo (bu A37 O (H3.arr hA)<|wo (bm O O<|wn (wE (i<ax.length) (fun hb4 hc4=>?_) (fun hb4 hc4=>?_))))))
 ·
  refine aA<|ao<|ap<|aB<|ws<|wa O<|wn<|aB<|bi (α:=Nat) (fun k=>[(2,(ptr b1 0)),(3,(ptr b2 0)),(5,(vN i)),(6,(vN k))]) (fun k w'=>(k≤dx.length∧∀j,j<k→idB (ax.getD i Xt.zero) (dx.getD j Xt.zero)=false)∧Ke [] w w' [.blk b1 [(aa ag),av,aw,(.bool ac)] 40,.blk b2 [(aa dg),dv,dw,(.bool dc)] 40]) (fun k=>dx.length-k) 0 ⟨⟨Kk _,fun j h=>absurd h (Nat.not_lt_zero j)⟩,H3⟩ ⟨rfl,rfl,rfl,rfl,trivial⟩ ?_
  rintro k w5 ⟨⟨hk1,ha2⟩,H5⟩
  show WC _ _ _ _ _ [(2,(ptr b1 0)),(3,(ptr b2 0)),(5,(vN i)),(6,(vN k))] _
  refine ap<|ws<|wm O<|wo (ab O Fa.da<|wo (aj O (H5.cell (i:=1) O O) A37 O<|wo (bu A37 O (H5.arr hC)<|wo (bm O O<|wn (wE (k<dx.length) (fun hb6 hc6=>?_) (fun hb6 hc6=>?_))))))
  ·
   refine aA<|ao<|ap<|aB<|ap<|bn 13 Fa.M H5 (oh (fun w1 H1=>ab O Fa.da zr)<|oh (fun w1 H1=>aj O (H1.cell (i:=0) O O) A37 O zr)<|mh O<|oh (fun w1 H1=>bJ A37 Fa.cR O (H1.arr hA) O (by omega) zr)<|oh (fun w1 H1=>cU O Fa.ey zr)<|oh (fun w1 H1=>aj O (Arr.atF (k:=0) (H1.arr hA) (fun _=>rfl) (by decide) Xt.zero (by omega) O) A22 O zr)<|oh (fun w1 H1=>ab O Fa.da zr)<|oh (fun w1 H1=>aj O (H1.cell (i:=1) O O) A37 O zr)<|mh O<|oh (fun w1 H1=>bJ A37 Fa.cR O (H1.arr hC) O (by omega) zr)<|oh (fun w1 H1=>cU O Fa.ey zr)<|oh (fun w1 H1=>aj O (Arr.atF (k:=0) (H1.arr hC) (fun _=>rfl) (by decide) Xt.zero (by omega) O) A22 O zr)<|oh (fun w1 H1=>eu O O zr)  bD) (by kernel_rfl) ?_
   intro β7 w7 H7
   refine wn (wE ((ax.getD i Xt.zero).id=(dx.getD k Xt.zero).id) (fun hb8 hc8=>?_) (fun hb8 hc8=>?_))
   ·
    refine ws<|wa O<|wn<|aC<|aZ<|aq<|aq<|aZ<|aZ<|aq<|aq<|aZ<|aq<|aD (.tmp O .nil) ?_
    have h:gt ax ay dx dy=true:=by rw [gt,Bool.or_eq_true]; exact .inl (eD (d:=Xt.zero) (k:=i) (by omega) (eD (d:=Xt.zero) (k:=k) (by omega) hb8))
    exact ⟨by rw [h]; rfl,H7.fr⟩
   exact aA<|aE<|ao<|aG<|wm O<|wo (aU (b:=1) O O (by omega)<|wa O<|aY<|aX (k+1) ⟨⟨by omega,cL ha2 hb8⟩,H7⟩ ⟨rfl,rfl,rfl,rfl,trivial⟩ (by omega))
  exact bc<|an<|an<|aS<|aE<|ao<|aG<|wm O<|wo (aU (b:=1) O O (by omega)<|wa O<|aY<|aX (i+1) ⟨⟨by omega,cL ha1 (ew (d:=Xt.zero) (fun j hj=>ha2 j (by omega)))⟩,H5⟩ ⟨rfl,rfl,rfl,trivial⟩ (by omega))
 refine bc<|an<|an<|aS<|ao<|ap<|ws<|wa O<|wn<|aB<|bi (α:=Nat) (fun i2=>[(2,(ptr b1 0)),(3,(ptr b2 0)),(7,(vN i2))]) (fun i2 w'=>(i2≤ay.length∧∀j,j<i2→dy.any (gG (ay.getD j 0))=false)∧Ke [] w w' [.blk b1 [(aa ag),av,aw,(.bool ac)] 40,.blk b2 [(aa dg),dv,dw,(.bool dc)] 40]) (fun i2=>ay.length-i2) 0 ⟨⟨Kk _,fun j h=>absurd h (Nat.not_lt_zero j)⟩,H3⟩ ⟨rfl,rfl,rfl,trivial⟩ ?_
 rintro i2 w9 ⟨⟨hi3,ha3⟩,H9⟩
 show WC _ _ _ _ _ [(2,(ptr b1 0)),(3,(ptr b2 0)),(7,(vN i2))] _
 refine ap<|ws<|wm O<|wo (ab O Fa.di<|wo (aj O (H9.cell (i:=0) O O) A38 O<|wo (bu A38 O (H9.arr hB)<|wo (bm O O<|wn (wE (i2<ay.length) (fun hb10 hc10=>?_) (fun hb10 hc10=>?_))))))
 ·
  refine aA<|ao<|ap<|aB<|ws<|wa O<|wn<|aB<|bi (α:=Nat) (fun k2=>[(2,(ptr b1 0)),(3,(ptr b2 0)),(7,(vN i2)),(8,(vN k2))]) (fun k2 w'=>(k2≤dy.length∧∀j,j<k2→gG (ay.getD i2 0) (dy.getD j 0)=false)∧Ke [] w w' [.blk b1 [(aa ag),av,aw,(.bool ac)] 40,.blk b2 [(aa dg),dv,dw,(.bool dc)] 40]) (fun k2=>dy.length-k2) 0 ⟨⟨Kk _,fun j h=>absurd h (Nat.not_lt_zero j)⟩,H9⟩ ⟨rfl,rfl,rfl,rfl,trivial⟩ ?_
  rintro k2 w11 ⟨⟨hk3,ha4⟩,H11⟩
  show WC _ _ _ _ _ [(2,(ptr b1 0)),(3,(ptr b2 0)),(7,(vN i2)),(8,(vN k2))] _
  refine ap<|ws<|wm O<|wo (ab O Fa.di<|wo (aj O (H11.cell (i:=1) O O) A38 O<|wo (bu A38 O (H11.arr hD)<|wo (bm O O<|wn (wE (k2<dy.length) (fun hb12 hc12=>?_) (fun hb12 hc12=>?_))))))
  ·
   refine aA<|ao<|ap<|aB<|ap<|bn 11 Fa.M H11 (oh (fun w1 H1=>ab O Fa.di zr)<|oh (fun w1 H1=>aj O (H1.cell (i:=0) O O) A38 O zr)<|mh O<|oh (fun w1 H1=>aF A38 Fa.fV O (H1.arr hB) O (by omega) zr)<|oh (fun w1 H1=>aj O ((H1.arr hB).at (aR bA 0 (aV (H1.arr hB) (by omega)))) A203 O zr)<|oh (fun w1 H1=>ab O Fa.di zr)<|oh (fun w1 H1=>aj O (H1.cell (i:=1) O O) A38 O zr)<|mh O<|oh (fun w1 H1=>aF A38 Fa.fV O (H1.arr hD) O (by omega) zr)<|oh (fun w1 H1=>aj O ((H1.arr hD).at (aR bA 0 (aV (H1.arr hD) (by omega)))) A203 O zr)<|oh (fun w1 H1=>iZ O O zr)  bD) (by kernel_rfl) ?_
   intro β13 w13 H13
   refine wn (wE ((ay.getD i2 0)=(dy.getD k2 0)) (fun hb14 hc14=>?_) (fun hb14 hc14=>?_))
   ·
    refine ws<|wa O<|wn<|aC<|aZ<|aq<|aq<|aZ<|aZ<|aq<|aq<|aZ<|aq<|aD (.tmp O .nil) ?_
    have h:gt ax ay dx dy=true:=by rw [gt,Bool.or_eq_true]; exact .inr (eD (d:=0) (k:=i2) (by omega) (eD (d:=0) (k:=k2) (by omega) hb14))
    exact ⟨by rw [h]; rfl,H13.fr⟩
   exact aA<|aE<|ao<|aG<|wm O<|wo (aU (b:=1) O O (by omega)<|wa O<|aY<|aX (k2+1) ⟨⟨by omega,cL ha4 hb14⟩,H13⟩ ⟨rfl,rfl,rfl,rfl,trivial⟩ (by omega))
  exact bc<|an<|an<|aS<|aE<|ao<|aG<|wm O<|wo (aU (b:=1) O O (by omega)<|wa O<|aY<|aX (i2+1) ⟨⟨by omega,cL ha3 (ew (d:=0) (fun j hj=>ha4 j (by omega)))⟩,H11⟩ ⟨rfl,rfl,rfl,trivial⟩ (by omega))
 refine bc<|an<|an<|aS<|ao<|ws<|wa O<|wn<|aC<|aD (.tmp O .nil) ?_
 have h1:ax.any (fun x=>dx.any (idB x))=false:=ew (d:=Xt.zero) (fun j hj=>ha1 j (by omega))
 have h2:ay.any (fun p=>dy.any (gG p))=false:=ew (d:=0) (fun j hj=>ha3 j (by omega))
 exact ⟨by rw [gt,h1,h2]; rfl,H9.fr⟩
theorem dz (x k:Nat) (pk:UInt32) (hx nv bv:Value) (c:Nat) (pg:UInt32) (hv:Value) (he:List UInt32) (mb cn:Nat) (gs:List Gr) (sl:List Slt) (l:List Gr) (w:World) (hX:cellsAt w x (xoC k sl)) (hK:cellsAt w k [(aa pk),hx,(ptr c 0),nv,bv,(aa 0)]) (hC:cellsAt w c [(aa pg),hv,(.map (some mb))]) (hH:Arr w hv 1 he.length (Kg aa he)) (hM:w.heap[mb]?=some (mP .i64 (Kg Gr.me gs) cn)) (hG:BsOK 199 Gr.cells Gr.b gs w) (hS:grD.list.ok w gs) (hD:(bY 211).list.ok w sl) (hR:CapR gs cn l) :
  Calls Kf 99 #[(ptr x 0)] w (fun e w'=> ∃v ms,e=.returned v∧ms.map Mm.f=eK l 8∧(∀b∈MmD.list.ft ms,w.heap.size≤b)∧Ke [] w w' [.row v 40 4 ms.length (Kh mmc ms),Ent.dp MmD.list ms]):=by
 refine enter Tryz.func99 O O ?_
 have H0:=(((((((((aL w []).oldB hX).oldB hK).oldB hC).oldA hH).mpOld hM).bsOld hG).dpOld hS).dpOld hD)
 refine ws<|wa O<|wn<|ws<|wa O ?_
 have H1:=H0.nilRow 40 4
 refine wn<|ap<|ws ?_
 have H2:=H1.dpNil MmD
 refine wa O<|wn<|aB<|bi (α:=Nat × Value × List Mm × Nat) (fun (i,v,m,n)=>[(0,(ptr x 0)),(3,v),(4,(vN (i+1)))]) (fun (i,v,m,n) w'=>(i≤8∧m.map Mm.f=eK l i∧m.length=n∧n≤i∧∀b∈MmD.list.ft m,w.heap.size≤b)∧Ke [] w w' [Ent.bo x (xoC k sl),Ent.bo k [(aa pk),hx,(ptr c 0),nv,bv,(aa 0)],Ent.bo c [(aa pg),hv,(.map (some mb))],Ent.ar hv 1 he.length (Kg aa he),Ent.mo .i64 mb (Kg Gr.me gs) cn,Ent.bsO 199 Gr.cells Gr.b gs,Ent.dp grD.list gs,Ent.dp (bY 211).list sl,.row v 40 4 n (Kh mmc m),Ent.dp MmD.list m]) (fun (i,v,m,n)=>8-i) (0,(.slice none 0 0),[],0) ⟨⟨Kk _,rfl,rfl,Nat.le_refl _,fun b hb=>by cases hb⟩,H2⟩ ⟨rfl,rfl,rfl,trivial⟩ ?_
 rintro ⟨i,v,m,n⟩ w3 ⟨⟨hi1,hmo,hml,hni,hmf⟩,H3⟩
 show WC _ _ _ _ _ [(0,(ptr x 0)),(3,v),(4,(vN (i+1)))] _
 refine ap<|ws<|wm O<|wo (dH (b:=8) O O<|wn (wE ((i+1)≤8) (fun hb4 hc4=>?_) (fun hb4 hc4=>?_)))
 ·
  refine aA<|ao<|ap<|aB<|ws<|wm O<|wm O<|wo (az (Kd 85) O ((mu x k pk hx nv bv c pg hv he mb cn gs sl l (i+1) _ (H3.cellsAtO (i:=0) O) (H3.cellsAtO (i:=1) O) (H3.cellsAtO (i:=2) O) (H3.arrO (i:=3) O) (H3.mpO (i:=4) O) (H3.bsR (i:=5) O) (H3.dpO (i:=6) O) (H3.dpO (i:=7) O) hR).mono (fun e w5 hq=>?_)))
  obtain ⟨v5,u5,rfl,hq5⟩:=hq
  refine ⟨_,rfl,?_⟩
  have H5:=H3.splice [] [] [.row v5 207 2 (obs l (((i+1):Nat):Int)).xs.length (Kh xtc (obs l (((i+1):Nat):Int)).xs),.row u5 203 1 (obs l (((i+1):Nat):Int)).ps.length (Kg bA (obs l (((i+1):Nat):Int)).ps)] O O hq5 (am ae (am ae aI))
  refine wm O<|we O O<|we O O<|wo (bt H5 Fa.I40 (fun b6 w6 H6=>(wo (bw (i:=12) H6 O O O O (bk O (bk (bS (H6.arrR (i:=10) O)) (bk (bS (H6.arrR (i:=11) O)) (bk O er)))) Fa.I40 (fun w7 H7=>(wa O<|wn<|ws<|wm O<|wn (wC (ei l (((i+1):Nat):Int)) (fun hb8=>?_) (fun hb8=>?_))))))))
  ·
   refine aG<|wm O<|wo (aM (vs:=[_,_,_,_]) O (H7.cells (i:=12) O O) A40 O Fa.I40 O<|wo (aW (cs:=[_,_,_,_]) H7 A167 Fa.I40 O O O O (by decide) (by decide) (fun b9 w9 H9=>(wo (fJ (f:=mmc) (l:=m) (l':=[(Mm.mk ((obs l (((i+1):Nat):Int)).pg) v5 ((obs l (((i+1):Nat):Int)).xs) u5 ((obs l (((i+1):Nat):Int)).ps) ((obs l (((i+1):Nat):Int)).con))]) (i:=8) H9 A167 Fa.I40 O O O O (ck A167 (H9.arrR (i:=13) O)) (DY (fun x hx=>by rw [List.mem_singleton.1 hx]; exact ⟨(H9.arrR (i:=10) O),(H9.arrR (i:=11) O)⟩)) (by omega) (by omega) (fun v10 w10 H10=>?_))))))
   refine wa O<|aY<|aE<|ao<|aG<|wm O<|wo (aU (b:=1) O O (by omega)<|wa O<|aY ?_)
   have hfa:=Own.rowFresh (i:=10) H10 O
   have hfb:=Own.rowFresh (i:=11) H10 O
   have Hx2:=(H10.freeze (i:=10) O).freeze (i:=11) O
   have Hx3:=FH (Mm.mk (obs l ((i+1:Nat):Int)).pg v5 (obs l ((i+1:Nat):Int)).xs u5 (obs l ((i+1:Nat):Int)).ps (obs l ((i+1:Nat):Int)).con) (a:=10) (b:=11) Hx2 O O
   have Hx4:=Own.dpSnoc (i:=9) (j:=14) Hx3 O O
   exact aX (i+1,v10,m++[(Mm.mk (obs l ((i+1:Nat):Int)).pg v5 (obs l ((i+1:Nat):Int)).xs u5 (obs l ((i+1:Nat):Int)).ps (obs l ((i+1:Nat):Int)).con)],n+1) ⟨⟨by omega,by rw [List.map_append,hmo,eK,if_pos hb8]; rfl,by rw [Kj,hml]; rfl,by omega,By hmf hfa hfb⟩,(Hx4.sel [0,1,2,3,4,5,6,7,8,15] O O)⟩ ⟨rfl,rfl,rfl,trivial⟩ (by show 8-(i+1)<8-i; omega)
  exact aA<|aE<|ao<|aG<|wm O<|wo (aU (b:=1) O O (by omega)<|wa O<|aY<|aX (i+1,v,m,n) ⟨⟨by omega,by rw [eK,if_neg (by rw [hb8]; decide)]; exact hmo,hml,by omega,hmf⟩,(H7.take 10)⟩ ⟨rfl,rfl,rfl,trivial⟩ (by show 8-(i+1)<8-i; omega))
 refine bc<|an<|an<|aS<|ao<|ws<|wm O<|wa O<|wn<|aC<|aD (.tmp O .nil) ?_
 obtain rfl:i=8:=by omega
 subst hml
 exact ⟨_,m,rfl,hmo,hmf,H3.sel [8,9] O O⟩
theorem zY (pg:UInt32) (hv:Value) (he:List UInt32) (free:UInt32) (mv:Value) (ms:List Mm) (mp:UInt32) (ev pv sv:Value) (xs:List Xt) (ps:List UInt16) (con:Bool) (en:UInt32) (sg:List Sg) (w:World) (hH:Arr w hv 1 he.length (Kg aa he)) (hM:Arr w mv 4 ms.length (Kh mmc ms)) (hI:MmD.list.ok w ms) (hE:Arr w ev 2 xs.length (Kh xtc xs)) (hP:Arr w pv 1 ps.length (Kg bA ps)) (hS:Arr w sv 3 sg.length (Kh sgc sg)) (hn:xs.length<2^47) (hm:ps.length<2^47) (hk:sg.length<2^47) (hB: ∀x∈sg,x.b.length≤2^30) (hk2:sg.length≤2^20) (hpl:(if fo mp xs ps en sg then aT sg sg.length else []).length≤4096) :
  Calls Kf 98 #[(.agg #[(aa pg),hv]),(aa free),mv,(.agg #[(aa mp),ev,pv,(.bool con),(aa en),sv])] w (fun e w'=>e=.returned (vN (mq he free (ms.map Mm.f) mp xs ps (if fo mp xs ps en sg then aT sg sg.length else []).length))∧Fr [] w w'):=by
 refine enter Tryz.func98 O O ?_
 have H0:=aL w []
 have hbX1:ms.length≤9223372036854775807:=by obtain ⟨_,_,_,h1,h2,_⟩:=hM.form; exact Nat.le_trans h1 h2
 refine ws<|wo (bK H0 O O (fun b1 w1 H1=>(wo (bK H1 O O (fun b2 w2 H2=>(wa O<|wn<|ws<|wo (ab O Fa.cZ<|wo (aM (vs:=[_,_,_,_]) O (H2.cells (i:=1) O O) A40 O Fa.I40 O<|wo (bt H2 Fa.I40 (fun b3 w3 H3=>(wo (bw (i:=2) H3 O O O O (bk O (bk (bS (H3.arr hE)) (bk (bS (H3.arr hP)) (bk O er)))) Fa.I40 (fun w4 H4=>(wn<|ap<|ws<|wa O<|wn<|aB<|bi (α:=Nat) (fun i=>[(4,(ptr b1 0)),(2,mv),(1,(aa free)),(7,(ptr b2 0)),(9,(ptr b3 0)),(10,(vN i))]) (fun i w'=>(i≤xs.length∧∀j,j<i→jk he (xs.getD j Xt.zero)=false)∧Ke [] w w' [.blk b1 [(aa pg),hv] 75,.blk b2 [(aa mp),ev,pv,(.bool con),(aa en),sv] 43,.blk b3 [(aa mp),ev,pv,(.bool con)] 40]) (fun i=>xs.length-i) 0 ⟨⟨Kk _,fun j h=>absurd h (Nat.not_lt_zero j)⟩,H4⟩ ⟨rfl,rfl,rfl,rfl,rfl,rfl,trivial⟩ ?_))))))))))))))
 rintro i w5 ⟨⟨hi1,hq1⟩,H5⟩
 show WC _ _ _ _ _ [(4,(ptr b1 0)),(2,mv),(1,(aa free)),(7,(ptr b2 0)),(9,(ptr b3 0)),(10,(vN i))] _
 refine ap<|ws<|wm O<|wo (ab O Fa.da<|wo (aj O (H5.cell (i:=2) O O) A37 O<|wo (bu A37 O (H5.arr hE)<|wo (bm O O<|wn (wE (i<xs.length) (fun hb6 hc6=>?_) (fun hb6 hc6=>?_))))))
 ·
  refine aA<|ao<|ap<|aB<|ap<|bn 11 Fa.M H5 (oh (fun w1 H1=>ab O Fa.da zr)<|oh (fun w1 H1=>aj O (H1.cell (i:=2) O O) A37 O zr)<|mh O<|oh (fun w1 H1=>bJ A37 Fa.cR O (H1.arr hE) O (by omega) zr)<|oh (fun w1 H1=>cU O Fa.ey zr)<|oh (fun w1 H1=>aj O (Arr.atF (k:=0) (H1.arr hE) (fun _=>rfl) (by decide) Xt.zero (by first | omega | (have h9:=dF (p:=(xs.getD k Xt.zero).id.toNat≥he.length) (hq1 k (by omega)); omega)) O) A22 O zr)<|oh (fun w1 H1=>dA (hs:=A22) (hd:=A3) O zr)<|oh (fun w1 H1=>ab O Fa.il zr)<|oh (fun w1 H1=>aj O (H1.cell (i:=0) O O) A73 O zr)<|oh (fun w1 H1=>bu A73 O (H1.arr hH) zr)<|oh (fun w1 H1=>dI O O zr)  bD) (by kernel_rfl) ?_
  intro β7 w7 H7
  refine wn (wE ((xs.getD i Xt.zero).id.toNat≥he.length) (fun hb8 hc8=>?_) (fun hb8 hc8=>?_))
  ·
   refine ws<|wa O<|wn<|aC<|aZ<|aq<|aq<|aZ<|aq<|aD (.tmp O .nil) ?_
   have h1:xs.any (jk he)=true:=eD (d:=Xt.zero) (k:=i) (by omega) hb8
   exact ⟨by rw [mq,if_pos h1]; rfl,H7.fr⟩
  exact aA<|aE<|ao<|aG<|wm O<|wo (aU (b:=1) O O (by omega)<|wa O<|aY<|aX (i+1) ⟨⟨by omega,cL hq1 hb8⟩,H7⟩ ⟨rfl,rfl,rfl,rfl,rfl,rfl,trivial⟩ (by omega))
 refine bc<|an<|an<|aS<|ao<|ap<|ws<|wa O<|wn<|aB<|bi (α:=Nat) (fun k=>[(4,(ptr b1 0)),(2,mv),(1,(aa free)),(7,(ptr b2 0)),(9,(ptr b3 0)),(11,(vN k))]) (fun k w'=>(k≤xs.length∧∀j,j<k→lK he (xs.getD j Xt.zero)=false)∧Ke [] w w' [.blk b1 [(aa pg),hv] 75,.blk b2 [(aa mp),ev,pv,(.bool con),(aa en),sv] 43,.blk b3 [(aa mp),ev,pv,(.bool con)] 40]) (fun k=>xs.length-k) 0 ⟨⟨Kk _,fun j h=>absurd h (Nat.not_lt_zero j)⟩,H5⟩ ⟨rfl,rfl,rfl,rfl,rfl,rfl,trivial⟩ ?_
 rintro k w9 ⟨⟨hk1,hq2⟩,H9⟩
 show WC _ _ _ _ _ [(4,(ptr b1 0)),(2,mv),(1,(aa free)),(7,(ptr b2 0)),(9,(ptr b3 0)),(11,(vN k))] _
 refine ap<|ws<|wm O<|wo (ab O Fa.da<|wo (aj O (H9.cell (i:=2) O O) A37 O<|wo (bu A37 O (H9.arr hE)<|wo (bm O O<|wn (wE (k<xs.length) (fun hb10 hc10=>?_) (fun hb10 hc10=>?_))))))
 ·
  refine aA<|ao<|ap<|aB<|ap<|bn 17 Fa.M H9 (oh (fun w1 H1=>ab O Fa.da zr)<|oh (fun w1 H1=>aj O (H1.cell (i:=2) O O) A37 O zr)<|mh O<|oh (fun w1 H1=>bJ A37 Fa.cR O (H1.arr hE) O (by omega) zr)<|oh (fun w1 H1=>cU O Fa.fW zr)<|oh (fun w1 H1=>aj O (Arr.atF (k:=1) (H1.arr hE) (fun _=>rfl) (by decide) Xt.zero (by first | omega | (have h9:=dF (p:=(xs.getD k Xt.zero).id.toNat≥he.length) (hq1 k (by omega)); omega)) O) A22 O zr)<|oh (fun w1 H1=>ab O Fa.il zr)<|oh (fun w1 H1=>aj O (H1.cell (i:=0) O O) A73 O zr)<|oh (fun w1 H1=>ab O Fa.da zr)<|oh (fun w1 H1=>aj O (H1.cell (i:=2) O O) A37 O zr)<|mh O<|oh (fun w1 H1=>bJ A37 Fa.cR O (H1.arr hE) O (by omega) zr)<|oh (fun w1 H1=>cU O Fa.ey zr)<|oh (fun w1 H1=>aj O (Arr.atF (k:=0) (H1.arr hE) (fun _=>rfl) (by decide) Xt.zero (by first | omega | (have h9:=dF (p:=(xs.getD k Xt.zero).id.toNat≥he.length) (hq1 k (by omega)); omega)) O) A22 O zr)<|oh (fun w1 H1=>aF A73 Fa.I22 O (H1.arr hH) O (by have h9:=dF (p:=(xs.getD k Xt.zero).id.toNat≥he.length) (hq1 k (by omega)); omega) zr)<|oh (fun w1 H1=>aj O ((H1.arr hH).at (aR aa 0 (aV (H1.arr hH) (by first | omega | (have h9:=dF (p:=(xs.getD k Xt.zero).id.toNat≥he.length) (hq1 k (by omega)); omega))))) A22 O zr)<|oh (fun w1 H1=>cI O O zr)  bD) (by kernel_rfl) ?_
  intro β11 w11 H11
  refine wn (wE ((xs.getD k Xt.zero).bl>(he.getD (xs.getD k Xt.zero).id.toNat 0)) (fun hb12 hc12=>?_) (fun hb12 hc12=>?_))
  ·
   refine ws<|wa O<|wn<|aC<|aZ<|aq<|aq<|aZ<|aq<|aD (.tmp O .nil) ?_
   have h1:xs.any (jk he)=false:=ew (d:=Xt.zero) (fun j hj=>hq1 j (by omega))
   have h2:xs.any (lK he)=true:=eD (d:=Xt.zero) (k:=k) (by omega) hb12
   exact ⟨by rw [mq,if_neg (by rw [h1]; decide),if_pos h2]; rfl,H11.fr⟩
  exact aA<|aE<|ao<|aG<|wm O<|wo (aU (b:=1) O O (by omega)<|wa O<|aY<|aX (k+1) ⟨⟨by omega,cL hq2 hb12⟩,H11⟩ ⟨rfl,rfl,rfl,rfl,rfl,rfl,trivial⟩ (by omega))
 refine bc<|an<|an<|aS<|ao<|ap<|ws<|wa O<|wn<|aB<|bi (α:=Nat) (fun q=>[(4,(ptr b1 0)),(2,mv),(1,(aa free)),(7,(ptr b2 0)),(9,(ptr b3 0)),(12,(vN q))]) (fun q w'=>(q≤ms.length∧∀j,j<q→gt (ms.getD j Mm.zero).xs (ms.getD j Mm.zero).ps xs ps=false)∧Ke [] w w' [.blk b1 [(aa pg),hv] 75,.blk b2 [(aa mp),ev,pv,(.bool con),(aa en),sv] 43,.blk b3 [(aa mp),ev,pv,(.bool con)] 40]) (fun q=>ms.length-q) 0 ⟨⟨Kk _,fun j h=>absurd h (Nat.not_lt_zero j)⟩,H9⟩ ⟨rfl,rfl,rfl,rfl,rfl,rfl,trivial⟩ ?_
 rintro q w13 ⟨⟨hp1,hq3⟩,H13⟩
 show WC _ _ _ _ _ [(4,(ptr b1 0)),(2,mv),(1,(aa free)),(7,(ptr b2 0)),(9,(ptr b3 0)),(12,(vN q))] _
 refine ap<|ws<|wm O<|wm O<|wo (bu A167 O (H13.arr hM)<|wo (bm O O<|wn (wE (q<ms.length) (fun hb14 hc14=>?_) (fun hb14 hc14=>?_))))
 ·
  refine aA<|ao<|ap<|aB<|ap<|bn 6 Fa.M H13 (mh O<|mh O<|oh (fun w1 H1=>bJ A167 Fa.I40 O (H1.arr hM) O (by omega) zr)<|oh (fun w1 H1=>cH (vs:=mmc (ms.getD q Mm.zero)) O (Arr.atsF (H1.arr hM) (fun _=>rfl) (by decide) Mm.zero (by first | omega | (have h9:=dF (p:=(xs.getD k Xt.zero).id.toNat≥he.length) (hq1 k (by omega)); omega))) A40 O Fa.I40 O zr)<|oh (fun w1 H1=>aM (vs:=[_,_,_,_]) O (H1.cells (i:=2) O O) A40 O Fa.I40 O zr)<|oh (fun w1 H1=>az (Kd 147) O ((xP ((ms.getD q Mm.zero).pg) _ _ ((ms.getD q Mm.zero).xs) ((ms.getD q Mm.zero).ps) ((ms.getD q Mm.zero).con) mp _ _ xs ps con _ ((yB (Deep.getD MmD (MmD.list.fr0 hI H1.fr) Mm.zero (ua _) q))) ((yC (Deep.getD MmD (MmD.list.fr0 hI H1.fr) Mm.zero (ua _) q))) (H1.arr hE) (H1.arr hP)).mono (fun e w2 hq=>⟨_,hq.1,rfl,hq.2⟩)))  bD) (by kernel_rfl) ?_
  intro β16 w16 H16
  refine wn (wC (gt ((ms.getD q Mm.zero).xs) ((ms.getD q Mm.zero).ps) xs ps) (fun hb17=>?_) (fun hb17=>?_))
  ·
   refine ws<|wa O<|wn<|aC<|aZ<|aq<|aq<|aZ<|aq<|aD (.tmp O .nil) ?_
   have h1:xs.any (jk he)=false:=ew (d:=Xt.zero) (fun j hj=>hq1 j (by omega))
   have h2:xs.any (lK he)=false:=ew (d:=Xt.zero) (fun j hj=>hq2 j (by omega))
   have h3:(ms.map Mm.f).any (fun m=>gt m.xs m.ps xs ps)=true:=by rw [List.any_map]; exact eD (d:=Mm.zero) (k:=q) (by omega) hb17
   exact ⟨by rw [mq,if_neg (by rw [h1]; decide),if_neg (by rw [h2]; decide),if_pos h3]; rfl,H16.fr⟩
  exact aA<|aE<|ao<|aG<|wm O<|wo (aU (b:=1) O O (by omega)<|wa O<|aY<|aX (q+1) ⟨⟨by omega,cL hq3 hb17⟩,H16⟩ ⟨rfl,rfl,rfl,rfl,rfl,rfl,trivial⟩ (by omega))
 refine bc<|an<|an<|aS<|ao<|ap<|ap<|bn 11 Fa.M H13 (oh (fun w1 H1=>ab O Fa.im zr)<|oh (fun w1 H1=>aj O (H1.cell (i:=2) O O) A22 O zr)<|oh (fun w1 H1=>cu (hs:=A22) (hd:=A154) O zr)<|oh (fun w1 H1=>aM (vs:=[_,_,_,_,_,_]) O (H1.cells (i:=1) O O) A43 O Fa.I43 O zr)<|HW.flt (mk:=fun bq=>bq.2) (ent:=fun bq=>.row bq.2 22 1 (if fo mp xs ps en sg then aT sg sg.length else []).length (Kg aa (if fo mp xs ps en sg then aT sg sg.length else []))) O (fun w1 H1=>az (Kd 101) O ((uP mp _ _ _ xs ps con en sg _ (H1.arr hE) (H1.arr hP) (H1.arr hS) hn hm hk hB hk2).mono (fun e w2 ⟨v,he,hO⟩=>⟨_,he,(0,v),rfl,hO,ae⟩)))<|HW.opFs 0 O O (fun bq w1 H1=>bu A73 O (H1.arrR (i:=3) O) zr)<|oh (fun w1 H1=>dq (hs:=A3) (hd:=A154) O zr)<|oh (fun w1 H1=>eH O O zr)<|mh O<|oh (fun w1 H1=>cu (hs:=A22) (hd:=A154) O zr)<|oh (fun w1 H1=>km O O zr)  bD) (by kernel_rfl) ?_
 intro β19 w19 H19
 refine wn (wE (((Kn mp.toNat)+(Kn (if fo mp xs ps en sg then aT sg sg.length else []).length))>(Kn free.toNat)) (fun hb20 hc20=>?_) (fun hb20 hc20=>?_))
 ·
  refine ws<|wa O<|wn<|aC<|aq<|aD (.tmp O .nil) ?_
  have h1:xs.any (jk he)=false:=ew (d:=Xt.zero) (fun j hj=>hq1 j (by omega))
  have h2:xs.any (lK he)=false:=ew (d:=Xt.zero) (fun j hj=>hq2 j (by omega))
  have h3:(ms.map Mm.f).any (fun m=>gt m.xs m.ps xs ps)=false:=by rw [List.any_map]; exact ew (d:=Mm.zero) (fun j hj=>hq3 j (by omega))
  exact ⟨by rw [mq,if_neg (by rw [h1]; decide),if_neg (by rw [h2]; decide),if_neg (by rw [h3]; decide),if_pos ((tD hpl).1 (dT hb20))]; rfl,H19.fr⟩
 refine aA<|ao<|ws<|wa O<|wn<|aC<|aD (.tmp O .nil) ?_
 have h1:xs.any (jk he)=false:=ew (d:=Xt.zero) (fun j hj=>hq1 j (by omega))
 have h2:xs.any (lK he)=false:=ew (d:=Xt.zero) (fun j hj=>hq2 j (by omega))
 have h3:(ms.map Mm.f).any (fun m=>gt m.xs m.ps xs ps)=false:=by rw [List.any_map]; exact ew (d:=Mm.zero) (fun j hj=>hq3 j (by omega))
 exact ⟨by rw [mq,if_neg (by rw [h1]; decide),if_neg (by rw [h2]; decide),if_neg (by rw [h3]; decide),if_neg (fun h=>dF hb20 ((tD hpl).2 h))]; rfl,H19.fr⟩
theorem CU (x k:Nat) (sl:List Slt) (i:Int) (w:World) (hX:cellsAt w x (xoC k sl)) (hi:i<1) :
  Calls Kf 104 #[(ptr x 0),(vI i)] w (fun e w'=>e=.returned (.bool false)∧Fr [] w w'):=by
 refine enter Tryz.func104 O O ?_
 have H0:=((aL w []).oldB hX)
 exact ws<|wa O<|wn<|ws<|wm O<|wo (fy Fa.gE O O<|wm O<|wY O (au O<|wY O (fe (b:=(1:Int)) O O<|wo (aQ O O O<|wm O<|WL.no O O O (decide_eq_false (by omega)) O<|WL.no O O O (decide_eq_false (by omega)) O<|wo (aN O (decide_eq_false (by omega)) O<|wm O<|wN O<|wN O<|wN O<|wN O<|wN O<|wN O<|wN O<|wo (aN O O O<|wa O<|wn<|aC<|aD (.tmp O .nil) (⟨rfl,H0.fr⟩)))))))
theorem CS (x k:Nat) (pk:UInt32) (hx nv bv:Value) (c:Nat) (pg:UInt32) (hv:Value) (he:List UInt32) (mb cn:Nat) (gs:List Gr) (sl:List Slt) (i:Int) (T:List Nat) (w:World) (H:Ke T w w [.blk x (xoC k sl) 146,Ent.bo k [(aa pk),hx,(ptr c 0),nv,bv,(aa 0)],.blk c [(aa pg),hv,(.map (some mb))] 196,Ent.ar hv 1 he.length (Kg aa he),.obj mb (mP .i64 (Kg Gr.me gs) cn),Ent.bs 199 Gr.cells Gr.b gs,Ent.dp grD.list gs,Ent.dp (bY 211).list sl]) (hi:i<1) :
  Calls Kf 46 #[(ptr x 0),(vI i)] w (fun e w'=>e=.returned (vN 3)∧Ke T w w' [.blk x (xoC k sl) 146,Ent.bo k [(aa pk),hx,(ptr c 0),nv,bv,(aa 0)],.blk c [(aa pg),hv,(.map (some mb))] 196,Ent.ar hv 1 he.length (Kg aa he),.obj mb (mP .i64 (Kg Gr.me gs) cn),Ent.bs 199 Gr.cells Gr.b gs,Ent.dp grD.list gs,Ent.dp (bY 211).list sl]):=by
 refine enter Tryz.func46 O O<|ws<|wa O<|wn<|ap<|aB<|ws<|wm O<|wo (bG Fa.gE O O<|wa O<|wn<|bF O O<|ws<|wm O<|wm O<|wo (az (Kd 104) O ((CU x k sl i _ (H.cellsAt (i:=0) O) hi).mono (fun e w1 hq=>?_))))
 obtain ⟨rfl,hf1⟩:=hq
 refine ⟨_,rfl,?_⟩
 have H1:=H.fr' hf1
 exact wo (cQ O<|wa O<|wn<|bX O (congrArg Bool.not O)<|ws<|wa O<|wn<|aC<|aZ<|aq<|aD (.tmp O .nil) (⟨rfl,H1.sel [0,1,2,3,4,5,6,7] O O⟩))
theorem CV (x k:Nat) (sl:List Slt) (i:Int) (w:World) (hX:cellsAt w x (xoC k sl)) (h1:1≤i) (hi:9≤i) :
  Calls Kf 104 #[(ptr x 0),(vI i)] w (fun e w'=>e=.returned (.bool false)∧Fr [] w w'):=by
 refine enter Tryz.func104 O O ?_
 have H0:=((aL w []).oldB hX)
 exact ws<|wa O<|wn<|ws<|wm O<|wo (fy Fa.gE O O<|wm O<|wY O (au O<|wY O (fe (b:=(1:Int)) O O<|wo (aQ O O O<|wm O<|bL O O O (decide_eq_true (by omega)) O (au O<|bL O O O (decide_eq_true (by omega)) O (eR (b:=(9:Int)) O O<|wo (aQ O (decide_eq_true (by omega)) O<|wm O<|WL.no O O O (decide_eq_false (by omega)) O<|WL.no O O O (decide_eq_false (by omega)) O<|WL.no O O O (decide_eq_false (by omega)) O<|WL.no O O O (decide_eq_false (by omega)) O<|WL.no O O O (decide_eq_false (by omega)) O<|WL.no O O O (decide_eq_false (by omega)) O<|WL.no O O O (decide_eq_false (by omega)) O<|wo (aN O (decide_eq_false (by omega)) O<|wa O<|wn<|aC<|aD (.tmp O .nil) (⟨rfl,H0.fr⟩)))))))))
theorem CT (x k:Nat) (pk:UInt32) (hx nv bv:Value) (c:Nat) (pg:UInt32) (hv:Value) (he:List UInt32) (mb cn:Nat) (gs:List Gr) (sl:List Slt) (i:Int) (T:List Nat) (w:World) (H:Ke T w w [.blk x (xoC k sl) 146,Ent.bo k [(aa pk),hx,(ptr c 0),nv,bv,(aa 0)],.blk c [(aa pg),hv,(.map (some mb))] 196,Ent.ar hv 1 he.length (Kg aa he),.obj mb (mP .i64 (Kg Gr.me gs) cn),Ent.bs 199 Gr.cells Gr.b gs,Ent.dp grD.list gs,Ent.dp (bY 211).list sl]) (h1:1≤i) (hi:9≤i) :
  Calls Kf 46 #[(ptr x 0),(vI i)] w (fun e w'=>e=.returned (vN 3)∧Ke T w w' [.blk x (xoC k sl) 146,Ent.bo k [(aa pk),hx,(ptr c 0),nv,bv,(aa 0)],.blk c [(aa pg),hv,(.map (some mb))] 196,Ent.ar hv 1 he.length (Kg aa he),.obj mb (mP .i64 (Kg Gr.me gs) cn),Ent.bs 199 Gr.cells Gr.b gs,Ent.dp grD.list gs,Ent.dp (bY 211).list sl]):=by
 refine enter Tryz.func46 O O<|ws<|wa O<|wn<|ap<|aB<|ws<|wm O<|wo (bG Fa.gE O O<|wa O<|wn<|bF O O<|ws<|wm O<|wm O<|wo (az (Kd 104) O ((CV x k sl i _ (H.cellsAt (i:=0) O) h1 hi).mono (fun e w1 hq=>?_))))
 obtain ⟨rfl,hf1⟩:=hq
 refine ⟨_,rfl,?_⟩
 have H1:=H.fr' hf1
 exact wo (cQ O<|wa O<|wn<|bX O (congrArg Bool.not O)<|ws<|wa O<|wn<|aC<|aZ<|aq<|aD (.tmp O .nil) (⟨rfl,H1.sel [0,1,2,3,4,5,6,7] O O⟩))
theorem CR (x k:Nat) (pk:UInt32) (hx nv bv:Value) (c:Nat) (pg:UInt32) (hv:Value) (he:List UInt32) (mb cn:Nat) (gs:List Gr) (sl:List Slt) (i:Nat) (T:List Nat) (w:World) (H:Ke T w w [.blk x (xoC k sl) 146,Ent.bo k [(aa pk),hx,(ptr c 0),nv,bv,(aa 0)],.blk c [(aa pg),hv,(.map (some mb))] 196,Ent.ar hv 1 he.length (Kg aa he),.obj mb (mP .i64 (Kg Gr.me gs) cn),Ent.bs 199 Gr.cells Gr.b gs,Ent.dp grD.list gs,Ent.dp (bY 211).list sl]) (h9:sl.length=9) (hs:ic sl i=false) :
  Calls Kf 46 #[(ptr x 0),(vN i)] w (fun e w'=>e=.returned (vN 3)∧Ke T w w' [.blk x (xoC k sl) 146,Ent.bo k [(aa pk),hx,(ptr c 0),nv,bv,(aa 0)],.blk c [(aa pg),hv,(.map (some mb))] 196,Ent.ar hv 1 he.length (Kg aa he),.obj mb (mP .i64 (Kg Gr.me gs) cn),Ent.bs 199 Gr.cells Gr.b gs,Ent.dp grD.list gs,Ent.dp (bY 211).list sl]):=by
 refine enter Tryz.func46 O O<|ws<|wa O<|wn<|ap<|aB<|ws<|wm O<|wo (bG Fa.gE O O<|wa O<|wn<|bF O O<|ws<|wm O<|wm O<|wo (az (Kd 104) O ((kU x k sl i _ (H.cellsAt (i:=0) O) h9).mono (fun e w1 hq=>?_))))
 obtain ⟨rfl,hf1⟩:=hq
 refine ⟨_,rfl,?_⟩
 have H1:=H.fr' hf1
 exact wo (cQ O<|wa O<|wn<|bX O (by rw [hs]; rfl)<|ws<|wa O<|wn<|aC<|aZ<|aq<|aD (.tmp O .nil) (⟨rfl,H1.sel [0,1,2,3,4,5,6,7] O O⟩))
theorem Ar (x k:Nat) (pk:UInt32) (hx nv bv:Value) (c:Nat) (pg:UInt32) (hv:Value) (he:List UInt32) (mb cn:Nat) (gs:List Gr) (sl:List Slt) (l:List Gr) (i:Int) (T:List Nat) (w:World) (H:Ke T w w [.blk x (xoC k sl) 146,Ent.bo k [(aa pk),hx,(ptr c 0),nv,bv,(aa 0)],.blk c [(aa pg),hv,(.map (some mb))] 196,Ent.ar hv 1 he.length (Kg aa he),.obj mb (mP .i64 (Kg Gr.me gs) cn),Ent.bs 199 Gr.cells Gr.b gs,Ent.dp grD.list gs,Ent.dp (bY 211).list sl]) (hR:CapR gs cn l) (hX:InvX l sl) :
    Calls Kf 46 #[(ptr x 0),(vI i)] w (fun e w'=> ∃v gs' l' sl',e=.returned v∧CapR gs' cn l'∧InvX l' sl'∧DpTo w gs gs'∧SltTo 211 w sl sl'∧Ke T w w' [.blk x (xoC k sl') 146,Ent.bo k [(aa pk),hx,(ptr c 0),nv,bv,(aa 0)],.blk c [(aa pg),hv,(.map (some mb))] 196,Ent.ar hv 1 he.length (Kg aa he),.obj mb (mP .i64 (Kg Gr.me gs') cn),Ent.bs 199 Gr.cells Gr.b gs',Ent.dp grD.list gs',Ent.dp (bY 211).list sl']):=by
  by_cases h1:i<1
  · exact (CS x k pk hx nv bv c pg hv he mb cn gs sl i _ _ H h1).mono (fun e w' h=>⟨_,_,_,_,h.1,hR,hX,DpTo.refl,SltTo.refl,h.2⟩)
  · by_cases h9:9≤i
    · exact (CT x k pk hx nv bv c pg hv he mb cn gs sl i _ _ H (by omega) h9).mono (fun e w' h=>⟨_,_,_,_,h.1,hR,hX,DpTo.refl,SltTo.refl,h.2⟩)
    · obtain ⟨n,rfl⟩: ∃n:Nat,i=(n:Int):=⟨i.toNat,by omega⟩
      cases hs:ic sl n with
      | false=>exact (CR x k pk hx nv bv c pg hv he mb cn gs sl n _ _ H hX.len hs).mono (fun e w' h=>⟨_,_,_,_,h.1,hR,hX,DpTo.refl,SltTo.refl,h.2⟩)
      | true=>exact (CQ x k pk hx nv bv c pg hv he mb cn gs sl l n _ _ H hR hX.len hs).mono (fun e w' ⟨gs',a,b,c,d⟩=>⟨_,gs',_,_,a,b,hX.rel hs,c,fun b hb=>.inr (gq b hb),d⟩)
theorem BD (eb xb nb:Nat) (w:World) (hE:cellsAt w eb [(vN 0)]) :
  CallsD Kf 88 #[(ptr eb 0),(ptr xb 0),(ptr nb 0)] .returning w (fun e u' w'=>u'=.returning∧(∃v,e=.returned v)∧Fr [] w w'):=by
 refine Ce Tryz.func88 O O ?_
 have H0:=((aL w []).oldB hE)
 exact ws<|wo (aj O (H0.cellO (i:=0) O O) A25 O<|wo (bI (b:=0) O O<|wn<|bF O (by decide)<|aA<|WQ.outEnd .nil (⟨⟨_,rfl⟩,H0.fr⟩)))
theorem wO (x k:Nat) (pk:UInt32) (hx nv bv:Value) (c:Nat) (pg:UInt32) (hv:Value) (he:List UInt32) (mb cn:Nat) (gs:List Gr) (sl:List Slt) (l:List Gr) (mp:UInt32) (ev pv sv:Value) (xs:List Xt) (ps:List UInt16) (con:Bool) (en:UInt32) (sg:List Sg) (T:List Nat) (w:World) (H:Ke T w w [.blk x (xoC k sl) 146,Ent.bo k [(aa pk),hx,(ptr c 0),nv,bv,(aa 0)],.blk c [(aa pg),hv,(.map (some mb))] 196,Ent.ar hv 1 he.length (Kg aa he),.obj mb (mP .i64 (Kg Gr.me gs) cn),Ent.bs 199 Gr.cells Gr.b gs,Ent.dp grD.list gs,Ent.dp (bY 211).list sl,Ent.ar ev 2 xs.length (Kh xtc xs),Ent.ar pv 1 ps.length (Kg bA ps),Ent.ar sv 3 sg.length (Kh sgc sg)]) (hR:CapR gs cn l) (h9:sl.length=9) (hhe:he.length<2^32) (hn:xs.length<2^40) (hm:ps.length<2^40) (hk:sg.length<2^20) (hB: ∀x∈sg,x.b.length≤2^30) (h0:imE mp xs ps en sg=0) (hff:ffS sl=9) :
  Calls Kf 40 #[(ptr x 0),(.agg #[(aa mp),ev,pv,(.bool con),(aa en),sv])] w (fun e w'=>e=.returned (.tuple #[vN 0,vN 4])∧Ke T w w' [.blk x (xoC k sl) 146,Ent.bo k [(aa pk),hx,(ptr c 0),nv,bv,(aa 0)],.blk c [(aa pg),hv,(.map (some mb))] 196,Ent.ar hv 1 he.length (Kg aa he),.obj mb (mP .i64 (Kg Gr.me gs) cn),Ent.bs 199 Gr.cells Gr.b gs,Ent.dp grD.list gs,Ent.dp (bY 211).list sl,Ent.ar ev 2 xs.length (Kh xtc xs),Ent.ar pv 1 ps.length (Kg bA ps),Ent.ar sv 3 sg.length (Kh sgc sg)]):=by
 refine tI Tryz.func40 O O ?_
 have hB47: ∀x∈sg,x.b.length≤2^47:=fun x hx=>Nat.le_trans (hB x hx) (by decide)
 refine ws<|wo (bK H O O (fun b1 w1 H1=>(wo (bK H1 O O (fun b2 w2 H2=>(wa O<|wo (bt H2 Fa.I25 (fun b3 w3 H3=>(wn<|ap<|ws<|wo (aj O (H3.cell (i:=11) O O) A47 O<|wo (bG Fa.gE O O<|wn<|bF O O<|aA<|ao<|ws<|wo (aM (vs:=[_,_,_,_,_,_]) O (H3.cells (i:=12) O O) A43 O Fa.I43 O<|wo (az (Kd 32) O ((lJ mp _ _ _ xs ps con en sg _ (H3.arrO (i:=8) O) (H3.arrO (i:=9) O) (H3.arrO (i:=10) O) (by omega) (by omega) (by omega) hB47 h0).mono (fun e w4 hq=>?_)))))))))))))))
 obtain ⟨s4,mb4,c4,qs4,rfl,hr4,hq4⟩:=hq
 refine ⟨_,rfl,?_⟩
 have H4:=H3.splice [] [] [.blk s4 [(.map (some mb4))] 165,.obj mb4 (mP .u32 (Kg Pg.me qs4) c4),Ent.bs 211 Pg.cells Pg.b qs4] O O hq4 (am ae (am ae (am ae aI)))
 refine wm O<|we O O<|we O O<|wa O<|wo (bC (i:=13) H4 O O O O O Fa.I25 (fun w5 H5=>(wn<|ap<|ws<|wo (aj O (H5.cell (i:=13) O O) A25 O ?_))))
 have H6:=H5.sel [8,9,10,11,12,14,15,16,13,0,1,2,3,4,5,6,7] O O
 refine wo (bI (b:=0) O O<|wn<|bF O (by decide)<|aA<|ao<|ap<|WC.held 13 O Fa.M H6 (fun w'=> ∃L',Ke T w w' ([Ent.ar ev 2 xs.length (Kh xtc xs),Ent.ar pv 1 ps.length (Kg bA ps),Ent.ar sv 3 sg.length (Kh sgc sg),.blk b1 [(ptr x 0)] 47,.blk b2 [(aa mp),ev,pv,(.bool con),(aa en),sv] 43,.blk s4 [(.map (some mb4))] 165,.obj mb4 (mP .u32 (Kg Pg.me qs4) c4),Ent.bs 211 Pg.cells Pg.b qs4]++L')) ?_)
 intro w7 H7
 refine xt 0 O (ptr x 0) H7 (fun _ _ HX=>aj O (HX.cell (i:=3) O O) A47 O ⟨rfl,rfl⟩)<|xt 1 O (ptr b2 0) H7 (fun _ _ HX=>ab O Fa.cZ ⟨rfl,rfl⟩)<|xt 2 O (.agg #[(aa mp),ev,pv,(.bool con)]) H7 (fun _ _ HX=>aM (vs:=[_,_,_,_]) O (HX.cells (i:=4) O O) A40 O Fa.I40 O ⟨rfl,rfl⟩)<|xt 3 O (.agg #[(aa mp),ev,pv,(.bool con),(aa en),sv]) H7 (fun _ _ HX=>aM (vs:=[_,_,_,_,_,_]) O (HX.cells (i:=4) O O) A43 O Fa.I43 O ⟨rfl,rfl⟩)<|dh (fun W hW=>?_)
 let e6:List (Nat × Value)→List (Nat × Value):=fun r=>(0,(ptr x 0))::(1,(.agg #[(aa mp),ev,pv,(.bool con),(aa en),sv]))::(2,(ptr b1 0))::(3,(ptr b2 0))::(4,(vN 0))::(5,(ptr b3 0))::(6,(ptr s4 0))::(9,(ptr x 0))::(10,(.bool false))::(11,(.tuple #[(ptr s4 0),(vN 0)]))::(12,(.agg #[(aa mp),ev,pv,(.bool con),(aa en),sv]))::(13,(.tuple #[(ptr s4 0),(vN 0)]))::(14,(ptr s4 0))::(15,(vN 0))::(16,(vN 0))::(17,(.bool (decide (0≠0))))::r
 let Bm:Ent:=Ent.ar ev 2 xs.length (Kh xtc xs)
 let B0:Ent:=Ent.ar pv 1 ps.length (Kg bA ps)
 let B1:Ent:=Ent.ar sv 3 sg.length (Kh sgc sg)
 let B2:Ent:=.blk b1 [(ptr x 0)] 47
 let B3:Ent:=.blk b2 [(aa mp),ev,pv,(.bool con),(aa en),sv] 43
 let B4:Ent:=.blk s4 [(.map (some mb4))] 165
 let B5:Ent:=.obj mb4 (mP .u32 (Kg Pg.me qs4) c4)
 let B6:Ent:=Ent.bs 211 Pg.cells Pg.b qs4
 let C5:Ent:=.blk b3 [(vN 0)] 25
 let B7:Ent:=.blk x (xoC k sl) 146
 let B8:Ent:=Ent.bo k [(aa pk),hx,(ptr c 0),nv,bv,(aa 0)]
 let B9:Ent:=.blk c [(aa pg),hv,(.map (some mb))] 196
 let C0:Ent:=Ent.ar hv 1 he.length (Kg aa he)
 let C1:Ent:=.obj mb (mP .i64 (Kg Gr.me gs) cn)
 let C2:Ent:=Ent.bs 199 Gr.cells Gr.b gs
 let C3:Ent:=Ent.dp grD.list gs
 let C4:Ent:=Ent.dp (bY 211).list sl
 have C9: ∀(b17:Nat) (v18:Value) (wS:World),Ke T w wS [Bm,B0,B1,B2,B3,B4,B5,B6,.blk b3 [(vN 4)] 25,B7,B8,B9,C0,C1,C2,C3,C4,.row v18 22 1 (if imE mp xs ps en sg=0 then aT sg sg.length else []).length (Kg aa (if imE mp xs ps en sg=0 then aT sg sg.length else [])),.blk b17 [(vN 0)] 3]→W 0 (bz 13 8191) (e6 [(7,(ptr b17 0))]) wS:=by
  intro b17 v18 wS HS
  rw [hW]
  refine WH.done (by kernel_rfl)<|ao<|ap<|ws<|wo (aj O (HS.cell (i:=8) O O) A25 O<|wo (bI (b:=0) O O<|wn<|bX O (by decide)<|ap<|bn 2 Fa.M HS (oh (fun w1 H1=>aj O (H1.cell (i:=8) O O) A25 O zr)<|ah O  bD) (by kernel_rfl) ?_))
  intro β9 w9 H9
  exact wo (bC (i:=8) H9 O O O O O Fa.I25 (fun w10 H10=>(wn<|aC<|aq<|WQ.outD0 (.tmp O (.cell O (jF (H10.cell (i:=8) O O) A25 O) .nil)) (⟨rfl,H10.sel [9,10,11,12,13,14,15,16,0,1,2] O O⟩))))
 have D0: ∀(b17:Nat) (v18:Value) (wS:World),Ke T w wS [Bm,B0,B1,B2,B3,B4,B5,B6,C5,B7,B8,B9,C0,C1,C2,C3,C4,.row v18 22 1 (if imE mp xs ps en sg=0 then aT sg sg.length else []).length (Kg aa (if imE mp xs ps en sg=0 then aT sg sg.length else [])),.blk b17 [(vN 0)] 3]→W 1 (bz 13 4095) (e6 [(7,(ptr b17 0)),(28,(vN 4))]) wS:=by
  intro b17 v18 wS HS
  rw [hW]
  refine wh1 12<|kH 12 O (bC (i:=8) HS O O O O O Fa.I25 (fun w20 H20=>(⟨⟨_,H20⟩,?_⟩)))
  exact bh hW (C9 b17 v18 w20 H20)
 have C6: ∀(b17:Nat) (v18:Value) (wS:World),Ke T w wS [Bm,B0,B1,B2,B3,B4,B5,B6,C5,B7,B8,B9,C0,C1,C2,C3,C4,.row v18 22 1 (if imE mp xs ps en sg=0 then aT sg sg.length else []).length (Kg aa (if imE mp xs ps en sg=0 then aT sg sg.length else [])),.blk b17 [(vN 0)] 3]→W 2 (bz 13 2047) (e6 [(7,(ptr b17 0)),(27,(vN 0)),(28,(vN 4))]) wS:=by
  intro b17 v18 wS HS
  rw [hW]
  refine wh1 11<|kH 11 O (bC (i:=18) HS O O O O O Fa.I3 (fun w21 H21=>(⟨⟨_,H21⟩,?_⟩)))
  exact bh hW (D0 b17 v18 w21 H21)
 have D1: ∀(v18:Value) (wS:World),Ke T w wS [Bm,B0,B1,B2,B3,B4,B5,B6,C5,B7,B8,B9,C0,C1,C2,C3,C4,.row v18 22 1 (if imE mp xs ps en sg=0 then aT sg sg.length else []).length (Kg aa (if imE mp xs ps en sg=0 then aT sg sg.length else []))]→W 3 (bz 13 1023) (e6 [(27,(vN 0)),(28,(vN 4))]) wS:=by
  intro v18 wS HS
  rw [hW]
  refine wh1 10<|kH 10 O (bt HS Fa.I3 (fun b17 w17 H17=>(⟨⟨_,H17⟩,?_⟩)))
  exact bh hW (C6 b17 v18 w17 H17)
 have C7: ∀(b17:Nat) (v18:Value) (wS:World),Ke T w wS [Bm,B0,B1,B2,B3,B4,B5,B6,C5,B7,B8,B9,C0,C1,C2,C3,C4,.row v18 22 1 (if imE mp xs ps en sg=0 then aT sg sg.length else []).length (Kg aa (if imE mp xs ps en sg=0 then aT sg sg.length else [])),.blk b17 [(vN 0)] 3]→W 6 (bz 13 1087) (e6 [(7,(ptr b17 0)),(20,(ptr x 0)),(22,(.agg #[(aa mp),ev,pv,(.bool con)])),(25,(vN (if imE mp xs ps en sg=0 then aT sg sg.length else []).length))]) wS:=by
  intro b17 v18 wS HS
  rw [hW]
  refine wh1 6<|kH 6 O (az (Kd 86) O ((pU x k pk hx nv bv c pg hv he mb cn gs sl l mp ev pv xs ps con ((if imE mp xs ps en sg=0 then aT sg sg.length else []).length) _ _ (HS.part [9,10,11,12,13,14,15,16,0,1] O O) hR h9 hhe hn hm (kL h0 hB47) hff).mono (fun e w19 hq=>?_)))
  obtain ⟨rfl,hq19⟩:=hq
  refine ⟨_,rfl,?_⟩
  have H19:=HS.splice [9,10,11,12,13,14,15,16,0,1] [.blk x (xoC k sl) 146,Ent.bo k [(aa pk),hx,(ptr c 0),nv,bv,(aa 0)],.blk c [(aa pg),hv,(.map (some mb))] 196,Ent.ar hv 1 he.length (Kg aa he),.obj mb (mP .i64 (Kg Gr.me gs) cn),Ent.bs 199 Gr.cells Gr.b gs,Ent.dp grD.list gs,Ent.dp (bY 211).list sl,Ent.ar ev 2 xs.length (Kh xtc xs),Ent.ar pv 1 ps.length (Kg bA ps)] [] O O hq19 (am ae (bf (j:=1) O (am ae (bf (j:=3) O (am ae (am ae (bf (j:=6) O (bf (j:=7) O (bf (j:=8) O (bf (j:=9) O aI))))))))))
  refine ⟨⟨_,H19⟩,?_⟩
  exact xt 7 O (.tuple #[(vN 0),(vN 4)]) H19 (fun _ _ HX=>au O ⟨rfl,rfl⟩)<|xt 8 O (vN 0) H19 (fun _ _ HX=>ch O O ⟨rfl,rfl⟩)<|xt 9 O (vN 4) H19 (fun _ _ HX=>ch O O ⟨rfl,rfl⟩)<|bh hW (C6 b17 v18 w19 H19)
 have D2: ∀(v18:Value) (wS:World),Ke T w wS [Bm,B0,B1,B2,B3,B4,B5,B6,C5,B7,B8,B9,C0,C1,C2,C3,C4,.row v18 22 1 (if imE mp xs ps en sg=0 then aT sg sg.length else []).length (Kg aa (if imE mp xs ps en sg=0 then aT sg sg.length else []))]→W 7 (bz 13 63) (e6 [(20,(ptr x 0)),(22,(.agg #[(aa mp),ev,pv,(.bool con)])),(25,(vN (if imE mp xs ps en sg=0 then aT sg sg.length else []).length))]) wS:=by
  intro v18 wS HS
  rw [hW]
  refine wh2 6 10 ?_ ?_
  ·
   refine kH 6 O (az (Kd 86) O ((pU x k pk hx nv bv c pg hv he mb cn gs sl l mp ev pv xs ps con ((if imE mp xs ps en sg=0 then aT sg sg.length else []).length) _ _ (HS.part [9,10,11,12,13,14,15,16,0,1] O O) hR h9 hhe hn hm (kL h0 hB47) hff).mono (fun e w19 hq=>?_)))
   obtain ⟨rfl,hq19⟩:=hq
   refine ⟨_,rfl,?_⟩
   have H19:=HS.splice [9,10,11,12,13,14,15,16,0,1] [.blk x (xoC k sl) 146,Ent.bo k [(aa pk),hx,(ptr c 0),nv,bv,(aa 0)],.blk c [(aa pg),hv,(.map (some mb))] 196,Ent.ar hv 1 he.length (Kg aa he),.obj mb (mP .i64 (Kg Gr.me gs) cn),Ent.bs 199 Gr.cells Gr.b gs,Ent.dp grD.list gs,Ent.dp (bY 211).list sl,Ent.ar ev 2 xs.length (Kh xtc xs),Ent.ar pv 1 ps.length (Kg bA ps)] [] O O hq19 (am ae (bf (j:=1) O (am ae (bf (j:=3) O (am ae (am ae (bf (j:=6) O (bf (j:=7) O (bf (j:=8) O (bf (j:=9) O aI))))))))))
   refine ⟨⟨_,H19⟩,?_⟩
   exact xt 7 O (.tuple #[(vN 0),(vN 4)]) H19 (fun _ _ HX=>au O ⟨rfl,rfl⟩)<|xt 8 O (vN 0) H19 (fun _ _ HX=>ch O O ⟨rfl,rfl⟩)<|xt 9 O (vN 4) H19 (fun _ _ HX=>ch O O ⟨rfl,rfl⟩)<|bh hW (D1 v18 w19 H19)
  refine kH 10 O (bt HS Fa.I3 (fun b17 w17 H17=>(⟨⟨_,H17⟩,?_⟩)))
  exact bh hW (C7 b17 v18 w17 H17)
 have C8: ∀(b17:Nat) (v18:Value) (wS:World),Ke T w wS [Bm,B0,B1,B2,B3,B4,B5,B6,C5,B7,B8,B9,C0,C1,C2,C3,C4,.row v18 22 1 (if imE mp xs ps en sg=0 then aT sg sg.length else []).length (Kg aa (if imE mp xs ps en sg=0 then aT sg sg.length else [])),.blk b17 [(vN 0)] 3]→W 7 (bz 13 1055) (e6 [(7,(ptr b17 0)),(20,(ptr x 0)),(22,(.agg #[(aa mp),ev,pv,(.bool con)])),(24,v18)]) wS:=by
  intro b17 v18 wS HS
  rw [hW]
  refine wh1 5<|kH 5 O (bu A73 O (HS.arrR (i:=17) O) (⟨⟨_,HS⟩,?_⟩))
  exact bh hW (C7 b17 v18 wS HS)
 have D3: ∀(v18:Value) (wS:World),Ke T w wS [Bm,B0,B1,B2,B3,B4,B5,B6,C5,B7,B8,B9,C0,C1,C2,C3,C4,.row v18 22 1 (if imE mp xs ps en sg=0 then aT sg sg.length else []).length (Kg aa (if imE mp xs ps en sg=0 then aT sg sg.length else []))]→W 8 (bz 13 31) (e6 [(20,(ptr x 0)),(22,(.agg #[(aa mp),ev,pv,(.bool con)])),(24,v18)]) wS:=by
  intro v18 wS HS
  rw [hW]
  refine wh2 5 10 ?_ ?_
  ·
   refine kH 5 O (bu A73 O (HS.arrR (i:=17) O) (⟨⟨_,HS⟩,?_⟩))
   exact bh hW (D2 v18 wS HS)
  refine kH 10 O (bt HS Fa.I3 (fun b17 w17 H17=>(⟨⟨_,H17⟩,?_⟩)))
  exact bh hW (C8 b17 v18 w17 H17)
 have D4: ∀(b17:Nat) (wS:World),Ke T w wS [Bm,B0,B1,B2,B3,B4,B5,B6,C5,B7,B8,B9,C0,C1,C2,C3,C4,.blk b17 [(vN 0)] 3]→W 8 (bz 13 1039) (e6 [(7,(ptr b17 0)),(20,(ptr x 0)),(22,(.agg #[(aa mp),ev,pv,(.bool con)])),(23,(.agg #[(aa mp),ev,pv,(.bool con),(aa en),sv]))]) wS:=by
  intro b17 wS HS
  rw [hW]
  refine wh1 4<|kH 4 O (az (Kd 87) O ((jR mp _ _ _ xs ps con en sg _ (HS.arrO (i:=0) O) (HS.arrO (i:=1) O) (HS.arrO (i:=2) O) (by omega) (by omega) (by omega) hB (by omega)).mono (fun e w18 hq=>?_)))
  obtain ⟨v18,rfl,hq18⟩:=hq
  refine ⟨_,rfl,?_⟩
  have H18:=HS.splice [] [] [.row v18 22 1 (if imE mp xs ps en sg=0 then aT sg sg.length else []).length (Kg aa (if imE mp xs ps en sg=0 then aT sg sg.length else []))] O O hq18 (am ae aI)
  refine ⟨⟨_,H18⟩,?_⟩
  exact bh hW (C8 b17 v18 w18 (H18.sel [0,1,2,3,4,5,6,7,8,9,10,11,12,13,14,15,16,18,17] O O))
 have D5: ∀wS,Ke T w wS [Bm,B0,B1,B2,B3,B4,B5,B6,C5,B7,B8,B9,C0,C1,C2,C3,C4]→W 9 (bz 13 15) (e6 [(20,(ptr x 0)),(22,(.agg #[(aa mp),ev,pv,(.bool con)])),(23,(.agg #[(aa mp),ev,pv,(.bool con),(aa en),sv]))]) wS:=fun wS HS=>by
  rw [hW]
  refine wh2 4 10 ?_ ?_
  ·
   refine kH 4 O (az (Kd 87) O ((jR mp _ _ _ xs ps con en sg _ (HS.arrO (i:=0) O) (HS.arrO (i:=1) O) (HS.arrO (i:=2) O) (by omega) (by omega) (by omega) hB (by omega)).mono (fun e w18 hq=>?_)))
   obtain ⟨v18,rfl,hq18⟩:=hq
   refine ⟨_,rfl,?_⟩
   have H18:=HS.splice [] [] [.row v18 22 1 (if imE mp xs ps en sg=0 then aT sg sg.length else []).length (Kg aa (if imE mp xs ps en sg=0 then aT sg sg.length else []))] O O hq18 (am ae aI)
   refine ⟨⟨_,H18⟩,?_⟩
   exact bh hW (D3 v18 w18 H18)
  refine kH 10 O (bt HS Fa.I3 (fun b17 w17 H17=>(⟨⟨_,H17⟩,?_⟩)))
  exact bh hW (D4 b17 w17 H17)
 have hq:=D5 w7 H7
 rw [hW] at hq ⊢
 exact WH.cv hq
theorem zQ (x k:Nat) (pk:UInt32) (hx nv bv:Value) (c:Nat) (pg:UInt32) (hv:Value) (he:List UInt32) (mb cn:Nat) (gs:List Gr) (sl:List Slt) (l:List Gr) (mp:UInt32) (ev pv sv:Value) (xs:List Xt) (ps:List UInt16) (con:Bool) (en:UInt32) (sg:List Sg) (T:List Nat) (w:World) (H:Ke T w w [.blk x (xoC k sl) 146,Ent.bo k [(aa pk),hx,(ptr c 0),nv,bv,(aa 0)],.blk c [(aa pg),hv,(.map (some mb))] 196,Ent.ar hv 1 he.length (Kg aa he),.obj mb (mP .i64 (Kg Gr.me gs) cn),Ent.bs 199 Gr.cells Gr.b gs,Ent.dp grD.list gs,Ent.dp (bY 211).list sl,Ent.ar ev 2 xs.length (Kh xtc xs),Ent.ar pv 1 ps.length (Kg bA ps),Ent.ar sv 3 sg.length (Kh sgc sg)]) (hR:CapR gs cn l) (h9:sl.length=9) (hhe:he.length<2^32) (hn:xs.length<2^40) (hm:ps.length<2^40) (hk:sg.length<2^20) (hB: ∀x∈sg,x.b.length≤2^30) (h0:imE mp xs ps en sg=0) (hff:ffS sl≠9) (hw:(dt pg he l ((ffS sl:Nat):Int) mp xs ps (Kl (if imE mp xs ps en sg=0 then aT sg sg.length else []).length))≠0) :
  Calls Kf 40 #[(ptr x 0),(.agg #[(aa mp),ev,pv,(.bool con),(aa en),sv])] w (fun e w'=> ∃cn' gs',e=.returned (.tuple #[vN 0,vN (dt pg he l ((ffS sl:Nat):Int) mp xs ps (Kl (if imE mp xs ps en sg=0 then aT sg sg.length else []).length))])∧CapR gs' cn' (dQ pg he l ((ffS sl:Nat):Int) mp xs ps con (Kl (if imE mp xs ps en sg=0 then aT sg sg.length else []).length))∧DpTo w gs gs'∧Ke T w w' [.blk x (xoC k sl) 146,Ent.bo k [(aa pk),hx,(ptr c 0),nv,bv,(aa 0)],.blk c [(aa pg),hv,(.map (some mb))] 196,Ent.ar hv 1 he.length (Kg aa he),.obj mb (mP .i64 (Kg Gr.me gs') cn'),Ent.bs 199 Gr.cells Gr.b gs',Ent.dp grD.list gs',Ent.dp (bY 211).list sl,Ent.ar ev 2 xs.length (Kh xtc xs),Ent.ar pv 1 ps.length (Kg bA ps),Ent.ar sv 3 sg.length (Kh sgc sg)]):=by
 refine tI Tryz.func40 O O ?_
 have hB47: ∀x∈sg,x.b.length≤2^47:=fun x hx=>Nat.le_trans (hB x hx) (by decide)
 refine ws<|wo (bK H O O (fun b1 w1 H1=>(wo (bK H1 O O (fun b2 w2 H2=>(wa O<|wo (bt H2 Fa.I25 (fun b3 w3 H3=>(wn<|ap<|ws<|wo (aj O (H3.cell (i:=11) O O) A47 O<|wo (bG Fa.gE O O<|wn<|bF O O<|aA<|ao<|ws<|wo (aM (vs:=[_,_,_,_,_,_]) O (H3.cells (i:=12) O O) A43 O Fa.I43 O<|wo (az (Kd 32) O ((lJ mp _ _ _ xs ps con en sg _ (H3.arrO (i:=8) O) (H3.arrO (i:=9) O) (H3.arrO (i:=10) O) (by omega) (by omega) (by omega) hB47 h0).mono (fun e w4 hq=>?_)))))))))))))))
 obtain ⟨s4,mb4,c4,qs4,rfl,hr4,hq4⟩:=hq
 refine ⟨_,rfl,?_⟩
 have H4:=H3.splice [] [] [.blk s4 [(.map (some mb4))] 165,.obj mb4 (mP .u32 (Kg Pg.me qs4) c4),Ent.bs 211 Pg.cells Pg.b qs4] O O hq4 (am ae (am ae (am ae aI)))
 refine wm O<|we O O<|we O O<|wa O<|wo (bC (i:=13) H4 O O O O O Fa.I25 (fun w5 H5=>(wn<|ap<|ws<|wo (aj O (H5.cell (i:=13) O O) A25 O ?_))))
 have H6:=H5.sel [8,9,10,11,12,14,15,16,13,0,1,2,3,4,5,6,7] O O
 refine wo (bI (b:=0) O O<|wn<|bF O (by decide)<|aA<|ao<|ap<|WC.held 13 O Fa.M H6 (fun w'=> ∃L',Ke T w w' ([Ent.ar ev 2 xs.length (Kh xtc xs),Ent.ar pv 1 ps.length (Kg bA ps),Ent.ar sv 3 sg.length (Kh sgc sg),.blk b1 [(ptr x 0)] 47,.blk b2 [(aa mp),ev,pv,(.bool con),(aa en),sv] 43,.blk s4 [(.map (some mb4))] 165,.obj mb4 (mP .u32 (Kg Pg.me qs4) c4),Ent.bs 211 Pg.cells Pg.b qs4]++L')) ?_)
 intro w7 H7
 refine xt 0 O (ptr x 0) H7 (fun _ _ HX=>aj O (HX.cell (i:=3) O O) A47 O ⟨rfl,rfl⟩)<|xt 1 O (ptr b2 0) H7 (fun _ _ HX=>ab O Fa.cZ ⟨rfl,rfl⟩)<|xt 2 O (.agg #[(aa mp),ev,pv,(.bool con)]) H7 (fun _ _ HX=>aM (vs:=[_,_,_,_]) O (HX.cells (i:=4) O O) A40 O Fa.I40 O ⟨rfl,rfl⟩)<|xt 3 O (.agg #[(aa mp),ev,pv,(.bool con),(aa en),sv]) H7 (fun _ _ HX=>aM (vs:=[_,_,_,_,_,_]) O (HX.cells (i:=4) O O) A43 O Fa.I43 O ⟨rfl,rfl⟩)<|dh (fun W hW=>?_)
 let e6:List (Nat × Value)→List (Nat × Value):=fun r=>(0,(ptr x 0))::(1,(.agg #[(aa mp),ev,pv,(.bool con),(aa en),sv]))::(2,(ptr b1 0))::(3,(ptr b2 0))::(4,(vN 0))::(5,(ptr b3 0))::(6,(ptr s4 0))::(9,(ptr x 0))::(10,(.bool false))::(11,(.tuple #[(ptr s4 0),(vN 0)]))::(12,(.agg #[(aa mp),ev,pv,(.bool con),(aa en),sv]))::(13,(.tuple #[(ptr s4 0),(vN 0)]))::(14,(ptr s4 0))::(15,(vN 0))::(16,(vN 0))::(17,(.bool (decide (0≠0))))::r
 let Bm:Ent:=Ent.ar ev 2 xs.length (Kh xtc xs)
 let B0:Ent:=Ent.ar pv 1 ps.length (Kg bA ps)
 let B1:Ent:=Ent.ar sv 3 sg.length (Kh sgc sg)
 let B2:Ent:=.blk b1 [(ptr x 0)] 47
 let B3:Ent:=.blk b2 [(aa mp),ev,pv,(.bool con),(aa en),sv] 43
 let B4:Ent:=.blk s4 [(.map (some mb4))] 165
 let B5:Ent:=.obj mb4 (mP .u32 (Kg Pg.me qs4) c4)
 let B6:Ent:=Ent.bs 211 Pg.cells Pg.b qs4
 let C2:Ent:=.blk b3 [(vN 0)] 25
 let B7:Ent:=.blk x (xoC k sl) 146
 let B8:Ent:=Ent.bo k [(aa pk),hx,(ptr c 0),nv,bv,(aa 0)]
 let B9:Ent:=.blk c [(aa pg),hv,(.map (some mb))] 196
 let C0:Ent:=Ent.ar hv 1 he.length (Kg aa he)
 let C3:Ent:=.obj mb (mP .i64 (Kg Gr.me gs) cn)
 let C4:Ent:=Ent.bs 199 Gr.cells Gr.b gs
 let C5:Ent:=Ent.dp grD.list gs
 let C1:Ent:=Ent.dp (bY 211).list sl
 have C9: ∀(b18:Nat) (gs17:List Gr) (cn17:Nat) (v19:Value) (wS:World),Ke T w wS [Bm,B0,B1,B2,B3,B4,B5,B6,.blk b3 [(vN (dt pg he l ((ffS sl:Nat):Int) mp xs ps (Kl (if imE mp xs ps en sg=0 then aT sg sg.length else []).length)))] 25,B7,B8,B9,C0,.obj mb (mP .i64 (Kg Gr.me gs17) cn17),Ent.bs 199 Gr.cells Gr.b gs17,Ent.dp grD.list gs17,C1,.row v19 22 1 (if imE mp xs ps en sg=0 then aT sg sg.length else []).length (Kg aa (if imE mp xs ps en sg=0 then aT sg sg.length else [])),Ent.fact (CapR gs17 cn17 (dQ pg he l ((ffS sl:Nat):Int) mp xs ps con (Kl (if imE mp xs ps en sg=0 then aT sg sg.length else []).length))∧DpTo w gs gs17),.blk b18 [(vN 0)] 3]→W 0 (bz 13 8191) (e6 [(7,(ptr b18 0))]) wS:=by
  intro b18 gs17 cn17 v19 wS HS
  rw [hW]
  refine WH.done (by kernel_rfl)<|ao<|ap<|ws ?_
  have hiF:=HS.fact (i:=18) O
  refine wo (aj O (HS.cell (i:=8) O O) A25 O<|wo (bI (b:=0) O O<|wn<|bX O (decide_eq_true hw)<|ap<|bn 2 Fa.M HS (oh (fun w1 H1=>aj O (H1.cell (i:=8) O O) A25 O zr)<|ah O  bD) (by kernel_rfl) ?_))
  intro β9 w9 H9
  exact wo (bC (i:=8) H9 O O O O O Fa.I25 (fun w10 H10=>(wn<|aC<|aq<|WQ.outD0 (.tmp O (.cell O (jF (H10.cell (i:=8) O O) A25 O) .nil)) (⟨_,_,rfl,hiF.1,hiF.2,H10.sel [9,10,11,12,13,14,15,16,0,1,2] O O⟩))))
 have D0: ∀(b18:Nat) (gs17:List Gr) (cn17:Nat) (v19:Value) (wS:World),Ke T w wS [Bm,B0,B1,B2,B3,B4,B5,B6,C2,B7,B8,B9,C0,.obj mb (mP .i64 (Kg Gr.me gs17) cn17),Ent.bs 199 Gr.cells Gr.b gs17,Ent.dp grD.list gs17,C1,.row v19 22 1 (if imE mp xs ps en sg=0 then aT sg sg.length else []).length (Kg aa (if imE mp xs ps en sg=0 then aT sg sg.length else [])),Ent.fact (CapR gs17 cn17 (dQ pg he l ((ffS sl:Nat):Int) mp xs ps con (Kl (if imE mp xs ps en sg=0 then aT sg sg.length else []).length))∧DpTo w gs gs17),.blk b18 [(vN 0)] 3]→W 1 (bz 13 4095) (e6 [(7,(ptr b18 0)),(28,(vN (dt pg he l ((ffS sl:Nat):Int) mp xs ps (Kl (if imE mp xs ps en sg=0 then aT sg sg.length else []).length))))]) wS:=by
  intro b18 gs17 cn17 v19 wS HS
  rw [hW]
  refine wh1 12<|kH 12 O (bC (i:=8) HS O O O O O Fa.I25 (fun w20 H20=>(⟨⟨_,H20⟩,?_⟩)))
  exact bh hW (C9 b18 gs17 cn17 v19 w20 H20)
 have C6: ∀(b18:Nat) (gs17:List Gr) (cn17:Nat) (v19:Value) (wS:World),Ke T w wS [Bm,B0,B1,B2,B3,B4,B5,B6,C2,B7,B8,B9,C0,.obj mb (mP .i64 (Kg Gr.me gs17) cn17),Ent.bs 199 Gr.cells Gr.b gs17,Ent.dp grD.list gs17,C1,.row v19 22 1 (if imE mp xs ps en sg=0 then aT sg sg.length else []).length (Kg aa (if imE mp xs ps en sg=0 then aT sg sg.length else [])),Ent.fact (CapR gs17 cn17 (dQ pg he l ((ffS sl:Nat):Int) mp xs ps con (Kl (if imE mp xs ps en sg=0 then aT sg sg.length else []).length))∧DpTo w gs gs17),.blk b18 [(vN 0)] 3]→W 2 (bz 13 2047) (e6 [(7,(ptr b18 0)),(27,(vN 0)),(28,(vN (dt pg he l ((ffS sl:Nat):Int) mp xs ps (Kl (if imE mp xs ps en sg=0 then aT sg sg.length else []).length))))]) wS:=by
  intro b18 gs17 cn17 v19 wS HS
  rw [hW]
  refine wh1 11<|kH 11 O (bC (i:=19) HS O O O O O Fa.I3 (fun w21 H21=>(⟨⟨_,H21⟩,?_⟩)))
  exact bh hW (D0 b18 gs17 cn17 v19 w21 H21)
 have D1: ∀(gs17:List Gr) (cn17:Nat) (v19:Value) (wS:World),Ke T w wS [Bm,B0,B1,B2,B3,B4,B5,B6,C2,B7,B8,B9,C0,.obj mb (mP .i64 (Kg Gr.me gs17) cn17),Ent.bs 199 Gr.cells Gr.b gs17,Ent.dp grD.list gs17,C1,.row v19 22 1 (if imE mp xs ps en sg=0 then aT sg sg.length else []).length (Kg aa (if imE mp xs ps en sg=0 then aT sg sg.length else [])),Ent.fact (CapR gs17 cn17 (dQ pg he l ((ffS sl:Nat):Int) mp xs ps con (Kl (if imE mp xs ps en sg=0 then aT sg sg.length else []).length))∧DpTo w gs gs17)]→W 3 (bz 13 1023) (e6 [(27,(vN 0)),(28,(vN (dt pg he l ((ffS sl:Nat):Int) mp xs ps (Kl (if imE mp xs ps en sg=0 then aT sg sg.length else []).length))))]) wS:=by
  intro gs17 cn17 v19 wS HS
  rw [hW]
  refine wh1 10<|kH 10 O (bt HS Fa.I3 (fun b18 w18 H18=>(⟨⟨_,H18⟩,?_⟩)))
  exact bh hW (C6 b18 gs17 cn17 v19 w18 H18)
 have C7: ∀(b18:Nat) (v19:Value) (wS:World),Ke T w wS [Bm,B0,B1,B2,B3,B4,B5,B6,C2,B7,B8,B9,C0,C3,C4,C5,C1,.row v19 22 1 (if imE mp xs ps en sg=0 then aT sg sg.length else []).length (Kg aa (if imE mp xs ps en sg=0 then aT sg sg.length else [])),.blk b18 [(vN 0)] 3]→W 6 (bz 13 1087) (e6 [(7,(ptr b18 0)),(20,(ptr x 0)),(22,(.agg #[(aa mp),ev,pv,(.bool con)])),(25,(vN (if imE mp xs ps en sg=0 then aT sg sg.length else []).length))]) wS:=by
  intro b18 v19 wS HS
  rw [hW]
  refine wh1 6<|kH 6 O (az (Kd 86) O ((tU x k pk hx nv bv c pg hv he mb cn gs sl l mp ev pv xs ps con ((if imE mp xs ps en sg=0 then aT sg sg.length else []).length) _ _ (HS.part [9,10,11,12,13,14,15,16,0,1] O O) hR h9 hhe hn hm (kL h0 hB47) hff hw).mono (fun e w17 hq=>?_)))
  obtain ⟨cn17,gs17,rfl,hi17,hd17,hq17⟩:=hq
  refine ⟨_,rfl,?_⟩
  have H17:=HS.splice [9,10,11,12,13,14,15,16,0,1] [.blk x (xoC k sl) 146,Ent.bo k [(aa pk),hx,(ptr c 0),nv,bv,(aa 0)],.blk c [(aa pg),hv,(.map (some mb))] 196,Ent.ar hv 1 he.length (Kg aa he),.obj mb (mP .i64 (Kg Gr.me gs17) cn17),Ent.bs 199 Gr.cells Gr.b gs17,Ent.dp grD.list gs17,Ent.dp (bY 211).list sl,Ent.ar ev 2 xs.length (Kh xtc xs),Ent.ar pv 1 ps.length (Kg bA ps)] [] O O hq17 (am ae (bf (j:=1) O (am ae (bf (j:=3) O (am ae (am ae (Fits.dpTo 6 O hd17 (bf (j:=7) O (bf (j:=8) O (bf (j:=9) O aI))))))))))
  have H17f:=H17.addFact (p:=CapR gs17 cn17 (dQ pg he l ((ffS sl:Nat):Int) mp xs ps con (Kl (if imE mp xs ps en sg=0 then aT sg sg.length else []).length))∧DpTo w gs gs17) ⟨hi17,hd17.mono HS.fr.size⟩
  refine ⟨⟨_,H17f⟩,?_⟩
  exact xt 7 O (.tuple #[(vN 0),(vN (dt pg he l ((ffS sl:Nat):Int) mp xs ps (Kl (if imE mp xs ps en sg=0 then aT sg sg.length else []).length)))]) H17f (fun _ _ HX=>au O ⟨rfl,rfl⟩)<|xt 8 O (vN 0) H17f (fun _ _ HX=>ch O O ⟨rfl,rfl⟩)<|xt 9 O (vN (dt pg he l ((ffS sl:Nat):Int) mp xs ps (Kl (if imE mp xs ps en sg=0 then aT sg sg.length else []).length))) H17f (fun _ _ HX=>ch O O ⟨rfl,rfl⟩)<|bh hW (C6 b18 gs17 cn17 v19 w17 (H17f.sel [0,1,2,3,4,5,6,7,8,9,10,11,12,13,14,15,16,17,19,18] O O))
 have D2: ∀(v19:Value) (wS:World),Ke T w wS [Bm,B0,B1,B2,B3,B4,B5,B6,C2,B7,B8,B9,C0,C3,C4,C5,C1,.row v19 22 1 (if imE mp xs ps en sg=0 then aT sg sg.length else []).length (Kg aa (if imE mp xs ps en sg=0 then aT sg sg.length else []))]→W 7 (bz 13 63) (e6 [(20,(ptr x 0)),(22,(.agg #[(aa mp),ev,pv,(.bool con)])),(25,(vN (if imE mp xs ps en sg=0 then aT sg sg.length else []).length))]) wS:=by
  intro v19 wS HS
  rw [hW]
  refine wh2 6 10 ?_ ?_
  ·
   refine kH 6 O (az (Kd 86) O ((tU x k pk hx nv bv c pg hv he mb cn gs sl l mp ev pv xs ps con ((if imE mp xs ps en sg=0 then aT sg sg.length else []).length) _ _ (HS.part [9,10,11,12,13,14,15,16,0,1] O O) hR h9 hhe hn hm (kL h0 hB47) hff hw).mono (fun e w17 hq=>?_)))
   obtain ⟨cn17,gs17,rfl,hi17,hd17,hq17⟩:=hq
   refine ⟨_,rfl,?_⟩
   have H17:=HS.splice [9,10,11,12,13,14,15,16,0,1] [.blk x (xoC k sl) 146,Ent.bo k [(aa pk),hx,(ptr c 0),nv,bv,(aa 0)],.blk c [(aa pg),hv,(.map (some mb))] 196,Ent.ar hv 1 he.length (Kg aa he),.obj mb (mP .i64 (Kg Gr.me gs17) cn17),Ent.bs 199 Gr.cells Gr.b gs17,Ent.dp grD.list gs17,Ent.dp (bY 211).list sl,Ent.ar ev 2 xs.length (Kh xtc xs),Ent.ar pv 1 ps.length (Kg bA ps)] [] O O hq17 (am ae (bf (j:=1) O (am ae (bf (j:=3) O (am ae (am ae (Fits.dpTo 6 O hd17 (bf (j:=7) O (bf (j:=8) O (bf (j:=9) O aI))))))))))
   have H17f:=H17.addFact (p:=CapR gs17 cn17 (dQ pg he l ((ffS sl:Nat):Int) mp xs ps con (Kl (if imE mp xs ps en sg=0 then aT sg sg.length else []).length))∧DpTo w gs gs17) ⟨hi17,hd17.mono HS.fr.size⟩
   refine ⟨⟨_,H17f⟩,?_⟩
   exact xt 7 O (.tuple #[(vN 0),(vN (dt pg he l ((ffS sl:Nat):Int) mp xs ps (Kl (if imE mp xs ps en sg=0 then aT sg sg.length else []).length)))]) H17f (fun _ _ HX=>au O ⟨rfl,rfl⟩)<|xt 8 O (vN 0) H17f (fun _ _ HX=>ch O O ⟨rfl,rfl⟩)<|xt 9 O (vN (dt pg he l ((ffS sl:Nat):Int) mp xs ps (Kl (if imE mp xs ps en sg=0 then aT sg sg.length else []).length))) H17f (fun _ _ HX=>ch O O ⟨rfl,rfl⟩)<|bh hW (D1 gs17 cn17 v19 w17 H17f)
  refine kH 10 O (bt HS Fa.I3 (fun b18 w18 H18=>(⟨⟨_,H18⟩,?_⟩)))
  exact bh hW (C7 b18 v19 w18 H18)
 have C8: ∀(b18:Nat) (v19:Value) (wS:World),Ke T w wS [Bm,B0,B1,B2,B3,B4,B5,B6,C2,B7,B8,B9,C0,C3,C4,C5,C1,.row v19 22 1 (if imE mp xs ps en sg=0 then aT sg sg.length else []).length (Kg aa (if imE mp xs ps en sg=0 then aT sg sg.length else [])),.blk b18 [(vN 0)] 3]→W 7 (bz 13 1055) (e6 [(7,(ptr b18 0)),(20,(ptr x 0)),(22,(.agg #[(aa mp),ev,pv,(.bool con)])),(24,v19)]) wS:=by
  intro b18 v19 wS HS
  rw [hW]
  refine wh1 5<|kH 5 O (bu A73 O (HS.arrR (i:=17) O) (⟨⟨_,HS⟩,?_⟩))
  exact bh hW (C7 b18 v19 wS HS)
 have D3: ∀(v19:Value) (wS:World),Ke T w wS [Bm,B0,B1,B2,B3,B4,B5,B6,C2,B7,B8,B9,C0,C3,C4,C5,C1,.row v19 22 1 (if imE mp xs ps en sg=0 then aT sg sg.length else []).length (Kg aa (if imE mp xs ps en sg=0 then aT sg sg.length else []))]→W 8 (bz 13 31) (e6 [(20,(ptr x 0)),(22,(.agg #[(aa mp),ev,pv,(.bool con)])),(24,v19)]) wS:=by
  intro v19 wS HS
  rw [hW]
  refine wh2 5 10 ?_ ?_
  ·
   refine kH 5 O (bu A73 O (HS.arrR (i:=17) O) (⟨⟨_,HS⟩,?_⟩))
   exact bh hW (D2 v19 wS HS)
  refine kH 10 O (bt HS Fa.I3 (fun b18 w18 H18=>(⟨⟨_,H18⟩,?_⟩)))
  exact bh hW (C8 b18 v19 w18 H18)
 have D4: ∀(b18:Nat) (wS:World),Ke T w wS [Bm,B0,B1,B2,B3,B4,B5,B6,C2,B7,B8,B9,C0,C3,C4,C5,C1,.blk b18 [(vN 0)] 3]→W 8 (bz 13 1039) (e6 [(7,(ptr b18 0)),(20,(ptr x 0)),(22,(.agg #[(aa mp),ev,pv,(.bool con)])),(23,(.agg #[(aa mp),ev,pv,(.bool con),(aa en),sv]))]) wS:=by
  intro b18 wS HS
  rw [hW]
  refine wh1 4<|kH 4 O (az (Kd 87) O ((jR mp _ _ _ xs ps con en sg _ (HS.arrO (i:=0) O) (HS.arrO (i:=1) O) (HS.arrO (i:=2) O) (by omega) (by omega) (by omega) hB (by omega)).mono (fun e w19 hq=>?_)))
  obtain ⟨v19,rfl,hq19⟩:=hq
  refine ⟨_,rfl,?_⟩
  have H19:=HS.splice [] [] [.row v19 22 1 (if imE mp xs ps en sg=0 then aT sg sg.length else []).length (Kg aa (if imE mp xs ps en sg=0 then aT sg sg.length else []))] O O hq19 (am ae aI)
  refine ⟨⟨_,H19⟩,?_⟩
  exact bh hW (C8 b18 v19 w19 (H19.sel [0,1,2,3,4,5,6,7,8,9,10,11,12,13,14,15,16,18,17] O O))
 have D5: ∀wS,Ke T w wS [Bm,B0,B1,B2,B3,B4,B5,B6,C2,B7,B8,B9,C0,C3,C4,C5,C1]→W 9 (bz 13 15) (e6 [(20,(ptr x 0)),(22,(.agg #[(aa mp),ev,pv,(.bool con)])),(23,(.agg #[(aa mp),ev,pv,(.bool con),(aa en),sv]))]) wS:=fun wS HS=>by
  rw [hW]
  refine wh2 4 10 ?_ ?_
  ·
   refine kH 4 O (az (Kd 87) O ((jR mp _ _ _ xs ps con en sg _ (HS.arrO (i:=0) O) (HS.arrO (i:=1) O) (HS.arrO (i:=2) O) (by omega) (by omega) (by omega) hB (by omega)).mono (fun e w19 hq=>?_)))
   obtain ⟨v19,rfl,hq19⟩:=hq
   refine ⟨_,rfl,?_⟩
   have H19:=HS.splice [] [] [.row v19 22 1 (if imE mp xs ps en sg=0 then aT sg sg.length else []).length (Kg aa (if imE mp xs ps en sg=0 then aT sg sg.length else []))] O O hq19 (am ae aI)
   refine ⟨⟨_,H19⟩,?_⟩
   exact bh hW (D3 v19 w19 H19)
  refine kH 10 O (bt HS Fa.I3 (fun b18 w18 H18=>(⟨⟨_,H18⟩,?_⟩)))
  exact bh hW (D4 b18 w18 H18)
 have hq:=D5 w7 H7
 rw [hW] at hq ⊢
 exact WH.cv hq
theorem xS (x k:Nat) (pk:UInt32) (hx nv bv:Value) (c:Nat) (pg:UInt32) (hv:Value) (he:List UInt32) (mb cn:Nat) (gs:List Gr) (sl:List Slt) (l:List Gr) (mp:UInt32) (ev pv sv:Value) (xs:List Xt) (ps:List UInt16) (con:Bool) (en:UInt32) (sg:List Sg) (T:List Nat) (w:World) (H:Ke T w w [.blk x (xoC k sl) 146,Ent.bo k [(aa pk),hx,(ptr c 0),nv,bv,(aa 0)],.blk c [(aa pg),hv,(.map (some mb))] 196,Ent.ar hv 1 he.length (Kg aa he),.obj mb (mP .i64 (Kg Gr.me gs) cn),Ent.bs 199 Gr.cells Gr.b gs,Ent.dp grD.list gs,Ent.dp (bY 211).list sl,Ent.ar ev 2 xs.length (Kh xtc xs),Ent.ar pv 1 ps.length (Kg bA ps),Ent.ar sv 3 sg.length (Kh sgc sg)]) (hR:CapR gs cn l) (h9:sl.length=9) (hhe:he.length<2^32) (hn:xs.length<2^40) (hm:ps.length<2^40) (hk:sg.length<2^20) (hB: ∀x∈sg,x.b.length≤2^30) (h0:imE mp xs ps en sg=0) (hff:ffS sl≠9) (hw:(dt pg he l ((ffS sl:Nat):Int) mp xs ps (Kl (if imE mp xs ps en sg=0 then aT sg sg.length else []).length))=0) :
  Calls Kf 40 #[(ptr x 0),(.agg #[(aa mp),ev,pv,(.bool con),(aa en),sv])] w (fun e w'=> ∃cn' gs' a,e=.returned (.tuple #[vN (ffS sl),vN 0])∧CapR gs' cn' (dQ pg he l ((ffS sl:Nat):Int) mp xs ps con (Kl (if imE mp xs ps en sg=0 then aT sg sg.length else []).length))∧(MEok (Kg Pg.me a.ps) a.cn∧(a.ps.map Pg.bare).Perm (dD sg sg.length)∧a.num=(ffS sl)∧a.pc=en)∧DpTo w gs gs'∧SltTo 211 w sl (sl.set (ffS sl) ⟨true,(if imE mp xs ps en sg=0 then aT sg sg.length else []).length,some a⟩)∧Ke T w w' [.blk x (xoC k (sl.set (ffS sl) ⟨true,(if imE mp xs ps en sg=0 then aT sg sg.length else []).length,some a⟩)) 146,Ent.bo k [(aa pk),hx,(ptr c 0),nv,bv,(aa 0)],.blk c [(aa pg),hv,(.map (some mb))] 196,Ent.ar hv 1 he.length (Kg aa he),.obj mb (mP .i64 (Kg Gr.me gs') cn'),Ent.bs 199 Gr.cells Gr.b gs',Ent.dp grD.list gs',Ent.dp (bY 211).list (sl.set (ffS sl) ⟨true,(if imE mp xs ps en sg=0 then aT sg sg.length else []).length,some a⟩),Ent.ar ev 2 xs.length (Kh xtc xs),Ent.ar pv 1 ps.length (Kg bA ps),Ent.ar sv 3 sg.length (Kh sgc sg)]):=by
 refine tI Tryz.func40 O O ?_
 have hB47: ∀x∈sg,x.b.length≤2^47:=fun x hx=>Nat.le_trans (hB x hx) (by decide)
 have hf9:ffS sl<9:=Nat.lt_of_le_of_ne (eP h9) hff
 refine ws<|wo (bK H O O (fun b1 w1 H1=>(wo (bK H1 O O (fun b2 w2 H2=>(wa O<|wo (bt H2 Fa.I25 (fun b3 w3 H3=>(wn<|ap<|ws<|wo (aj O (H3.cell (i:=11) O O) A47 O<|wo (bG Fa.gE O O<|wn<|bF O O<|aA<|ao<|ws<|wo (aM (vs:=[_,_,_,_,_,_]) O (H3.cells (i:=12) O O) A43 O Fa.I43 O<|wo (az (Kd 32) O ((lJ mp _ _ _ xs ps con en sg _ (H3.arrO (i:=8) O) (H3.arrO (i:=9) O) (H3.arrO (i:=10) O) (by omega) (by omega) (by omega) hB47 h0).mono (fun e w4 hq=>?_)))))))))))))))
 obtain ⟨s4,mb4,c4,qs4,rfl,hr4,hq4⟩:=hq
 refine ⟨_,rfl,?_⟩
 have H4:=H3.splice [] [] [.blk s4 [(.map (some mb4))] 165,.obj mb4 (mP .u32 (Kg Pg.me qs4) c4),Ent.bs 211 Pg.cells Pg.b qs4] O O hq4 (am ae (am ae (am ae aI)))
 refine wm O<|we O O<|we O O<|wa O<|wo (bC (i:=13) H4 O O O O O Fa.I25 (fun w5 H5=>(wn<|ap<|ws<|wo (aj O (H5.cell (i:=13) O O) A25 O ?_))))
 have H6:Ke T w w5 [Ent.ar ev 2 xs.length (Kh xtc xs),Ent.ar pv 1 ps.length (Kg bA ps),Ent.ar sv 3 sg.length (Kh sgc sg),.blk b1 [(ptr x 0)] 47,.blk b2 [(aa mp),ev,pv,(.bool con),(aa en),sv] 43,.blk s4 [(.map (some mb4))] 165,.obj mb4 (mP .u32 (Kg Pg.me qs4) c4),Ent.bs 211 Pg.cells Pg.b qs4,.blk b3 [(vN 0)] 25,.blk x (xoC k sl) 146,Ent.bo k [(aa pk),hx,(ptr c 0),nv,bv,(aa 0)],.blk c [(aa pg),hv,(.map (some mb))] 196,Ent.ar hv 1 he.length (Kg aa he),.obj mb (mP .i64 (Kg Gr.me gs) cn),Ent.bs 199 Gr.cells Gr.b gs,Ent.dp grD.list gs,Ent.dp (bY 211).list sl]:=H5.sel [8,9,10,11,12,14,15,16,13,0,1,2,3,4,5,6,7] O O
 refine wo (bI (b:=0) O O<|wn<|bF O (by decide)<|aA<|ao<|ap<|WC.held 13 O Fa.M H6 (fun w'=> ∃L',Ke T w w' ([Ent.ar ev 2 xs.length (Kh xtc xs),Ent.ar pv 1 ps.length (Kg bA ps),Ent.ar sv 3 sg.length (Kh sgc sg),.blk b1 [(ptr x 0)] 47,.blk b2 [(aa mp),ev,pv,(.bool con),(aa en),sv] 43,.blk s4 [(.map (some mb4))] 165,.obj mb4 (mP .u32 (Kg Pg.me qs4) c4),Ent.bs 211 Pg.cells Pg.b qs4]++L')) ?_)
 intro w7 H7
 refine xt 0 O (ptr x 0) H7 (fun _ _ HX=>aj O (HX.cell (i:=3) O O) A47 O ⟨rfl,rfl⟩)<|xt 1 O (ptr b2 0) H7 (fun _ _ HX=>ab O Fa.cZ ⟨rfl,rfl⟩)<|xt 2 O (.agg #[(aa mp),ev,pv,(.bool con)]) H7 (fun _ _ HX=>aM (vs:=[_,_,_,_]) O (HX.cells (i:=4) O O) A40 O Fa.I40 O ⟨rfl,rfl⟩)<|xt 3 O (.agg #[(aa mp),ev,pv,(.bool con),(aa en),sv]) H7 (fun _ _ HX=>aM (vs:=[_,_,_,_,_,_]) O (HX.cells (i:=4) O O) A43 O Fa.I43 O ⟨rfl,rfl⟩)<|dh (fun W hW=>?_)
 let e6:List (Nat × Value)→List (Nat × Value):=fun r=>(0,(ptr x 0))::(1,(.agg #[(aa mp),ev,pv,(.bool con),(aa en),sv]))::(2,(ptr b1 0))::(3,(ptr b2 0))::(4,(vN 0))::(5,(ptr b3 0))::(6,(ptr s4 0))::(9,(ptr x 0))::(10,(.bool false))::(11,(.tuple #[(ptr s4 0),(vN 0)]))::(12,(.agg #[(aa mp),ev,pv,(.bool con),(aa en),sv]))::(13,(.tuple #[(ptr s4 0),(vN 0)]))::(14,(ptr s4 0))::(15,(vN 0))::(16,(vN 0))::(17,(.bool (decide (0≠0))))::r
 let Bm:Ent:=Ent.ar ev 2 xs.length (Kh xtc xs)
 let B0:Ent:=Ent.ar pv 1 ps.length (Kg bA ps)
 let B1:Ent:=Ent.ar sv 3 sg.length (Kh sgc sg)
 let B2:Ent:=.blk b1 [(ptr x 0)] 47
 let B3:Ent:=.blk b2 [(aa mp),ev,pv,(.bool con),(aa en),sv] 43
 let B4:Ent:=.blk s4 [(.map (some mb4))] 165
 let B5:Ent:=.obj mb4 (mP .u32 (Kg Pg.me qs4) c4)
 let B6:Ent:=Ent.bs 211 Pg.cells Pg.b qs4
 let B7:Ent:=.blk b3 [(vN 0)] 25
 let C1:Ent:=.blk x (xoC k sl) 146
 let B8:Ent:=Ent.bo k [(aa pk),hx,(ptr c 0),nv,bv,(aa 0)]
 let B9:Ent:=.blk c [(aa pg),hv,(.map (some mb))] 196
 let C0:Ent:=Ent.ar hv 1 he.length (Kg aa he)
 let C2:Ent:=.obj mb (mP .i64 (Kg Gr.me gs) cn)
 let C3:Ent:=Ent.bs 199 Gr.cells Gr.b gs
 let C4:Ent:=Ent.dp grD.list gs
 let C5:Ent:=Ent.dp (bY 211).list sl
 let C6:Ent:=.blk x (xoC k (sl.set (ffS sl) (Slt.mk true ((if imE mp xs ps en sg=0 then aT sg sg.length else []).length) none))) 146
 let C7:Ent:=Ent.dp (bY 211).list (sl.set (ffS sl) (Slt.mk true ((if imE mp xs ps en sg=0 then aT sg sg.length else []).length) none))
 have D1: ∀(b20:Nat) (gs19:List Gr) (cn19:Nat) (v21:Value) (wS:World),Ke T w wS [Bm,B0,B1,B2,B3,B4,B5,B6,B7,C6,B8,B9,C0,.obj mb (mP .i64 (Kg Gr.me gs19) cn19),Ent.bs 199 Gr.cells Gr.b gs19,Ent.dp grD.list gs19,C7,.row v21 22 1 (if imE mp xs ps en sg=0 then aT sg sg.length else []).length (Kg aa (if imE mp xs ps en sg=0 then aT sg sg.length else [])),Ent.fact (CapR gs19 cn19 (dQ pg he l ((ffS sl:Nat):Int) mp xs ps con (Kl (if imE mp xs ps en sg=0 then aT sg sg.length else []).length))∧DpTo w gs gs19),.blk b20 [(vN (ffS sl))] 3]→W 0 (bz 13 8191) (e6 [(7,(ptr b20 0))]) wS:=by
  intro b20 gs19 cn19 v21 wS HS
  rw [hW]
  refine WH.done (by kernel_rfl)<|ao<|ap<|ws ?_
  have hiF:=HS.fact (i:=18) O
  refine wo (aj O (HS.cell (i:=8) O O) A25 O<|wo (bI (b:=0) O O<|wn<|bF O (by decide)<|aA<|ao<|ws<|wo (fR O O<|WL.defer (fi:=[]) (vs:=[]) (ca:=[(ptr b3 0),(ptr b1 0),(ptr b20 0)]) O O<|wn<|ap<|ws ?_)))
  have H9:=((HS.toBo (i:=5) O 1 O).mpFreeze (i:=6) O).bsFreeze (i:=7) O
  refine wo (aj O (H9.cell (i:=3) O O) A47 O<|wo (aj O (H9.cell (i:=19) O O) A3 O<|wm O<|wo (ab O Fa.iU<|wo (aj O (H9.cell (i:=4) O O) A22 O<|wo (az (Kd 89) O ((AH x k pk hx nv bv c pg hv he mb cn19 gs19 (sl.set (ffS sl) (Slt.mk true ((if imE mp xs ps en sg=0 then aT sg sg.length else []).length) none)) s4 mb4 c4 qs4 (ffS sl) en _ _ (H9.part [9,10,11,12,13,14,15,16,5,6,7] O O) hr4.me (fun g hg=>(ix h0 hB47 sg.length (Nat.le_refl _) _ (pa hr4.bare (fun p hp=>hp) g hg)).2.2) (by rw [xZ h0 hr4]; exact Nat.lt_of_le_of_lt (kL h0 hB47) (by decide)) (by rw [List.length_set]; exact h9) (Fm h9 (gj sl) hf9) (by rw [iG (by omega)]) (by rw [iG (by omega)]; exact Nat.le_of_eq (xZ h0 hr4))).mono (fun e w10 hq=>?_)))))))
  obtain ⟨a10,rfl,hi10,hd10,hq10⟩:=hq
  refine ⟨_,rfl,?_⟩
  have H10:Ke T w w10 [Ent.ar ev 2 xs.length (Kh xtc xs),Ent.ar pv 1 ps.length (Kg bA ps),Ent.ar sv 3 sg.length (Kh sgc sg),.blk b1 [(ptr x 0)] 47,.blk b2 [(aa mp),ev,pv,(.bool con),(aa en),sv] 43,Ent.bo s4 [(.map (some mb4))],Ent.mo .u32 mb4 (Kg Pg.me qs4) c4,Ent.bsO 211 Pg.cells Pg.b qs4,.blk b3 [(vN 0)] 25,.blk x (xoC k ((sl.set (ffS sl) (Slt.mk true ((if imE mp xs ps en sg=0 then aT sg sg.length else []).length) none)).set (ffS sl) { (sl.set (ffS sl) (Slt.mk true ((if imE mp xs ps en sg=0 then aT sg sg.length else []).length) none)).getD (ffS sl) Slt.zero with ev:=some a10 })) 146,Ent.bo k [(aa pk),hx,(ptr c 0),nv,bv,(aa 0)],.blk c [(aa pg),hv,(.map (some mb))] 196,Ent.ar hv 1 he.length (Kg aa he),.obj mb (mP .i64 (Kg Gr.me gs19) cn19),Ent.bs 199 Gr.cells Gr.b gs19,Ent.dp grD.list gs19,Ent.dp (bY 211).list ((sl.set (ffS sl) (Slt.mk true ((if imE mp xs ps en sg=0 then aT sg sg.length else []).length) none)).set (ffS sl) { (sl.set (ffS sl) (Slt.mk true ((if imE mp xs ps en sg=0 then aT sg sg.length else []).length) none)).getD (ffS sl) Slt.zero with ev:=some a10 }),.row v21 22 1 (if imE mp xs ps en sg=0 then aT sg sg.length else []).length (Kg aa (if imE mp xs ps en sg=0 then aT sg sg.length else [])),Ent.fact (CapR gs19 cn19 (dQ pg he l ((ffS sl:Nat):Int) mp xs ps con (Kl (if imE mp xs ps en sg=0 then aT sg sg.length else []).length))∧DpTo w gs gs19),.blk b20 [(vN (ffS sl))] 3]:=H9.splice [9,10,11,12,13,14,15,16,5,6,7] [.blk x (xoC k ((sl.set (ffS sl) (Slt.mk true ((if imE mp xs ps en sg=0 then aT sg sg.length else []).length) none)).set (ffS sl) { (sl.set (ffS sl) (Slt.mk true ((if imE mp xs ps en sg=0 then aT sg sg.length else []).length) none)).getD (ffS sl) Slt.zero with ev:=some a10 })) 146,Ent.bo k [(aa pk),hx,(ptr c 0),nv,bv,(aa 0)],.blk c [(aa pg),hv,(.map (some mb))] 196,Ent.ar hv 1 he.length (Kg aa he),.obj mb (mP .i64 (Kg Gr.me gs19) cn19),Ent.bs 199 Gr.cells Gr.b gs19,Ent.dp grD.list gs19,Ent.dp (bY 211).list ((sl.set (ffS sl) (Slt.mk true ((if imE mp xs ps en sg=0 then aT sg sg.length else []).length) none)).set (ffS sl) { (sl.set (ffS sl) (Slt.mk true ((if imE mp xs ps en sg=0 then aT sg sg.length else []).length) none)).getD (ffS sl) Slt.zero with ev:=some a10 }),Ent.bo s4 [(.map (some mb4))],Ent.mo .u32 mb4 (Kg Pg.me qs4) c4,Ent.bsO 211 Pg.cells Pg.b qs4] [] O O hq10 (am ae (bf (j:=1) O (am ae (bf (j:=3) O (am ae (am ae (bf (j:=6) O (Fits.dpTo 7 O hd10 (bf (j:=8) O (bf (j:=9) O (bf (j:=10) O aI)))))))))))
  refine wa O<|wn<|ws<|wm O<|wo (bI (b:=0) O O<|wn<|bF O (by decide)<|aA<|ao<|ws<|wo (aj O (H10.cell (i:=19) O O) A3 O<|wa O<|wo (bC (i:=8) H10 O O O O O Fa.I25 (fun w11 H11=>(wn<|aC<|WQ.outD1 (dargs:=[]) (ca:=[(ptr b3 0),(ptr b1 0),(ptr b20 0)]) (R':=fun w'=>Fr [] w11 w') (Kd 88) ((BD b3 b1 b20 w11 (H11.cellsAt (i:=8) O)).mono (fun e u' w' h=>h)) (fun w' hf=>⟨[vN (ffS sl),vN 0],.tmp O (.cell O (jF ((H11.fr' hf).cell (i:=8) O O) A25 O) .nil),?_⟩))))))
  have h7:=H11.fr' hf
  rw [sa (by omega)] at h7
  have h6:SltTo 211 w sl (sl.set (ffS sl) ⟨true,(if imE mp xs ps en sg=0 then aT sg sg.length else []).length,some a10⟩):=fun b hb=>by
   rw [←sa (show ffS sl<sl.length by omega)] at hb
   exact (hd10 b hb).elim (fun h=>.inl (Nat.le_trans H9.fr.size h)) (fun h=>.inr (gq b h))
  exact ⟨_,_,a10,rfl,hiF.1,⟨hi10.1,by rw [←hr4.bare]; exact hi10.2.1,hi10.2.2⟩,hiF.2,h6,h7.sel [9,10,11,12,13,14,15,16,0,1,2] O O⟩
 have D2: ∀(b20:Nat) (gs19:List Gr) (cn19:Nat) (v21:Value) (wS:World),Ke T w wS [Bm,B0,B1,B2,B3,B4,B5,B6,B7,C6,B8,B9,C0,.obj mb (mP .i64 (Kg Gr.me gs19) cn19),Ent.bs 199 Gr.cells Gr.b gs19,Ent.dp grD.list gs19,C7,.row v21 22 1 (if imE mp xs ps en sg=0 then aT sg sg.length else []).length (Kg aa (if imE mp xs ps en sg=0 then aT sg sg.length else [])),Ent.fact (CapR gs19 cn19 (dQ pg he l ((ffS sl:Nat):Int) mp xs ps con (Kl (if imE mp xs ps en sg=0 then aT sg sg.length else []).length))∧DpTo w gs gs19),.blk b20 [(vN (ffS sl))] 3]→W 1 (bz 13 4095) (e6 [(7,(ptr b20 0)),(28,(vN 0))]) wS:=by
  intro b20 gs19 cn19 v21 wS HS
  rw [hW]
  refine wh1 12<|kH 12 O (bC (i:=8) HS O O O O O Fa.I25 (fun w23 H23=>(⟨⟨_,H23⟩,?_⟩)))
  exact bh hW (D1 b20 gs19 cn19 v21 w23 H23)
 have C8: ∀(b20:Nat) (gs19:List Gr) (cn19:Nat) (v21:Value) (wS:World),Ke T w wS [Bm,B0,B1,B2,B3,B4,B5,B6,B7,C6,B8,B9,C0,.obj mb (mP .i64 (Kg Gr.me gs19) cn19),Ent.bs 199 Gr.cells Gr.b gs19,Ent.dp grD.list gs19,C7,.row v21 22 1 (if imE mp xs ps en sg=0 then aT sg sg.length else []).length (Kg aa (if imE mp xs ps en sg=0 then aT sg sg.length else [])),Ent.fact (CapR gs19 cn19 (dQ pg he l ((ffS sl:Nat):Int) mp xs ps con (Kl (if imE mp xs ps en sg=0 then aT sg sg.length else []).length))∧DpTo w gs gs19),.blk b20 [(vN 0)] 3]→W 2 (bz 13 2047) (e6 [(7,(ptr b20 0)),(27,(vN (ffS sl))),(28,(vN 0))]) wS:=by
  intro b20 gs19 cn19 v21 wS HS
  rw [hW]
  refine wh1 11<|kH 11 O (bC (i:=19) HS O O O O O Fa.I3 (fun w24 H24=>(⟨⟨_,H24⟩,?_⟩)))
  exact bh hW (D2 b20 gs19 cn19 v21 w24 H24)
 have D3: ∀(gs19:List Gr) (cn19:Nat) (v21:Value) (wS:World),Ke T w wS [Bm,B0,B1,B2,B3,B4,B5,B6,B7,C6,B8,B9,C0,.obj mb (mP .i64 (Kg Gr.me gs19) cn19),Ent.bs 199 Gr.cells Gr.b gs19,Ent.dp grD.list gs19,C7,.row v21 22 1 (if imE mp xs ps en sg=0 then aT sg sg.length else []).length (Kg aa (if imE mp xs ps en sg=0 then aT sg sg.length else [])),Ent.fact (CapR gs19 cn19 (dQ pg he l ((ffS sl:Nat):Int) mp xs ps con (Kl (if imE mp xs ps en sg=0 then aT sg sg.length else []).length))∧DpTo w gs gs19)]→W 3 (bz 13 1023) (e6 [(27,(vN (ffS sl))),(28,(vN 0))]) wS:=by
  intro gs19 cn19 v21 wS HS
  rw [hW]
  refine wh1 10<|kH 10 O (bt HS Fa.I3 (fun b20 w20 H20=>(⟨⟨_,H20⟩,?_⟩)))
  exact bh hW (C8 b20 gs19 cn19 v21 w20 H20)
 have C9: ∀(b20:Nat) (v21:Value) (wS:World),Ke T w wS [Bm,B0,B1,B2,B3,B4,B5,B6,B7,C1,B8,B9,C0,C2,C3,C4,C5,.row v21 22 1 (if imE mp xs ps en sg=0 then aT sg sg.length else []).length (Kg aa (if imE mp xs ps en sg=0 then aT sg sg.length else [])),.blk b20 [(vN 0)] 3]→W 6 (bz 13 1087) (e6 [(7,(ptr b20 0)),(20,(ptr x 0)),(22,(.agg #[(aa mp),ev,pv,(.bool con)])),(25,(vN (if imE mp xs ps en sg=0 then aT sg sg.length else []).length))]) wS:=by
  intro b20 v21 wS HS
  rw [hW]
  refine wh1 6<|kH 6 O (az (Kd 86) O ((rJ x k pk hx nv bv c pg hv he mb cn gs sl l mp ev pv xs ps con ((if imE mp xs ps en sg=0 then aT sg sg.length else []).length) _ _ (HS.part [9,10,11,12,13,14,15,16,0,1] O O) hR h9 hhe hn hm (kL h0 hB47) hff hw).mono (fun e w19 hq=>?_)))
  obtain ⟨cn19,gs19,rfl,hi19,hd19,hq19⟩:=hq
  refine ⟨_,rfl,?_⟩
  have H19:=HS.splice [9,10,11,12,13,14,15,16,0,1] [.blk x (xoC k (sl.set (ffS sl) (Slt.mk true ((if imE mp xs ps en sg=0 then aT sg sg.length else []).length) none))) 146,Ent.bo k [(aa pk),hx,(ptr c 0),nv,bv,(aa 0)],.blk c [(aa pg),hv,(.map (some mb))] 196,Ent.ar hv 1 he.length (Kg aa he),.obj mb (mP .i64 (Kg Gr.me gs19) cn19),Ent.bs 199 Gr.cells Gr.b gs19,Ent.dp grD.list gs19,Ent.dp (bY 211).list (sl.set (ffS sl) (Slt.mk true ((if imE mp xs ps en sg=0 then aT sg sg.length else []).length) none)),Ent.ar ev 2 xs.length (Kh xtc xs),Ent.ar pv 1 ps.length (Kg bA ps)] [] O O hq19 (am ae (bf (j:=1) O (am ae (bf (j:=3) O (am ae (am ae (Fits.dpTo 6 O hd19 (Fits.dpTo 7 O (fun b hb=>.inr (gq b hb)) (bf (j:=8) O (bf (j:=9) O aI))))))))))
  have H19f:=H19.addFact (p:=CapR gs19 cn19 (dQ pg he l ((ffS sl:Nat):Int) mp xs ps con (Kl (if imE mp xs ps en sg=0 then aT sg sg.length else []).length))∧DpTo w gs gs19) ⟨hi19,hd19.mono HS.fr.size⟩
  refine ⟨⟨_,H19f⟩,?_⟩
  exact xt 7 O (.tuple #[(vN (ffS sl)),(vN 0)]) H19f (fun _ _ HX=>au O ⟨rfl,rfl⟩)<|xt 8 O (vN (ffS sl)) H19f (fun _ _ HX=>ch O O ⟨rfl,rfl⟩)<|xt 9 O (vN 0) H19f (fun _ _ HX=>ch O O ⟨rfl,rfl⟩)<|bh hW (C8 b20 gs19 cn19 v21 w19 (H19f.sel [0,1,2,3,4,5,6,7,8,9,10,11,12,13,14,15,16,17,19,18] O O))
 have D4: ∀(v21:Value) (wS:World),Ke T w wS [Bm,B0,B1,B2,B3,B4,B5,B6,B7,C1,B8,B9,C0,C2,C3,C4,C5,.row v21 22 1 (if imE mp xs ps en sg=0 then aT sg sg.length else []).length (Kg aa (if imE mp xs ps en sg=0 then aT sg sg.length else []))]→W 7 (bz 13 63) (e6 [(20,(ptr x 0)),(22,(.agg #[(aa mp),ev,pv,(.bool con)])),(25,(vN (if imE mp xs ps en sg=0 then aT sg sg.length else []).length))]) wS:=by
  intro v21 wS HS
  rw [hW]
  refine wh2 6 10 ?_ ?_
  ·
   refine kH 6 O (az (Kd 86) O ((rJ x k pk hx nv bv c pg hv he mb cn gs sl l mp ev pv xs ps con ((if imE mp xs ps en sg=0 then aT sg sg.length else []).length) _ _ (HS.part [9,10,11,12,13,14,15,16,0,1] O O) hR h9 hhe hn hm (kL h0 hB47) hff hw).mono (fun e w19 hq=>?_)))
   obtain ⟨cn19,gs19,rfl,hi19,hd19,hq19⟩:=hq
   refine ⟨_,rfl,?_⟩
   have H19:Ke T w w19 [Ent.ar ev 2 xs.length (Kh xtc xs),Ent.ar pv 1 ps.length (Kg bA ps),Ent.ar sv 3 sg.length (Kh sgc sg),.blk b1 [(ptr x 0)] 47,.blk b2 [(aa mp),ev,pv,(.bool con),(aa en),sv] 43,.blk s4 [(.map (some mb4))] 165,.obj mb4 (mP .u32 (Kg Pg.me qs4) c4),Ent.bs 211 Pg.cells Pg.b qs4,.blk b3 [(vN 0)] 25,.blk x (xoC k (sl.set (ffS sl) (Slt.mk true ((if imE mp xs ps en sg=0 then aT sg sg.length else []).length) none))) 146,Ent.bo k [(aa pk),hx,(ptr c 0),nv,bv,(aa 0)],.blk c [(aa pg),hv,(.map (some mb))] 196,Ent.ar hv 1 he.length (Kg aa he),.obj mb (mP .i64 (Kg Gr.me gs19) cn19),Ent.bs 199 Gr.cells Gr.b gs19,Ent.dp grD.list gs19,Ent.dp (bY 211).list (sl.set (ffS sl) (Slt.mk true ((if imE mp xs ps en sg=0 then aT sg sg.length else []).length) none)),.row v21 22 1 (if imE mp xs ps en sg=0 then aT sg sg.length else []).length (Kg aa (if imE mp xs ps en sg=0 then aT sg sg.length else []))]:=HS.splice [9,10,11,12,13,14,15,16,0,1] [.blk x (xoC k (sl.set (ffS sl) (Slt.mk true ((if imE mp xs ps en sg=0 then aT sg sg.length else []).length) none))) 146,Ent.bo k [(aa pk),hx,(ptr c 0),nv,bv,(aa 0)],.blk c [(aa pg),hv,(.map (some mb))] 196,Ent.ar hv 1 he.length (Kg aa he),.obj mb (mP .i64 (Kg Gr.me gs19) cn19),Ent.bs 199 Gr.cells Gr.b gs19,Ent.dp grD.list gs19,Ent.dp (bY 211).list (sl.set (ffS sl) (Slt.mk true ((if imE mp xs ps en sg=0 then aT sg sg.length else []).length) none)),Ent.ar ev 2 xs.length (Kh xtc xs),Ent.ar pv 1 ps.length (Kg bA ps)] [] O O hq19 (am ae (bf (j:=1) O (am ae (bf (j:=3) O (am ae (am ae (Fits.dpTo 6 O hd19 (Fits.dpTo 7 O (fun b hb=>.inr (gq b hb)) (bf (j:=8) O (bf (j:=9) O aI))))))))))
   have H19f:=H19.addFact (p:=CapR gs19 cn19 (dQ pg he l ((ffS sl:Nat):Int) mp xs ps con (Kl (if imE mp xs ps en sg=0 then aT sg sg.length else []).length))∧DpTo w gs gs19) ⟨hi19,hd19.mono HS.fr.size⟩
   refine ⟨⟨_,H19f⟩,?_⟩
   exact xt 7 O (.tuple #[(vN (ffS sl)),(vN 0)]) H19f (fun _ _ HX=>au O ⟨rfl,rfl⟩)<|xt 8 O (vN (ffS sl)) H19f (fun _ _ HX=>ch O O ⟨rfl,rfl⟩)<|xt 9 O (vN 0) H19f (fun _ _ HX=>ch O O ⟨rfl,rfl⟩)<|bh hW (D3 gs19 cn19 v21 w19 H19f)
  refine kH 10 O (bt HS Fa.I3 (fun b20 w20 H20=>(⟨⟨_,H20⟩,?_⟩)))
  exact bh hW (C9 b20 v21 w20 H20)
 have D0: ∀(b20:Nat) (v21:Value) (wS:World),Ke T w wS [Bm,B0,B1,B2,B3,B4,B5,B6,B7,C1,B8,B9,C0,C2,C3,C4,C5,.row v21 22 1 (if imE mp xs ps en sg=0 then aT sg sg.length else []).length (Kg aa (if imE mp xs ps en sg=0 then aT sg sg.length else [])),.blk b20 [(vN 0)] 3]→W 7 (bz 13 1055) (e6 [(7,(ptr b20 0)),(20,(ptr x 0)),(22,(.agg #[(aa mp),ev,pv,(.bool con)])),(24,v21)]) wS:=by
  intro b20 v21 wS HS
  rw [hW]
  refine wh1 5<|kH 5 O (bu A73 O (HS.arrR (i:=17) O) (⟨⟨_,HS⟩,?_⟩))
  exact bh hW (C9 b20 v21 wS HS)
 have D5: ∀(v21:Value) (wS:World),Ke T w wS [Bm,B0,B1,B2,B3,B4,B5,B6,B7,C1,B8,B9,C0,C2,C3,C4,C5,.row v21 22 1 (if imE mp xs ps en sg=0 then aT sg sg.length else []).length (Kg aa (if imE mp xs ps en sg=0 then aT sg sg.length else []))]→W 8 (bz 13 31) (e6 [(20,(ptr x 0)),(22,(.agg #[(aa mp),ev,pv,(.bool con)])),(24,v21)]) wS:=by
  intro v21 wS HS
  rw [hW]
  refine wh2 5 10 ?_ ?_
  ·
   refine kH 5 O (bu A73 O (HS.arrR (i:=17) O) (⟨⟨_,HS⟩,?_⟩))
   exact bh hW (D4 v21 wS HS)
  refine kH 10 O (bt HS Fa.I3 (fun b20 w20 H20=>(⟨⟨_,H20⟩,?_⟩)))
  exact bh hW (D0 b20 v21 w20 H20)
 have D6: ∀(b20:Nat) (wS:World),Ke T w wS [Bm,B0,B1,B2,B3,B4,B5,B6,B7,C1,B8,B9,C0,C2,C3,C4,C5,.blk b20 [(vN 0)] 3]→W 8 (bz 13 1039) (e6 [(7,(ptr b20 0)),(20,(ptr x 0)),(22,(.agg #[(aa mp),ev,pv,(.bool con)])),(23,(.agg #[(aa mp),ev,pv,(.bool con),(aa en),sv]))]) wS:=by
  intro b20 wS HS
  rw [hW]
  refine wh1 4<|kH 4 O (az (Kd 87) O ((jR mp _ _ _ xs ps con en sg _ (HS.arrO (i:=0) O) (HS.arrO (i:=1) O) (HS.arrO (i:=2) O) (by omega) (by omega) (by omega) hB (by omega)).mono (fun e w21 hq=>?_)))
  obtain ⟨v21,rfl,hq21⟩:=hq
  refine ⟨_,rfl,?_⟩
  have H21:=HS.splice [] [] [.row v21 22 1 (if imE mp xs ps en sg=0 then aT sg sg.length else []).length (Kg aa (if imE mp xs ps en sg=0 then aT sg sg.length else []))] O O hq21 (am ae aI)
  refine ⟨⟨_,H21⟩,?_⟩
  exact bh hW (D0 b20 v21 w21 (H21.sel [0,1,2,3,4,5,6,7,8,9,10,11,12,13,14,15,16,18,17] O O))
 have D7: ∀wS,Ke T w wS [Bm,B0,B1,B2,B3,B4,B5,B6,B7,C1,B8,B9,C0,C2,C3,C4,C5]→W 9 (bz 13 15) (e6 [(20,(ptr x 0)),(22,(.agg #[(aa mp),ev,pv,(.bool con)])),(23,(.agg #[(aa mp),ev,pv,(.bool con),(aa en),sv]))]) wS:=fun wS HS=>by
  rw [hW]
  refine wh2 4 10 ?_ ?_
  ·
   refine kH 4 O (az (Kd 87) O ((jR mp _ _ _ xs ps con en sg _ (HS.arrO (i:=0) O) (HS.arrO (i:=1) O) (HS.arrO (i:=2) O) (by omega) (by omega) (by omega) hB (by omega)).mono (fun e w21 hq=>?_)))
   obtain ⟨v21,rfl,hq21⟩:=hq
   refine ⟨_,rfl,?_⟩
   have H21:Ke T w w21 [Ent.ar ev 2 xs.length (Kh xtc xs),Ent.ar pv 1 ps.length (Kg bA ps),Ent.ar sv 3 sg.length (Kh sgc sg),.blk b1 [(ptr x 0)] 47,.blk b2 [(aa mp),ev,pv,(.bool con),(aa en),sv] 43,.blk s4 [(.map (some mb4))] 165,.obj mb4 (mP .u32 (Kg Pg.me qs4) c4),Ent.bs 211 Pg.cells Pg.b qs4,.blk b3 [(vN 0)] 25,.blk x (xoC k sl) 146,Ent.bo k [(aa pk),hx,(ptr c 0),nv,bv,(aa 0)],.blk c [(aa pg),hv,(.map (some mb))] 196,Ent.ar hv 1 he.length (Kg aa he),.obj mb (mP .i64 (Kg Gr.me gs) cn),Ent.bs 199 Gr.cells Gr.b gs,Ent.dp grD.list gs,Ent.dp (bY 211).list sl,.row v21 22 1 (if imE mp xs ps en sg=0 then aT sg sg.length else []).length (Kg aa (if imE mp xs ps en sg=0 then aT sg sg.length else []))]:=HS.splice [] [] [.row v21 22 1 (if imE mp xs ps en sg=0 then aT sg sg.length else []).length (Kg aa (if imE mp xs ps en sg=0 then aT sg sg.length else []))] O O hq21 (am ae aI)
   refine ⟨⟨_,H21⟩,?_⟩
   exact bh hW (D5 v21 w21 H21)
  refine kH 10 O (bt HS Fa.I3 (fun b20 w20 H20=>(⟨⟨_,H20⟩,?_⟩)))
  exact bh hW (D6 b20 w20 H20)
 have hq:=D7 w7 H7
 rw [hW] at hq ⊢
 exact WH.cv hq
theorem zP (key s:List UInt8) (w:World) :
  Calls Kf 21 #[(.pointer none),(str key),(str s)] w (fun e w'=>e=.returned (.tuple #[vN 0,vN 1])∧Fr [] w w'):=by
 refine enter Tryz.func21 O O ?_
 have H0:Ke [] w w []:=aL w []
 exact ws<|wa O<|wa O<|wn<|ap<|ws<|wm O<|wo (bG Fa.gE O O<|wn<|bX O O<|ws<|wa O<|wa O<|wn<|aC<|aq<|aD (.tmp O (.tmp O .nil)) (⟨rfl,H0.fr⟩))
theorem ru (x k:Nat) (pk:UInt32) (hx nv bv:Value) (c:Nat) (pg:UInt32) (hv:Value) (he:List UInt32) (mb cn:Nat) (gs:List Gr) (sl:List Slt) (l:List Gr) (key s:List UInt8) (T:List Nat) (w:World) (H:Ke T w w [.blk x (xoC k sl) 146,Ent.bo k [(aa pk),hx,(ptr c 0),nv,bv,(aa 0)],.blk c [(aa pg),hv,(.map (some mb))] 196,Ent.ar hv 1 he.length (Kg aa he),.obj mb (mP .i64 (Kg Gr.me gs) cn),Ent.bs 199 Gr.cells Gr.b gs,Ent.dp grD.list gs,Ent.dp (bY 211).list sl]) (_hR:CapR gs cn l) (_h9:sl.length=9) (_hhe:he.length<2^32) (hkl:key.length<2^40) (hsl:s.length<2^37) (hO:opC key s≠0) :
  Calls Kf 21 #[(ptr x 0),(str key),(str s)] w (fun e w'=>e=.returned (.tuple #[vN 0,vN (opC key s)])∧Ke T w w' [.blk x (xoC k sl) 146,Ent.bo k [(aa pk),hx,(ptr c 0),nv,bv,(aa 0)],.blk c [(aa pg),hv,(.map (some mb))] 196,Ent.ar hv 1 he.length (Kg aa he),.obj mb (mP .i64 (Kg Gr.me gs) cn),Ent.bs 199 Gr.cells Gr.b gs,Ent.dp grD.list gs,Ent.dp (bY 211).list sl]):=by
 refine enter Tryz.func21 O O<|ws<|wa O<|wa O<|wn<|ap<|ws<|wm O<|wo (bG Fa.gE O O<|wn<|bF O O<|aA<|ao<|ws<|wm O<|wm O<|wo (az (Kd 57) O ((ll key s _ hkl (by omega)).mono (fun e w1 hq=>?_))))
 obtain ⟨v1,u1,q1,rfl,hq1⟩:=hq
 refine ⟨_,rfl,?_⟩
 have H1:=H.splice [] [] [.row v1 207 2 (opI key s).xs.length (Kh xtc (opI key s).xs),.row u1 203 1 (opI key s).ps.length (Kg bA (opI key s).ps),.row q1 116 3 (opI key s).sg.length (Kh sgc (opI key s).sg)] O O hq1 (am ae (am ae (am ae aI)))
 exact wm O<|we O O<|we O O<|wo (bt H1 Fa.I43 (fun b2 w2 H2=>(wo (bw (i:=11) H2 O O O O (bk O (bk (bS (H2.arrR (i:=8) O)) (bk (bS (H2.arrR (i:=9) O)) (bk O (bk O (bk (bS (H2.arrR (i:=10) O)) er)))))) Fa.I43 (fun w3 H3=>(wa O<|wn<|ap<|ws<|wm O<|wo (bI (b:=0) O O<|wn<|bX O (decide_eq_true hO)<|ws<|wm O<|wa O<|wa O<|wn<|aC<|aq<|aD (.tmp O (.tmp O .nil)) (⟨rfl,H3.sel [0,1,2,3,4,5,6,7] O O⟩))))))))
theorem xR (x k:Nat) (pk:UInt32) (hx nv bv:Value) (c:Nat) (pg:UInt32) (hv:Value) (he:List UInt32) (mb cn:Nat) (gs:List Gr) (sl:List Slt) (l:List Gr) (key s:List UInt8) (T:List Nat) (w:World) (H:Ke T w w [.blk x (xoC k sl) 146,Ent.bo k [(aa pk),hx,(ptr c 0),nv,bv,(aa 0)],.blk c [(aa pg),hv,(.map (some mb))] 196,Ent.ar hv 1 he.length (Kg aa he),.obj mb (mP .i64 (Kg Gr.me gs) cn),Ent.bs 199 Gr.cells Gr.b gs,Ent.dp grD.list gs,Ent.dp (bY 211).list sl]) (hR:CapR gs cn l) (h9:sl.length=9) (hhe:he.length<2^32) (hkl:key.length<2^40) (hsl:s.length<2^37) (hO:opC key s=0) (hff:ffS sl=9) :
  Calls Kf 21 #[(ptr x 0),(str key),(str s)] w (fun e w'=>e=.returned (.tuple #[vN 0,vN 4])∧Ke T w w' [.blk x (xoC k sl) 146,Ent.bo k [(aa pk),hx,(ptr c 0),nv,bv,(aa 0)],.blk c [(aa pg),hv,(.map (some mb))] 196,Ent.ar hv 1 he.length (Kg aa he),.obj mb (mP .i64 (Kg Gr.me gs) cn),Ent.bs 199 Gr.cells Gr.b gs,Ent.dp grD.list gs,Ent.dp (bY 211).list sl]):=by
 refine enter Tryz.func21 O O ?_
 obtain ⟨hn,hm,hk,hB,_⟩:=ja hO hsl
 have h0:=(gV hO).1
 refine ws<|wa O<|wa O<|wn<|ap<|ws<|wm O<|wo (bG Fa.gE O O<|wn<|bF O O<|aA<|ao<|ws<|wm O<|wm O<|wo (az (Kd 57) O ((ll key s _ hkl (by omega)).mono (fun e w1 hq=>?_))))
 obtain ⟨v1,u1,q1,rfl,hq1⟩:=hq
 refine ⟨_,rfl,?_⟩
 have H1:Ke T w w1 [.blk x (xoC k sl) 146,Ent.bo k [(aa pk),hx,(ptr c 0),nv,bv,(aa 0)],.blk c [(aa pg),hv,(.map (some mb))] 196,Ent.ar hv 1 he.length (Kg aa he),.obj mb (mP .i64 (Kg Gr.me gs) cn),Ent.bs 199 Gr.cells Gr.b gs,Ent.dp grD.list gs,Ent.dp (bY 211).list sl,.row v1 207 2 (opI key s).xs.length (Kh xtc (opI key s).xs),.row u1 203 1 (opI key s).ps.length (Kg bA (opI key s).ps),.row q1 116 3 (opI key s).sg.length (Kh sgc (opI key s).sg)]:=H.splice [] [] [.row v1 207 2 (opI key s).xs.length (Kh xtc (opI key s).xs),.row u1 203 1 (opI key s).ps.length (Kg bA (opI key s).ps),.row q1 116 3 (opI key s).sg.length (Kh sgc (opI key s).sg)] O O hq1 (am ae (am ae (am ae aI)))
 refine wm O<|we O O<|we O O<|wo (bt H1 Fa.I43 (fun b2 w2 H2=>(wo (bw (i:=11) H2 O O O O (bk O (bk (bS (H2.arrR (i:=8) O)) (bk (bS (H2.arrR (i:=9) O)) (bk O (bk O (bk (bS (H2.arrR (i:=10) O)) er)))))) Fa.I43 (fun w3 H3=>(wa O<|wn<|ap<|ws<|wm O<|wo (bI (b:=0) O O<|wn<|bF O (decide_eq_false (fun h=>h hO))<|aA<|ao<|ws ?_)))))))
 have H4:=H3.freeze (i:=8) O
 have H5:Ke T w w3 [.blk x (xoC k sl) 146,Ent.bo k [(aa pk),hx,(ptr c 0),nv,bv,(aa 0)],.blk c [(aa pg),hv,(.map (some mb))] 196,Ent.ar hv 1 he.length (Kg aa he),.obj mb (mP .i64 (Kg Gr.me gs) cn),Ent.bs 199 Gr.cells Gr.b gs,Ent.dp grD.list gs,Ent.dp (bY 211).list sl,Ent.ar v1 2 (opI key s).xs.length (Kh xtc (opI key s).xs),Ent.ar u1 1 (opI key s).ps.length (Kg bA (opI key s).ps),.row q1 116 3 (opI key s).sg.length (Kh sgc (opI key s).sg),.blk b2 [(aa (opI key s).pg),v1,u1,(.bool (opI key s).c),(aa (opI key s).en),q1] 43]:=H4.freeze (i:=9) O
 have H6:=H5.freeze (i:=10) O
 refine wm O<|wo (aM (vs:=[_,_,_,_,_,_]) O (H6.cells (i:=11) O O) A43 O Fa.I43 O<|wo (az (Kd 40) O ((wO x k pk hx nv bv c pg hv he mb cn gs sl l ((opI key s).pg) v1 u1 q1 ((opI key s).xs) ((opI key s).ps) ((opI key s).c) ((opI key s).en) ((opI key s).sg) _ _ (H6.part [0,1,2,3,4,5,6,7,8,9,10] O O) hR h9 hhe (by omega) (by omega) (by omega) hB h0 hff).mono (fun e w7 hq=>?_))))
 obtain ⟨rfl,hq7⟩:=hq
 refine ⟨_,rfl,?_⟩
 have H7:Ke T w w7 [.blk x (xoC k sl) 146,Ent.bo k [(aa pk),hx,(ptr c 0),nv,bv,(aa 0)],.blk c [(aa pg),hv,(.map (some mb))] 196,Ent.ar hv 1 he.length (Kg aa he),.obj mb (mP .i64 (Kg Gr.me gs) cn),Ent.bs 199 Gr.cells Gr.b gs,Ent.dp grD.list gs,Ent.dp (bY 211).list sl,Ent.ar v1 2 (opI key s).xs.length (Kh xtc (opI key s).xs),Ent.ar u1 1 (opI key s).ps.length (Kg bA (opI key s).ps),Ent.ar q1 3 (opI key s).sg.length (Kh sgc (opI key s).sg),.blk b2 [(aa (opI key s).pg),v1,u1,(.bool (opI key s).c),(aa (opI key s).en),q1] 43]:=H6.splice [0,1,2,3,4,5,6,7,8,9,10] [.blk x (xoC k sl) 146,Ent.bo k [(aa pk),hx,(ptr c 0),nv,bv,(aa 0)],.blk c [(aa pg),hv,(.map (some mb))] 196,Ent.ar hv 1 he.length (Kg aa he),.obj mb (mP .i64 (Kg Gr.me gs) cn),Ent.bs 199 Gr.cells Gr.b gs,Ent.dp grD.list gs,Ent.dp (bY 211).list sl,Ent.ar v1 2 (opI key s).xs.length (Kh xtc (opI key s).xs),Ent.ar u1 1 (opI key s).ps.length (Kg bA (opI key s).ps),Ent.ar q1 3 (opI key s).sg.length (Kh sgc (opI key s).sg)] [] O O hq7 (am ae (bf (j:=1) O (am ae (bf (j:=3) O (am ae (am ae (bf (j:=6) O (bf (j:=7) O (bf (j:=8) O (bf (j:=9) O (bf (j:=10) O aI)))))))))))
 exact we O O<|we O O<|wa O<|wa O<|wn<|aC<|aD (.tmp O (.tmp O .nil)) (⟨rfl,H7.sel [0,1,2,3,4,5,6,7] O O⟩)
theorem tl (x k:Nat) (pk:UInt32) (hx nv bv:Value) (c:Nat) (pg:UInt32) (hv:Value) (he:List UInt32) (mb cn:Nat) (gs:List Gr) (sl:List Slt) (l:List Gr) (key s:List UInt8) (T:List Nat) (w:World) (H:Ke T w w [.blk x (xoC k sl) 146,Ent.bo k [(aa pk),hx,(ptr c 0),nv,bv,(aa 0)],.blk c [(aa pg),hv,(.map (some mb))] 196,Ent.ar hv 1 he.length (Kg aa he),.obj mb (mP .i64 (Kg Gr.me gs) cn),Ent.bs 199 Gr.cells Gr.b gs,Ent.dp grD.list gs,Ent.dp (bY 211).list sl]) (hR:CapR gs cn l) (h9:sl.length=9) (hhe:he.length<2^32) (hkl:key.length<2^40) (hsl:s.length<2^37) (hO:opC key s=0) (hff:ffS sl≠9) (hw:(fH pg he l sl (opI key s))≠0) :
  Calls Kf 21 #[(ptr x 0),(str key),(str s)] w (fun e w'=> ∃cn' gs',e=.returned (.tuple #[vN 0,vN (fH pg he l sl (opI key s))])∧CapR gs' cn' (df pg he l sl (opI key s))∧DpTo w gs gs'∧Ke T w w' [.blk x (xoC k sl) 146,Ent.bo k [(aa pk),hx,(ptr c 0),nv,bv,(aa 0)],.blk c [(aa pg),hv,(.map (some mb))] 196,Ent.ar hv 1 he.length (Kg aa he),.obj mb (mP .i64 (Kg Gr.me gs') cn'),Ent.bs 199 Gr.cells Gr.b gs',Ent.dp grD.list gs',Ent.dp (bY 211).list sl]):=by
 refine enter Tryz.func21 O O ?_
 obtain ⟨hn,hm,hk,hB,_⟩:=ja hO hsl
 have h0:=(gV hO).1
 refine ws<|wa O<|wa O<|wn<|ap<|ws<|wm O<|wo (bG Fa.gE O O<|wn<|bF O O<|aA<|ao<|ws<|wm O<|wm O<|wo (az (Kd 57) O ((ll key s _ hkl (by omega)).mono (fun e w1 hq=>?_))))
 obtain ⟨v1,u1,q1,rfl,hq1⟩:=hq
 refine ⟨_,rfl,?_⟩
 have H1:=H.splice [] [] [.row v1 207 2 (opI key s).xs.length (Kh xtc (opI key s).xs),.row u1 203 1 (opI key s).ps.length (Kg bA (opI key s).ps),.row q1 116 3 (opI key s).sg.length (Kh sgc (opI key s).sg)] O O hq1 (am ae (am ae (am ae aI)))
 refine wm O<|we O O<|we O O<|wo (bt H1 Fa.I43 (fun b2 w2 H2=>(wo (bw (i:=11) H2 O O O O (bk O (bk (bS (H2.arrR (i:=8) O)) (bk (bS (H2.arrR (i:=9) O)) (bk O (bk O (bk (bS (H2.arrR (i:=10) O)) er)))))) Fa.I43 (fun w3 H3=>(wa O<|wn<|ap<|ws<|wm O<|wo (bI (b:=0) O O<|wn<|bF O (decide_eq_false (fun h=>h hO))<|aA<|ao<|ws ?_)))))))
 have H4:Ke T w w3 [.blk x (xoC k sl) 146,Ent.bo k [(aa pk),hx,(ptr c 0),nv,bv,(aa 0)],.blk c [(aa pg),hv,(.map (some mb))] 196,Ent.ar hv 1 he.length (Kg aa he),.obj mb (mP .i64 (Kg Gr.me gs) cn),Ent.bs 199 Gr.cells Gr.b gs,Ent.dp grD.list gs,Ent.dp (bY 211).list sl,Ent.ar v1 2 (opI key s).xs.length (Kh xtc (opI key s).xs),.row u1 203 1 (opI key s).ps.length (Kg bA (opI key s).ps),.row q1 116 3 (opI key s).sg.length (Kh sgc (opI key s).sg),.blk b2 [(aa (opI key s).pg),v1,u1,(.bool (opI key s).c),(aa (opI key s).en),q1] 43]:=H3.freeze (i:=8) O
 have H5:=H4.freeze (i:=9) O
 have H6:Ke T w w3 [.blk x (xoC k sl) 146,Ent.bo k [(aa pk),hx,(ptr c 0),nv,bv,(aa 0)],.blk c [(aa pg),hv,(.map (some mb))] 196,Ent.ar hv 1 he.length (Kg aa he),.obj mb (mP .i64 (Kg Gr.me gs) cn),Ent.bs 199 Gr.cells Gr.b gs,Ent.dp grD.list gs,Ent.dp (bY 211).list sl,Ent.ar v1 2 (opI key s).xs.length (Kh xtc (opI key s).xs),Ent.ar u1 1 (opI key s).ps.length (Kg bA (opI key s).ps),Ent.ar q1 3 (opI key s).sg.length (Kh sgc (opI key s).sg),.blk b2 [(aa (opI key s).pg),v1,u1,(.bool (opI key s).c),(aa (opI key s).en),q1] 43]:=H5.freeze (i:=10) O
 refine wm O<|wo (aM (vs:=[_,_,_,_,_,_]) O (H6.cells (i:=11) O O) A43 O Fa.I43 O<|wo (az (Kd 40) O ((zQ x k pk hx nv bv c pg hv he mb cn gs sl l ((opI key s).pg) v1 u1 q1 ((opI key s).xs) ((opI key s).ps) ((opI key s).c) ((opI key s).en) ((opI key s).sg) _ _ (H6.part [0,1,2,3,4,5,6,7,8,9,10] O O) hR h9 hhe (by omega) (by omega) (by omega) hB h0 hff hw).mono (fun e w7 hq=>?_))))
 obtain ⟨cn7,gs7,rfl,hi7,hd7,hq7⟩:=hq
 refine ⟨_,rfl,?_⟩
 have H7:=H6.splice [0,1,2,3,4,5,6,7,8,9,10] [.blk x (xoC k sl) 146,Ent.bo k [(aa pk),hx,(ptr c 0),nv,bv,(aa 0)],.blk c [(aa pg),hv,(.map (some mb))] 196,Ent.ar hv 1 he.length (Kg aa he),.obj mb (mP .i64 (Kg Gr.me gs7) cn7),Ent.bs 199 Gr.cells Gr.b gs7,Ent.dp grD.list gs7,Ent.dp (bY 211).list sl,Ent.ar v1 2 (opI key s).xs.length (Kh xtc (opI key s).xs),Ent.ar u1 1 (opI key s).ps.length (Kg bA (opI key s).ps),Ent.ar q1 3 (opI key s).sg.length (Kh sgc (opI key s).sg)] [] O O hq7 (am ae (bf (j:=1) O (am ae (bf (j:=3) O (am ae (am ae (Fits.dpTo 6 O hd7 (bf (j:=7) O (bf (j:=8) O (bf (j:=9) O (bf (j:=10) O aI)))))))))))
 exact we O O<|we O O<|wa O<|wa O<|wn<|aC<|aD (.tmp O (.tmp O .nil)) (⟨_,_,rfl,hi7,hd7.mono H6.fr.size,H7.sel [0,1,2,3,4,5,6,7] O O⟩)
theorem rt (x k:Nat) (pk:UInt32) (hx nv bv:Value) (c:Nat) (pg:UInt32) (hv:Value) (he:List UInt32) (mb cn:Nat) (gs:List Gr) (sl:List Slt) (l:List Gr) (key s:List UInt8) (T:List Nat) (w:World) (H:Ke T w w [.blk x (xoC k sl) 146,Ent.bo k [(aa pk),hx,(ptr c 0),nv,bv,(aa 0)],.blk c [(aa pg),hv,(.map (some mb))] 196,Ent.ar hv 1 he.length (Kg aa he),.obj mb (mP .i64 (Kg Gr.me gs) cn),Ent.bs 199 Gr.cells Gr.b gs,Ent.dp grD.list gs,Ent.dp (bY 211).list sl]) (hR:CapR gs cn l) (h9:sl.length=9) (hhe:he.length<2^32) (hkl:key.length<2^40) (hsl:s.length<2^37) (hO:opC key s=0) (hff:ffS sl≠9) (hw:(fH pg he l sl (opI key s))=0) :
  Calls Kf 21 #[(ptr x 0),(str key),(str s)] w (fun e w'=> ∃cn' gs' a,e=.returned (.tuple #[vN (ffS sl),vN 0])∧CapR gs' cn' (df pg he l sl (opI key s))∧(MEok (Kg Pg.me a.ps) a.cn∧(a.ps.map Pg.bare).Perm (dD (opI key s).sg (opI key s).sg.length)∧a.num=ffS sl∧a.pc=(opI key s).en)∧DpTo w gs gs'∧SltTo 211 w sl (cO sl (opI key s) a)∧Ke T w w' [.blk x (xoC k (cO sl (opI key s) a)) 146,Ent.bo k [(aa pk),hx,(ptr c 0),nv,bv,(aa 0)],.blk c [(aa pg),hv,(.map (some mb))] 196,Ent.ar hv 1 he.length (Kg aa he),.obj mb (mP .i64 (Kg Gr.me gs') cn'),Ent.bs 199 Gr.cells Gr.b gs',Ent.dp grD.list gs',Ent.dp (bY 211).list (cO sl (opI key s) a)]):=by
 refine enter Tryz.func21 O O ?_
 obtain ⟨hn,hm,hk,hB,_⟩:=ja hO hsl
 have h0:=(gV hO).1
 refine ws<|wa O<|wa O<|wn<|ap<|ws<|wm O<|wo (bG Fa.gE O O<|wn<|bF O O<|aA<|ao<|ws<|wm O<|wm O<|wo (az (Kd 57) O ((ll key s _ hkl (by omega)).mono (fun e w1 hq=>?_))))
 obtain ⟨v1,u1,q1,rfl,hq1⟩:=hq
 refine ⟨_,rfl,?_⟩
 have H1:Ke T w w1 [.blk x (xoC k sl) 146,Ent.bo k [(aa pk),hx,(ptr c 0),nv,bv,(aa 0)],.blk c [(aa pg),hv,(.map (some mb))] 196,Ent.ar hv 1 he.length (Kg aa he),.obj mb (mP .i64 (Kg Gr.me gs) cn),Ent.bs 199 Gr.cells Gr.b gs,Ent.dp grD.list gs,Ent.dp (bY 211).list sl,.row v1 207 2 (opI key s).xs.length (Kh xtc (opI key s).xs),.row u1 203 1 (opI key s).ps.length (Kg bA (opI key s).ps),.row q1 116 3 (opI key s).sg.length (Kh sgc (opI key s).sg)]:=H.splice [] [] [.row v1 207 2 (opI key s).xs.length (Kh xtc (opI key s).xs),.row u1 203 1 (opI key s).ps.length (Kg bA (opI key s).ps),.row q1 116 3 (opI key s).sg.length (Kh sgc (opI key s).sg)] O O hq1 (am ae (am ae (am ae aI)))
 refine wm O<|we O O<|we O O<|wo (bt H1 Fa.I43 (fun b2 w2 H2=>(wo (bw (i:=11) H2 O O O O (bk O (bk (bS (H2.arrR (i:=8) O)) (bk (bS (H2.arrR (i:=9) O)) (bk O (bk O (bk (bS (H2.arrR (i:=10) O)) er)))))) Fa.I43 (fun w3 H3=>(wa O<|wn<|ap<|ws<|wm O<|wo (bI (b:=0) O O<|wn<|bF O (decide_eq_false (fun h=>h hO))<|aA<|ao<|ws ?_)))))))
 have H4:=H3.freeze (i:=8) O
 have H5:Ke T w w3 [.blk x (xoC k sl) 146,Ent.bo k [(aa pk),hx,(ptr c 0),nv,bv,(aa 0)],.blk c [(aa pg),hv,(.map (some mb))] 196,Ent.ar hv 1 he.length (Kg aa he),.obj mb (mP .i64 (Kg Gr.me gs) cn),Ent.bs 199 Gr.cells Gr.b gs,Ent.dp grD.list gs,Ent.dp (bY 211).list sl,Ent.ar v1 2 (opI key s).xs.length (Kh xtc (opI key s).xs),Ent.ar u1 1 (opI key s).ps.length (Kg bA (opI key s).ps),.row q1 116 3 (opI key s).sg.length (Kh sgc (opI key s).sg),.blk b2 [(aa (opI key s).pg),v1,u1,(.bool (opI key s).c),(aa (opI key s).en),q1] 43]:=H4.freeze (i:=9) O
 have H6:=H5.freeze (i:=10) O
 refine wm O<|wo (aM (vs:=[_,_,_,_,_,_]) O (H6.cells (i:=11) O O) A43 O Fa.I43 O<|wo (az (Kd 40) O ((xS x k pk hx nv bv c pg hv he mb cn gs sl l ((opI key s).pg) v1 u1 q1 ((opI key s).xs) ((opI key s).ps) ((opI key s).c) ((opI key s).en) ((opI key s).sg) _ _ (H6.part [0,1,2,3,4,5,6,7,8,9,10] O O) hR h9 hhe (by omega) (by omega) (by omega) hB h0 hff hw).mono (fun e w7 hq=>?_))))
 obtain ⟨cn7,gs7,a7,rfl,hi7,ha7,hd7,hs7,hq7⟩:=hq
 refine ⟨_,rfl,?_⟩
 have H7:Ke T w w7 [.blk x (xoC k (cO sl (opI key s) a7)) 146,Ent.bo k [(aa pk),hx,(ptr c 0),nv,bv,(aa 0)],.blk c [(aa pg),hv,(.map (some mb))] 196,Ent.ar hv 1 he.length (Kg aa he),.obj mb (mP .i64 (Kg Gr.me gs7) cn7),Ent.bs 199 Gr.cells Gr.b gs7,Ent.dp grD.list gs7,Ent.dp (bY 211).list (cO sl (opI key s) a7),Ent.ar v1 2 (opI key s).xs.length (Kh xtc (opI key s).xs),Ent.ar u1 1 (opI key s).ps.length (Kg bA (opI key s).ps),Ent.ar q1 3 (opI key s).sg.length (Kh sgc (opI key s).sg),.blk b2 [(aa (opI key s).pg),v1,u1,(.bool (opI key s).c),(aa (opI key s).en),q1] 43]:=H6.splice [0,1,2,3,4,5,6,7,8,9,10] [.blk x (xoC k (cO sl (opI key s) a7)) 146,Ent.bo k [(aa pk),hx,(ptr c 0),nv,bv,(aa 0)],.blk c [(aa pg),hv,(.map (some mb))] 196,Ent.ar hv 1 he.length (Kg aa he),.obj mb (mP .i64 (Kg Gr.me gs7) cn7),Ent.bs 199 Gr.cells Gr.b gs7,Ent.dp grD.list gs7,Ent.dp (bY 211).list (cO sl (opI key s) a7),Ent.ar v1 2 (opI key s).xs.length (Kh xtc (opI key s).xs),Ent.ar u1 1 (opI key s).ps.length (Kg bA (opI key s).ps),Ent.ar q1 3 (opI key s).sg.length (Kh sgc (opI key s).sg)] [] O O hq7 (am ae (bf (j:=1) O (am ae (bf (j:=3) O (am ae (am ae (Fits.dpTo 6 O hd7 (Fits.dpTo 7 O hs7 (bf (j:=8) O (bf (j:=9) O (bf (j:=10) O aI)))))))))))
 exact we O O<|we O O<|wa O<|wa O<|wn<|aC<|aD (.tmp O (.tmp O .nil)) (⟨_,_,a7,rfl,hi7,ha7,hd7.mono H6.fr.size,(fun b hb=>(hs7 b hb).imp (Nat.le_trans H6.fr.size) id),H7.sel [0,1,2,3,4,5,6,7] O O⟩)
abbrev zSl:List UInt8:=slS [107] 0 [] [7] false 256 [Sg.mk 256 5 [49,50,51,52,53,54,55,56]]
theorem Bl  (w:World) :
  Calls Kf 71 #[] w (fun e w'=> ∃p q,e=.returned (.agg #[aa 0,.slice none 0 0,p,.bool false,aa 256,q])∧Ke [] w w' [.row p 203 1 [(7:UInt16)].length (Kg bA [7]),.row q 116 3 [Sg.mk 256 5 [49,50,51,52,53,54,55,56]].length (Kh sgc [Sg.mk 256 5 [49,50,51,52,53,54,55,56]])]):=by
 refine enter Tryz.func71 O O ?_
 have H0:Ke [] w w []:=aL w []
 exact ws<|wo (bt H0 Fa.I43 (fun b1 w1 H1=>(wn<|ws<|wo (aW (cs:=[_]) H1 A38 Fa.fV O O O O (by decide) (by decide) (fun b2 w2 H2=>(wo (bP (cs:=[_,_,_,_]) Fa.I40 Fa.Ib O O<|wo (bP (cs:=[_,_,_]) Fa.de Fa.tZ O O<|wo (aW (cs:=[_,_,_]) H2 A41 Fa.de O O O O (by decide) (by decide) (fun b3 w3 H3=>(wo (bP (cs:=[_,_,_,_,_,_]) Fa.I43 Fa.kA O O<|wo (bw (i:=0) H3 O O O O (bk O (bk O (bk (bS (H3.arrR (i:=1) O)) (bk O (bk O (bk (bS (H3.arrR (i:=2) O)) er)))))) Fa.I43 (fun w4 H4=>(wn<|aC<|aD (.cell O (bM (vs:=[_,_,_,_,_,_]) (H4.cells (i:=0) O O) A43 O Fa.I43 O) .nil) (⟨_,_,rfl,H4.sel [1,2] O O⟩))))))))))))))))
theorem jt  (w:World) :
  Calls Kf 31 #[] w (fun e w'=>e=.returned (.bool true)∧Fr [] w w'):=by
 refine enter Tryz.func31 O O ?_
 have H0:Ke [] w w []:=aL w []
 have hso:=yZ (key:=[107]) (pg:=0) (xs:=[]) (ps:=[7]) (c:=false) (en:=256) (sg:=[Sg.mk 256 5 [49,50,51,52,53,54,55,56]]) (by decide +kernel) (by decide)
 have hO0:opC [107] zSl=0:=hso.1
 have hI:opI [107] zSl=_:=hso.2
 refine ws<|wa O<|wn<|ws<|wo (bP (cs:=[_,_]) Fa.I75 Fa.Ia O O<|wo (az (Kd 37) O ((pQ 9 _ ([]:List UInt32) _ (Arr.nil _ _) O (by simp)).mono (fun e w1 hq=>?_))))
 obtain ⟨x1,k1,hx1,nv1,bv1,c1,yv1,mb1,rfl,hk1,hv1,hq1⟩:=hq
 refine ⟨_,rfl,?_⟩
 have H1:=H0.splice [] [] [.blk x1 (xoC k1 (Ki 9 Slt.zero)) 146,Ent.bo k1 [(aa 9),hx1,(ptr c1 0),nv1,bv1,(aa 0)],.blk c1 [(aa 9),yv1,(.map (some mb1))] 196,Ent.ar yv1 1 ([]:List UInt32).length (Kg aa ([]:List UInt32)),.obj mb1 (mP .i64 (Kg Gr.me []) 0),Ent.bs 199 Gr.cells Gr.b [],Ent.dp grD.list [],Ent.dp (bY 211).list (Ki 9 Slt.zero)] O O hq1 (am ae (cr (fun b hb=>by cases List.mem_singleton.1 hb; exact hk1) (am ae (cr hv1 (am ae (am ae (cr (fun b hb=>by cases hb) (cr (fun b hb=>by cases slt_zero_ft b hb) aI))))))))
 refine wm O<|we O O<|we O O<|wa O<|wa O<|wn<|ws<|wo (az (Kd 71) O ((Bl _).mono (fun e w2 hq=>?_)))
 obtain ⟨p2,q2,rfl,hq2⟩:=hq
 refine ⟨_,rfl,?_⟩
 have H2:Ke [] w w2 [.blk x1 (xoC k1 (Ki 9 Slt.zero)) 146,Ent.bo k1 [(aa 9),hx1,(ptr c1 0),nv1,bv1,(aa 0)],.blk c1 [(aa 9),yv1,(.map (some mb1))] 196,Ent.ar yv1 1 ([]:List UInt32).length (Kg aa ([]:List UInt32)),.obj mb1 (mP .i64 (Kg Gr.me []) 0),Ent.bs 199 Gr.cells Gr.b [],Ent.dp grD.list [],Ent.dp (bY 211).list (Ki 9 Slt.zero),.row p2 203 1 [7].length (Kg bA [7]),.row q2 116 3 [Sg.mk 256 5 [49,50,51,52,53,54,55,56]].length (Kh sgc [Sg.mk 256 5 [49,50,51,52,53,54,55,56]])]:=H1.splice [] [] [.row p2 203 1 [7].length (Kg bA [7]),.row q2 116 3 [Sg.mk 256 5 [49,50,51,52,53,54,55,56]].length (Kh sgc [Sg.mk 256 5 [49,50,51,52,53,54,55,56]])] O O hq2 (am ae (am ae aI))
 refine wo (cq H2 (Kd 18) O (Dn ([107]) 0 _ _ _ [] ([7]) false 256 ([Sg.mk 256 5 [49,50,51,52,53,54,55,56]]) _ (Arr.nil _ _) (H2.arrR (i:=8) O) (H2.arrR (i:=9) O) (by decide +kernel) (by decide +kernel) (by decide +kernel) (by decide +kernel) (by decide +kernel) (by decide +kernel)) fun w3 H3=>(wm O<|we O O<|we O O<|wa O<|wa O<|wn<|ap<|ws<|wm O<|wo (bI (b:=0) O O<|wm O<|bL O O O (by first | rfl | kernel_rfl | (rw [hI]; kernel_rfl)) O (au O ?_))))
 refine bL O O O (by first | rfl | kernel_rfl | (rw [hI]; kernel_rfl)) O (bI (b:=0) O O ?_)
 refine wo (aN O (by first | rfl | kernel_rfl | (rw [hI]; kernel_rfl)) O ?_)
 refine wm O<|bL O O O (by first | rfl | kernel_rfl | (rw [hI]; kernel_rfl)) O (au O ?_)
 refine bL O O O (by first | rfl | kernel_rfl | (rw [hI]; kernel_rfl)) O (bG Fa.gE O O ?_)
 refine wo (aN O (by first | rfl | kernel_rfl | (rw [hI]; kernel_rfl)) O ?_)
 refine wm O<|wY O (au O<|wY O (bH A9 O<|wY O (bm (b:=1) O O<|wo (aN O O O<|wn<|bF O (by kernel_rfl)<|aA<|ao<|ws<|wm O<|wm O<|wo (az (Kd 21) O ((rt x1 k1 9 hx1 nv1 bv1 c1 9 yv1 ([]:List UInt32) mb1 0 ([]) (Ki 9 Slt.zero) ([]) ([107]) zSl _ _ (H3.part [0,1,2,3,4,5,6,7] O O) (CapR.nil 0) (by rfl) (by decide +kernel) (by decide +kernel) (by decide +kernel) hO0 (by decide) (by rw [hI]; kernel_rfl)).mono (fun e w4 hq=>?_)))))))
 obtain ⟨cn4,gs4,a4,rfl,hi4,ha4,hd4,hs4,hq4⟩:=hq
 refine ⟨_,rfl,?_⟩
 have H4:=H3.splice [0,1,2,3,4,5,6,7] [.blk x1 (xoC k1 (cO (Ki 9 Slt.zero) (opI ([107]) zSl) a4)) 146,Ent.bo k1 [(aa 9),hx1,(ptr c1 0),nv1,bv1,(aa 0)],.blk c1 [(aa 9),yv1,(.map (some mb1))] 196,Ent.ar yv1 1 ([]:List UInt32).length (Kg aa ([]:List UInt32)),.obj mb1 (mP .i64 (Kg Gr.me gs4) cn4),Ent.bs 199 Gr.cells Gr.b gs4,Ent.dp grD.list gs4,Ent.dp (bY 211).list (cO (Ki 9 Slt.zero) (opI ([107]) zSl) a4)] [] O O hq4 (am ae (bf (j:=1) O (am ae (bf (j:=3) O (am ae (am ae (Fits.dpTo 6 O hd4 (Fits.dpTo 7 O hs4 aI))))))))
 refine wm O<|we O O<|we O O<|wa O<|wa O<|wn<|ws<|wm O<|wm O<|wo (az (Kd 21) O ((tl x1 k1 9 hx1 nv1 bv1 c1 9 yv1 ([]:List UInt32) mb1 cn4 gs4 (cO (Ki 9 Slt.zero) (opI ([107]) zSl) a4) (df 9 ([]:List UInt32) ([]) (Ki 9 Slt.zero) (opI ([107]) zSl)) ([107]) zSl _ _ (H4.part [0,1,2,3,4,5,6,7] O O) hi4 (eT O) (by decide +kernel) (by decide +kernel) (by decide +kernel) hO0 (fun h=>by rw [hI,show ffS _=2 from by kernel_rfl] at h; cases h) (fun h=>by rw [hI,show fH _ _ _ _ _=190 from by kernel_rfl] at h; cases h)).mono (fun e w5 hq=>?_)))
 obtain ⟨cn5,gs5,rfl,hi5,hd5,hq5⟩:=hq
 refine ⟨_,rfl,?_⟩
 have H5:Ke [] w w5 [.blk x1 (xoC k1 (cO (Ki 9 Slt.zero) (opI ([107]) zSl) a4)) 146,Ent.bo k1 [(aa 9),hx1,(ptr c1 0),nv1,bv1,(aa 0)],.blk c1 [(aa 9),yv1,(.map (some mb1))] 196,Ent.ar yv1 1 ([]:List UInt32).length (Kg aa ([]:List UInt32)),.obj mb1 (mP .i64 (Kg Gr.me gs5) cn5),Ent.bs 199 Gr.cells Gr.b gs5,Ent.dp grD.list gs5,Ent.dp (bY 211).list (cO (Ki 9 Slt.zero) (opI ([107]) zSl) a4),.row p2 203 1 [7].length (Kg bA [7]),.row q2 116 3 [Sg.mk 256 5 [49,50,51,52,53,54,55,56]].length (Kh sgc [Sg.mk 256 5 [49,50,51,52,53,54,55,56]])]:=H4.splice [0,1,2,3,4,5,6,7] [.blk x1 (xoC k1 (cO (Ki 9 Slt.zero) (opI ([107]) zSl) a4)) 146,Ent.bo k1 [(aa 9),hx1,(ptr c1 0),nv1,bv1,(aa 0)],.blk c1 [(aa 9),yv1,(.map (some mb1))] 196,Ent.ar yv1 1 ([]:List UInt32).length (Kg aa ([]:List UInt32)),.obj mb1 (mP .i64 (Kg Gr.me gs5) cn5),Ent.bs 199 Gr.cells Gr.b gs5,Ent.dp grD.list gs5,Ent.dp (bY 211).list (cO (Ki 9 Slt.zero) (opI ([107]) zSl) a4)] [] O O hq5 (am ae (bf (j:=1) O (am ae (bf (j:=3) O (am ae (am ae (Fits.dpTo 6 O hd5 (bf (j:=7) O aI))))))))
 refine wm O<|we O O<|we O O<|wa O<|wa O<|wn<|ap<|WC.drawn 21 O Fa.M H5 ?_
 intro w6 H6
 refine WD.early (i:=0) O O O O O (by kernel_rfl)<|WD.early (i:=1) O O O O O (by kernel_rfl)<|WD.early (i:=2) O O O O O (by kernel_rfl)<|WD.early (i:=6) O O O O O (by kernel_rfl)<|WD.early (i:=7) O O O O O (by kernel_rfl)<|WD.named (fun W hW=>?_)
 let e7:List (Nat × Value)→List (Nat × Value):=fun r=>(0,(.bool false))::(1,(ptr x1 0))::(2,(vN 0))::(3,(str zSl))::(4,(vN (imE 0 [] ([7]) 256 ([Sg.mk 256 5 [49,50,51,52,53,54,55,56]]))))::(5,(vN (ffS (Ki 9 Slt.zero))))::(6,(vN 0))::(7,(vN 0))::(8,(vN (fH 9 ([]:List UInt32) (df 9 ([]:List UInt32) ([]) (Ki 9 Slt.zero) (opI ([107]) zSl)) (cO (Ki 9 Slt.zero) (opI ([107]) zSl) a4) (opI ([107]) zSl))))::(13,(.tuple #[(ptr x1 0),(vN 0)]))::(14,(.agg #[(aa 9),(.slice none 0 0)]))::(15,(.tuple #[(ptr x1 0),(vN 0)]))::(16,(ptr x1 0))::(17,(vN 0))::(18,(.tuple #[(str zSl),(vN (imE 0 [] ([7]) 256 ([Sg.mk 256 5 [49,50,51,52,53,54,55,56]])))]))::(19,(.agg #[(aa 0),(.slice none 0 0),p2,(.bool false),(aa 256),q2]))::(20,(.tuple #[(str zSl),(vN (imE 0 [] ([7]) 256 ([Sg.mk 256 5 [49,50,51,52,53,54,55,56]])))]))::(21,(str zSl))::(22,(vN (imE 0 [] ([7]) 256 ([Sg.mk 256 5 [49,50,51,52,53,54,55,56]]))))::(23,(vN 0))::(24,(.bool (decide (0≠0))))::(25,(.bool (decide (0≠0))))::(26,(vN (imE 0 [] ([7]) 256 ([Sg.mk 256 5 [49,50,51,52,53,54,55,56]]))))::(27,(.bool (decide ((imE 0 [] ([7]) 256 ([Sg.mk 256 5 [49,50,51,52,53,54,55,56]]))≠0))))::(28,(.bool (decide ((imE 0 [] ([7]) 256 ([Sg.mk 256 5 [49,50,51,52,53,54,55,56]]))≠0))))::(29,(.bool (decide ((imE 0 [] ([7]) 256 ([Sg.mk 256 5 [49,50,51,52,53,54,55,56]]))≠0))))::(30,(ptr x1 0))::(31,(.bool false))::(32,(.bool false))::(33,(.bool false))::(34,(str zSl))::(35,(vN zSl.length))::(36,(.bool (decide (zSl.length<1))))::(37,(.bool (decide (zSl.length<1))))::(38,(.tuple #[(vN (ffS (Ki 9 Slt.zero))),(vN 0)]))::(39,(ptr x1 0))::(40,(str zSl))::(41,(.tuple #[(vN (ffS (Ki 9 Slt.zero))),(vN 0)]))::(42,(vN (ffS (Ki 9 Slt.zero))))::(43,(vN 0))::(44,(.tuple #[(vN 0),(vN (fH 9 ([]:List UInt32) (df 9 ([]:List UInt32) ([]) (Ki 9 Slt.zero) (opI ([107]) zSl)) (cO (Ki 9 Slt.zero) (opI ([107]) zSl) a4) (opI ([107]) zSl)))]))::(45,(ptr x1 0))::(46,(str zSl))::(47,(.tuple #[(vN 0),(vN (fH 9 ([]:List UInt32) (df 9 ([]:List UInt32) ([]) (Ki 9 Slt.zero) (opI ([107]) zSl)) (cO (Ki 9 Slt.zero) (opI ([107]) zSl) a4) (opI ([107]) zSl)))]))::(48,(vN 0))::(49,(vN (fH 9 ([]:List UInt32) (df 9 ([]:List UInt32) ([]) (Ki 9 Slt.zero) (opI ([107]) zSl)) (cO (Ki 9 Slt.zero) (opI ([107]) zSl) a4) (opI ([107]) zSl))))::r
 let Bm:Ent:=.blk x1 (xoC k1 (cO (Ki 9 Slt.zero) (opI ([107]) zSl) a4)) 146
 let B0:Ent:=Ent.bo k1 [(aa 9),hx1,(ptr c1 0),nv1,bv1,(aa 0)]
 let B1:Ent:=.blk c1 [(aa 9),yv1,(.map (some mb1))] 196
 let B2:Ent:=Ent.ar yv1 1 ([]:List UInt32).length (Kg aa ([]:List UInt32))
 let B3:Ent:=.obj mb1 (mP .i64 (Kg Gr.me gs5) cn5)
 let B4:Ent:=Ent.bs 199 Gr.cells Gr.b gs5
 let B5:Ent:=Ent.dp grD.list gs5
 let B6:Ent:=Ent.dp (bY 211).list (cO (Ki 9 Slt.zero) (opI ([107]) zSl) a4)
 let B7:Ent:=.row p2 203 1 [7].length (Kg bA [7])
 let B8:Ent:=.row q2 116 3 [Sg.mk 256 5 [49,50,51,52,53,54,55,56]].length (Kh sgc [Sg.mk 256 5 [49,50,51,52,53,54,55,56]])
 have D9: ∀b37 wS,Ke [] w wS [Bm,B0,B1,B2,B3,B4,B5,B6,B7,B8,.row (.slice (some ⟨b37,0,none⟩) 1 1) 5 1 1 (Kg vU8 [((zSl.getD (zSl.length-1) 0) ^^^ (1:UInt8))])]→W 0 (bz 21 2097151) (e7 [(10,(vN (opC ([107]) ((zSl.take (zSl.length-1))++[((zSl.getD (zSl.length-1) 0) ^^^ (1:UInt8))]))))]) wS:=fun b37 wS HS=>by
  rw [hW]
  refine WD.done (by kernel_rfl)<|ao<|ws<|wm O<|wo (cq HS (Kd 21) O (zP ([107]) zSl _) fun w8 H8=>(wm O<|we O O<|we O O<|wa O<|wa O<|wn<|ws<|wm O<|wo (dk (b:=1) O O<|wm O<|bL O O O (by first | rfl | kernel_rfl | (rw [hI]; kernel_rfl)) O (au O ?_))))
  refine bL O O O (by first | rfl | kernel_rfl | (rw [hI]; kernel_rfl)) O (dk (b:=0) O O ?_)
  refine wo (aQ O (by first | rfl | kernel_rfl | (rw [hI]; kernel_rfl)) O ?_)
  refine wm O<|bL O O O (by decide) O (au O<|bL O O O (by decide) O (dk (b:=190) O O<|wo (aQ O (by decide) O<|wm O<|bL O O O (by first | rfl | kernel_rfl | (rw [hI]; kernel_rfl)) O (au O ?_))))
  refine bL O O O (by first | rfl | kernel_rfl | (rw [hI]; kernel_rfl)) O (dk (b:=170) O O ?_)
  refine wo (aQ O (by first | rfl | kernel_rfl | (rw [hI]; kernel_rfl)) O ?_)
  refine wm O<|bL O O O (by first | rfl | kernel_rfl | (rw [hI]; kernel_rfl)) O (au O ?_)
  refine bL O O O (by first | rfl | kernel_rfl | (rw [hI]; kernel_rfl)) O (dk (b:=1) O O ?_)
  refine wo (aQ O (by first | rfl | kernel_rfl | (rw [hI]; kernel_rfl)) O ?_)
  refine wm O<|bL O O O (by decide) O (au O<|bL O O O (by decide) O (cq H8 (Kd 22) O (rR x1 k1 9 hx1 nv1 bv1 c1 9 yv1 ([]:List UInt32) mb1 cn5 gs5 (cO (Ki 9 Slt.zero) (opI ([107]) zSl) a4) (df 9 ([]:List UInt32) (df 9 ([]:List UInt32) ([]) (Ki 9 Slt.zero) (opI ([107]) zSl)) (cO (Ki 9 Slt.zero) (opI ([107]) zSl) a4) (opI ([107]) zSl)) _ (H8.cellsAt (i:=0) O) (H8.cellsAtO (i:=1) O) (H8.cellsAt (i:=2) O) (H8.arrO (i:=3) O) (H8.mp (i:=4) O) (H8.bsG (i:=5) O) (H8.dpO (i:=6) O) (H8.dpO (i:=7) O) hi5) fun w9 H9=>(bL O O O (by decide) O (eu (b:=8) O O<|wo (aQ O (by decide) O<|wm O<|bL O O O (by first | rfl | kernel_rfl | (rw [hI]; kernel_rfl)) O (au O ?_))))))
  refine bL O O O (by first | rfl | kernel_rfl | (rw [hI]; kernel_rfl)) O (cq H9 (Kd 72) O (qJ x1 k1 (cO (Ki 9 Slt.zero) (opI ([107]) zSl) a4) 1 a4 _ (H9.cellsAt (i:=0) O) (iq (i:=1) (H9.dpO (i:=7) O) (by rw [hI]; rfl)).1 (eT O) (by rw [hI]; kernel_rfl) (by rw [hI]; rfl)) fun w10 H10=>?_)
  refine bL O O O (by first | rfl | kernel_rfl | (rw [hI]; kernel_rfl)) O (zD O Fa.GA O ?_)
  refine bL O O O (by first | rfl | kernel_rfl | (rw [hI]; kernel_rfl)) O (gZ (a:=2) (b:=2) O O ?_)
  refine wo (aQ O (by first | rfl | kernel_rfl | (rw [hI]; kernel_rfl)) O ?_)
  exact wa O<|wn<|aC<|aD (.tmp O .nil) (⟨rfl,H10.fr⟩)
 have B9: ∀b37 wS,Ke [] w wS [Bm,B0,B1,B2,B3,B4,B5,B6,B7,B8,.row (.slice (some ⟨b37,0,none⟩) 1 1) 5 1 1 (Kg vU8 [((zSl.getD (zSl.length-1) 0) ^^^ (1:UInt8))])]→W 1 (bz 21 1048575) (e7 [(68,(vN (opC ([107]) ((zSl.take (zSl.length-1))++[((zSl.getD (zSl.length-1) 0) ^^^ (1:UInt8))]))))]) wS:=fun b37 wS HS=>by
  rw [hW]
  exact wd1 20<|kS 20 O (ee O<|aO hW (D9 b37 wS HS))
 have C0: ∀b37 wS,Ke [] w wS [Bm,B0,B1,B2,B3,B4,B5,B6,B7,B8,.row (.slice (some ⟨b37,0,none⟩) 1 1) 5 1 1 (Kg vU8 [((zSl.getD (zSl.length-1) 0) ^^^ (1:UInt8))])]→W 2 (bz 21 524287) (e7 [(67,(vN 0)),(68,(vN (opC ([107]) ((zSl.take (zSl.length-1))++[((zSl.getD (zSl.length-1) 0) ^^^ (1:UInt8))]))))]) wS:=fun b37 wS HS=>by
  rw [hW]
  exact wd1 19<|kS 19 O (ee O<|aO hW (B9 b37 wS HS))
 have Eq: ∀b37 wS,Ke [] w wS [Bm,B0,B1,B2,B3,B4,B5,B6,B7,B8,.row (.slice (some ⟨b37,0,none⟩) 1 1) 5 1 1 (Kg vU8 [((zSl.getD (zSl.length-1) 0) ^^^ (1:UInt8))])]→W 2 (bz 21 786431) (e7 [(50,(.tuple #[(vN 0),(vN (opC ([107]) ((zSl.take (zSl.length-1))++[((zSl.getD (zSl.length-1) 0) ^^^ (1:UInt8))])))]))]) wS:=fun b37 wS HS=>by
  rw [hW]
  exact wd1 18<|kS 18 O (ch O O<|aO hW (B9 b37 wS HS))
 have E0: ∀b37 wS,Ke [] w wS [Bm,B0,B1,B2,B3,B4,B5,B6,B7,B8,.row (.slice (some ⟨b37,0,none⟩) 1 1) 5 1 1 (Kg vU8 [((zSl.getD (zSl.length-1) 0) ^^^ (1:UInt8))])]→W 3 (bz 21 262143) (e7 [(50,(.tuple #[(vN 0),(vN (opC ([107]) ((zSl.take (zSl.length-1))++[((zSl.getD (zSl.length-1) 0) ^^^ (1:UInt8))])))])),(67,(vN 0))]) wS:=fun b37 wS HS=>by
  rw [hW]
  refine wd2 18 19 ?_ ?_
  ·
   exact kS 18 O (ch O O<|aO hW (C0 b37 wS HS))
  exact kS 19 O (ee O<|aO hW (Eq b37 wS HS))
 have E1: ∀b37 wS,Ke [] w wS [Bm,B0,B1,B2,B3,B4,B5,B6,B7,B8,.row (.slice (some ⟨b37,0,none⟩) 1 1) 5 1 1 (Kg vU8 [((zSl.getD (zSl.length-1) 0) ^^^ (1:UInt8))])]→W 3 (bz 21 393215) (e7 [(50,(.tuple #[(vN 0),(vN (opC ([107]) ((zSl.take (zSl.length-1))++[((zSl.getD (zSl.length-1) 0) ^^^ (1:UInt8))])))])),(68,(vN (opC ([107]) ((zSl.take (zSl.length-1))++[((zSl.getD (zSl.length-1) 0) ^^^ (1:UInt8))]))))]) wS:=fun b37 wS HS=>by
  rw [hW]
  exact wd1 17<|kS 17 O (ch O O<|aO hW (C0 b37 wS HS))
 have E2: ∀b37 wS,Ke [] w wS [Bm,B0,B1,B2,B3,B4,B5,B6,B7,B8,.row (.slice (some ⟨b37,0,none⟩) 1 1) 5 1 1 (Kg vU8 [((zSl.getD (zSl.length-1) 0) ^^^ (1:UInt8))])]→W 4 (bz 21 131071) (e7 [(50,(.tuple #[(vN 0),(vN (opC ([107]) ((zSl.take (zSl.length-1))++[((zSl.getD (zSl.length-1) 0) ^^^ (1:UInt8))])))]))]) wS:=fun b37 wS HS=>by
  rw [hW]
  refine wd2 17 18 ?_ ?_
  ·
   exact kS 17 O (ch O O<|aO hW (E0 b37 wS HS))
  exact kS 18 O (ch O O<|aO hW (E1 b37 wS HS))
 have E3: ∀b37 wS,Ke [] w wS [Bm,B0,B1,B2,B3,B4,B5,B6,B7,B8,.row (.slice (some ⟨b37,0,none⟩) 1 1) 5 1 1 (Kg vU8 [((zSl.getD (zSl.length-1) 0) ^^^ (1:UInt8))])]→W 5 (bz 21 65535) (e7 [(66,(.tuple #[(vN 0),(vN (opC ([107]) ((zSl.take (zSl.length-1))++[((zSl.getD (zSl.length-1) 0) ^^^ (1:UInt8))])))]))]) wS:=fun b37 wS HS=>by
  rw [hW]
  exact wd1 16<|kS 16 O (au O<|aO hW (E2 b37 wS HS))
 have E4: ∀b37 wS,Ke [] w wS [Bm,B0,B1,B2,B3,B4,B5,B6,B7,B8,.row (.slice (some ⟨b37,0,none⟩) 1 1) 5 1 1 (Kg vU8 [((zSl.getD (zSl.length-1) 0) ^^^ (1:UInt8))])]→W 6 (bz 21 32767) (e7 [(51,(ptr x1 0)),(65,(str ((zSl.take (zSl.length-1))++[((zSl.getD (zSl.length-1) 0) ^^^ (1:UInt8))])))]) wS:=fun b37 wS HS=>by
  rw [hW]
  refine wd1 15<|kS 15 O (az (Kd 21) O ((ru x1 k1 9 hx1 nv1 bv1 c1 9 yv1 ([]:List UInt32) mb1 cn5 gs5 (cO (Ki 9 Slt.zero) (opI ([107]) zSl) a4) (df 9 ([]:List UInt32) (df 9 ([]:List UInt32) ([]) (Ki 9 Slt.zero) (opI ([107]) zSl)) (cO (Ki 9 Slt.zero) (opI ([107]) zSl) a4) (opI ([107]) zSl)) ([107]) ((zSl.take (zSl.length-1))++[((zSl.getD (zSl.length-1) 0) ^^^ (1:UInt8))]) _ _ (HS.part [0,1,2,3,4,5,6,7] O O) hi5 (eT O) (by decide +kernel) (by decide +kernel) (by decide +kernel) (by decide +kernel)).mono (fun e w38 hq=>?_)))
  obtain ⟨rfl,hq38⟩:=hq
  refine ⟨_,rfl,?_⟩
  have H38:=HS.splice [0,1,2,3,4,5,6,7] [.blk x1 (xoC k1 (cO (Ki 9 Slt.zero) (opI ([107]) zSl) a4)) 146,Ent.bo k1 [(aa 9),hx1,(ptr c1 0),nv1,bv1,(aa 0)],.blk c1 [(aa 9),yv1,(.map (some mb1))] 196,Ent.ar yv1 1 ([]:List UInt32).length (Kg aa ([]:List UInt32)),.obj mb1 (mP .i64 (Kg Gr.me gs5) cn5),Ent.bs 199 Gr.cells Gr.b gs5,Ent.dp grD.list gs5,Ent.dp (bY 211).list (cO (Ki 9 Slt.zero) (opI ([107]) zSl) a4)] [] O O hq38 (am ae (bf (j:=1) O (am ae (bf (j:=3) O (am ae (am ae (bf (j:=6) O (bf (j:=7) O aI))))))))
  exact aO hW (E3 b37 w38 H38)
 have C1: ∀b37 wS,Ke [] w wS [Bm,B0,B1,B2,B3,B4,B5,B6,B7,B8,.row (.slice (some ⟨b37,0,none⟩) 1 1) 5 1 1 (Kg vU8 [((zSl.getD (zSl.length-1) 0) ^^^ (1:UInt8))])]→W 7 (bz 21 16383) (e7 [(51,(ptr x1 0)),(56,(str (zSl.take (zSl.length-1)))),(64,(str [((zSl.getD (zSl.length-1) 0) ^^^ (1:UInt8))]))]) wS:=fun b37 wS HS=>by
  rw [hW]
  exact wd1 14<|kS 14 O (fK O O (by decide +kernel)<|aO hW (E4 b37 wS HS))
 have C2: ∀b37 wS,Ke [] w wS [Bm,B0,B1,B2,B3,B4,B5,B6,B7,B8,.row (.slice (some ⟨b37,0,none⟩) 1 1) 5 1 1 (Kg vU8 [((zSl.getD (zSl.length-1) 0) ^^^ (1:UInt8))])]→W 8 (bz 21 8191) (e7 [(51,(ptr x1 0)),(56,(str (zSl.take (zSl.length-1)))),(63,(.slice (some ⟨b37,0,none⟩) 1 1))]) wS:=fun b37 wS HS=>by
  rw [hW]
  exact wd1 13<|kS 13 O (cD (l:=[((zSl.getD (zSl.length-1) 0) ^^^ (1:UInt8))]) A114 A5 A9 O (HS.arrR (i:=10) O) O<|aO hW (C1 b37 wS HS))
 have C3: ∀b37 wS,Ke [] w wS [Bm,B0,B1,B2,B3,B4,B5,B6,B7,B8,.row (.slice (some ⟨b37,0,none⟩) 1 1) 5 1 1 (Kg vU8 [((zSl.getD (zSl.length-1) 0) ^^^ (1:UInt8))])]→W 8 (bz 21 16351) (e7 [(51,(ptr x1 0)),(52,(str zSl)),(55,(vN (zSl.length-1))),(64,(str [((zSl.getD (zSl.length-1) 0) ^^^ (1:UInt8))]))]) wS:=fun b37 wS HS=>by
  rw [hW]
  exact wd1 5<|kS 5 O (cT A9 O O (by decide +kernel)<|aO hW (C1 b37 wS HS))
 have C4: ∀wS,Ke [] w wS [Bm,B0,B1,B2,B3,B4,B5,B6,B7,B8]→W 9 (bz 21 4095) (e7 [(51,(ptr x1 0)),(56,(str (zSl.take (zSl.length-1)))),(62,(vU8 ((zSl.getD (zSl.length-1) 0) ^^^ (1:UInt8))))]) wS:=fun wS HS=>by
  rw [hW]
  exact wd1 12<|kS 12 O (aW (cs:=[_]) HS A114 Fa.I5 O O O O (by decide) (by decide) (fun b37 w37 H37=>(aO hW (C2 b37 w37 H37))))
 have C5: ∀b37 wS,Ke [] w wS [Bm,B0,B1,B2,B3,B4,B5,B6,B7,B8,.row (.slice (some ⟨b37,0,none⟩) 1 1) 5 1 1 (Kg vU8 [((zSl.getD (zSl.length-1) 0) ^^^ (1:UInt8))])]→W 9 (bz 21 8159) (e7 [(51,(ptr x1 0)),(52,(str zSl)),(55,(vN (zSl.length-1))),(63,(.slice (some ⟨b37,0,none⟩) 1 1))]) wS:=fun b37 wS HS=>by
  rw [hW]
  refine wd2 5 13 ?_ ?_
  ·
   exact kS 5 O (cT A9 O O (by decide +kernel)<|aO hW (C2 b37 wS HS))
  exact kS 13 O (cD (l:=[((zSl.getD (zSl.length-1) 0) ^^^ (1:UInt8))]) A114 A5 A9 O (HS.arrR (i:=10) O) O<|aO hW (C3 b37 wS HS))
 have C6: ∀b37 wS,Ke [] w wS [Bm,B0,B1,B2,B3,B4,B5,B6,B7,B8,.row (.slice (some ⟨b37,0,none⟩) 1 1) 5 1 1 (Kg vU8 [((zSl.getD (zSl.length-1) 0) ^^^ (1:UInt8))])]→W 9 (bz 21 16335) (e7 [(51,(ptr x1 0)),(52,(str zSl)),(54,(vN zSl.length)),(64,(str [((zSl.getD (zSl.length-1) 0) ^^^ (1:UInt8))]))]) wS:=fun b37 wS HS=>by
  rw [hW]
  exact wd1 4<|kS 4 O (bE (b:=1) O O (by decide +kernel) (by decide +kernel)<|aO hW (C3 b37 wS HS))
 have C7: ∀wS,Ke [] w wS [Bm,B0,B1,B2,B3,B4,B5,B6,B7,B8]→W 10 (bz 21 2047) (e7 [(51,(ptr x1 0)),(56,(str (zSl.take (zSl.length-1)))),(61,(vU8 (zSl.getD (zSl.length-1) 0)))]) wS:=fun wS HS=>by
  rw [hW]
  exact wd1 11<|kS 11 O (gW (b:=1) O O<|aO hW (C4 wS HS))
 have C8: ∀wS,Ke [] w wS [Bm,B0,B1,B2,B3,B4,B5,B6,B7,B8]→W 10 (bz 21 4063) (e7 [(51,(ptr x1 0)),(52,(str zSl)),(55,(vN (zSl.length-1))),(62,(vU8 ((zSl.getD (zSl.length-1) 0) ^^^ (1:UInt8))))]) wS:=fun wS HS=>by
  rw [hW]
  refine wd2 5 12 ?_ ?_
  ·
   exact kS 5 O (cT A9 O O (by decide +kernel)<|aO hW (C4 wS HS))
  exact kS 12 O (aW (cs:=[_]) HS A114 Fa.I5 O O O O (by decide) (by decide) (fun b37 w37 H37=>(aO hW (C5 b37 w37 H37))))
 have C9: ∀b37 wS,Ke [] w wS [Bm,B0,B1,B2,B3,B4,B5,B6,B7,B8,.row (.slice (some ⟨b37,0,none⟩) 1 1) 5 1 1 (Kg vU8 [((zSl.getD (zSl.length-1) 0) ^^^ (1:UInt8))])]→W 10 (bz 21 8143) (e7 [(51,(ptr x1 0)),(52,(str zSl)),(54,(vN zSl.length)),(63,(.slice (some ⟨b37,0,none⟩) 1 1))]) wS:=fun b37 wS HS=>by
  rw [hW]
  refine wd2 4 13 ?_ ?_
  ·
   exact kS 4 O (bE (b:=1) O O (by decide +kernel) (by decide +kernel)<|aO hW (C5 b37 wS HS))
  exact kS 13 O (cD (l:=[((zSl.getD (zSl.length-1) 0) ^^^ (1:UInt8))]) A114 A5 A9 O (HS.arrR (i:=10) O) O<|aO hW (C6 b37 wS HS))
 have E5: ∀b37 wS,Ke [] w wS [Bm,B0,B1,B2,B3,B4,B5,B6,B7,B8,.row (.slice (some ⟨b37,0,none⟩) 1 1) 5 1 1 (Kg vU8 [((zSl.getD (zSl.length-1) 0) ^^^ (1:UInt8))])]→W 10 (bz 21 16327) (e7 [(51,(ptr x1 0)),(52,(str zSl)),(53,(str zSl)),(64,(str [((zSl.getD (zSl.length-1) 0) ^^^ (1:UInt8))]))]) wS:=fun b37 wS HS=>by
  rw [hW]
  exact wd1 3<|kS 3 O (bH A9 O<|aO hW (C6 b37 wS HS))
 have D0: ∀wS,Ke [] w wS [Bm,B0,B1,B2,B3,B4,B5,B6,B7,B8]→W 11 (bz 21 1023) (e7 [(51,(ptr x1 0)),(56,(str (zSl.take (zSl.length-1)))),(57,(str zSl)),(60,(vN (zSl.length-1)))]) wS:=fun wS HS=>by
  rw [hW]
  exact wd1 10<|kS 10 O (cl A9 O O (by decide +kernel)<|aO hW (C7 wS HS))
 have D1: ∀wS,Ke [] w wS [Bm,B0,B1,B2,B3,B4,B5,B6,B7,B8]→W 11 (bz 21 2015) (e7 [(51,(ptr x1 0)),(52,(str zSl)),(55,(vN (zSl.length-1))),(61,(vU8 (zSl.getD (zSl.length-1) 0)))]) wS:=fun wS HS=>by
  rw [hW]
  refine wd2 5 11 ?_ ?_
  ·
   exact kS 5 O (cT A9 O O (by decide +kernel)<|aO hW (C7 wS HS))
  exact kS 11 O (gW (b:=1) O O<|aO hW (C8 wS HS))
 have D2: ∀wS,Ke [] w wS [Bm,B0,B1,B2,B3,B4,B5,B6,B7,B8]→W 11 (bz 21 4047) (e7 [(51,(ptr x1 0)),(52,(str zSl)),(54,(vN zSl.length)),(62,(vU8 ((zSl.getD (zSl.length-1) 0) ^^^ (1:UInt8))))]) wS:=fun wS HS=>by
  rw [hW]
  refine wd2 4 12 ?_ ?_
  ·
   exact kS 4 O (bE (b:=1) O O (by decide +kernel) (by decide +kernel)<|aO hW (C8 wS HS))
  exact kS 12 O (aW (cs:=[_]) HS A114 Fa.I5 O O O O (by decide) (by decide) (fun b37 w37 H37=>(aO hW (C9 b37 w37 H37))))
 have E6: ∀b37 wS,Ke [] w wS [Bm,B0,B1,B2,B3,B4,B5,B6,B7,B8,.row (.slice (some ⟨b37,0,none⟩) 1 1) 5 1 1 (Kg vU8 [((zSl.getD (zSl.length-1) 0) ^^^ (1:UInt8))])]→W 11 (bz 21 8135) (e7 [(51,(ptr x1 0)),(52,(str zSl)),(53,(str zSl)),(63,(.slice (some ⟨b37,0,none⟩) 1 1))]) wS:=fun b37 wS HS=>by
  rw [hW]
  refine wd2 3 13 ?_ ?_
  ·
   exact kS 3 O (bH A9 O<|aO hW (C9 b37 wS HS))
  exact kS 13 O (cD (l:=[((zSl.getD (zSl.length-1) 0) ^^^ (1:UInt8))]) A114 A5 A9 O (HS.arrR (i:=10) O) O<|aO hW (E5 b37 wS HS))
 have D3: ∀wS,Ke [] w wS [Bm,B0,B1,B2,B3,B4,B5,B6,B7,B8]→W 12 (bz 21 511) (e7 [(51,(ptr x1 0)),(56,(str (zSl.take (zSl.length-1)))),(57,(str zSl)),(59,(vN zSl.length))]) wS:=fun wS HS=>by
  rw [hW]
  exact wd1 9<|kS 9 O (bE (b:=1) O O (by decide +kernel) (by decide +kernel)<|aO hW (D0 wS HS))
 have D4: ∀wS,Ke [] w wS [Bm,B0,B1,B2,B3,B4,B5,B6,B7,B8]→W 12 (bz 21 991) (e7 [(51,(ptr x1 0)),(52,(str zSl)),(55,(vN (zSl.length-1))),(57,(str zSl)),(60,(vN (zSl.length-1)))]) wS:=fun wS HS=>by
  rw [hW]
  refine wd2 5 10 ?_ ?_
  ·
   exact kS 5 O (cT A9 O O (by decide +kernel)<|aO hW (D0 wS HS))
  exact kS 10 O (cl A9 O O (by decide +kernel)<|aO hW (D1 wS HS))
 have D5: ∀wS,Ke [] w wS [Bm,B0,B1,B2,B3,B4,B5,B6,B7,B8]→W 12 (bz 21 1999) (e7 [(51,(ptr x1 0)),(52,(str zSl)),(54,(vN zSl.length)),(61,(vU8 (zSl.getD (zSl.length-1) 0)))]) wS:=fun wS HS=>by
  rw [hW]
  refine wd2 4 11 ?_ ?_
  ·
   exact kS 4 O (bE (b:=1) O O (by decide +kernel) (by decide +kernel)<|aO hW (D1 wS HS))
  exact kS 11 O (gW (b:=1) O O<|aO hW (D2 wS HS))
 have E7: ∀wS,Ke [] w wS [Bm,B0,B1,B2,B3,B4,B5,B6,B7,B8]→W 12 (bz 21 4039) (e7 [(51,(ptr x1 0)),(52,(str zSl)),(53,(str zSl)),(62,(vU8 ((zSl.getD (zSl.length-1) 0) ^^^ (1:UInt8))))]) wS:=fun wS HS=>by
  rw [hW]
  refine wd2 3 12 ?_ ?_
  ·
   exact kS 3 O (bH A9 O<|aO hW (D2 wS HS))
  exact kS 12 O (aW (cs:=[_]) HS A114 Fa.I5 O O O O (by decide) (by decide) (fun b37 w37 H37=>(aO hW (E6 b37 w37 H37))))
 have E8: ∀wS,Ke [] w wS [Bm,B0,B1,B2,B3,B4,B5,B6,B7,B8]→W 13 (bz 21 255) (e7 [(51,(ptr x1 0)),(56,(str (zSl.take (zSl.length-1)))),(57,(str zSl)),(58,(str zSl))]) wS:=fun wS HS=>by
  rw [hW]
  exact wd1 8<|kS 8 O (bH A9 O<|aO hW (D3 wS HS))
 have D6: ∀wS,Ke [] w wS [Bm,B0,B1,B2,B3,B4,B5,B6,B7,B8]→W 13 (bz 21 479) (e7 [(51,(ptr x1 0)),(52,(str zSl)),(55,(vN (zSl.length-1))),(57,(str zSl)),(59,(vN zSl.length))]) wS:=fun wS HS=>by
  rw [hW]
  refine wd2 5 9 ?_ ?_
  ·
   exact kS 5 O (cT A9 O O (by decide +kernel)<|aO hW (D3 wS HS))
  exact kS 9 O (bE (b:=1) O O (by decide +kernel) (by decide +kernel)<|aO hW (D4 wS HS))
 have D7: ∀wS,Ke [] w wS [Bm,B0,B1,B2,B3,B4,B5,B6,B7,B8]→W 13 (bz 21 975) (e7 [(51,(ptr x1 0)),(52,(str zSl)),(54,(vN zSl.length)),(57,(str zSl)),(60,(vN (zSl.length-1)))]) wS:=fun wS HS=>by
  rw [hW]
  refine wd2 4 10 ?_ ?_
  ·
   exact kS 4 O (bE (b:=1) O O (by decide +kernel) (by decide +kernel)<|aO hW (D4 wS HS))
  exact kS 10 O (cl A9 O O (by decide +kernel)<|aO hW (D5 wS HS))
 have E9: ∀wS,Ke [] w wS [Bm,B0,B1,B2,B3,B4,B5,B6,B7,B8]→W 13 (bz 21 1991) (e7 [(51,(ptr x1 0)),(52,(str zSl)),(53,(str zSl)),(61,(vU8 (zSl.getD (zSl.length-1) 0)))]) wS:=fun wS HS=>by
  rw [hW]
  refine wd2 3 11 ?_ ?_
  ·
   exact kS 3 O (bH A9 O<|aO hW (D5 wS HS))
  exact kS 11 O (gW (b:=1) O O<|aO hW (E7 wS HS))
 have Fl: ∀wS,Ke [] w wS [Bm,B0,B1,B2,B3,B4,B5,B6,B7,B8]→W 14 (bz 21 223) (e7 [(51,(ptr x1 0)),(52,(str zSl)),(55,(vN (zSl.length-1))),(57,(str zSl)),(58,(str zSl))]) wS:=fun wS HS=>by
  rw [hW]
  refine wd2 5 8 ?_ ?_
  ·
   exact kS 5 O (cT A9 O O (by decide +kernel)<|aO hW (E8 wS HS))
  exact kS 8 O (bH A9 O<|aO hW (D6 wS HS))
 have D8: ∀wS,Ke [] w wS [Bm,B0,B1,B2,B3,B4,B5,B6,B7,B8]→W 14 (bz 21 463) (e7 [(51,(ptr x1 0)),(52,(str zSl)),(54,(vN zSl.length)),(57,(str zSl)),(59,(vN zSl.length))]) wS:=fun wS HS=>by
  rw [hW]
  refine wd2 4 9 ?_ ?_
  ·
   exact kS 4 O (bE (b:=1) O O (by decide +kernel) (by decide +kernel)<|aO hW (D6 wS HS))
  exact kS 9 O (bE (b:=1) O O (by decide +kernel) (by decide +kernel)<|aO hW (D7 wS HS))
 have Fn: ∀wS,Ke [] w wS [Bm,B0,B1,B2,B3,B4,B5,B6,B7,B8]→W 14 (bz 21 967) (e7 [(51,(ptr x1 0)),(52,(str zSl)),(53,(str zSl)),(57,(str zSl)),(60,(vN (zSl.length-1)))]) wS:=fun wS HS=>by
  rw [hW]
  refine wd2 3 10 ?_ ?_
  ·
   exact kS 3 O (bH A9 O<|aO hW (D7 wS HS))
  exact kS 10 O (cl A9 O O (by decide +kernel)<|aO hW (E9 wS HS))
 have Ft: ∀wS,Ke [] w wS [Bm,B0,B1,B2,B3,B4,B5,B6,B7,B8]→W 15 (bz 21 207) (e7 [(51,(ptr x1 0)),(52,(str zSl)),(54,(vN zSl.length)),(57,(str zSl)),(58,(str zSl))]) wS:=fun wS HS=>by
  rw [hW]
  refine wd2 4 8 ?_ ?_
  ·
   exact kS 4 O (bE (b:=1) O O (by decide +kernel) (by decide +kernel)<|aO hW (Fl wS HS))
  exact kS 8 O (bH A9 O<|aO hW (D8 wS HS))
 have F0: ∀wS,Ke [] w wS [Bm,B0,B1,B2,B3,B4,B5,B6,B7,B8]→W 15 (bz 21 455) (e7 [(51,(ptr x1 0)),(52,(str zSl)),(53,(str zSl)),(57,(str zSl)),(59,(vN zSl.length))]) wS:=fun wS HS=>by
  rw [hW]
  refine wd2 3 9 ?_ ?_
  ·
   exact kS 3 O (bH A9 O<|aO hW (D8 wS HS))
  exact kS 9 O (bE (b:=1) O O (by decide +kernel) (by decide +kernel)<|aO hW (Fn wS HS))
 have F1: ∀wS,Ke [] w wS [Bm,B0,B1,B2,B3,B4,B5,B6,B7,B8]→W 16 (bz 21 199) (e7 [(51,(ptr x1 0)),(52,(str zSl)),(53,(str zSl)),(57,(str zSl)),(58,(str zSl))]) wS:=fun wS HS=>by
  rw [hW]
  refine wd2 3 8 ?_ ?_
  ·
   exact kS 3 O (bH A9 O<|aO hW (Ft wS HS))
  exact kS 8 O (bH A9 O<|aO hW (F0 wS HS))
 have hq:=F1 w6 H6
 rw [hW] at hq ⊢
 refine WD.cov ?_ hq
 exact by repeat (first | exact trivial | refine ⟨rfl,?_⟩)
theorem wr (pg:UInt32) (ev pv sv:Value) (xs:List Xt) (ps:List UInt16) (con:Bool) (en:UInt32) (sg:List Sg) (w:World) (_hE:Arr w ev 2 xs.length (Kh xtc xs)) (_hP:Arr w pv 1 ps.length (Kg bA ps)) (hS:Arr w sv 3 sg.length (Kh sgc sg)) (_hn:xs.length<2^47) (_hm:ps.length<2^47) (hk:sg.length<2^47) (hB: ∀x∈sg,x.b.length≤2^30) (hq:(dD sg sg.length).length<2^40) :
  Calls Kf 80 #[(.agg #[(aa pg),ev,pv,(.bool con),(aa en),sv])] w (fun e w'=> ∃v,e=.returned v∧Ke [] w w' [.row v 136 3 (dD sg sg.length).length (Kh pbc (dD sg sg.length))]):=by
 refine enter Tryz.func80 O O ?_
 have H0:=aL w []
 refine ws<|wo (bK H0 O O (fun b1 w1 H1=>(wa O<|wn<|ws<|wa O ?_)))
 have H2:=H1.nilRow 136 3
 refine wn<|ap<|ws<|wa O<|wn<|aB<|bi (α:=Nat × Value × Nat) (fun (i,v,n)=>[(1,(ptr b1 0)),(3,v),(4,(vN i))]) (fun (i,v,n) w'=>(i≤sg.length∧n=(dD sg i).length)∧Ke [] w w' [.blk b1 [(aa pg),ev,pv,(.bool con),(aa en),sv] 43,.row v 136 3 n (Kh pbc (dD sg i))]) (fun (i,v,n)=>sg.length-i) (0,.slice none 0 0,0) ⟨⟨Kk _,rfl⟩,H2⟩ ⟨rfl,rfl,rfl,trivial⟩ ?_
 rintro ⟨i,v,n⟩ w3 ⟨⟨hi1,hn1⟩,H3⟩
 show WC _ _ _ _ _ [(1,(ptr b1 0)),(3,v),(4,(vN i))] _
 refine ap<|ws<|wm O<|wo (ab O Fa.eA<|wo (aj O (H3.cell (i:=0) O O) A41 O<|wo (bu A41 O (H3.arr hS)<|wo (bm O O<|wn (wE (i<sg.length) (fun hb4 hc4=>?_) (fun hb4 hc4=>?_))))))
 ·
  refine aA<|ao<|ap<|aB<|ws<|wo (ab O Fa.eA<|wo (aj O (H3.cell (i:=0) O O) A41 O<|wm O<|wo (bJ A41 Fa.de O (H3.arr hS) O (by omega)<|wo (cH (vs:=sgc (sg.getD i Sg.zero)) O (Arr.atsF (H3.arr hS) (fun _=>rfl) (by decide) Sg.zero (by omega)) A116 O Fa.de O<|wo (bt H3 Fa.de (fun b5 w5 H5=>(wo (bw (i:=2) H5 O O O O O Fa.de (fun w6 H6=>(wn<|ws<|wa O<|wn<|aB<|bi (α:=Nat × Value × Nat) (fun (k,v,n)=>[(1,(ptr b1 0)),(3,v),(4,(vN i)),(5,(ptr b5 0)),(6,(vN (256 * k)))]) (fun (k,v,n) w'=>(256 * k<(sg.getD i Sg.zero).b.length+256∧n=(dD sg i++gC (sg.getD i Sg.zero) k).length)∧Ke [] w w' [.blk b1 [(aa pg),ev,pv,(.bool con),(aa en),sv] 43,.row v 136 3 n (Kh pbc (dD sg i++gC (sg.getD i Sg.zero) k)),.blk b5 [(aa (sg.getD i Sg.zero).a),(vU8 (sg.getD i Sg.zero).p),(str (sg.getD i Sg.zero).b)] 116]) (fun (k,v,n)=>(sg.getD i Sg.zero).b.length-256 * k) (0,v,n) ⟨⟨by omega,by rw [hn1,gC,List.append_nil]⟩,(by rw [gC,List.append_nil]; exact H6)⟩ ⟨rfl,rfl,rfl,rfl,rfl,trivial⟩ ?_))))))))))
  rintro ⟨k,v,n⟩ w7 ⟨⟨hk0,hn2⟩,H7⟩
  show WC _ _ _ _ _ [(1,(ptr b1 0)),(3,v),(4,(vN i)),(5,(ptr b5 0)),(6,(vN (256 * k)))] _
  refine ap<|ws<|wm O<|wo (ab O Fa.eJ<|wo (aj O (H7.cell (i:=2) O O) A9 O<|wo (bH A9 O<|wo (bm O O<|wn (wE ((256 * k)<(sg.getD i Sg.zero).b.length) (fun hb8 hc8=>?_) (fun hb8 hc8=>?_))))))
  ·
   have hk:256 * k<(sg.getD i Sg.zero).b.length:=dT hb8
   have hxb:(sg.getD i Sg.zero).b.length≤2^30:=yl hB i
   have hnb:=Ep (sg:=sg) (show i<sg.length by omega) (show k<pgN (sg.getD i Sg.zero) by rw [pgN]; omega)
   refine aA<|ao<|ap<|aB<|ws<|wo (dj (f:=vU8) (c:=0) (m:=256) H7 A114 Fa.I5 O O (by decide) (by decide) (fun b9 w9 H9=>(wa O<|wn<|WC.cut (α:=List UInt8) (fun r=>[(1,(ptr b1 0)),(3,v),(4,(vN i)),(5,(ptr b5 0)),(6,(vN (256 * k))),(7,(.slice (some ⟨b9,0,none⟩) 256 256))]) (fun r w'=>(r=kF (sg.getD i Sg.zero).b k)∧Ke [] w w' [.blk b1 [(aa pg),ev,pv,(.bool con),(aa en),sv] 43,.row v 136 3 n (Kh pbc (dD sg i++gC (sg.getD i Sg.zero) k)),.blk b5 [(aa (sg.getD i Sg.zero).a),(vU8 (sg.getD i Sg.zero).p),(str (sg.getD i Sg.zero).b)] 116,.row (.slice (some ⟨b9,0,none⟩) 256 256) 5 1 256 (Kg vU8 r)]) ?_ ?_)))
   ·
    refine ws<|wa O<|wn<|aB<|bi (α:=Nat × List UInt8) (fun (j,r)=>[(1,(ptr b1 0)),(3,v),(4,(vN i)),(5,(ptr b5 0)),(6,(vN (256 * k))),(7,(.slice (some ⟨b9,0,none⟩) 256 256)),(8,(vN j))]) (fun (j,r) w'=>(j≤256∧r.length=256∧∀m,m<256→r.getD m 0=if m<j then (sg.getD i Sg.zero).b.getD (256 * k+m) 0 else 0)∧Ke [] w w' [.blk b1 [(aa pg),ev,pv,(.bool con),(aa en),sv] 43,.row v 136 3 n (Kh pbc (dD sg i++gC (sg.getD i Sg.zero) k)),.blk b5 [(aa (sg.getD i Sg.zero).a),(vU8 (sg.getD i Sg.zero).p),(str (sg.getD i Sg.zero).b)] 116,.row (.slice (some ⟨b9,0,none⟩) 256 256) 5 1 256 (Kg vU8 r)]) (fun (j,r)=>256-j) (0,Ki 256 0) ⟨⟨Kk _,List.length_replicate,fun m hm=>Du hm⟩,H9⟩ ⟨rfl,rfl,rfl,rfl,rfl,rfl,rfl,trivial⟩ ?_
    rintro ⟨j,r⟩ w10 ⟨⟨hj1,hr,hg⟩,H10⟩
    show WC _ _ _ _ _ [(1,(ptr b1 0)),(3,v),(4,(vN i)),(5,(ptr b5 0)),(6,(vN (256 * k))),(7,(.slice (some ⟨b9,0,none⟩) 256 256)),(8,(vN j))] _
    refine ap<|ws<|wm O<|wo (bm (b:=256) O O<|wm O (wF 31 (j<256) (fun hb11 hc11=>?_) (fun hb11 hc11=>?_)))
    ·
     refine wY hb11 (au O<|wY hb11 (au O<|wY hb11 (aU O O (by omega)<|wY hb11 (ab O Fa.eJ<|wY hb11 (aj O (H10.cell (i:=2) O O) A9 O<|wY hb11 (bH A9 O<|wY hb11 (bm O O<|wo (aQ O hb11 O<|wn (wE (((256 * k)+j)<(sg.getD i Sg.zero).b.length) (fun hb12 hc12=>?_) (fun hb12 hc12=>?_))))))))))
     ·
      exact aA<|ao<|ap<|aB<|aG<|wm O<|wm O<|wo (ab O Fa.eJ<|wo (aj O (H10.cell (i:=2) O O) A9 O<|wm O<|wm O<|wo (aU O O (by omega)<|wo (cl A9 O O (by omega)<|wo (aF A114 Fa.I5 O (H10.arrR (i:=3) O) O (by omega)<|wo (bN (i:=3) (f:=vU8) (l:=r) (c:=((sg.getD i Sg.zero).b.getD ((256 * k)+j) 0)) H10 O O O (by omega) O Fa.I5 (fun w13 H13=>(aY<|aE<|ao<|aG<|wm O<|wo (aU (b:=1) O O (by omega)<|wa O<|aY<|aX (j+1,(r.set j ((sg.getD i Sg.zero).b.getD ((256 * k)+j) 0))) ⟨⟨by omega,by rw [List.length_set]; exact hr,AM hr (by omega) hg⟩,H13⟩ ⟨rfl,rfl,rfl,rfl,rfl,rfl,rfl,trivial⟩ (by show 256-(j+1)<256-j; omega))))))))))
     exact bc<|an<|an<|aS<|cd r ⟨uZ hr hg (by omega) hj1,H10⟩ ⟨rfl,rfl,rfl,rfl,rfl,rfl,trivial⟩
    exact wN hb11<|wN hb11<|wN hb11<|wN hb11<|wN hb11<|wN hb11<|wN hb11<|wo (aN O hb11 O<|wn<|bF O O<|bc<|an<|an<|aS<|cd r ⟨uZ hr hg (by omega) hj1,H10⟩ ⟨rfl,rfl,rfl,rfl,rfl,rfl,trivial⟩)
   rintro r w14 ⟨hrp,H14⟩
   show WC _ _ _ _ _ [(1,(ptr b1 0)),(3,v),(4,(vN i)),(5,(ptr b5 0)),(6,(vN (256 * k))),(7,(.slice (some ⟨b9,0,none⟩) 256 256))] _
   exact aG<|wm O<|wo (ab O Fa.dE<|wo (aj O (H14.cell (i:=2) O O) A22 O<|wm O<|wo (dB (hs:=A3) (hd:=A22) O<|wo (bW O O<|wo (ab O Fa.gB<|wo (aj O (H14.cell (i:=2) O O) A5 O<|wm O<|wo (cD (l:=r) A114 A5 A9 O (H14.arrR (i:=3) O) O<|wo (bP (cs:=[_,_,_]) Fa.pW Fa.HJ O O<|wo (aW (cs:=[_,_,_]) H14 A131 Fa.pW O O O O (by decide) (by decide) (fun b15 w15 H15=>(wo (fJ (f:=pbc) (l:=(dD sg i++gC (sg.getD i Sg.zero) k)) (l':=[(Bh ((sg.getD i Sg.zero).a+(Kl (256 * k))) ((sg.getD i Sg.zero).p) r)]) (i:=1) H15 A131 Fa.pW O O O O (ck A131 (H15.arrR (i:=4) O)) (iL (fun _=>by simp [pbc,Value.oneCell'])) (by omega) (by omega) (fun v16 w16 H16=>(wa O<|aY<|aE<|ao<|aG<|wm O<|wo (aU (b:=256) O O (by omega)<|wa O<|aY<|aX (k+1,v16,(n+1)) ⟨⟨by rw [Nat.mul_succ]; omega,by rw [hn2,qO,qO]; rfl⟩,(by have h:=(show Ke [] w w16 [.blk b1 [(aa pg),ev,pv,(.bool con),(aa en),sv] 43,.row v16 136 3 (n+1) (Kh pbc ((dD sg i++gC (sg.getD i Sg.zero) k)++[(Bh ((sg.getD i Sg.zero).a+(Kl (256 * k))) ((sg.getD i Sg.zero).p) r)])),.blk b5 [(aa (sg.getD i Sg.zero).a),(vU8 (sg.getD i Sg.zero).p),(str (sg.getD i Sg.zero).b)] 116,.row (.slice (some ⟨b9,0,none⟩) 256 256) 5 1 256 (Kg vU8 r),.row (.slice (some ⟨b15,0,none⟩) 1 1) 136 3 1 (Kh pbc [(Bh ((sg.getD i Sg.zero).a+(Kl (256 * k))) ((sg.getD i Sg.zero).p) r)])] from H16); rw [hrp,List.append_assoc] at h; exact h.take 3)⟩ ⟨rfl,rfl,rfl,rfl,(by rw [Nat.mul_succ]; rfl),trivial⟩ (by show (sg.getD i Sg.zero).b.length-256 * (k+1)<(sg.getD i Sg.zero).b.length-256 * k; omega))))))))))))))))
  exact bc<|an<|an<|aS<|aE<|ao<|aG<|wm O<|wo (aU (b:=1) O O (by omega)<|wa O<|aY<|aX (i+1,v,n) ⟨⟨by omega,hn2.trans (by rw [dD,show k=pgN (sg.getD i Sg.zero) by rw [pgN]; omega])⟩,(by have h:=(show Ke [] w w7 [.blk b1 [(aa pg),ev,pv,(.bool con),(aa en),sv] 43,.row v 136 3 n (Kh pbc (dD sg i++gC (sg.getD i Sg.zero) k)),.blk b5 [(aa (sg.getD i Sg.zero).a),(vU8 (sg.getD i Sg.zero).p),(str (sg.getD i Sg.zero).b)] 116] from H7); rw [show k=pgN (sg.getD i Sg.zero) by rw [pgN]; omega] at h; exact h.take 2)⟩ ⟨rfl,rfl,rfl,trivial⟩ (by show sg.length-(i+1)<sg.length-i; omega))
 refine bc<|an<|an<|aS<|ao<|ws<|wm O<|wa O<|wn<|aC<|aD (.tmp O .nil) ?_
 obtain rfl:i=sg.length:=by omega
 have h:=H3.sel [1] O O
 rw [hn1] at h
 exact ⟨_,rfl,h⟩
theorem yU (s mb c:Nat) (qs:List Pg) (g:Pg) (a:UInt32) (w:World) (hS:cellsAt w s [(.map (some mb))]) (hM:w.heap[mb]?=some (mP .u32 (Kg Pg.me qs) c)) (hP:BsOK 211 Pg.cells Pg.b qs w) (hME:MEok (Kg Pg.me qs) c) (hg:g∈qs) (hq:g.a.toNat%256=0∧inS g.a 256∧g.bs.length=256) (ha:g.a=a) :
  Calls Kf 81 #[ptr s 0,aa a] w (fun e w'=>e=.returned (.tuple #[vU8 g.pm,.bool true])∧Fr [] w w'):=by
 subst ha; exact AJ s mb c qs g w hS hM hP hME hg hq
theorem BB (s mb c:Nat) (qs:List Pg) (g:Pg) (a:UInt32) (w:World) (hS:cellsAt w s [(.map (some mb))]) (hM:w.heap[mb]?=some (mP .u32 (Kg Pg.me qs) c)) (hP:BsOK 211 Pg.cells Pg.b qs w) (hME:MEok (Kg Pg.me qs) c) (hg:g∈qs) (hq:g.a.toNat%256=0∧inS g.a 256∧g.bs.length=256) (ha:g.a=a) :
  Calls Kf 82 #[ptr s 0,aa a,vN 256] w (fun e w'=>e=.returned (.tuple #[str g.bs,vN 0])∧Fr [] w w'):=by
 subst ha; exact Eg s mb c qs g w hS hM hP hME hg hq
theorem xH (s mb c:Nat) (qs:List Pg) (pg:UInt32) (ev pv sv:Value) (xs:List Xt) (ps:List UInt16) (con:Bool) (en:UInt32) (sg:List Sg) (w:World) (hSp:cellsAt w s [(.map (some mb))]) (hMp:w.heap[mb]?=some (mP .u32 (Kg Pg.me qs) c)) (hPg:BsOK 211 Pg.cells Pg.b qs w) (hME:MEok (Kg Pg.me qs) c) (hE:Arr w ev 2 xs.length (Kh xtc xs)) (hP:Arr w pv 1 ps.length (Kg bA ps)) (hS:Arr w sv 3 sg.length (Kh sgc sg)) (hn:xs.length<2^47) (hm:ps.length<2^47) (hk:sg.length<2^47) (hB: ∀x∈sg,x.b.length≤2^30) (h0:imE pg xs ps en sg=0) (hPm:(qs.map Pg.bare).Perm (dD sg sg.length)) :
  Calls Kf 35 #[(ptr s 0),(.agg #[(aa pg),ev,pv,(.bool con),(aa en),sv])] w (fun e w'=>e=.returned (.bool true)∧Fr [] w w'):=by
 refine enter Tryz.func35 O O ?_
 have H0:=((((aL w []).oldB hSp).mpOld hMp).bsOld hPg)
 have hB47: ∀x∈sg,x.b.length≤2^47:=fun x hx=>Nat.le_trans (hB x hx) (by decide)
 have hqn:(dD sg sg.length).length<2^40:=by have h1:=kL h0 hB47; rw [if_pos h0,←oK] at h1; omega
 have hgn:qs.length<2^40:=by have h1:=hPm.length_eq; rw [List.length_map] at h1; omega
 refine ws<|wo (bK H0 O O (fun b1 w1 H1=>(wa O<|wn<|ws<|wo (aM (vs:=[_,_,_,_,_,_]) O (H1.cells (i:=3) O O) A43 O Fa.I43 O<|wo (az (Kd 80) O ((wr pg _ _ _ xs ps con en sg _ (H1.arr hE) (H1.arr hP) (H1.arr hS) (by omega) (by omega) (by omega) hB hqn).mono (fun e w2 hq=>?_)))))))
 obtain ⟨v2,rfl,hq2⟩:=hq
 refine ⟨_,rfl,?_⟩
 have H2:=H1.splice [] [] [.row v2 136 3 (dD sg sg.length).length (Kh pbc (dD sg sg.length))] O O hq2 (am ae aI)
 refine wa O<|wn<|ws<|wm O<|wo (az (Kd 44) O ((qM s mb c qs _ (H2.cellsAtO (i:=0) O) (H2.mpO (i:=1) O) (H2.bsR (i:=2) O) hME hgn).mono (fun e w3 hq=>?_)))
 obtain ⟨v3,ks3,rfl,hk3,hq3⟩:=hq
 refine ⟨_,rfl,?_⟩
 have H3:=H2.splice [] [] [.row v3 22 1 ks3.length (Kg aa ks3)] O O hq3 (am ae aI)
 refine wa O<|wn<|ap<|ws ?_
 have hks:=zn h0 hB47 hPm hk3
 refine wm O<|wo (bu A73 O (H3.arrR (i:=5) O)<|wm O<|wo (bu A131 O (H3.arrR (i:=4) O)<|wo (bI O O<|wn<|bF O (decide_eq_false (fun h=>h (by rw [hks,List.length_map])))<|aA<|ao<|ap<|ws<|wa O<|wn<|aB<|bi (α:=Nat) (fun i=>[(0,(ptr s 0)),(5,v2),(6,v3),(7,(vN i))]) (fun i w'=>(i≤(dD sg sg.length).length)∧Ke [] w w' [Ent.bo s [(.map (some mb))],Ent.mo .u32 mb (Kg Pg.me qs) c,Ent.bsO 211 Pg.cells Pg.b qs,.blk b1 [(aa pg),ev,pv,(.bool con),(aa en),sv] 43,.row v2 136 3 (dD sg sg.length).length (Kh pbc (dD sg sg.length)),.row v3 22 1 ks3.length (Kg aa ks3)]) (fun i=>(dD sg sg.length).length-i) 0 ⟨(Kk _),H3⟩ ⟨rfl,rfl,rfl,rfl,trivial⟩ ?_)))
 rintro i w4 ⟨hi1,H4⟩
 show WC _ _ _ _ _ [(0,(ptr s 0)),(5,v2),(6,v3),(7,(vN i))] _
 refine ap<|ws<|wm O<|wm O<|wo (bu A131 O (H4.arrR (i:=4) O)<|wo (bm O O<|wn (wE (i<(dD sg sg.length).length) (fun hb5 hc5=>?_) (fun hb5 hc5=>?_))))
 ·
  have hi:i<(dD sg sg.length).length:=dT hb5
  obtain ⟨g,hg,hb,hq⟩:=Hl h0 hB47 hPm hi
  refine aA<|ao<|ap<|aB<|ws<|wm O<|wm O<|wm O<|wo (bJ A131 Fa.pW O (H4.arrR (i:=4) O) O (by omega)<|wo (cU O Fa.un<|wo (aj O (Arr.atF (k:=0) (H4.arrR (i:=4) O) (fun _=>rfl) (by decide) pbZ (by omega) O) A22 O<|wo (cq H4 (Kd 81) O (yU s mb c qs g (((dD sg sg.length).getD i pbZ).1) _ (H4.cellsAtO (i:=0) O) (H4.mpO (i:=1) O) (H4.bsR (i:=2) O) hME hg hq (congrArg (·.1) hb)) fun w6 H6=>(wm O<|we O O<|we O O<|wa O<|wa O<|wn<|ws<|wm O<|wm O<|wm O<|wo (bJ A131 Fa.pW O (H6.arrR (i:=4) O) O (by omega)<|wo (cU O Fa.un<|wo (aj O (Arr.atF (k:=0) (H6.arrR (i:=4) O) (fun _=>rfl) (by decide) pbZ (by omega) O) A22 O<|wo (cq H6 (Kd 82) O (BB s mb c qs g (((dD sg sg.length).getD i pbZ).1) _ (H6.cellsAtO (i:=0) O) (H6.mpO (i:=1) O) (H6.bsR (i:=2) O) hME hg hq (congrArg (·.1) hb)) fun w7 H7=>(wm O<|we O O<|we O O<|wa O<|wa O<|wn<|ap<|bn 36 Fa.M H7 (mh O<|mh O<|oh (fun w1 H1=>aF A73 Fa.I22 O (H1.arrR (i:=5) O) O (by rw [hks,List.length_map]; exact hi) zr)<|oh (fun w1 H1=>aj O ((H1.arrR (i:=5) O).at (aR aa 0 (by rw [hks,List.length_map]; exact hi))) A22 O zr)<|mh O<|mh O<|oh (fun w1 H1=>bJ A131 Fa.pW O (H1.arrR (i:=4) O) O (by omega) zr)<|oh (fun w1 H1=>cU O Fa.un zr)<|oh (fun w1 H1=>aj O (Arr.atF (k:=0) (H1.arrR (i:=4) O) (fun _=>rfl) (by decide) pbZ (by omega) O) A22 O zr)<|oh (fun w1 H1=>eG O O zr)<|mh O<|cy O O O (decide_eq_false (fun h=>h (by rw [hks]; exact oS _ i))) (fun w1 H1=>au O zr)<|cy O O O (decide_eq_false (fun h=>h (by rw [hks]; exact oS _ i))) (fun w1 H1=>cQ O zr)<|oh (fun w1 H1=>aN O (decide_eq_false (fun h=>h (by rw [hks]; exact oS _ i))) O zr)<|mh O<|cy O O O (congrArg Bool.not O) (fun w1 H1=>au O zr)<|cy O O O (congrArg Bool.not O) (fun w1 H1=>au O zr)<|cy O O O (congrArg Bool.not O) (fun w1 H1=>au O zr)<|cy O O O (congrArg Bool.not O) (fun w1 H1=>bJ A131 Fa.pW O (H1.arrR (i:=4) O) O (by omega) zr)<|cy O O O (congrArg Bool.not O) (fun w1 H1=>cU O Fa.Gy zr)<|cy O O O (congrArg Bool.not O) (fun w1 H1=>aj O (Arr.atF (k:=1) (H1.arrR (i:=4) O) (fun _=>rfl) (by decide) pbZ (by omega) O) A5 O zr)<|cy O O O (congrArg Bool.not O) (fun w1 H1=>jK O O zr)<|oh (fun w1 H1=>aN O (congrArg Bool.not O) O zr)<|mh O<|cy O O O (decide_eq_false (fun h=>h (congrArg (·.2.1) hb))) (fun w1 H1=>au O zr)<|cy O O O (decide_eq_false (fun h=>h (congrArg (·.2.1) hb))) (fun w1 H1=>bI (b:=0) O O zr)<|oh (fun w1 H1=>aN O (decide_eq_false (fun h=>h (congrArg (·.2.1) hb))) O zr)<|mh O<|cy O O O (by decide) (fun w1 H1=>au O zr)<|cy O O O (by decide) (fun w1 H1=>au O zr)<|cy O O O (by decide) (fun w1 H1=>au O zr)<|cy O O O (by decide) (fun w1 H1=>bJ A131 Fa.pW O (H1.arrR (i:=4) O) O (by omega) zr)<|cy O O O (by decide) (fun w1 H1=>cU O Fa.Gx zr)<|cy O O O (by decide) (fun w1 H1=>aj O (Arr.atF (k:=2) (H1.arrR (i:=4) O) (fun _=>rfl) (by decide) pbZ (by omega) O) A9 O zr)<|cy O O O (by decide) (fun w1 H1=>iX O O zr)<|oh (fun w1 H1=>aN O (by decide) O zr)  bD) (by kernel_rfl) ?_))))))))))
  intro β8 w8 H8
  exact wn<|bF O (decide_eq_false (fun h=>h (congrArg (·.2.2) hb)))<|aA<|aE<|ao<|aG<|wm O<|wo (aU (b:=1) O O (by omega)<|wa O<|aY<|aX (i+1) ⟨(by omega),H8⟩ ⟨rfl,rfl,rfl,rfl,trivial⟩ (by omega))
 exact bc<|an<|an<|aS<|ao<|ws<|wa O<|wn<|aC<|aD (.tmp O .nil) (⟨rfl,H4.fr⟩)
end Go.Proofs.YtbjhccnffacbcaaGreat
