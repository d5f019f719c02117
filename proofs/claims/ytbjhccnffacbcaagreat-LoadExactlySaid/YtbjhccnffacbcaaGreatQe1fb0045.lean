/- General lemmas and walks. No condition but what each theorem names. -/
import Derived.Test.YtbjhccnffacbcaaGreatQ408a00e3
import Derived.Test.YtbjhccnffacbcaaGreatQ3c59d907
import Derived.Test.YtbjhccnffacbcaaGreatQdafcbbee
import Derived.Test.YtbjhccnffacbcaaGreatQc70aff79
import Derived.Test.YtbjhccnffacbcaaGreatQ70044d33
set_option maxRecDepth 100000
set_option maxHeartbeats 8000000
open Go.Owl renaming Own→Ke
open Go.Proofs.Tryz renaming prog→Kf
open List renaming map→Kg
open List renaming flatMap→Kh
open List renaming replicate→Ki
open List renaming length_append→Kj
open Nat renaming zero_le→Kk
open UInt32 renaming ofNat→Kl
open UInt16 renaming ofNat→Km
open UInt64 renaming ofNat→Kn
namespace Go.Proofs.YtbjhccnffacbcaaGreat
open Go.Owl Go.Spec
theorem tw {s:List UInt8} (hb:eX s=false) {e:Ending} {w w':World} {x y z:Value} (he:e=.returned (.tuple #[.agg #[aa (g2 s).1.1,x,y,.bool (decide ((g7 s).1.1=1)),aa (g8 s).1.1,z],vN 0]))
  (H:Ke [] w w' [.row x 207 2 (g3 s).1.1.toNat (Kh xtc (gX s)),.row y 203 1 (g5 s).1.1.toNat (Kg bA (gP s)),.row z 116 3 (g9 s).1.1.toNat (Kh sgc (gS s))]) :
  ∃v u q,e=.returned (.tuple #[.agg #[aa (imG s).pg,v,u,.bool (imG s).c,aa (imG s).en,q],vN (jS s)])∧Ke [] w w' [.row v 207 2 (imG s).xs.length (Kh xtc (imG s).xs),.row u 203 1 (imG s).ps.length (Kg bA (imG s).ps),.row q 116 3 (imG s).sg.length (Kh sgc (imG s).sg)]:=by
 rw [←tA,←tC,←lS] at H
 rw [(jT hb).1,(jT hb).2]
 dsimp only
 exact ⟨x,y,z,he,H⟩
theorem Et (s:List UInt8) (w:World) (hs:s.length<2^47) :
  Calls Kf 116 #[(str s)] w (fun e w'=> ∃v u q,e=.returned (.tuple #[.agg #[aa (imG s).pg,v,u,.bool (imG s).c,aa (imG s).en,q],vN (jS s)])∧Ke [] w w' [.row v 207 2 (imG s).xs.length (Kh xtc (imG s).xs),.row u 203 1 (imG s).ps.length (Kg bA (imG s).ps),.row q 116 3 (imG s).sg.length (Kh sgc (imG s).sg)]):=by
 refine enter Tryz.func116 O O ?_
 have H0:=aL w []
 refine ws<|wo (bt H0 Fa.I43 (fun b1 w1 H1=>(wa O<|wn<|ws<|wm O<|wo (az (Kd 157) O ((AT s _).mono (fun e w2 hq=>?_))))))
 obtain ⟨q2,rfl,hq2⟩:=hq
 refine ⟨_,rfl,?_⟩
 have H2:=H1.splice [] [] [.blk q2 [(str s),(vN 0),(vN 0)] 298] O O hq2 (am ae aI)
 refine wo (bP (cs:=[_]) Fa.dU Fa.HA O O<|wo (bt H2 Fa.dU (fun b3 w3 H3=>(wo (bw (i:=2) H3 O O O O O Fa.dU (fun w4 H4=>(wn<|ws<|wo (ab O Fa.pX<|wo (aj O (H4.cell (i:=2) O O) A251 O<|wo (az (Kd 158) O ((uH q2 (Rd.mk s 0 0 (Kk _)) (4) 298 _ _ (H4.part [1] O O) (by first | (rw [ec]; exact hs) | (rw [ea]; exact hs) | (rw [dZ]; exact hs) | (rw [dX]; exact hs) | (rw [dW]; exact hs) | (rw [dV]; exact hs) | (rw [cS]; exact hs) | (rw [bV,ct]; exact hs) | (rw [ba,bV,ct]; exact hs) | (rw [cN,dY]; exact hs) | (rw [bQ,ci]; exact hs) | exact hs)).mono (fun e w5 hq=>?_))))))))))))
 obtain ⟨rfl,hq5⟩:=hq
 refine ⟨_,rfl,?_⟩
 have H5:=H4.splice [1] [.blk q2 [(str ((bU (Rd.mk s 0 0 (Kk _)) 4).2).s),(vN ((bU (Rd.mk s 0 0 (Kk _)) 4).2).at_),(vN ((bU (Rd.mk s 0 0 (Kk _)) 4).2).f)] 298] [] O O hq5 (am ae aI)
 refine wm O<|we O O<|we O O<|wa O<|wa O<|wn<|ws ?_
 have H6:Ke [] w w5 [.blk b1 [(aa 0),(.slice none 0 0),(.slice none 0 0),(.bool false),(aa 0),(.slice none 0 0)] 43,.blk q2 [(str ((g1 s).2).s),(vN ((g1 s).2).at_),(vN ((g1 s).2).f)] 298,.blk b3 [(ptr q2 0)] 254]:=by have h:=H5; rw [show bU (Rd.mk s 0 0 (Kk _)) 4=g1 s from rfl] at h; exact h
 rw [show bU (Rd.mk s 0 0 (Kk _)) 4=g1 s from rfl]
 refine wo (bt H6 Fa.I43 (fun b7 w7 H7=>(wn<|ws<|wo (aM (vs:=[_]) O (H7.cells (i:=2) O O) A254 O Fa.dU O<|wo (az (Kd 159) O ((cK q2 ((g1 s).2) (4) 298 _ _ (H7.part [1] O O) (by first | (rw [ec]; exact hs) | (rw [ea]; exact hs) | (rw [dZ]; exact hs) | (rw [dX]; exact hs) | (rw [dW]; exact hs) | (rw [dV]; exact hs) | (rw [cS]; exact hs) | (rw [bV,ct]; exact hs) | (rw [ba,bV,ct]; exact hs) | (rw [cN,dY]; exact hs) | (rw [bQ,ci]; exact hs) | exact hs)).mono (fun e w8 hq=>?_)))))))
 obtain ⟨rfl,hq8⟩:=hq
 refine ⟨_,rfl,?_⟩
 have H8:=H7.splice [1] [.blk q2 [(str ((aK ((g1 s).2) 4).2).s),(vN ((aK ((g1 s).2) 4).2).at_),(vN ((aK ((g1 s).2) 4).2).f)] 298] [] O O hq8 (am ae aI)
 refine wo (ab O Fa.cZ<|wo (ab O Fa.im<|wo (bC (i:=3) H8 O O O O O Fa.I22 (fun w9 H9=>(wn<|ap<|ws ?_)))))
 have H10:Ke [] w w9 [.blk b1 [(aa 0),(.slice none 0 0),(.slice none 0 0),(.bool false),(aa 0),(.slice none 0 0)] 43,.blk q2 [(str ((g2 s).2).s),(vN ((g2 s).2).at_),(vN ((g2 s).2).f)] 298,.blk b3 [(ptr q2 0)] 254,.blk b7 [(aa (g2 s).1.1),(.slice none 0 0),(.slice none 0 0),(.bool false),(aa 0),(.slice none 0 0)] 43]:=by have h:=H9; rw [show aK (g1 s).2 4=g2 s from rfl] at h; exact h
 have H11:=H10.nilRow 207 2
 have H12:=H11.nilRow 203 1
 have H13:=H12.nilRow 116 3
 refine wo (aM (vs:=[_]) O (H13.cells (i:=2) O O) A254 O Fa.dU O<|wo (az (Kd 159) O ((cK q2 ((g2 s).2) (1) 298 _ _ (H13.part [1] O O) (by first | (rw [ec]; exact hs) | (rw [ea]; exact hs) | (rw [dZ]; exact hs) | (rw [dX]; exact hs) | (rw [dW]; exact hs) | (rw [dV]; exact hs) | (rw [cS]; exact hs) | (rw [bV,ct]; exact hs) | (rw [ba,bV,ct]; exact hs) | (rw [cN,dY]; exact hs) | (rw [bQ,ci]; exact hs) | exact hs)).mono (fun e w14 hq=>?_))))
 obtain ⟨rfl,hq14⟩:=hq
 refine ⟨_,rfl,?_⟩
 have H14:=H13.splice [1] [.blk q2 [(str ((aK ((g2 s).2) 1).2).s),(vN ((aK ((g2 s).2) 1).2).at_),(vN ((aK ((g2 s).2) 1).2).f)] 298] [] O O hq14 (am ae aI)
 have H15:Ke [] w w14 [.blk b1 [(aa 0),(.slice none 0 0),(.slice none 0 0),(.bool false),(aa 0),(.slice none 0 0)] 43,.blk q2 [(str ((g3 s).2).s),(vN ((g3 s).2).at_),(vN ((g3 s).2).f)] 298,.blk b3 [(ptr q2 0)] 254,.blk b7 [(aa (g2 s).1.1),(.slice none 0 0),(.slice none 0 0),(.bool false),(aa 0),(.slice none 0 0)] 43,.row (.slice none 0 0) 207 2 0 (Kh xtc []),.row (.slice none 0 0) 203 1 0 (Kg bA []),.row (.slice none 0 0) 116 3 0 (Kh sgc [])]:=by have h:=H14; rw [show aK (g2 s).2 1=g3 s from rfl] at h; exact h
 rw [show aK (g2 s).2 1=g3 s from rfl]
 refine wa O<|wn<|aB<|bi (α:=Nat × Value) (fun (k,x)=>[(2,(ptr b1 0)),(4,(ptr b3 0)),(5,(str (g1 s).1.1)),(7,(ptr b7 0)),(8,(aa ((g3 s).1.1-Kl k)))]) (fun (k,x) w'=>(k≤(g3 s).1.1.toNat)∧Ke [] w w' [.blk b1 [(aa 0),(.slice none 0 0),(.slice none 0 0),(.bool false),(aa 0),(.slice none 0 0)] 43,.blk q2 [(str (xsD (g3 s).2 k).s),(vN (xsD (g3 s).2 k).at_),(vN (xsD (g3 s).2 k).f)] 298,.blk b3 [(ptr q2 0)] 254,.blk b7 [(aa (g2 s).1.1),x,(.slice none 0 0),(.bool false),(aa 0),(.slice none 0 0)] 43,.row x 207 2 k (Kh xtc (xsL (g3 s).2 k)),.row (.slice none 0 0) 203 1 0 (Kg bA []),.row (.slice none 0 0) 116 3 0 (Kh sgc [])]) (fun (k,x)=>(g3 s).1.1.toNat-k) (0,(.slice none 0 0)) ⟨(Kk _),(by rw [Aq]; exact H15)⟩ ⟨rfl,rfl,rfl,rfl,(congrArg (fun n=>some (aa n)) (oc _)),trivial⟩ ?_
 rintro ⟨k,x⟩ w16 ⟨hk1,H16⟩
 show WC _ _ _ _ _ [(2,(ptr b1 0)),(4,(ptr b3 0)),(5,(str (g1 s).1.1)),(7,(ptr b7 0)),(8,(aa ((g3 s).1.1-Kl k)))] _
 have hct:=rX hk1
 have hnl:=(g3 s).1.1.toNat_lt
 refine ap<|ws<|wm O<|wo (cI (b:=0) O O<|wn (wE (((g3 s).1.1-Kl k)>(0:UInt32)) (fun hb17 hc17=>?_) (fun hb17 hc17=>?_)))
 ·
  have hkn:=hct.1 hc17
  refine aA<|ao<|ap<|aB<|WC.drawn 13 O Fa.M H16 ?_
  intro w18 H18
  refine WD.named (fun W hW=>?_)
  let e8:List (Nat × Value)→List (Nat × Value):=fun r=>(2,(ptr b1 0))::(4,(ptr b3 0))::(5,(str (g1 s).1.1))::(7,(ptr b7 0))::(8,(aa ((g3 s).1.1-Kl k)))::(27,(aa ((g3 s).1.1-Kl k)))::(28,(.bool (decide (((g3 s).1.1-Kl k)>(0:UInt32)))))::r
  let Bm:Ent:=.blk b1 [(aa 0),(.slice none 0 0),(.slice none 0 0),(.bool false),(aa 0),(.slice none 0 0)] 43
  let C1:Ent:=.blk q2 [(str (xsD (g3 s).2 k).s),(vN (xsD (g3 s).2 k).at_),(vN (xsD (g3 s).2 k).f)] 298
  let B0:Ent:=.blk b3 [(ptr q2 0)] 254
  let B3:Ent:=.blk b7 [(aa (g2 s).1.1),x,(.slice none 0 0),(.bool false),(aa 0),(.slice none 0 0)] 43
  let B4:Ent:=.row x 207 2 k (Kh xtc (xsL (g3 s).2 k))
  let B1:Ent:=.row (.slice none 0 0) 203 1 0 (Kg bA [])
  let B2:Ent:=.row (.slice none 0 0) 116 3 0 (Kh sgc [])
  let D1:Ent:=.blk q2 [(str ((aK (xsD (g3 s).2 k) 1).2).s),(vN ((aK (xsD (g3 s).2 k) 1).2).at_),(vN ((aK (xsD (g3 s).2 k) 1).2).f)] 298
  let C2:Ent:=.blk q2 [(str ((aK ((aK (xsD (g3 s).2 k) 1).2) 2).2).s),(vN ((aK ((aK (xsD (g3 s).2 k) 1).2) 2).2).at_),(vN ((aK ((aK (xsD (g3 s).2 k) 1).2) 2).2).f)] 298
  have J2: ∀v56 b52 wS,Ke [] w wS [Bm,C2,B0,.blk b7 [(aa (g2 s).1.1),v56,(.slice none 0 0),(.bool false),(aa 0),(.slice none 0 0)] 43,.row v56 207 2 (k+1) (Kh xtc ((xsL (g3 s).2 k)++[(Xt.mk ((aK (xsD (g3 s).2 k) 1).1.1) ((aK ((aK (xsD (g3 s).2 k) 1).2) 2).1.1))])),B1,B2,.row (.slice (some ⟨b52,0,none⟩) 1 1) 207 2 1 (Kg aa [(aK (xsD (g3 s).2 k) 1).1.1,(aK ((aK (xsD (g3 s).2 k) 1).2) 2).1.1])]→W 0 (bz 13 8191) (e8 []) wS:=fun v56 b52 wS HS=>by
   rw [hW]
   exact WD.done (by kernel_rfl)<|aE<|ao<|aG<|wm O<|wo (gY (b:=1) O O<|wa O<|aY<|aX (k+1,v56) ⟨(by omega),(by rw [rP,nX]; exact (HS.take 7))⟩ ⟨rfl,rfl,rfl,rfl,(congrArg (fun n=>some (aa n)) (qg hkn)),trivial⟩ (by show (g3 s).1.1.toNat-(k+1)<(g3 s).1.1.toNat-k; omega))
  have J3: ∀v56 b52 wS,Ke [] w wS [Bm,C2,B0,B3,.row v56 207 2 (k+1) (Kh xtc ((xsL (g3 s).2 k)++[(Xt.mk ((aK (xsD (g3 s).2 k) 1).1.1) ((aK ((aK (xsD (g3 s).2 k) 1).2) 2).1.1))])),B1,B2,.row (.slice (some ⟨b52,0,none⟩) 1 1) 207 2 1 (Kg aa [(aK (xsD (g3 s).2 k) 1).1.1,(aK ((aK (xsD (g3 s).2 k) 1).2) 2).1.1])]→W 1 (bz 13 4095) (e8 [(40,v56),(42,(ptr b7 1))]) wS:=fun v56 b52 wS HS=>by
   rw [hW]
   exact wd1 12<|kS 12 O (bC (i:=3) HS O O O O (bS (HS.arrR (i:=4) O)) Fa.I37 (fun w62 H62=>(aO hW (J2 v56 b52 w62 H62))))
  have J4: ∀v56 b52 wS,Ke [] w wS [Bm,C2,B0,B3,.row v56 207 2 (k+1) (Kh xtc ((xsL (g3 s).2 k)++[(Xt.mk ((aK (xsD (g3 s).2 k) 1).1.1) ((aK ((aK (xsD (g3 s).2 k) 1).2) 2).1.1))])),B1,B2,.row (.slice (some ⟨b52,0,none⟩) 1 1) 207 2 1 (Kg aa [(aK (xsD (g3 s).2 k) 1).1.1,(aK ((aK (xsD (g3 s).2 k) 1).2) 2).1.1])]→W 2 (bz 13 2047) (e8 [(40,v56),(41,(ptr b7 0))]) wS:=fun v56 b52 wS HS=>by
   rw [hW]
   exact wd1 11<|kS 11 O (ab O Fa.da<|aO hW (J3 v56 b52 wS HS))
  have J5: ∀v56 b52 wS,Ke [] w wS [Bm,C2,B0,B3,.row v56 207 2 (k+1) (Kh xtc ((xsL (g3 s).2 k)++[(Xt.mk ((aK (xsD (g3 s).2 k) 1).1.1) ((aK ((aK (xsD (g3 s).2 k) 1).2) 2).1.1))])),B1,B2,.row (.slice (some ⟨b52,0,none⟩) 1 1) 207 2 1 (Kg aa [(aK (xsD (g3 s).2 k) 1).1.1,(aK ((aK (xsD (g3 s).2 k) 1).2) 2).1.1])]→W 3 (bz 13 1023) (e8 [(40,v56)]) wS:=fun v56 b52 wS HS=>by
   rw [hW]
   exact wd1 10<|kS 10 O (ab O Fa.cZ<|aO hW (J4 v56 b52 wS HS))
  have Eq: ∀b52 wS,Ke [] w wS [Bm,C2,B0,B3,B4,B1,B2,.row (.slice (some ⟨b52,0,none⟩) 1 1) 207 2 1 (Kg aa [(aK (xsD (g3 s).2 k) 1).1.1,(aK ((aK (xsD (g3 s).2 k) 1).2) 2).1.1])]→W 4 (bz 13 511) (e8 [(33,x),(39,(.slice (some ⟨b52,0,none⟩) 1 1))]) wS:=fun b52 wS HS=>by
   rw [hW]
   exact wd1 9<|kS 9 O (fJ (f:=xtc) (l:=(xsL (g3 s).2 k)) (l':=[(Xt.mk ((aK (xsD (g3 s).2 k) 1).1.1) ((aK ((aK (xsD (g3 s).2 k) 1).2) 2).1.1))]) (i:=4) HS A37 Fa.cR O O O O (ck A37 (HS.arrR (i:=7) O)) (iL (fun _=>by simp [xtc,Value.oneCell'])) (by omega) (by omega) (fun v56 w56 H56=>(aO hW (J5 v56 b52 w56 H56))))
  have E0: ∀wS,Ke [] w wS [Bm,C2,B0,B3,B4,B1,B2]→W 5 (bz 13 255) (e8 [(33,x),(38,(.agg #[(aa (aK (xsD (g3 s).2 k) 1).1.1),(aa (aK ((aK (xsD (g3 s).2 k) 1).2) 2).1.1)]))]) wS:=fun wS HS=>by
   rw [hW]
   exact wd1 8<|kS 8 O (aW (cs:=[_,_]) HS A37 Fa.cR O O O O (by decide) (by decide) (fun b52 w52 H52=>(aO hW (Eq b52 w52 H52))))
  have E1: ∀b52 wS,Ke [] w wS [Bm,C2,B0,B3,B4,B1,B2,.row (.slice (some ⟨b52,0,none⟩) 1 1) 207 2 1 (Kg aa [(aK (xsD (g3 s).2 k) 1).1.1,(aK ((aK (xsD (g3 s).2 k) 1).2) 2).1.1])]→W 5 (bz 13 507) (e8 [(32,(ptr b7 1)),(39,(.slice (some ⟨b52,0,none⟩) 1 1))]) wS:=fun b52 wS HS=>by
   rw [hW]
   exact wd1 2<|kS 2 O (aj O (HS.cell (i:=3) O O) A37 O<|aO hW (Eq b52 wS HS))
  have E2: ∀wS,Ke [] w wS [Bm,C2,B0,B3,B4,B1,B2]→W 6 (bz 13 127) (e8 [(33,x),(35,(aa (aK (xsD (g3 s).2 k) 1).1.1)),(37,(aa (aK ((aK (xsD (g3 s).2 k) 1).2) 2).1.1))]) wS:=fun wS HS=>by
   rw [hW]
   exact wd1 7<|kS 7 O (bP (cs:=[_,_]) Fa.cR Fa.ph O O<|aO hW (E0 wS HS))
  have E3: ∀wS,Ke [] w wS [Bm,C2,B0,B3,B4,B1,B2]→W 6 (bz 13 251) (e8 [(32,(ptr b7 1)),(38,(.agg #[(aa (aK (xsD (g3 s).2 k) 1).1.1),(aa (aK ((aK (xsD (g3 s).2 k) 1).2) 2).1.1)]))]) wS:=fun wS HS=>by
   rw [hW]
   refine wd2 2 8 ?_ ?_
   ·
    exact kS 2 O (aj O (HS.cell (i:=3) O O) A37 O<|aO hW (E0 wS HS))
   exact kS 8 O (aW (cs:=[_,_]) HS A37 Fa.cR O O O O (by decide) (by decide) (fun b52 w52 H52=>(aO hW (E1 b52 w52 H52))))
  have E4: ∀b52 wS,Ke [] w wS [Bm,C2,B0,B3,B4,B1,B2,.row (.slice (some ⟨b52,0,none⟩) 1 1) 207 2 1 (Kg aa [(aK (xsD (g3 s).2 k) 1).1.1,(aK ((aK (xsD (g3 s).2 k) 1).2) 2).1.1])]→W 6 (bz 13 505) (e8 [(31,(ptr b7 0)),(39,(.slice (some ⟨b52,0,none⟩) 1 1))]) wS:=fun b52 wS HS=>by
   rw [hW]
   exact wd1 1<|kS 1 O (ab O Fa.da<|aO hW (E1 b52 wS HS))
  have D4: ∀wS,Ke [] w wS [Bm,D1,B0,B3,B4,B1,B2]→W 7 (bz 13 63) (e8 [(33,x),(35,(aa (aK (xsD (g3 s).2 k) 1).1.1)),(36,(.agg #[(ptr q2 0)]))]) wS:=fun wS HS=>by
   rw [hW]
   refine wd1 6<|kS 6 O (az (Kd 159) O ((cK q2 ((aK (xsD (g3 s).2 k) 1).2) (2) 298 _ _ (HS.part [1] O O) (by first | (rw [ec]; exact hs) | (rw [ea]; exact hs) | (rw [dZ]; exact hs) | (rw [dX]; exact hs) | (rw [dW]; exact hs) | (rw [dV]; exact hs) | (rw [cS]; exact hs) | (rw [bV,ct]; exact hs) | (rw [ba,bV,ct]; exact hs) | (rw [cN,dY]; exact hs) | (rw [bQ,ci]; exact hs) | exact hs)).mono (fun e w58 hq=>?_)))
   obtain ⟨rfl,hq58⟩:=hq
   refine ⟨_,rfl,?_⟩
   have H58:=HS.splice [1] [.blk q2 [(str ((aK ((aK (xsD (g3 s).2 k) 1).2) 2).2).s),(vN ((aK ((aK (xsD (g3 s).2 k) 1).2) 2).2).at_),(vN ((aK ((aK (xsD (g3 s).2 k) 1).2) 2).2).f)] 298] [] O O hq58 (am ae aI)
   exact aO hW (E2 w58 H58)
  have E5: ∀wS,Ke [] w wS [Bm,C2,B0,B3,B4,B1,B2]→W 7 (bz 13 123) (e8 [(32,(ptr b7 1)),(35,(aa (aK (xsD (g3 s).2 k) 1).1.1)),(37,(aa (aK ((aK (xsD (g3 s).2 k) 1).2) 2).1.1))]) wS:=fun wS HS=>by
   rw [hW]
   refine wd2 2 7 ?_ ?_
   ·
    exact kS 2 O (aj O (HS.cell (i:=3) O O) A37 O<|aO hW (E2 wS HS))
   exact kS 7 O (bP (cs:=[_,_]) Fa.cR Fa.ph O O<|aO hW (E3 wS HS))
  have E6: ∀wS,Ke [] w wS [Bm,C2,B0,B3,B4,B1,B2]→W 7 (bz 13 249) (e8 [(31,(ptr b7 0)),(38,(.agg #[(aa (aK (xsD (g3 s).2 k) 1).1.1),(aa (aK ((aK (xsD (g3 s).2 k) 1).2) 2).1.1)]))]) wS:=fun wS HS=>by
   rw [hW]
   refine wd2 1 8 ?_ ?_
   ·
    exact kS 1 O (ab O Fa.da<|aO hW (E3 wS HS))
   exact kS 8 O (aW (cs:=[_,_]) HS A37 Fa.cR O O O O (by decide) (by decide) (fun b52 w52 H52=>(aO hW (E4 b52 w52 H52))))
  have J6: ∀b52 wS,Ke [] w wS [Bm,C2,B0,B3,B4,B1,B2,.row (.slice (some ⟨b52,0,none⟩) 1 1) 207 2 1 (Kg aa [(aK (xsD (g3 s).2 k) 1).1.1,(aK ((aK (xsD (g3 s).2 k) 1).2) 2).1.1])]→W 7 (bz 13 504) (e8 [(39,(.slice (some ⟨b52,0,none⟩) 1 1))]) wS:=fun b52 wS HS=>by
   rw [hW]
   exact wd1 0<|kS 0 O (ab O Fa.cZ<|aO hW (E4 b52 wS HS))
  have E7: ∀wS,Ke [] w wS [Bm,D1,B0,B3,B4,B1,B2]→W 8 (bz 13 31) (e8 [(33,x),(35,(aa (aK (xsD (g3 s).2 k) 1).1.1))]) wS:=fun wS HS=>by
   rw [hW]
   exact wd1 5<|kS 5 O (aM (vs:=[_]) O (HS.cells (i:=2) O O) A254 O Fa.dU O<|aO hW (D4 wS HS))
  have D5: ∀wS,Ke [] w wS [Bm,C1,B0,B3,B4,B1,B2]→W 8 (bz 13 47) (e8 [(33,x),(34,(.agg #[(ptr q2 0)])),(36,(.agg #[(ptr q2 0)]))]) wS:=fun wS HS=>by
   rw [hW]
   refine wd1 4<|kS 4 O (az (Kd 159) O ((cK q2 (xsD (g3 s).2 k) (1) 298 _ _ (HS.part [1] O O) (by first | (rw [ec]; exact hs) | (rw [ea]; exact hs) | (rw [dZ]; exact hs) | (rw [dX]; exact hs) | (rw [dW]; exact hs) | (rw [dV]; exact hs) | (rw [cS]; exact hs) | (rw [bV,ct]; exact hs) | (rw [ba,bV,ct]; exact hs) | (rw [cN,dY]; exact hs) | (rw [bQ,ci]; exact hs) | exact hs)).mono (fun e w54 hq=>?_)))
   obtain ⟨rfl,hq54⟩:=hq
   refine ⟨_,rfl,?_⟩
   have H54:=HS.splice [1] [.blk q2 [(str ((aK (xsD (g3 s).2 k) 1).2).s),(vN ((aK (xsD (g3 s).2 k) 1).2).at_),(vN ((aK (xsD (g3 s).2 k) 1).2).f)] 298] [] O O hq54 (am ae aI)
   exact aO hW (D4 w54 H54)
  have D6: ∀wS,Ke [] w wS [Bm,D1,B0,B3,B4,B1,B2]→W 8 (bz 13 59) (e8 [(32,(ptr b7 1)),(35,(aa (aK (xsD (g3 s).2 k) 1).1.1)),(36,(.agg #[(ptr q2 0)]))]) wS:=fun wS HS=>by
   rw [hW]
   refine wd2 2 6 ?_ ?_
   ·
    exact kS 2 O (aj O (HS.cell (i:=3) O O) A37 O<|aO hW (D4 wS HS))
   refine kS 6 O (az (Kd 159) O ((cK q2 ((aK (xsD (g3 s).2 k) 1).2) (2) 298 _ _ (HS.part [1] O O) (by first | (rw [ec]; exact hs) | (rw [ea]; exact hs) | (rw [dZ]; exact hs) | (rw [dX]; exact hs) | (rw [dW]; exact hs) | (rw [dV]; exact hs) | (rw [cS]; exact hs) | (rw [bV,ct]; exact hs) | (rw [ba,bV,ct]; exact hs) | (rw [cN,dY]; exact hs) | (rw [bQ,ci]; exact hs) | exact hs)).mono (fun e w58 hq=>?_)))
   obtain ⟨rfl,hq58⟩:=hq
   refine ⟨_,rfl,?_⟩
   have H58:=HS.splice [1] [.blk q2 [(str ((aK ((aK (xsD (g3 s).2 k) 1).2) 2).2).s),(vN ((aK ((aK (xsD (g3 s).2 k) 1).2) 2).2).at_),(vN ((aK ((aK (xsD (g3 s).2 k) 1).2) 2).2).f)] 298] [] O O hq58 (am ae aI)
   exact aO hW (E5 w58 H58)
  have E8: ∀wS,Ke [] w wS [Bm,C2,B0,B3,B4,B1,B2]→W 8 (bz 13 121) (e8 [(31,(ptr b7 0)),(35,(aa (aK (xsD (g3 s).2 k) 1).1.1)),(37,(aa (aK ((aK (xsD (g3 s).2 k) 1).2) 2).1.1))]) wS:=fun wS HS=>by
   rw [hW]
   refine wd2 1 7 ?_ ?_
   ·
    exact kS 1 O (ab O Fa.da<|aO hW (E5 wS HS))
   exact kS 7 O (bP (cs:=[_,_]) Fa.cR Fa.ph O O<|aO hW (E6 wS HS))
  have J7: ∀wS,Ke [] w wS [Bm,C2,B0,B3,B4,B1,B2]→W 8 (bz 13 248) (e8 [(38,(.agg #[(aa (aK (xsD (g3 s).2 k) 1).1.1),(aa (aK ((aK (xsD (g3 s).2 k) 1).2) 2).1.1)]))]) wS:=fun wS HS=>by
   rw [hW]
   refine wd2 0 8 ?_ ?_
   ·
    exact kS 0 O (ab O Fa.cZ<|aO hW (E6 wS HS))
   exact kS 8 O (aW (cs:=[_,_]) HS A37 Fa.cR O O O O (by decide) (by decide) (fun b52 w52 H52=>(aO hW (J6 b52 w52 H52))))
  have E9: ∀wS,Ke [] w wS [Bm,C1,B0,B3,B4,B1,B2]→W 9 (bz 13 15) (e8 [(33,x),(34,(.agg #[(ptr q2 0)]))]) wS:=fun wS HS=>by
   rw [hW]
   refine wd2 4 5 ?_ ?_
   ·
    refine kS 4 O (az (Kd 159) O ((cK q2 (xsD (g3 s).2 k) (1) 298 _ _ (HS.part [1] O O) (by first | (rw [ec]; exact hs) | (rw [ea]; exact hs) | (rw [dZ]; exact hs) | (rw [dX]; exact hs) | (rw [dW]; exact hs) | (rw [dV]; exact hs) | (rw [cS]; exact hs) | (rw [bV,ct]; exact hs) | (rw [ba,bV,ct]; exact hs) | (rw [cN,dY]; exact hs) | (rw [bQ,ci]; exact hs) | exact hs)).mono (fun e w54 hq=>?_)))
    obtain ⟨rfl,hq54⟩:=hq
    refine ⟨_,rfl,?_⟩
    have H54:=HS.splice [1] [.blk q2 [(str ((aK (xsD (g3 s).2 k) 1).2).s),(vN ((aK (xsD (g3 s).2 k) 1).2).at_),(vN ((aK (xsD (g3 s).2 k) 1).2).f)] 298] [] O O hq54 (am ae aI)
    exact aO hW (E7 w54 H54)
   exact kS 5 O (aM (vs:=[_]) O (HS.cells (i:=2) O O) A254 O Fa.dU O<|aO hW (D5 wS HS))
  have Fl: ∀wS,Ke [] w wS [Bm,C1,B0,B3,B4,B1,B2]→W 9 (bz 13 39) (e8 [(33,x),(36,(.agg #[(ptr q2 0)]))]) wS:=fun wS HS=>by
   rw [hW]
   exact wd1 3<|kS 3 O (aM (vs:=[_]) O (HS.cells (i:=2) O O) A254 O Fa.dU O<|aO hW (D5 wS HS))
  have Fn: ∀wS,Ke [] w wS [Bm,D1,B0,B3,B4,B1,B2]→W 9 (bz 13 27) (e8 [(32,(ptr b7 1)),(35,(aa (aK (xsD (g3 s).2 k) 1).1.1))]) wS:=fun wS HS=>by
   rw [hW]
   refine wd2 2 5 ?_ ?_
   ·
    exact kS 2 O (aj O (HS.cell (i:=3) O O) A37 O<|aO hW (E7 wS HS))
   exact kS 5 O (aM (vs:=[_]) O (HS.cells (i:=2) O O) A254 O Fa.dU O<|aO hW (D6 wS HS))
  have D7: ∀wS,Ke [] w wS [Bm,C1,B0,B3,B4,B1,B2]→W 9 (bz 13 43) (e8 [(32,(ptr b7 1)),(34,(.agg #[(ptr q2 0)])),(36,(.agg #[(ptr q2 0)]))]) wS:=fun wS HS=>by
   rw [hW]
   refine wd2 2 4 ?_ ?_
   ·
    exact kS 2 O (aj O (HS.cell (i:=3) O O) A37 O<|aO hW (D5 wS HS))
   refine kS 4 O (az (Kd 159) O ((cK q2 (xsD (g3 s).2 k) (1) 298 _ _ (HS.part [1] O O) (by first | (rw [ec]; exact hs) | (rw [ea]; exact hs) | (rw [dZ]; exact hs) | (rw [dX]; exact hs) | (rw [dW]; exact hs) | (rw [dV]; exact hs) | (rw [cS]; exact hs) | (rw [bV,ct]; exact hs) | (rw [ba,bV,ct]; exact hs) | (rw [cN,dY]; exact hs) | (rw [bQ,ci]; exact hs) | exact hs)).mono (fun e w54 hq=>?_)))
   obtain ⟨rfl,hq54⟩:=hq
   refine ⟨_,rfl,?_⟩
   have H54:=HS.splice [1] [.blk q2 [(str ((aK (xsD (g3 s).2 k) 1).2).s),(vN ((aK (xsD (g3 s).2 k) 1).2).at_),(vN ((aK (xsD (g3 s).2 k) 1).2).f)] 298] [] O O hq54 (am ae aI)
   exact aO hW (D6 w54 H54)
  have D8: ∀wS,Ke [] w wS [Bm,D1,B0,B3,B4,B1,B2]→W 9 (bz 13 57) (e8 [(31,(ptr b7 0)),(35,(aa (aK (xsD (g3 s).2 k) 1).1.1)),(36,(.agg #[(ptr q2 0)]))]) wS:=fun wS HS=>by
   rw [hW]
   refine wd2 1 6 ?_ ?_
   ·
    exact kS 1 O (ab O Fa.da<|aO hW (D6 wS HS))
   refine kS 6 O (az (Kd 159) O ((cK q2 ((aK (xsD (g3 s).2 k) 1).2) (2) 298 _ _ (HS.part [1] O O) (by first | (rw [ec]; exact hs) | (rw [ea]; exact hs) | (rw [dZ]; exact hs) | (rw [dX]; exact hs) | (rw [dW]; exact hs) | (rw [dV]; exact hs) | (rw [cS]; exact hs) | (rw [bV,ct]; exact hs) | (rw [ba,bV,ct]; exact hs) | (rw [cN,dY]; exact hs) | (rw [bQ,ci]; exact hs) | exact hs)).mono (fun e w58 hq=>?_)))
   obtain ⟨rfl,hq58⟩:=hq
   refine ⟨_,rfl,?_⟩
   have H58:=HS.splice [1] [.blk q2 [(str ((aK ((aK (xsD (g3 s).2 k) 1).2) 2).2).s),(vN ((aK ((aK (xsD (g3 s).2 k) 1).2) 2).2).at_),(vN ((aK ((aK (xsD (g3 s).2 k) 1).2) 2).2).f)] 298] [] O O hq58 (am ae aI)
   exact aO hW (E8 w58 H58)
  have J8: ∀wS,Ke [] w wS [Bm,C2,B0,B3,B4,B1,B2]→W 9 (bz 13 120) (e8 [(35,(aa (aK (xsD (g3 s).2 k) 1).1.1)),(37,(aa (aK ((aK (xsD (g3 s).2 k) 1).2) 2).1.1))]) wS:=fun wS HS=>by
   rw [hW]
   refine wd2 0 7 ?_ ?_
   ·
    exact kS 0 O (ab O Fa.cZ<|aO hW (E8 wS HS))
   exact kS 7 O (bP (cs:=[_,_]) Fa.cR Fa.ph O O<|aO hW (J7 wS HS))
  have J9: ∀wS,Ke [] w wS [Bm,C1,B0,B3,B4,B1,B2]→W 10 (bz 13 7) (e8 [(33,x)]) wS:=fun wS HS=>by
   rw [hW]
   refine wd2 3 5 ?_ ?_
   ·
    exact kS 3 O (aM (vs:=[_]) O (HS.cells (i:=2) O O) A254 O Fa.dU O<|aO hW (E9 wS HS))
   exact kS 5 O (aM (vs:=[_]) O (HS.cells (i:=2) O O) A254 O Fa.dU O<|aO hW (Fl wS HS))
  have Ft: ∀wS,Ke [] w wS [Bm,C1,B0,B3,B4,B1,B2]→W 10 (bz 13 11) (e8 [(32,(ptr b7 1)),(34,(.agg #[(ptr q2 0)]))]) wS:=fun wS HS=>by
   rw [hW]
   refine wd3 2 4 5 ?_ ?_ ?_
   ·
    exact kS 2 O (aj O (HS.cell (i:=3) O O) A37 O<|aO hW (E9 wS HS))
   ·
    refine kS 4 O (az (Kd 159) O ((cK q2 (xsD (g3 s).2 k) (1) 298 _ _ (HS.part [1] O O) (by first | (rw [ec]; exact hs) | (rw [ea]; exact hs) | (rw [dZ]; exact hs) | (rw [dX]; exact hs) | (rw [dW]; exact hs) | (rw [dV]; exact hs) | (rw [cS]; exact hs) | (rw [bV,ct]; exact hs) | (rw [ba,bV,ct]; exact hs) | (rw [cN,dY]; exact hs) | (rw [bQ,ci]; exact hs) | exact hs)).mono (fun e w54 hq=>?_)))
    obtain ⟨rfl,hq54⟩:=hq
    refine ⟨_,rfl,?_⟩
    have H54:=HS.splice [1] [.blk q2 [(str ((aK (xsD (g3 s).2 k) 1).2).s),(vN ((aK (xsD (g3 s).2 k) 1).2).at_),(vN ((aK (xsD (g3 s).2 k) 1).2).f)] 298] [] O O hq54 (am ae aI)
    exact aO hW (Fn w54 H54)
   exact kS 5 O (aM (vs:=[_]) O (HS.cells (i:=2) O O) A254 O Fa.dU O<|aO hW (D7 wS HS))
  have F0: ∀wS,Ke [] w wS [Bm,C1,B0,B3,B4,B1,B2]→W 10 (bz 13 35) (e8 [(32,(ptr b7 1)),(36,(.agg #[(ptr q2 0)]))]) wS:=fun wS HS=>by
   rw [hW]
   refine wd2 2 3 ?_ ?_
   ·
    exact kS 2 O (aj O (HS.cell (i:=3) O O) A37 O<|aO hW (Fl wS HS))
   exact kS 3 O (aM (vs:=[_]) O (HS.cells (i:=2) O O) A254 O Fa.dU O<|aO hW (D7 wS HS))
  have F1: ∀wS,Ke [] w wS [Bm,D1,B0,B3,B4,B1,B2]→W 10 (bz 13 25) (e8 [(31,(ptr b7 0)),(35,(aa (aK (xsD (g3 s).2 k) 1).1.1))]) wS:=fun wS HS=>by
   rw [hW]
   refine wd2 1 5 ?_ ?_
   ·
    exact kS 1 O (ab O Fa.da<|aO hW (Fn wS HS))
   exact kS 5 O (aM (vs:=[_]) O (HS.cells (i:=2) O O) A254 O Fa.dU O<|aO hW (D8 wS HS))
  have D9: ∀wS,Ke [] w wS [Bm,C1,B0,B3,B4,B1,B2]→W 10 (bz 13 41) (e8 [(31,(ptr b7 0)),(34,(.agg #[(ptr q2 0)])),(36,(.agg #[(ptr q2 0)]))]) wS:=fun wS HS=>by
   rw [hW]
   refine wd2 1 4 ?_ ?_
   ·
    exact kS 1 O (ab O Fa.da<|aO hW (D7 wS HS))
   refine kS 4 O (az (Kd 159) O ((cK q2 (xsD (g3 s).2 k) (1) 298 _ _ (HS.part [1] O O) (by first | (rw [ec]; exact hs) | (rw [ea]; exact hs) | (rw [dZ]; exact hs) | (rw [dX]; exact hs) | (rw [dW]; exact hs) | (rw [dV]; exact hs) | (rw [cS]; exact hs) | (rw [bV,ct]; exact hs) | (rw [ba,bV,ct]; exact hs) | (rw [cN,dY]; exact hs) | (rw [bQ,ci]; exact hs) | exact hs)).mono (fun e w54 hq=>?_)))
   obtain ⟨rfl,hq54⟩:=hq
   refine ⟨_,rfl,?_⟩
   have H54:=HS.splice [1] [.blk q2 [(str ((aK (xsD (g3 s).2 k) 1).2).s),(vN ((aK (xsD (g3 s).2 k) 1).2).at_),(vN ((aK (xsD (g3 s).2 k) 1).2).f)] 298] [] O O hq54 (am ae aI)
   exact aO hW (D8 w54 H54)
  have F2: ∀wS,Ke [] w wS [Bm,D1,B0,B3,B4,B1,B2]→W 10 (bz 13 56) (e8 [(35,(aa (aK (xsD (g3 s).2 k) 1).1.1)),(36,(.agg #[(ptr q2 0)]))]) wS:=fun wS HS=>by
   rw [hW]
   refine wd2 0 6 ?_ ?_
   ·
    exact kS 0 O (ab O Fa.cZ<|aO hW (D8 wS HS))
   refine kS 6 O (az (Kd 159) O ((cK q2 ((aK (xsD (g3 s).2 k) 1).2) (2) 298 _ _ (HS.part [1] O O) (by first | (rw [ec]; exact hs) | (rw [ea]; exact hs) | (rw [dZ]; exact hs) | (rw [dX]; exact hs) | (rw [dW]; exact hs) | (rw [dV]; exact hs) | (rw [cS]; exact hs) | (rw [bV,ct]; exact hs) | (rw [ba,bV,ct]; exact hs) | (rw [cN,dY]; exact hs) | (rw [bQ,ci]; exact hs) | exact hs)).mono (fun e w58 hq=>?_)))
   obtain ⟨rfl,hq58⟩:=hq
   refine ⟨_,rfl,?_⟩
   have H58:=HS.splice [1] [.blk q2 [(str ((aK ((aK (xsD (g3 s).2 k) 1).2) 2).2).s),(vN ((aK ((aK (xsD (g3 s).2 k) 1).2) 2).2).at_),(vN ((aK ((aK (xsD (g3 s).2 k) 1).2) 2).2).f)] 298] [] O O hq58 (am ae aI)
   exact aO hW (J8 w58 H58)
  have Ki: ∀wS,Ke [] w wS [Bm,C1,B0,B3,B4,B1,B2]→W 11 (bz 13 3) (e8 [(32,(ptr b7 1))]) wS:=fun wS HS=>by
   rw [hW]
   refine wd3 2 3 5 ?_ ?_ ?_
   ·
    exact kS 2 O (aj O (HS.cell (i:=3) O O) A37 O<|aO hW (J9 wS HS))
   ·
    exact kS 3 O (aM (vs:=[_]) O (HS.cells (i:=2) O O) A254 O Fa.dU O<|aO hW (Ft wS HS))
   exact kS 5 O (aM (vs:=[_]) O (HS.cells (i:=2) O O) A254 O Fa.dU O<|aO hW (F0 wS HS))
  have F3: ∀wS,Ke [] w wS [Bm,C1,B0,B3,B4,B1,B2]→W 11 (bz 13 9) (e8 [(31,(ptr b7 0)),(34,(.agg #[(ptr q2 0)]))]) wS:=fun wS HS=>by
   rw [hW]
   refine wd3 1 4 5 ?_ ?_ ?_
   ·
    exact kS 1 O (ab O Fa.da<|aO hW (Ft wS HS))
   ·
    refine kS 4 O (az (Kd 159) O ((cK q2 (xsD (g3 s).2 k) (1) 298 _ _ (HS.part [1] O O) (by first | (rw [ec]; exact hs) | (rw [ea]; exact hs) | (rw [dZ]; exact hs) | (rw [dX]; exact hs) | (rw [dW]; exact hs) | (rw [dV]; exact hs) | (rw [cS]; exact hs) | (rw [bV,ct]; exact hs) | (rw [ba,bV,ct]; exact hs) | (rw [cN,dY]; exact hs) | (rw [bQ,ci]; exact hs) | exact hs)).mono (fun e w54 hq=>?_)))
    obtain ⟨rfl,hq54⟩:=hq
    refine ⟨_,rfl,?_⟩
    have H54:=HS.splice [1] [.blk q2 [(str ((aK (xsD (g3 s).2 k) 1).2).s),(vN ((aK (xsD (g3 s).2 k) 1).2).at_),(vN ((aK (xsD (g3 s).2 k) 1).2).f)] 298] [] O O hq54 (am ae aI)
    exact aO hW (F1 w54 H54)
   exact kS 5 O (aM (vs:=[_]) O (HS.cells (i:=2) O O) A254 O Fa.dU O<|aO hW (D9 wS HS))
  have F4: ∀wS,Ke [] w wS [Bm,C1,B0,B3,B4,B1,B2]→W 11 (bz 13 33) (e8 [(31,(ptr b7 0)),(36,(.agg #[(ptr q2 0)]))]) wS:=fun wS HS=>by
   rw [hW]
   refine wd2 1 3 ?_ ?_
   ·
    exact kS 1 O (ab O Fa.da<|aO hW (F0 wS HS))
   exact kS 3 O (aM (vs:=[_]) O (HS.cells (i:=2) O O) A254 O Fa.dU O<|aO hW (D9 wS HS))
  have Kj: ∀wS,Ke [] w wS [Bm,D1,B0,B3,B4,B1,B2]→W 11 (bz 13 24) (e8 [(35,(aa (aK (xsD (g3 s).2 k) 1).1.1))]) wS:=fun wS HS=>by
   rw [hW]
   refine wd2 0 5 ?_ ?_
   ·
    exact kS 0 O (ab O Fa.cZ<|aO hW (F1 wS HS))
   exact kS 5 O (aM (vs:=[_]) O (HS.cells (i:=2) O O) A254 O Fa.dU O<|aO hW (F2 wS HS))
  have F5: ∀wS,Ke [] w wS [Bm,C1,B0,B3,B4,B1,B2]→W 11 (bz 13 40) (e8 [(34,(.agg #[(ptr q2 0)])),(36,(.agg #[(ptr q2 0)]))]) wS:=fun wS HS=>by
   rw [hW]
   refine wd2 0 4 ?_ ?_
   ·
    exact kS 0 O (ab O Fa.cZ<|aO hW (D9 wS HS))
   refine kS 4 O (az (Kd 159) O ((cK q2 (xsD (g3 s).2 k) (1) 298 _ _ (HS.part [1] O O) (by first | (rw [ec]; exact hs) | (rw [ea]; exact hs) | (rw [dZ]; exact hs) | (rw [dX]; exact hs) | (rw [dW]; exact hs) | (rw [dV]; exact hs) | (rw [cS]; exact hs) | (rw [bV,ct]; exact hs) | (rw [ba,bV,ct]; exact hs) | (rw [cN,dY]; exact hs) | (rw [bQ,ci]; exact hs) | exact hs)).mono (fun e w54 hq=>?_)))
   obtain ⟨rfl,hq54⟩:=hq
   refine ⟨_,rfl,?_⟩
   have H54:=HS.splice [1] [.blk q2 [(str ((aK (xsD (g3 s).2 k) 1).2).s),(vN ((aK (xsD (g3 s).2 k) 1).2).at_),(vN ((aK (xsD (g3 s).2 k) 1).2).f)] 298] [] O O hq54 (am ae aI)
   exact aO hW (F2 w54 H54)
  have Kn: ∀wS,Ke [] w wS [Bm,C1,B0,B3,B4,B1,B2]→W 12 (bz 13 1) (e8 [(31,(ptr b7 0))]) wS:=fun wS HS=>by
   rw [hW]
   refine wd3 1 3 5 ?_ ?_ ?_
   ·
    exact kS 1 O (ab O Fa.da<|aO hW (Ki wS HS))
   ·
    exact kS 3 O (aM (vs:=[_]) O (HS.cells (i:=2) O O) A254 O Fa.dU O<|aO hW (F3 wS HS))
   exact kS 5 O (aM (vs:=[_]) O (HS.cells (i:=2) O O) A254 O Fa.dU O<|aO hW (F4 wS HS))
  have Ko: ∀wS,Ke [] w wS [Bm,C1,B0,B3,B4,B1,B2]→W 12 (bz 13 8) (e8 [(34,(.agg #[(ptr q2 0)]))]) wS:=fun wS HS=>by
   rw [hW]
   refine wd3 0 4 5 ?_ ?_ ?_
   ·
    exact kS 0 O (ab O Fa.cZ<|aO hW (F3 wS HS))
   ·
    refine kS 4 O (az (Kd 159) O ((cK q2 (xsD (g3 s).2 k) (1) 298 _ _ (HS.part [1] O O) (by first | (rw [ec]; exact hs) | (rw [ea]; exact hs) | (rw [dZ]; exact hs) | (rw [dX]; exact hs) | (rw [dW]; exact hs) | (rw [dV]; exact hs) | (rw [cS]; exact hs) | (rw [bV,ct]; exact hs) | (rw [ba,bV,ct]; exact hs) | (rw [cN,dY]; exact hs) | (rw [bQ,ci]; exact hs) | exact hs)).mono (fun e w54 hq=>?_)))
    obtain ⟨rfl,hq54⟩:=hq
    refine ⟨_,rfl,?_⟩
    have H54:=HS.splice [1] [.blk q2 [(str ((aK (xsD (g3 s).2 k) 1).2).s),(vN ((aK (xsD (g3 s).2 k) 1).2).at_),(vN ((aK (xsD (g3 s).2 k) 1).2).f)] 298] [] O O hq54 (am ae aI)
    exact aO hW (Kj w54 H54)
   exact kS 5 O (aM (vs:=[_]) O (HS.cells (i:=2) O O) A254 O Fa.dU O<|aO hW (F5 wS HS))
  have Kp: ∀wS,Ke [] w wS [Bm,C1,B0,B3,B4,B1,B2]→W 12 (bz 13 32) (e8 [(36,(.agg #[(ptr q2 0)]))]) wS:=fun wS HS=>by
   rw [hW]
   refine wd2 0 3 ?_ ?_
   ·
    exact kS 0 O (ab O Fa.cZ<|aO hW (F4 wS HS))
   exact kS 3 O (aM (vs:=[_]) O (HS.cells (i:=2) O O) A254 O Fa.dU O<|aO hW (F5 wS HS))
  have Kq: ∀wS,Ke [] w wS [Bm,C1,B0,B3,B4,B1,B2]→W 13 (bz 13 0) (e8 []) wS:=fun wS HS=>by
   rw [hW]
   refine wd3 0 3 5 ?_ ?_ ?_
   ·
    exact kS 0 O (ab O Fa.cZ<|aO hW (Kn wS HS))
   ·
    exact kS 3 O (aM (vs:=[_]) O (HS.cells (i:=2) O O) A254 O Fa.dU O<|aO hW (Ko wS HS))
   exact kS 5 O (aM (vs:=[_]) O (HS.cells (i:=2) O O) A254 O Fa.dU O<|aO hW (Kp wS HS))
  have hq:=Kq w18 H18
  rw [hW] at hq ⊢
  refine WD.cov ?_ hq
  exact by repeat (first | exact trivial | refine ⟨rfl,?_⟩)
 refine bc<|an<|an<|aS<|ao<|ap<|ws ?_
 have hkx:¬k<(g3 s).1.1.toNat:=fun h=>hc17 (hct.2 h)
 obtain rfl:k=(g3 s).1.1.toNat:=by omega
 have H20:Ke [] w w16 [.blk b1 [(aa 0),(.slice none 0 0),(.slice none 0 0),(.bool false),(aa 0),(.slice none 0 0)] 43,.blk q2 [(str (g4 s).s),(vN (g4 s).at_),(vN (g4 s).f)] 298,.blk b3 [(ptr q2 0)] 254,.blk b7 [(aa (g2 s).1.1),x,(.slice none 0 0),(.bool false),(aa 0),(.slice none 0 0)] 43,.row x 207 2 (g3 s).1.1.toNat (Kh xtc (gX s)),.row (.slice none 0 0) 203 1 0 (Kg bA []),.row (.slice none 0 0) 116 3 0 (Kh sgc [])]:=by have h:=H16; rw [show xsD (g3 s).2 (g3 s).1.1.toNat=g4 s from rfl] at h; rw [show xsL (g3 s).2 (g3 s).1.1.toNat=gX s from rfl] at h; exact h
 refine wo (aM (vs:=[_]) O (H20.cells (i:=2) O O) A254 O Fa.dU O<|wo (az (Kd 159) O ((cK q2 (g4 s) (1) 298 _ _ (H20.part [1] O O) (by first | (rw [ec]; exact hs) | (rw [ea]; exact hs) | (rw [dZ]; exact hs) | (rw [dX]; exact hs) | (rw [dW]; exact hs) | (rw [dV]; exact hs) | (rw [cS]; exact hs) | (rw [bV,ct]; exact hs) | (rw [ba,bV,ct]; exact hs) | (rw [cN,dY]; exact hs) | (rw [bQ,ci]; exact hs) | exact hs)).mono (fun e w21 hq=>?_))))
 obtain ⟨rfl,hq21⟩:=hq
 refine ⟨_,rfl,?_⟩
 have H21:=H20.splice [1] [.blk q2 [(str ((aK (g4 s) 1).2).s),(vN ((aK (g4 s) 1).2).at_),(vN ((aK (g4 s) 1).2).f)] 298] [] O O hq21 (am ae aI)
 have H22:Ke [] w w21 [.blk b1 [(aa 0),(.slice none 0 0),(.slice none 0 0),(.bool false),(aa 0),(.slice none 0 0)] 43,.blk q2 [(str ((g5 s).2).s),(vN ((g5 s).2).at_),(vN ((g5 s).2).f)] 298,.blk b3 [(ptr q2 0)] 254,.blk b7 [(aa (g2 s).1.1),x,(.slice none 0 0),(.bool false),(aa 0),(.slice none 0 0)] 43,.row x 207 2 (g3 s).1.1.toNat (Kh xtc (gX s)),.row (.slice none 0 0) 203 1 0 (Kg bA []),.row (.slice none 0 0) 116 3 0 (Kh sgc [])]:=by have h:=H21; rw [show aK (g4 s) 1=g5 s from rfl] at h; exact h
 rw [show aK (g4 s) 1=g5 s from rfl]
 refine wa O<|wn<|aB<|bi (α:=Nat × Value) (fun (j,y)=>[(2,(ptr b1 0)),(4,(ptr b3 0)),(5,(str (g1 s).1.1)),(7,(ptr b7 0)),(9,(aa ((g5 s).1.1-Kl j)))]) (fun (j,y) w'=>(j≤(g5 s).1.1.toNat)∧Ke [] w w' [.blk b1 [(aa 0),(.slice none 0 0),(.slice none 0 0),(.bool false),(aa 0),(.slice none 0 0)] 43,.blk q2 [(str (psD (g5 s).2 j).s),(vN (psD (g5 s).2 j).at_),(vN (psD (g5 s).2 j).f)] 298,.blk b3 [(ptr q2 0)] 254,.blk b7 [(aa (g2 s).1.1),x,y,(.bool false),(aa 0),(.slice none 0 0)] 43,.row x 207 2 (g3 s).1.1.toNat (Kh xtc (gX s)),.row y 203 1 j (Kg bA (psL (g5 s).2 j)),.row (.slice none 0 0) 116 3 0 (Kh sgc [])]) (fun (j,y)=>(g5 s).1.1.toNat-j) (0,(.slice none 0 0)) ⟨(Kk _),(by rw [Bd]; exact H22)⟩ ⟨rfl,rfl,rfl,rfl,(congrArg (fun n=>some (aa n)) (oc _)),trivial⟩ ?_
 rintro ⟨j,y⟩ w23 ⟨hj1,H23⟩
 show WC _ _ _ _ _ [(2,(ptr b1 0)),(4,(ptr b3 0)),(5,(str (g1 s).1.1)),(7,(ptr b7 0)),(9,(aa ((g5 s).1.1-Kl j)))] _
 have hct:=rX hj1
 have hnl:=(g5 s).1.1.toNat_lt
 refine ap<|ws<|wm O<|wo (cI (b:=0) O O<|wn (wE (((g5 s).1.1-Kl j)>(0:UInt32)) (fun hb24 hc24=>?_) (fun hb24 hc24=>?_)))
 ·
  have hkn:=hct.1 hc24
  refine aA<|ao<|ap<|aB<|WC.drawn 11 O Fa.M H23 ?_
  intro w25 H25
  refine WD.named (fun W hW=>?_)
  let e12:List (Nat × Value)→List (Nat × Value):=fun r=>(2,(ptr b1 0))::(4,(ptr b3 0))::(5,(str (g1 s).1.1))::(7,(ptr b7 0))::(9,(aa ((g5 s).1.1-Kl j)))::(45,(aa ((g5 s).1.1-Kl j)))::(46,(.bool (decide (((g5 s).1.1-Kl j)>(0:UInt32)))))::r
  let B5:Ent:=.blk b1 [(aa 0),(.slice none 0 0),(.slice none 0 0),(.bool false),(aa 0),(.slice none 0 0)] 43
  let D2:Ent:=.blk q2 [(str (psD (g5 s).2 j).s),(vN (psD (g5 s).2 j).at_),(vN (psD (g5 s).2 j).f)] 298
  let B6:Ent:=.blk b3 [(ptr q2 0)] 254
  let B9:Ent:=.blk b7 [(aa (g2 s).1.1),x,y,(.bool false),(aa 0),(.slice none 0 0)] 43
  let B7:Ent:=.row x 207 2 (g3 s).1.1.toNat (Kh xtc (gX s))
  let C0:Ent:=.row y 203 1 j (Kg bA (psL (g5 s).2 j))
  let B8:Ent:=.row (.slice none 0 0) 116 3 0 (Kh sgc [])
  let C3:Ent:=.blk q2 [(str ((aK (psD (g5 s).2 j) 2).2).s),(vN ((aK (psD (g5 s).2 j) 2).2).at_),(vN ((aK (psD (g5 s).2 j) 2).2).f)] 298
  have Kr: ∀v57 b53 wS,Ke [] w wS [B5,C3,B6,.blk b7 [(aa (g2 s).1.1),x,v57,(.bool false),(aa 0),(.slice none 0 0)] 43,B7,.row v57 203 1 (j+1) (Kg bA ((psL (g5 s).2 j)++[(Km (aK (psD (g5 s).2 j) 2).1.1.toNat)])),B8,.row (.slice (some ⟨b53,0,none⟩) 1 1) 203 1 1 (Kg bA [(Km (aK (psD (g5 s).2 j) 2).1.1.toNat)])]→W 0 (bz 11 2047) (e12 []) wS:=fun v57 b53 wS HS=>by
   rw [hW]
   exact WD.done (by kernel_rfl)<|aE<|ao<|aG<|wm O<|wo (gY (b:=1) O O<|wa O<|aY<|aX (j+1,v57) ⟨(by omega),(by rw [sO,oz]; exact (HS.take 7))⟩ ⟨rfl,rfl,rfl,rfl,(congrArg (fun n=>some (aa n)) (qg hkn)),trivial⟩ (by show (g5 s).1.1.toNat-(j+1)<(g5 s).1.1.toNat-j; omega))
  have Ks: ∀v57 b53 wS,Ke [] w wS [B5,C3,B6,B9,B7,.row v57 203 1 (j+1) (Kg bA ((psL (g5 s).2 j)++[(Km (aK (psD (g5 s).2 j) 2).1.1.toNat)])),B8,.row (.slice (some ⟨b53,0,none⟩) 1 1) 203 1 1 (Kg bA [(Km (aK (psD (g5 s).2 j) 2).1.1.toNat)])]→W 1 (bz 11 1023) (e12 [(56,v57),(58,(ptr b7 2))]) wS:=fun v57 b53 wS HS=>by
   rw [hW]
   exact wd1 10<|kS 10 O (bC (i:=3) HS O O O O (bS (HS.arrR (i:=5) O)) Fa.I38 (fun w63 H63=>(aO hW (Kr v57 b53 w63 H63))))
  have Kt: ∀v57 b53 wS,Ke [] w wS [B5,C3,B6,B9,B7,.row v57 203 1 (j+1) (Kg bA ((psL (g5 s).2 j)++[(Km (aK (psD (g5 s).2 j) 2).1.1.toNat)])),B8,.row (.slice (some ⟨b53,0,none⟩) 1 1) 203 1 1 (Kg bA [(Km (aK (psD (g5 s).2 j) 2).1.1.toNat)])]→W 2 (bz 11 511) (e12 [(56,v57),(57,(ptr b7 0))]) wS:=fun v57 b53 wS HS=>by
   rw [hW]
   exact wd1 9<|kS 9 O (ab O Fa.di<|aO hW (Ks v57 b53 wS HS))
  have Ku: ∀v57 b53 wS,Ke [] w wS [B5,C3,B6,B9,B7,.row v57 203 1 (j+1) (Kg bA ((psL (g5 s).2 j)++[(Km (aK (psD (g5 s).2 j) 2).1.1.toNat)])),B8,.row (.slice (some ⟨b53,0,none⟩) 1 1) 203 1 1 (Kg bA [(Km (aK (psD (g5 s).2 j) 2).1.1.toNat)])]→W 3 (bz 11 255) (e12 [(56,v57)]) wS:=fun v57 b53 wS HS=>by
   rw [hW]
   exact wd1 8<|kS 8 O (ab O Fa.cZ<|aO hW (Kt v57 b53 wS HS))
  have F6: ∀b53 wS,Ke [] w wS [B5,C3,B6,B9,B7,C0,B8,.row (.slice (some ⟨b53,0,none⟩) 1 1) 203 1 1 (Kg bA [(Km (aK (psD (g5 s).2 j) 2).1.1.toNat)])]→W 4 (bz 11 127) (e12 [(51,y),(55,(.slice (some ⟨b53,0,none⟩) 1 1))]) wS:=fun b53 wS HS=>by
   rw [hW]
   exact wd1 7<|kS 7 O (cx (f:=bA) (l:=(psL (g5 s).2 j)) (l':=[(Km (aK (psD (g5 s).2 j) 2).1.1.toNat)]) (i:=5) HS A38 Fa.fV O O O O (ck A38 (HS.arrR (i:=7) O)) (cV (fun _=>rfl)) (by omega) (by omega) (fun v57 w57 H57=>(aO hW (Ku v57 b53 w57 H57))))
  have F7: ∀wS,Ke [] w wS [B5,C3,B6,B9,B7,C0,B8]→W 5 (bz 11 63) (e12 [(51,y),(54,(bA (Km (aK (psD (g5 s).2 j) 2).1.1.toNat)))]) wS:=fun wS HS=>by
   rw [hW]
   exact wd1 6<|kS 6 O (aW (cs:=[_]) HS A38 Fa.fV O O O O (by decide) (by decide) (fun b53 w53 H53=>(aO hW (F6 b53 w53 H53))))
  have F8: ∀b53 wS,Ke [] w wS [B5,C3,B6,B9,B7,C0,B8,.row (.slice (some ⟨b53,0,none⟩) 1 1) 203 1 1 (Kg bA [(Km (aK (psD (g5 s).2 j) 2).1.1.toNat)])]→W 5 (bz 11 123) (e12 [(50,(ptr b7 2)),(55,(.slice (some ⟨b53,0,none⟩) 1 1))]) wS:=fun b53 wS HS=>by
   rw [hW]
   exact wd1 2<|kS 2 O (aj O (HS.cell (i:=3) O O) A38 O<|aO hW (F6 b53 wS HS))
  have F9: ∀wS,Ke [] w wS [B5,C3,B6,B9,B7,C0,B8]→W 6 (bz 11 31) (e12 [(51,y),(53,(aa (aK (psD (g5 s).2 j) 2).1.1))]) wS:=fun wS HS=>by
   rw [hW]
   exact wd1 5<|kS 5 O (eo (hs:=A22) (hd:=A203) O<|aO hW (F7 wS HS))
  have Go: ∀wS,Ke [] w wS [B5,C3,B6,B9,B7,C0,B8]→W 6 (bz 11 59) (e12 [(50,(ptr b7 2)),(54,(bA (Km (aK (psD (g5 s).2 j) 2).1.1.toNat)))]) wS:=fun wS HS=>by
   rw [hW]
   refine wd2 2 6 ?_ ?_
   ·
    exact kS 2 O (aj O (HS.cell (i:=3) O O) A38 O<|aO hW (F7 wS HS))
   exact kS 6 O (aW (cs:=[_]) HS A38 Fa.fV O O O O (by decide) (by decide) (fun b53 w53 H53=>(aO hW (F8 b53 w53 H53))))
  have G0: ∀b53 wS,Ke [] w wS [B5,C3,B6,B9,B7,C0,B8,.row (.slice (some ⟨b53,0,none⟩) 1 1) 203 1 1 (Kg bA [(Km (aK (psD (g5 s).2 j) 2).1.1.toNat)])]→W 6 (bz 11 121) (e12 [(49,(ptr b7 0)),(55,(.slice (some ⟨b53,0,none⟩) 1 1))]) wS:=fun b53 wS HS=>by
   rw [hW]
   exact wd1 1<|kS 1 O (ab O Fa.di<|aO hW (F8 b53 wS HS))
  have G1: ∀wS,Ke [] w wS [B5,D2,B6,B9,B7,C0,B8]→W 7 (bz 11 15) (e12 [(51,y),(52,(.agg #[(ptr q2 0)]))]) wS:=fun wS HS=>by
   rw [hW]
   refine wd1 4<|kS 4 O (az (Kd 159) O ((cK q2 (psD (g5 s).2 j) (2) 298 _ _ (HS.part [1] O O) (by first | (rw [ec]; exact hs) | (rw [ea]; exact hs) | (rw [dZ]; exact hs) | (rw [dX]; exact hs) | (rw [dW]; exact hs) | (rw [dV]; exact hs) | (rw [cS]; exact hs) | (rw [bV,ct]; exact hs) | (rw [ba,bV,ct]; exact hs) | (rw [cN,dY]; exact hs) | (rw [bQ,ci]; exact hs) | exact hs)).mono (fun e w59 hq=>?_)))
   obtain ⟨rfl,hq59⟩:=hq
   refine ⟨_,rfl,?_⟩
   have H59:=HS.splice [1] [.blk q2 [(str ((aK (psD (g5 s).2 j) 2).2).s),(vN ((aK (psD (g5 s).2 j) 2).2).at_),(vN ((aK (psD (g5 s).2 j) 2).2).f)] 298] [] O O hq59 (am ae aI)
   exact aO hW (F9 w59 H59)
  have G2: ∀wS,Ke [] w wS [B5,C3,B6,B9,B7,C0,B8]→W 7 (bz 11 27) (e12 [(50,(ptr b7 2)),(53,(aa (aK (psD (g5 s).2 j) 2).1.1))]) wS:=fun wS HS=>by
   rw [hW]
   refine wd2 2 5 ?_ ?_
   ·
    exact kS 2 O (aj O (HS.cell (i:=3) O O) A38 O<|aO hW (F9 wS HS))
   exact kS 5 O (eo (hs:=A22) (hd:=A203) O<|aO hW (Go wS HS))
  have G3: ∀wS,Ke [] w wS [B5,C3,B6,B9,B7,C0,B8]→W 7 (bz 11 57) (e12 [(49,(ptr b7 0)),(54,(bA (Km (aK (psD (g5 s).2 j) 2).1.1.toNat)))]) wS:=fun wS HS=>by
   rw [hW]
   refine wd2 1 6 ?_ ?_
   ·
    exact kS 1 O (ab O Fa.di<|aO hW (Go wS HS))
   exact kS 6 O (aW (cs:=[_]) HS A38 Fa.fV O O O O (by decide) (by decide) (fun b53 w53 H53=>(aO hW (G0 b53 w53 H53))))
  have Kv: ∀b53 wS,Ke [] w wS [B5,C3,B6,B9,B7,C0,B8,.row (.slice (some ⟨b53,0,none⟩) 1 1) 203 1 1 (Kg bA [(Km (aK (psD (g5 s).2 j) 2).1.1.toNat)])]→W 7 (bz 11 120) (e12 [(55,(.slice (some ⟨b53,0,none⟩) 1 1))]) wS:=fun b53 wS HS=>by
   rw [hW]
   exact wd1 0<|kS 0 O (ab O Fa.cZ<|aO hW (G0 b53 wS HS))
  have Kw: ∀wS,Ke [] w wS [B5,D2,B6,B9,B7,C0,B8]→W 8 (bz 11 7) (e12 [(51,y)]) wS:=fun wS HS=>by
   rw [hW]
   exact wd1 3<|kS 3 O (aM (vs:=[_]) O (HS.cells (i:=2) O O) A254 O Fa.dU O<|aO hW (G1 wS HS))
  have G4: ∀wS,Ke [] w wS [B5,D2,B6,B9,B7,C0,B8]→W 8 (bz 11 11) (e12 [(50,(ptr b7 2)),(52,(.agg #[(ptr q2 0)]))]) wS:=fun wS HS=>by
   rw [hW]
   refine wd2 2 4 ?_ ?_
   ·
    exact kS 2 O (aj O (HS.cell (i:=3) O O) A38 O<|aO hW (G1 wS HS))
   refine kS 4 O (az (Kd 159) O ((cK q2 (psD (g5 s).2 j) (2) 298 _ _ (HS.part [1] O O) (by first | (rw [ec]; exact hs) | (rw [ea]; exact hs) | (rw [dZ]; exact hs) | (rw [dX]; exact hs) | (rw [dW]; exact hs) | (rw [dV]; exact hs) | (rw [cS]; exact hs) | (rw [bV,ct]; exact hs) | (rw [ba,bV,ct]; exact hs) | (rw [cN,dY]; exact hs) | (rw [bQ,ci]; exact hs) | exact hs)).mono (fun e w59 hq=>?_)))
   obtain ⟨rfl,hq59⟩:=hq
   refine ⟨_,rfl,?_⟩
   have H59:=HS.splice [1] [.blk q2 [(str ((aK (psD (g5 s).2 j) 2).2).s),(vN ((aK (psD (g5 s).2 j) 2).2).at_),(vN ((aK (psD (g5 s).2 j) 2).2).f)] 298] [] O O hq59 (am ae aI)
   exact aO hW (G2 w59 H59)
  have G5: ∀wS,Ke [] w wS [B5,C3,B6,B9,B7,C0,B8]→W 8 (bz 11 25) (e12 [(49,(ptr b7 0)),(53,(aa (aK (psD (g5 s).2 j) 2).1.1))]) wS:=fun wS HS=>by
   rw [hW]
   refine wd2 1 5 ?_ ?_
   ·
    exact kS 1 O (ab O Fa.di<|aO hW (G2 wS HS))
   exact kS 5 O (eo (hs:=A22) (hd:=A203) O<|aO hW (G3 wS HS))
  have Kx: ∀wS,Ke [] w wS [B5,C3,B6,B9,B7,C0,B8]→W 8 (bz 11 56) (e12 [(54,(bA (Km (aK (psD (g5 s).2 j) 2).1.1.toNat)))]) wS:=fun wS HS=>by
   rw [hW]
   refine wd2 0 6 ?_ ?_
   ·
    exact kS 0 O (ab O Fa.cZ<|aO hW (G3 wS HS))
   exact kS 6 O (aW (cs:=[_]) HS A38 Fa.fV O O O O (by decide) (by decide) (fun b53 w53 H53=>(aO hW (Kv b53 w53 H53))))
  have Ky: ∀wS,Ke [] w wS [B5,D2,B6,B9,B7,C0,B8]→W 9 (bz 11 3) (e12 [(50,(ptr b7 2))]) wS:=fun wS HS=>by
   rw [hW]
   refine wd2 2 3 ?_ ?_
   ·
    exact kS 2 O (aj O (HS.cell (i:=3) O O) A38 O<|aO hW (Kw wS HS))
   exact kS 3 O (aM (vs:=[_]) O (HS.cells (i:=2) O O) A254 O Fa.dU O<|aO hW (G4 wS HS))
  have G6: ∀wS,Ke [] w wS [B5,D2,B6,B9,B7,C0,B8]→W 9 (bz 11 9) (e12 [(49,(ptr b7 0)),(52,(.agg #[(ptr q2 0)]))]) wS:=fun wS HS=>by
   rw [hW]
   refine wd2 1 4 ?_ ?_
   ·
    exact kS 1 O (ab O Fa.di<|aO hW (G4 wS HS))
   refine kS 4 O (az (Kd 159) O ((cK q2 (psD (g5 s).2 j) (2) 298 _ _ (HS.part [1] O O) (by first | (rw [ec]; exact hs) | (rw [ea]; exact hs) | (rw [dZ]; exact hs) | (rw [dX]; exact hs) | (rw [dW]; exact hs) | (rw [dV]; exact hs) | (rw [cS]; exact hs) | (rw [bV,ct]; exact hs) | (rw [ba,bV,ct]; exact hs) | (rw [cN,dY]; exact hs) | (rw [bQ,ci]; exact hs) | exact hs)).mono (fun e w59 hq=>?_)))
   obtain ⟨rfl,hq59⟩:=hq
   refine ⟨_,rfl,?_⟩
   have H59:=HS.splice [1] [.blk q2 [(str ((aK (psD (g5 s).2 j) 2).2).s),(vN ((aK (psD (g5 s).2 j) 2).2).at_),(vN ((aK (psD (g5 s).2 j) 2).2).f)] 298] [] O O hq59 (am ae aI)
   exact aO hW (G5 w59 H59)
  have Kz: ∀wS,Ke [] w wS [B5,C3,B6,B9,B7,C0,B8]→W 9 (bz 11 24) (e12 [(53,(aa (aK (psD (g5 s).2 j) 2).1.1))]) wS:=fun wS HS=>by
   rw [hW]
   refine wd2 0 5 ?_ ?_
   ·
    exact kS 0 O (ab O Fa.cZ<|aO hW (G5 wS HS))
   exact kS 5 O (eo (hs:=A22) (hd:=A203) O<|aO hW (Kx wS HS))
  have K0: ∀wS,Ke [] w wS [B5,D2,B6,B9,B7,C0,B8]→W 10 (bz 11 1) (e12 [(49,(ptr b7 0))]) wS:=fun wS HS=>by
   rw [hW]
   refine wd2 1 3 ?_ ?_
   ·
    exact kS 1 O (ab O Fa.di<|aO hW (Ky wS HS))
   exact kS 3 O (aM (vs:=[_]) O (HS.cells (i:=2) O O) A254 O Fa.dU O<|aO hW (G6 wS HS))
  have K1: ∀wS,Ke [] w wS [B5,D2,B6,B9,B7,C0,B8]→W 10 (bz 11 8) (e12 [(52,(.agg #[(ptr q2 0)]))]) wS:=fun wS HS=>by
   rw [hW]
   refine wd2 0 4 ?_ ?_
   ·
    exact kS 0 O (ab O Fa.cZ<|aO hW (G6 wS HS))
   refine kS 4 O (az (Kd 159) O ((cK q2 (psD (g5 s).2 j) (2) 298 _ _ (HS.part [1] O O) (by first | (rw [ec]; exact hs) | (rw [ea]; exact hs) | (rw [dZ]; exact hs) | (rw [dX]; exact hs) | (rw [dW]; exact hs) | (rw [dV]; exact hs) | (rw [cS]; exact hs) | (rw [bV,ct]; exact hs) | (rw [ba,bV,ct]; exact hs) | (rw [cN,dY]; exact hs) | (rw [bQ,ci]; exact hs) | exact hs)).mono (fun e w59 hq=>?_)))
   obtain ⟨rfl,hq59⟩:=hq
   refine ⟨_,rfl,?_⟩
   have H59:=HS.splice [1] [.blk q2 [(str ((aK (psD (g5 s).2 j) 2).2).s),(vN ((aK (psD (g5 s).2 j) 2).2).at_),(vN ((aK (psD (g5 s).2 j) 2).2).f)] 298] [] O O hq59 (am ae aI)
   exact aO hW (Kz w59 H59)
  have K2: ∀wS,Ke [] w wS [B5,D2,B6,B9,B7,C0,B8]→W 11 (bz 11 0) (e12 []) wS:=fun wS HS=>by
   rw [hW]
   refine wd2 0 3 ?_ ?_
   ·
    exact kS 0 O (ab O Fa.cZ<|aO hW (K0 wS HS))
   exact kS 3 O (aM (vs:=[_]) O (HS.cells (i:=2) O O) A254 O Fa.dU O<|aO hW (K1 wS HS))
  have hq:=K2 w25 H25
  rw [hW] at hq ⊢
  refine WD.cov ?_ hq
  exact by repeat (first | exact trivial | refine ⟨rfl,?_⟩)
 refine bc<|an<|an<|aS<|ao<|ws ?_
 have hkx:¬j<(g5 s).1.1.toNat:=fun h=>hc24 (hct.2 h)
 obtain rfl:j=(g5 s).1.1.toNat:=by omega
 have H27:Ke [] w w23 [.blk b1 [(aa 0),(.slice none 0 0),(.slice none 0 0),(.bool false),(aa 0),(.slice none 0 0)] 43,.blk q2 [(str (g6 s).s),(vN (g6 s).at_),(vN (g6 s).f)] 298,.blk b3 [(ptr q2 0)] 254,.blk b7 [(aa (g2 s).1.1),x,y,(.bool false),(aa 0),(.slice none 0 0)] 43,.row x 207 2 (g3 s).1.1.toNat (Kh xtc (gX s)),.row y 203 1 (g5 s).1.1.toNat (Kg bA (gP s)),.row (.slice none 0 0) 116 3 0 (Kh sgc [])]:=by have h:=H23; rw [show psD (g5 s).2 (g5 s).1.1.toNat=g6 s from rfl] at h; rw [show psL (g5 s).2 (g5 s).1.1.toNat=gP s from rfl] at h; exact h
 refine wo (aM (vs:=[_]) O (H27.cells (i:=2) O O) A254 O Fa.dU O<|wo (az (Kd 159) O ((cK q2 (g6 s) (1) 298 _ _ (H27.part [1] O O) (by first | (rw [ec]; exact hs) | (rw [ea]; exact hs) | (rw [dZ]; exact hs) | (rw [dX]; exact hs) | (rw [dW]; exact hs) | (rw [dV]; exact hs) | (rw [cS]; exact hs) | (rw [bV,ct]; exact hs) | (rw [ba,bV,ct]; exact hs) | (rw [cN,dY]; exact hs) | (rw [bQ,ci]; exact hs) | exact hs)).mono (fun e w28 hq=>?_))))
 obtain ⟨rfl,hq28⟩:=hq
 refine ⟨_,rfl,?_⟩
 have H28:=H27.splice [1] [.blk q2 [(str ((aK (g6 s) 1).2).s),(vN ((aK (g6 s) 1).2).at_),(vN ((aK (g6 s) 1).2).f)] 298] [] O O hq28 (am ae aI)
 have H29:Ke [] w w28 [.blk b1 [(aa 0),(.slice none 0 0),(.slice none 0 0),(.bool false),(aa 0),(.slice none 0 0)] 43,.blk q2 [(str ((g7 s).2).s),(vN ((g7 s).2).at_),(vN ((g7 s).2).f)] 298,.blk b3 [(ptr q2 0)] 254,.blk b7 [(aa (g2 s).1.1),x,y,(.bool false),(aa 0),(.slice none 0 0)] 43,.row x 207 2 (g3 s).1.1.toNat (Kh xtc (gX s)),.row y 203 1 (g5 s).1.1.toNat (Kg bA (gP s)),.row (.slice none 0 0) 116 3 0 (Kh sgc [])]:=by have h:=H28; rw [show aK (g6 s) 1=g7 s from rfl] at h; exact h
 rw [show aK (g6 s) 1=g7 s from rfl]
 refine wa O<|wn<|ws<|wm O<|wo (eu (b:=1) O O<|wo (ab O Fa.cZ<|wo (ab O Fa.qF<|wo (bC (i:=3) H29 O O O O O Fa.I4 (fun w30 H30=>(wn<|ws<|wo (aM (vs:=[_]) O (H30.cells (i:=2) O O) A254 O Fa.dU O<|wo (az (Kd 159) O ((cK q2 ((g7 s).2) (4) 298 _ _ (H30.part [1] O O) (by first | (rw [ec]; exact hs) | (rw [ea]; exact hs) | (rw [dZ]; exact hs) | (rw [dX]; exact hs) | (rw [dW]; exact hs) | (rw [dV]; exact hs) | (rw [cS]; exact hs) | (rw [bV,ct]; exact hs) | (rw [ba,bV,ct]; exact hs) | (rw [cN,dY]; exact hs) | (rw [bQ,ci]; exact hs) | exact hs)).mono (fun e w31 hq=>?_))))))))))
 obtain ⟨rfl,hq31⟩:=hq
 refine ⟨_,rfl,?_⟩
 have H31:=H30.splice [1] [.blk q2 [(str ((aK ((g7 s).2) 4).2).s),(vN ((aK ((g7 s).2) 4).2).at_),(vN ((aK ((g7 s).2) 4).2).f)] 298] [] O O hq31 (am ae aI)
 refine wo (ab O Fa.iU ?_)
 have H32:Ke [] w w31 [.blk b1 [(aa 0),(.slice none 0 0),(.slice none 0 0),(.bool false),(aa 0),(.slice none 0 0)] 43,.blk q2 [(str ((g8 s).2).s),(vN ((g8 s).2).at_),(vN ((g8 s).2).f)] 298,.blk b3 [(ptr q2 0)] 254,.blk b7 [(aa (g2 s).1.1),x,y,(.bool (decide ((g7 s).1.1=(1:UInt32)))),(aa 0),(.slice none 0 0)] 43,.row x 207 2 (g3 s).1.1.toNat (Kh xtc (gX s)),.row y 203 1 (g5 s).1.1.toNat (Kg bA (gP s)),.row (.slice none 0 0) 116 3 0 (Kh sgc [])]:=by have h:=H31; rw [show aK (g7 s).2 4=g8 s from rfl] at h; exact h
 rw [show aK (g7 s).2 4=g8 s from rfl]
 refine wo (bC (i:=3) H32 O O O O O Fa.I22 (fun w33 H33=>(wn<|ap<|ws<|wo (aM (vs:=[_]) O (H33.cells (i:=2) O O) A254 O Fa.dU O<|wo (az (Kd 159) O ((cK q2 ((g8 s).2) (1) 298 _ _ (H33.part [1] O O) (by first | (rw [ec]; exact hs) | (rw [ea]; exact hs) | (rw [dZ]; exact hs) | (rw [dX]; exact hs) | (rw [dW]; exact hs) | (rw [dV]; exact hs) | (rw [cS]; exact hs) | (rw [bV,ct]; exact hs) | (rw [ba,bV,ct]; exact hs) | (rw [cN,dY]; exact hs) | (rw [bQ,ci]; exact hs) | exact hs)).mono (fun e w34 hq=>?_)))))))
 obtain ⟨rfl,hq34⟩:=hq
 refine ⟨_,rfl,?_⟩
 have H34:=H33.splice [1] [.blk q2 [(str ((aK ((g8 s).2) 1).2).s),(vN ((aK ((g8 s).2) 1).2).at_),(vN ((aK ((g8 s).2) 1).2).f)] 298] [] O O hq34 (am ae aI)
 have H35:Ke [] w w34 [.blk b1 [(aa 0),(.slice none 0 0),(.slice none 0 0),(.bool false),(aa 0),(.slice none 0 0)] 43,.blk q2 [(str ((g9 s).2).s),(vN ((g9 s).2).at_),(vN ((g9 s).2).f)] 298,.blk b3 [(ptr q2 0)] 254,.blk b7 [(aa (g2 s).1.1),x,y,(.bool (decide ((g7 s).1.1=(1:UInt32)))),(aa (g8 s).1.1),(.slice none 0 0)] 43,.row x 207 2 (g3 s).1.1.toNat (Kh xtc (gX s)),.row y 203 1 (g5 s).1.1.toNat (Kg bA (gP s)),.row (.slice none 0 0) 116 3 0 (Kh sgc [])]:=by have h:=H34; rw [show aK (g8 s).2 1=g9 s from rfl] at h; exact h
 rw [show aK (g8 s).2 1=g9 s from rfl]
 refine wa O<|wn<|aB<|bi (α:=Nat × Value) (fun (i,z)=>[(2,(ptr b1 0)),(4,(ptr b3 0)),(5,(str (g1 s).1.1)),(7,(ptr b7 0)),(10,(aa (g7 s).1.1)),(11,(aa ((g9 s).1.1-Kl i)))]) (fun (i,z) w'=>(i≤(g9 s).1.1.toNat)∧Ke [] w w' [.blk b1 [(aa 0),(.slice none 0 0),(.slice none 0 0),(.bool false),(aa 0),(.slice none 0 0)] 43,.blk q2 [(str (sgD (g9 s).2 i).s),(vN (sgD (g9 s).2 i).at_),(vN (sgD (g9 s).2 i).f)] 298,.blk b3 [(ptr q2 0)] 254,.blk b7 [(aa (g2 s).1.1),x,y,(.bool (decide ((g7 s).1.1=(1:UInt32)))),(aa (g8 s).1.1),z] 43,.row x 207 2 (g3 s).1.1.toNat (Kh xtc (gX s)),.row y 203 1 (g5 s).1.1.toNat (Kg bA (gP s)),.row z 116 3 i (Kh sgc (sgL (g9 s).2 i))]) (fun (i,z)=>(g9 s).1.1.toNat-i) (0,(.slice none 0 0)) ⟨(Kk _),(by rw [AL]; exact H35)⟩ ⟨rfl,rfl,rfl,rfl,rfl,(congrArg (fun n=>some (aa n)) (oc _)),trivial⟩ ?_
 rintro ⟨i,z⟩ w36 ⟨hi1,H36⟩
 show WC _ _ _ _ _ [(2,(ptr b1 0)),(4,(ptr b3 0)),(5,(str (g1 s).1.1)),(7,(ptr b7 0)),(10,(aa (g7 s).1.1)),(11,(aa ((g9 s).1.1-Kl i)))] _
 have hct:=rX hi1
 have hnl:=(g9 s).1.1.toNat_lt
 refine ap<|ws<|wm O<|wo (cI (b:=0) O O<|wn (wE (((g9 s).1.1-Kl i)>(0:UInt32)) (fun hb37 hc37=>?_) (fun hb37 hc37=>?_)))
 ·
  have hkn:=hct.1 hc37
  refine aA<|ao<|ap<|aB<|WC.drawn 8 O Fa.M H36 ?_
  intro w38 H38
  refine WD.named (fun W hW=>?_)
  let e19:List (Nat × Value)→List (Nat × Value):=fun r=>(2,(ptr b1 0))::(4,(ptr b3 0))::(5,(str (g1 s).1.1))::(7,(ptr b7 0))::(10,(aa (g7 s).1.1))::(11,(aa ((g9 s).1.1-Kl i)))::(70,(aa ((g9 s).1.1-Kl i)))::(71,(.bool (decide (((g9 s).1.1-Kl i)>(0:UInt32)))))::r
  let C4:Ent:=.blk b1 [(aa 0),(.slice none 0 0),(.slice none 0 0),(.bool false),(aa 0),(.slice none 0 0)] 43
  let D3:Ent:=.blk q2 [(str (sgD (g9 s).2 i).s),(vN (sgD (g9 s).2 i).at_),(vN (sgD (g9 s).2 i).f)] 298
  let C5:Ent:=.blk b3 [(ptr q2 0)] 254
  let C8:Ent:=.blk b7 [(aa (g2 s).1.1),x,y,(.bool (decide ((g7 s).1.1=(1:UInt32)))),(aa (g8 s).1.1),z] 43
  let C6:Ent:=.row x 207 2 (g3 s).1.1.toNat (Kh xtc (gX s))
  let C7:Ent:=.row y 203 1 (g5 s).1.1.toNat (Kg bA (gP s))
  let C9:Ent:=.row z 116 3 i (Kh sgc (sgL (g9 s).2 i))
  let D0:Ent:=.blk q2 [(str ((dn (sgD (g9 s).2 i)).2).s),(vN ((dn (sgD (g9 s).2 i)).2).at_),(vN ((dn (sgD (g9 s).2 i)).2).f)] 298
  have K3: ∀v60 b55 wS,Ke [] w wS [C4,D0,C5,.blk b7 [(aa (g2 s).1.1),x,y,(.bool (decide ((g7 s).1.1=(1:UInt32)))),(aa (g8 s).1.1),v60] 43,C6,C7,.row v60 116 3 (i+1) (Kh sgc ((sgL (g9 s).2 i)++[(dn (sgD (g9 s).2 i)).1])),.row (.slice (some ⟨b55,0,none⟩) 1 1) 116 3 1 (Kh sgc [(dn (sgD (g9 s).2 i)).1])]→W 0 (bz 8 255) (e19 []) wS:=fun v60 b55 wS HS=>by
   rw [hW]
   exact WD.done (by kernel_rfl)<|aE<|ao<|aG<|wm O<|wo (gY (b:=1) O O<|wa O<|aY<|aX (i+1,v60) ⟨(by omega),(by rw [sb,kD]; exact (HS.take 7))⟩ ⟨rfl,rfl,rfl,rfl,rfl,(congrArg (fun n=>some (aa n)) (qg hkn)),trivial⟩ (by show (g9 s).1.1.toNat-(i+1)<(g9 s).1.1.toNat-i; omega))
  have K4: ∀v60 b55 wS,Ke [] w wS [C4,D0,C5,C8,C6,C7,.row v60 116 3 (i+1) (Kh sgc ((sgL (g9 s).2 i)++[(dn (sgD (g9 s).2 i)).1])),.row (.slice (some ⟨b55,0,none⟩) 1 1) 116 3 1 (Kh sgc [(dn (sgD (g9 s).2 i)).1])]→W 1 (bz 8 127) (e19 [(79,v60),(80,(ptr b7 5))]) wS:=fun v60 b55 wS HS=>by
   rw [hW]
   exact wd1 7<|kS 7 O (bC (i:=3) HS O O O O (bS (HS.arrR (i:=6) O)) Fa.I41 (fun w64 H64=>(aO hW (K3 v60 b55 w64 H64))))
  have K5: ∀v60 b55 wS,Ke [] w wS [C4,D0,C5,C8,C6,C7,.row v60 116 3 (i+1) (Kh sgc ((sgL (g9 s).2 i)++[(dn (sgD (g9 s).2 i)).1])),.row (.slice (some ⟨b55,0,none⟩) 1 1) 116 3 1 (Kh sgc [(dn (sgD (g9 s).2 i)).1])]→W 2 (bz 8 63) (e19 [(79,v60)]) wS:=fun v60 b55 wS HS=>by
   rw [hW]
   exact wd1 6<|kS 6 O (ab O Fa.eA<|aO hW (K4 v60 b55 wS HS))
  have G7: ∀b55 wS,Ke [] w wS [C4,D0,C5,C8,C6,C7,C9,.row (.slice (some ⟨b55,0,none⟩) 1 1) 116 3 1 (Kh sgc [(dn (sgD (g9 s).2 i)).1])]→W 3 (bz 8 31) (e19 [(75,z),(78,(.slice (some ⟨b55,0,none⟩) 1 1))]) wS:=fun b55 wS HS=>by
   rw [hW]
   exact wd1 5<|kS 5 O (fJ (f:=sgc) (l:=(sgL (g9 s).2 i)) (l':=[(dn (sgD (g9 s).2 i)).1]) (i:=6) HS A41 Fa.de O O O O (ck A41 (HS.arrR (i:=7) O)) (iL (fun _=>by simp [sgc,Value.oneCell'])) (by omega) (by omega) (fun v60 w60 H60=>(aO hW (K5 v60 b55 w60 H60))))
  have G8: ∀wS,Ke [] w wS [C4,D0,C5,C8,C6,C7,C9]→W 4 (bz 8 15) (e19 [(75,z),(77,(.agg #[(aa (dn (sgD (g9 s).2 i)).1.a),(vU8 (dn (sgD (g9 s).2 i)).1.p),(str (dn (sgD (g9 s).2 i)).1.b)]))]) wS:=fun wS HS=>by
   rw [hW]
   exact wd1 4<|kS 4 O (aW (cs:=[_,_,_]) HS A41 Fa.de O O O O (by decide) (by decide) (fun b55 w55 H55=>(aO hW (G7 b55 w55 H55))))
  have G9: ∀b55 wS,Ke [] w wS [C4,D0,C5,C8,C6,C7,C9,.row (.slice (some ⟨b55,0,none⟩) 1 1) 116 3 1 (Kh sgc [(dn (sgD (g9 s).2 i)).1])]→W 4 (bz 8 29) (e19 [(74,(ptr b7 5)),(78,(.slice (some ⟨b55,0,none⟩) 1 1))]) wS:=fun b55 wS HS=>by
   rw [hW]
   exact wd1 1<|kS 1 O (aj O (HS.cell (i:=3) O O) A41 O<|aO hW (G7 b55 wS HS))
  have Jx: ∀wS,Ke [] w wS [C4,D3,C5,C8,C6,C7,C9]→W 5 (bz 8 7) (e19 [(75,z),(76,(.agg #[(ptr q2 0)]))]) wS:=fun wS HS=>by
   rw [hW]
   refine wd1 3<|kS 3 O (az (Kd 160) O ((qz q2 (sgD (g9 s).2 i) 298 _ _ (HS.part [1] O O) (by first | (rw [ec]; exact hs) | (rw [ea]; exact hs) | (rw [dZ]; exact hs) | (rw [dX]; exact hs) | (rw [dW]; exact hs) | (rw [dV]; exact hs) | (rw [cS]; exact hs) | (rw [bV,ct]; exact hs) | (rw [ba,bV,ct]; exact hs) | (rw [cN,dY]; exact hs) | (rw [bQ,ci]; exact hs) | exact hs)).mono (fun e w61 hq=>?_)))
   obtain ⟨rfl,hq61⟩:=hq
   refine ⟨_,rfl,?_⟩
   have H61:=HS.splice [1] [.blk q2 [(str ((dn (sgD (g9 s).2 i)).2).s),(vN ((dn (sgD (g9 s).2 i)).2).at_),(vN ((dn (sgD (g9 s).2 i)).2).f)] 298] [] O O hq61 (am ae aI)
   exact aO hW (G8 w61 H61)
  have J0: ∀wS,Ke [] w wS [C4,D0,C5,C8,C6,C7,C9]→W 5 (bz 8 13) (e19 [(74,(ptr b7 5)),(77,(.agg #[(aa (dn (sgD (g9 s).2 i)).1.a),(vU8 (dn (sgD (g9 s).2 i)).1.p),(str (dn (sgD (g9 s).2 i)).1.b)]))]) wS:=fun wS HS=>by
   rw [hW]
   refine wd2 1 4 ?_ ?_
   ·
    exact kS 1 O (aj O (HS.cell (i:=3) O O) A41 O<|aO hW (G8 wS HS))
   exact kS 4 O (aW (cs:=[_,_,_]) HS A41 Fa.de O O O O (by decide) (by decide) (fun b55 w55 H55=>(aO hW (G9 b55 w55 H55))))
  have K6: ∀b55 wS,Ke [] w wS [C4,D0,C5,C8,C6,C7,C9,.row (.slice (some ⟨b55,0,none⟩) 1 1) 116 3 1 (Kh sgc [(dn (sgD (g9 s).2 i)).1])]→W 5 (bz 8 28) (e19 [(78,(.slice (some ⟨b55,0,none⟩) 1 1))]) wS:=fun b55 wS HS=>by
   rw [hW]
   exact wd1 0<|kS 0 O (ab O Fa.eA<|aO hW (G9 b55 wS HS))
  have K7: ∀wS,Ke [] w wS [C4,D3,C5,C8,C6,C7,C9]→W 6 (bz 8 3) (e19 [(75,z)]) wS:=fun wS HS=>by
   rw [hW]
   exact wd1 2<|kS 2 O (aM (vs:=[_]) O (HS.cells (i:=2) O O) A254 O Fa.dU O<|aO hW (Jx wS HS))
  have J1: ∀wS,Ke [] w wS [C4,D3,C5,C8,C6,C7,C9]→W 6 (bz 8 5) (e19 [(74,(ptr b7 5)),(76,(.agg #[(ptr q2 0)]))]) wS:=fun wS HS=>by
   rw [hW]
   refine wd2 1 3 ?_ ?_
   ·
    exact kS 1 O (aj O (HS.cell (i:=3) O O) A41 O<|aO hW (Jx wS HS))
   refine kS 3 O (az (Kd 160) O ((qz q2 (sgD (g9 s).2 i) 298 _ _ (HS.part [1] O O) (by first | (rw [ec]; exact hs) | (rw [ea]; exact hs) | (rw [dZ]; exact hs) | (rw [dX]; exact hs) | (rw [dW]; exact hs) | (rw [dV]; exact hs) | (rw [cS]; exact hs) | (rw [bV,ct]; exact hs) | (rw [ba,bV,ct]; exact hs) | (rw [cN,dY]; exact hs) | (rw [bQ,ci]; exact hs) | exact hs)).mono (fun e w61 hq=>?_)))
   obtain ⟨rfl,hq61⟩:=hq
   refine ⟨_,rfl,?_⟩
   have H61:=HS.splice [1] [.blk q2 [(str ((dn (sgD (g9 s).2 i)).2).s),(vN ((dn (sgD (g9 s).2 i)).2).at_),(vN ((dn (sgD (g9 s).2 i)).2).f)] 298] [] O O hq61 (am ae aI)
   exact aO hW (J0 w61 H61)
  have K8: ∀wS,Ke [] w wS [C4,D0,C5,C8,C6,C7,C9]→W 6 (bz 8 12) (e19 [(77,(.agg #[(aa (dn (sgD (g9 s).2 i)).1.a),(vU8 (dn (sgD (g9 s).2 i)).1.p),(str (dn (sgD (g9 s).2 i)).1.b)]))]) wS:=fun wS HS=>by
   rw [hW]
   refine wd2 0 4 ?_ ?_
   ·
    exact kS 0 O (ab O Fa.eA<|aO hW (J0 wS HS))
   exact kS 4 O (aW (cs:=[_,_,_]) HS A41 Fa.de O O O O (by decide) (by decide) (fun b55 w55 H55=>(aO hW (K6 b55 w55 H55))))
  have K9: ∀wS,Ke [] w wS [C4,D3,C5,C8,C6,C7,C9]→W 7 (bz 8 1) (e19 [(74,(ptr b7 5))]) wS:=fun wS HS=>by
   rw [hW]
   refine wd2 1 2 ?_ ?_
   ·
    exact kS 1 O (aj O (HS.cell (i:=3) O O) A41 O<|aO hW (K7 wS HS))
   exact kS 2 O (aM (vs:=[_]) O (HS.cells (i:=2) O O) A254 O Fa.dU O<|aO hW (J1 wS HS))
  have La: ∀wS,Ke [] w wS [C4,D3,C5,C8,C6,C7,C9]→W 7 (bz 8 4) (e19 [(76,(.agg #[(ptr q2 0)]))]) wS:=fun wS HS=>by
   rw [hW]
   refine wd2 0 3 ?_ ?_
   ·
    exact kS 0 O (ab O Fa.eA<|aO hW (J1 wS HS))
   refine kS 3 O (az (Kd 160) O ((qz q2 (sgD (g9 s).2 i) 298 _ _ (HS.part [1] O O) (by first | (rw [ec]; exact hs) | (rw [ea]; exact hs) | (rw [dZ]; exact hs) | (rw [dX]; exact hs) | (rw [dW]; exact hs) | (rw [dV]; exact hs) | (rw [cS]; exact hs) | (rw [bV,ct]; exact hs) | (rw [ba,bV,ct]; exact hs) | (rw [cN,dY]; exact hs) | (rw [bQ,ci]; exact hs) | exact hs)).mono (fun e w61 hq=>?_)))
   obtain ⟨rfl,hq61⟩:=hq
   refine ⟨_,rfl,?_⟩
   have H61:=HS.splice [1] [.blk q2 [(str ((dn (sgD (g9 s).2 i)).2).s),(vN ((dn (sgD (g9 s).2 i)).2).at_),(vN ((dn (sgD (g9 s).2 i)).2).f)] 298] [] O O hq61 (am ae aI)
   exact aO hW (K8 w61 H61)
  have Lb: ∀wS,Ke [] w wS [C4,D3,C5,C8,C6,C7,C9]→W 8 (bz 8 0) (e19 []) wS:=fun wS HS=>by
   rw [hW]
   refine wd2 0 2 ?_ ?_
   ·
    exact kS 0 O (ab O Fa.eA<|aO hW (K9 wS HS))
   exact kS 2 O (aM (vs:=[_]) O (HS.cells (i:=2) O O) A254 O Fa.dU O<|aO hW (La wS HS))
  have hq:=Lb w38 H38
  rw [hW] at hq ⊢
  refine WD.cov ?_ hq
  exact by repeat (first | exact trivial | refine ⟨rfl,?_⟩)
 refine bc<|an<|an<|aS<|ao<|ap<|ws ?_
 have hkx:¬i<(g9 s).1.1.toNat:=fun h=>hc37 (hct.2 h)
 obtain rfl:i=(g9 s).1.1.toNat:=by omega
 have H40:Ke [] w w36 [.blk b1 [(aa 0),(.slice none 0 0),(.slice none 0 0),(.bool false),(aa 0),(.slice none 0 0)] 43,.blk q2 [(str (g10 s).s),(vN (g10 s).at_),(vN (g10 s).f)] 298,.blk b3 [(ptr q2 0)] 254,.blk b7 [(aa (g2 s).1.1),x,y,(.bool (decide ((g7 s).1.1=(1:UInt32)))),(aa (g8 s).1.1),z] 43,.row x 207 2 (g3 s).1.1.toNat (Kh xtc (gX s)),.row y 203 1 (g5 s).1.1.toNat (Kg bA (gP s)),.row z 116 3 (g9 s).1.1.toNat (Kh sgc (gS s))]:=by have h:=H36; rw [show sgD (g9 s).2 (g9 s).1.1.toNat=g10 s from rfl] at h; rw [show sgL (g9 s).2 (g9 s).1.1.toNat=gS s from rfl] at h; exact h
 refine wo (ab O Fa.pX<|wo (aj O (H40.cell (i:=2) O O) A251 O<|wo (az (Kd 161) O ((AU q2 (g10 s)  298 _ _ (H40.part [1] O O) (by first | (rw [ec]; exact hs) | (rw [ea]; exact hs) | (rw [dZ]; exact hs) | (rw [dX]; exact hs) | (rw [dW]; exact hs) | (rw [dV]; exact hs) | (rw [cS]; exact hs) | (rw [bV,ct]; exact hs) | (rw [ba,bV,ct]; exact hs) | (rw [cN,dY]; exact hs) | (rw [bQ,ci]; exact hs) | exact hs)).mono (fun e w41 hq=>?_)))))
 obtain ⟨rfl,hq41⟩:=hq
 refine ⟨_,rfl,?_⟩
 have H41:=H40.splice [1] [.blk q2 [(str ((fc (g10 s)).2).s),(vN ((fc (g10 s)).2).at_),(vN ((fc (g10 s)).2).f)] 298] [] O O hq41 (am ae aI)
 refine wo (bI (b:=0) O O<|wm O (wF 85 ((fc (g10 s)).1≠0) (fun hb42 hc42=>?_) (fun hb42 hc42=>?_)))
 ·
  refine wN hb42<|wN hb42<|wo (aQ O hb42 O<|wm O<|wN O<|wN O<|wo (aQ O O O<|wm O<|wN O<|wN O<|wN O<|wo (aQ O O O<|wn<|bX O O<|ws<|wo (bP (cs:=[_,_,_,_,_,_]) Fa.I43 Fa.kA O O<|wo (bw (i:=0) H41 O O O O O Fa.I43 (fun w43 H43=>(wa O<|wn<|aC<|aq<|aD (.cell O (bM (vs:=[_,_,_,_,_,_]) (H43.cells (i:=0) O O) A43 O Fa.I43 O) (.tmp O .nil)) ?_)))))))
  have hb:eX s=true:=by (rw [eX,hb42])<;>rfl
  rw [(dR hb).1,(dR hb).2]
  exact ⟨.slice none 0 0,.slice none 0 0,.slice none 0 0,rfl,(((H43.sel [] O O).nilRow 207 2).nilRow 203 1).nilRow 116 3⟩
 refine wY hb42 (au O<|wY hb42 (iX O O<|wo (aN O hb42 O<|wm O (wF 89 ((g1 s).1.1≠[65,73,77,49]) (fun hb44 hc44=>?_) (fun hb44 hc44=>?_)))))
 ·
  refine wN hb44<|wN hb44<|wo (aQ O hb44 O<|wm O<|wN O<|wN O<|wN O<|wo (aQ O O O<|wn<|bX O O<|ws<|wo (bP (cs:=[_,_,_,_,_,_]) Fa.I43 Fa.kA O O<|wo (bw (i:=0) H41 O O O O O Fa.I43 (fun w45 H45=>(wa O<|wn<|aC<|aq<|aD (.cell O (bM (vs:=[_,_,_,_,_,_]) (H45.cells (i:=0) O O) A43 O Fa.I43 O) (.tmp O .nil)) ?_))))))
  have hb:eX s=true:=by (rw [eX,hb42,hb44])<;>rfl
  rw [(dR hb).1,(dR hb).2]
  exact ⟨.slice none 0 0,.slice none 0 0,.slice none 0 0,rfl,(((H45.sel [] O O).nilRow 207 2).nilRow 203 1).nilRow 116 3⟩
 refine wY hb44 (au O<|wY hb44 (cI (b:=1) O O<|wo (aN O hb44 O<|wm O (wF 93 ((g7 s).1.1>(1:UInt32)) (fun hb46 hc46=>?_) (fun hb46 hc46=>?_)))))
 ·
  refine wN hb46<|wN hb46<|wN hb46<|wo (aQ O hb46 O<|wn<|bX O O<|ws<|wo (bP (cs:=[_,_,_,_,_,_]) Fa.I43 Fa.kA O O<|wo (bw (i:=0) H41 O O O O O Fa.I43 (fun w47 H47=>(wa O<|wn<|aC<|aq<|aD (.cell O (bM (vs:=[_,_,_,_,_,_]) (H47.cells (i:=0) O O) A43 O Fa.I43 O) (.tmp O .nil)) ?_)))))
  have hb:eX s=true:=by (rw [eX,hb42,hb44,hb46])<;>rfl
  rw [(dR hb).1,(dR hb).2]
  exact ⟨.slice none 0 0,.slice none 0 0,.slice none 0 0,rfl,(((H47.sel [] O O).nilRow 207 2).nilRow 203 1).nilRow 116 3⟩
 refine wY hb46 (aM (vs:=[_,_,_,_,_,_]) O (H41.cells (i:=3) O O) A43 O Fa.I43 O<|wY hb46 (cq H41 (Kd 41) O (kr ((g2 s).1.1) _ _ _ (gX s) (gP s) (decide ((g7 s).1.1=(1:UInt32))) ((g8 s).1.1) (gS s) _ (Arr.lenF ((H41.arrR (i:=4) O)) (fun _=>rfl) (by decide)) (Arr.lenM (H41.arrR (i:=5) O)) (Arr.lenF ((H41.arrR (i:=6) O)) (fun _=>rfl) (by decide)) (by have:=mW (g3 s).2 (g3 s).1.1.toNat; have:=(g3 s).1.1.toNat_lt; rw [gX]; omega) (by have:=nx (g5 s).2 (g5 s).1.1.toNat; have:=(g5 s).1.1.toNat_lt; rw [gP]; omega) (by have:=kW (g9 s).2 (g9 s).1.1.toNat; have:=(g9 s).1.1.toNat_lt; rw [gS]; omega)) fun w48 H48=>?_))
 refine wY hb46 (bI (b:=0) O O<|wo (aN O hb46 O<|wn (wE ((imE ((g2 s).1.1) (gX s) (gP s) ((g8 s).1.1) (gS s))≠0) (fun hb49 hc49=>?_) (fun hb49 hc49=>?_))))
 ·
  refine ws<|wo (bP (cs:=[_,_,_,_,_,_]) Fa.I43 Fa.kA O O<|wo (bw (i:=0) H48 O O O O O Fa.I43 (fun w50 H50=>(wa O<|wn<|aC<|aq<|aD (.cell O (bM (vs:=[_,_,_,_,_,_]) (H50.cells (i:=0) O O) A43 O Fa.I43 O) (.tmp O .nil)) ?_))))
  have hb:eX s=true:=by (rw [eX,hb42,hb44,hb46,hb49])<;>rfl
  rw [(dR hb).1,(dR hb).2]
  exact ⟨.slice none 0 0,.slice none 0 0,.slice none 0 0,rfl,(((H50.sel [] O O).nilRow 207 2).nilRow 203 1).nilRow 116 3⟩
 refine aA<|ao<|ws<|wo (aM (vs:=[_,_,_,_,_,_]) O (H48.cells (i:=3) O O) A43 O Fa.I43 O<|wo (bw (i:=0) H48 O O O O (bk O (bk (bS (H48.arrR (i:=4) O)) (bk (bS (H48.arrR (i:=5) O)) (bk O (bk O (bk (bS (H48.arrR (i:=6) O)) er)))))) Fa.I43 (fun w51 H51=>(wa O<|wn<|aC<|aD (.cell O (bM (vs:=[_,_,_,_,_,_]) (H51.cells (i:=0) O O) A43 O Fa.I43 O) (.tmp O .nil)) ?_))))
 have hb:eX s=false:=by (rw [eX,hb42,hb44,hb46,hb49])<;>rfl
 exact tw (x:=x) (y:=y) (z:=z) hb O (H51.sel [4,5,6] O O)
theorem CY (key:List UInt8) (lv:Value) (ls:List (List UInt8)) (w:World) (hA:Arr w lv 1 ls.length (Kg str ls)) (hk:key.length<2^40) (ht:ls.length+(List.flatten ls).length<2^39) :
  Calls Kf 114 #[(str key),lv] w (fun e w'=>e=.returned (str (mac key (List.flatten ls)))∧Fr [] w w'):=by
 refine enter Tryz.func114 O O ?_
 have H0:=aL w []
 refine ws<|wa O<|wn<|ws<|wm O<|wo (az (Kd 153) O ((rr key _ hk).mono (fun e w1 hq=>?_)))
 obtain ⟨m1,q1,v1,rfl,hq1⟩:=hq
 refine ⟨_,rfl,?_⟩
 have H1:=H0.splice [] [] [.blk m1 [(ptr q1 0),(str (bB key))] 293,.blk q1 [(aa (hst (ce (bB key) 54)).a),(aa (hst (ce (bB key) 54)).b),(aa (hst (ce (bB key) 54)).c),(aa (hst (ce (bB key) 54)).d),(aa (hst (ce (bB key) 54)).e),(aa (hst (ce (bB key) 54)).f),(aa (hst (ce (bB key) 54)).g),(aa (hst (ce (bB key) 54)).h),v1,(vN (ce (bB key) 54).length)] 325,.row v1 5 1 (hrest (ce (bB key) 54)).length (Kg vU8 (hrest (ce (bB key) 54)))] O O hq1 (am ae (am ae (am ae aI)))
 refine wa O<|wn<|ws<|wm O<|wm O<|wo (az (Kd 154) O ((vo m1 q1 v1 lv (bB key) (ce (bB key) 54) ls _ _ (H1.part [0,1,2] O O) (fun w1 hf=>(fun w1 hf=>hA.fr hf (by simp)) w1 (H1.frPart (I:=[0,1,2]) O hf)) (by first | (rw [Kj,cz,cj]; omega) | (rw [cz,cj]; omega)) (by omega)).mono (fun e w2 hq=>?_)))
 obtain ⟨v2,rfl,hq2⟩:=hq
 refine ⟨_,rfl,?_⟩
 have H2:=H1.splice [0,1,2] [.blk m1 [(ptr q1 0),(str (bB key))] 293,.blk q1 [(aa (hst ((ce (bB key) 54)++ls.flatten)).a),(aa (hst ((ce (bB key) 54)++ls.flatten)).b),(aa (hst ((ce (bB key) 54)++ls.flatten)).c),(aa (hst ((ce (bB key) 54)++ls.flatten)).d),(aa (hst ((ce (bB key) 54)++ls.flatten)).e),(aa (hst ((ce (bB key) 54)++ls.flatten)).f),(aa (hst ((ce (bB key) 54)++ls.flatten)).g),(aa (hst ((ce (bB key) 54)++ls.flatten)).h),v2,(vN ((ce (bB key) 54)++ls.flatten).length)] 325,.row v2 5 1 (hrest ((ce (bB key) 54)++ls.flatten)).length (Kg vU8 (hrest ((ce (bB key) 54)++ls.flatten)))] [] O O hq2 (am ae (am ae (am ae aI)))
 refine wn<|ws<|wm O<|wo (cq H2 (Kd 155) O (vp m1 q1 v2 (bB key) ((ce (bB key) 54)++ls.flatten) _ (H2.cellsAt (i:=0) O) (H2.cellsAt (i:=1) O) (H2.arrR (i:=2) O) (by first | (rw [Kj,cz,cj]; omega) | (rw [cz,cj]; omega)) (by rw [cj]; decide)) fun w3 H3=>?_)
 exact wa O<|wn<|aC<|aD (.tmp O .nil) (⟨by simp [tup,mac],H3.fr⟩)
theorem AI (key:List UInt8) (pg:UInt32) (ev pv sv:Value) (xs:List Xt) (ps:List UInt16) (con:Bool) (en:UInt32) (sg:List Sg) (w:World) (hE:Arr w ev 2 xs.length (Kh xtc xs)) (hP:Arr w pv 1 ps.length (Kg bA ps)) (hS:Arr w sv 3 sg.length (Kh sgc sg)) (hk:key.length<2^40) (bx:xs.length≤2^20) (bp:ps.length≤2^20) (bs:sg.length≤2^10) (bb: ∀x∈sg,x.b.length≤2^30) (hL:(imB pg xs ps con en sg).length<2^38) :
  Calls Kf 55 #[(.agg #[(aa pg),ev,pv,(.bool con),(aa en),sv,(str key)])] w (fun e w'=>e=.returned (.tuple #[str (slS key pg xs ps con en sg),vN (imE pg xs ps en sg)])∧Fr [] w w'):=by
 refine enter Tryz.func55 O O ?_
 have H0:=aL w []
 refine ws<|wo (bK H0 O O (fun b1 w1 H1=>(wa O<|wa O<|wn<|ws<|wo (ab O Fa.yH<|wo (aM (vs:=[_,_,_,_,_,_]) O (H1.cells (i:=0) O O) A43 O Fa.I43 O<|wo (cq H1 (Kd 113) O (En pg _ _ _ xs ps con en sg _ (H1.arr hE) (H1.arr hP) (H1.arr hS) bx bp bs bb) fun w2 H2=>(wm O<|we O O<|we O O<|wa O<|wa O<|wn<|ap<|ws<|wo (ab O Fa.yH<|wo (ab O Fa.eA<|wo (aj O (H2.cell (i:=0) O O) A41 O<|wo (bu A41 O (H2.arr hS)<|wo (dk (b:=0) O O<|wm O (wF 17 (sg.length=0) (fun hb3 hc3=>?_) (fun hb3 hc3=>?_))))))))))))))
 ·
  refine wN hb3<|wN hb3<|wo (aQ O hb3 O<|wn<|bX O O<|ws<|wa O<|wa O<|wn<|aC<|aq<|aD (.tmp O (.tmp O .nil)) ?_)
  have h2:=Es (pg:=pg) (xs:=xs) (ps:=ps) (en:=en) hc3
  rw [slS,h2,if_neg (by decide)]
  exact ⟨rfl,H2.fr⟩
 refine wY hb3 (au O<|wY hb3 (bI (b:=0) O O<|wo (aN O hb3 O<|wn (wE ((imE pg xs ps en sg)≠0) (fun hb4 hc4=>?_) (fun hb4 hc4=>?_)))))
 ·
  refine ws<|wa O<|wa O<|wn<|aC<|aq<|aD (.tmp O (.tmp O .nil)) ?_
  rw [slS,if_neg hc4,Hp hc4]
  exact ⟨rfl,H2.fr⟩
 refine aA<|ao<|ws<|wm O<|wo (ab O Fa.GB<|wo (aj O (H2.cell (i:=0) O O) A9 O<|wm O<|wo (aW (cs:=[_]) H2 A59 Fa.I9 O O O O (by decide) (by decide) (fun b5 w5 H5=>(wo (cq H5 (Kd 114) O (CY key _ ([(imB pg xs ps con en sg)]) _ (H5.arrR (i:=1) O) hk (by simp only [List.flatten_cons,List.flatten_nil,List.append_nil,List.length_cons,List.length_nil]; omega)) fun w6 H6=>(wo (fK O O (by rw [lI]; omega)<|wa O<|wa O<|wn<|aC<|aD (.tmp O (.tmp O .nil)) ?_))))))))
 have h0:=Decidable.not_not.mp hc4
 rw [slS,if_pos h0,h0]
 exact ⟨by simp [tup],H6.fr⟩
theorem Dn (key:List UInt8) (pg:UInt32) (ev pv sv:Value) (xs:List Xt) (ps:List UInt16) (con:Bool) (en:UInt32) (sg:List Sg) (w:World) (hE:Arr w ev 2 xs.length (Kh xtc xs)) (hP:Arr w pv 1 ps.length (Kg bA ps)) (hS:Arr w sv 3 sg.length (Kh sgc sg)) (hk:key.length<2^40) (bx:xs.length≤2^20) (bp:ps.length≤2^20) (bs:sg.length≤2^10) (bb: ∀x∈sg,x.b.length≤2^30) (hL:(imB pg xs ps con en sg).length<2^38) :
  Calls Kf 18 #[(str key),(.agg #[(aa pg),ev,pv,(.bool con),(aa en),sv])] w (fun e w'=>e=.returned (.tuple #[str (slS key pg xs ps con en sg),vN (imE pg xs ps en sg)])∧Fr [] w w'):=by
 refine enter Tryz.func18 O O ?_
 have H0:=aL w []
 exact ws<|wo (bK H0 O O (fun b1 w1 H1=>(wa O<|wa O<|wn<|ws<|wo (aM (vs:=[_,_,_,_,_,_]) O (H1.cells (i:=0) O O) A43 O Fa.I43 O<|wm O<|wo (bP (cs:=[_,_,_,_,_,_,_]) Fa.Iw Fa.HL O O<|wo (cq H1 (Kd 55) O (AI key pg _ _ _ xs ps con en sg _ (H1.arr hE) (H1.arr hP) (H1.arr hS) hk bx bp bs bb hL) fun w2 H2=>(we O O<|we O O<|wa O<|wa O<|wn<|aC<|aD (.tmp O (.tmp O .nil)) (⟨rfl,H2.fr⟩))))))))
theorem ll (key s:List UInt8) (w:World) (hk:key.length<2^40) (hs:s.length<2^38) :
  Calls Kf 57 #[(str key),(str s)] w (fun e w'=> ∃v u q,e=.returned (.tuple #[.agg #[aa (opI key s).pg,v,u,.bool (opI key s).c,aa (opI key s).en,q],vN (opC key s)])∧Ke [] w w' [.row v 207 2 (opI key s).xs.length (Kh xtc (opI key s).xs),.row u 203 1 (opI key s).ps.length (Kg bA (opI key s).ps),.row q 116 3 (opI key s).sg.length (Kh sgc (opI key s).sg)]):=by
 refine enter Tryz.func57 O O ?_
 have H0:=aL w []
 refine ws<|wo (bt H0 Fa.I43 (fun b1 w1 H1=>(wa O<|wn<|ws<|wm O<|wo (bH A9 O<|wo (eq (a:=((s.length:Nat):Int)) (b:=((32:Nat):Int)) O O (by omega)<|wa O<|wn<|ap<|ws<|wm O<|wo (eR (b:=(0:Int)) O O<|wn (wE ((((s.length:Nat):Int)-((32:Nat):Int))<(0:Int)) (fun hb2 hc2=>?_) (fun hb2 hc2=>?_))))))))
 ·
  refine ws<|wo (bP (cs:=[_,_,_,_,_,_]) Fa.I43 Fa.kA O O<|wo (bw (i:=0) H1 O O O O O Fa.I43 (fun w3 H3=>(wa O<|wn<|aC<|aq<|aD (.cell O (bM (vs:=[_,_,_,_,_,_]) (H3.cells (i:=0) O O) A43 O Fa.I43 O) (.tmp O .nil)) ?_))))
  have hb:=lC (key:=key) (s:=s) (by omega)
  rw [hb.1,hb.2]
  exact ⟨.slice none 0 0,.slice none 0 0,.slice none 0 0,rfl,(((H3.sel [] O O).nilRow 207 2).nilRow 203 1).nilRow 116 3⟩
 have hln:¬s.length<32:=by omega
 rw [show ((s.length:Nat):Int)-((32:Nat):Int)=((s.length-32:Nat):Int) by omega]
 refine aA<|ao<|ap<|ap<|bn 9 Fa.M H1 (mh O<|mh O<|mh O<|oh (fun w1 H1=>cT A9 O O (by omega) zr)<|mh O<|mh O<|oh (fun w1 H1=>jj A9 O O (by omega) zr)<|oh (fun w1 H1=>az (Kd 115) O ((zK key (s.take (s.length-32)) (s.drop (s.length-32)) _ hk (by rw [List.length_take]; omega)).mono (fun e w2 hq=>⟨_,hq.1,rfl,hq.2⟩)))<|oh (fun w1 H1=>cQ O zr)  bD) (by kernel_rfl) ?_
 intro β5 w5 H5
 refine wn (wC (!(decide ((s.drop (s.length-32))=mac key (s.take (s.length-32))))) (fun hb6=>?_) (fun hb6=>?_))
 ·
  have hn6:=(Bool.not_eq_true' _).mp hb6
  refine ws<|wo (bP (cs:=[_,_,_,_,_,_]) Fa.I43 Fa.kA O O<|wo (bw (i:=0) H5 O O O O O Fa.I43 (fun w7 H7=>(wa O<|wn<|aC<|aq<|aD (.cell O (bM (vs:=[_,_,_,_,_,_]) (H7.cells (i:=0) O O) A43 O Fa.I43 O) (.tmp O .nil)) ?_))))
  have hb:=pH (key:=key) hln (dF (by simpa using hn6))
  rw [hb.1,hb.2]
  exact ⟨.slice none 0 0,.slice none 0 0,.slice none 0 0,rfl,(((H7.sel [] O O).nilRow 207 2).nilRow 203 1).nilRow 116 3⟩
 have hn6:=(Bool.not_eq_false' _).mp hb6
 refine aA<|ao<|ws<|wm O<|wm O<|wo (cT A9 O O (by omega)<|wo (az (Kd 116) O ((Et (s.take (s.length-32)) _ (by rw [List.length_take]; omega)).mono (fun e w8 hq=>?_))))
 obtain ⟨v8,u8,q8,rfl,hq8⟩:=hq
 refine ⟨_,rfl,?_⟩
 have H8:=H5.splice [] [] [.row v8 207 2 (imG (s.take (s.length-32))).xs.length (Kh xtc (imG (s.take (s.length-32))).xs),.row u8 203 1 (imG (s.take (s.length-32))).ps.length (Kg bA (imG (s.take (s.length-32))).ps),.row q8 116 3 (imG (s.take (s.length-32))).sg.length (Kh sgc (imG (s.take (s.length-32))).sg)] O O hq8 (am ae (am ae (am ae aI)))
 refine we O O<|we O O<|wo (bw (i:=0) H8 O O O O (bk O (bk (bS (H8.arrR (i:=1) O)) (bk (bS (H8.arrR (i:=2) O)) (bk O (bk O (bk (bS (H8.arrR (i:=3) O)) er)))))) Fa.I43 (fun w9 H9=>(wa O<|wn<|aC<|aD (.cell O (bM (vs:=[_,_,_,_,_,_]) (H9.cells (i:=0) O O) A43 O Fa.I43 O) (.tmp O .nil)) ?_)))
 have hb:=nB (key:=key) hln (dT (by simpa using hn6))
 rw [hb.1,hb.2]
 exact ⟨v8,u8,q8,rfl,H9.sel [1,2,3] O O⟩
theorem dC (q:Nat) (r:Rd) (n:Int) (T:List Nat) (w:World) (H:Ke T w w [.blk q [str r.rest,vN r.f] 283]) (hr:r.rest.length<2^47) :
  Calls Kf 184 #[ptr q 0,vI n] w (fun e w'=>e=.returned (aa (aK r n).1.1)∧Ke T w w' [.blk q [str (aK r n).2.rest,vN (aK r n).2.f] 283]):=by
 have h:=Bn q r.rest r.f n T w H hr
 have hl:=(Like.re r).num n
 rw [hl.1,hl.2.1,hl.2.2] at h
 exact h
theorem pz (q:Nat) (r:Rd) (n:Int) (T:List Nat) (w:World) (H:Ke T w w [.blk q [str r.rest,vN r.f] 283]) (hr:r.rest.length<2^47) :
  Calls Kf 183 #[ptr q 0,vI n] w (fun e w'=>e=.returned (.tuple #[str (bU r n).1.1,vN (bU r n).1.2])∧Ke T w w' [.blk q [str (bU r n).2.rest,vN (bU r n).2.f] 283]):=by
 have h:=oT q r.rest r.f n T w H hr
 have hl:=(Like.re r).take n
 rw [hl.1,hl.2.1,hl.2.2] at h
 exact h
theorem Ad (q:Nat) (r:Rd) (T:List Nat) (w:World) (H:Ke T w w [.blk q [str r.rest,vN r.f] 283]) (hr:r.rest.length<2^47) :
  Calls Kf 185 #[ptr q 0] w (fun e w'=>e=.returned (vN (fc r).1)∧Ke T w w' [.blk q [str (fc r).2.rest,vN (fc r).2.f] 283]):=by
 have h:=EE q r.rest r.f T w H hr
 have hl:=(Like.re r).end_
 rw [hl.1,hl.2.1,hl.2.2] at h
 exact h
theorem Dt (s:List UInt8) (w:World) (hs:s.length<2^47) :
  Calls Kf 146 #[(str s)] w (fun e w'=> ∃v u q,e=.returned (.tuple #[.agg #[aa (imG s).pg,v,u,.bool (imG s).c,aa (imG s).en,q],vN (jS s)])∧Ke [] w w' [.row v 207 2 (imG s).xs.length (Kh xtc (imG s).xs),.row u 203 1 (imG s).ps.length (Kg bA (imG s).ps),.row q 116 3 (imG s).sg.length (Kh sgc (imG s).sg)]):=by
 refine enter Tryz.func146 O O ?_
 have H0:=aL w []
 refine ws<|wo (bt H0 Fa.I43 (fun b1 w1 H1=>(wa O<|wn<|ws<|wm O<|wo (bP (cs:=[_,_]) Fa.Ig Fa.Hy O O<|wo (bK H1 O O (fun b2 w2 H2=>(wa O<|wn<|ws ?_)))))))
 have H3:Ke [] w w2 [.blk b1 [(aa 0),(.slice none 0 0),(.slice none 0 0),(.bool false),(aa 0),(.slice none 0 0)] 43,.blk b2 [(str (Rd.mk s 0 0 (Kk _)).rest),(vN (Rd.mk s 0 0 (Kk _)).f)] 283]:=by have h:=H2; rw [←wv s 0 (Kk _)] at h; exact h
 refine wm O<|wo (az (Kd 183) O ((pz b2 (Rd.mk s 0 0 (Kk _)) (4) _ _ (H3.part [1] O O) (by refine eh ?_; first | (rw [ec]; exact hs) | (rw [ea]; exact hs) | (rw [dZ]; exact hs) | (rw [dX]; exact hs) | (rw [dW]; exact hs) | (rw [dV]; exact hs) | (rw [cS]; exact hs) | (rw [bV,ct]; exact hs) | (rw [ba,bV,ct]; exact hs) | (rw [cN,dY]; exact hs) | (rw [bQ,ci]; exact hs) | (rw [ba,bQ,ci]; exact hs) | (rw [ba,ba,bQ,ci]; exact hs) | (rw [ba,ba,ba,bQ,ci]; exact hs) | exact hs)).mono (fun e w4 hq=>?_)))
 obtain ⟨rfl,hq4⟩:=hq
 refine ⟨_,rfl,?_⟩
 have H4:=H3.splice [1] [.blk b2 [(str ((bU (Rd.mk s 0 0 (Kk _)) 4).2).rest),(vN ((bU (Rd.mk s 0 0 (Kk _)) 4).2).f)] 283] [] O O hq4 (am ae aI)
 refine wm O<|we O O<|we O O<|wa O<|wa O<|wn<|ws ?_
 have H5:Ke [] w w4 [.blk b1 [(aa 0),(.slice none 0 0),(.slice none 0 0),(.bool false),(aa 0),(.slice none 0 0)] 43,.blk b2 [(str ((g1 s).2).rest),(vN ((g1 s).2).f)] 283]:=by have h:=H4; rw [vD] at h; exact h
 rw [vD]
 refine wo (bt H5 Fa.I43 (fun b6 w6 H6=>(wn<|ws<|wm O<|wo (az (Kd 184) O ((dC b2 ((g1 s).2) (4) _ _ (H6.part [1] O O) (by refine eh ?_; first | (rw [ec]; exact hs) | (rw [ea]; exact hs) | (rw [dZ]; exact hs) | (rw [dX]; exact hs) | (rw [dW]; exact hs) | (rw [dV]; exact hs) | (rw [cS]; exact hs) | (rw [bV,ct]; exact hs) | (rw [ba,bV,ct]; exact hs) | (rw [cN,dY]; exact hs) | (rw [bQ,ci]; exact hs) | (rw [ba,bQ,ci]; exact hs) | (rw [ba,ba,bQ,ci]; exact hs) | (rw [ba,ba,ba,bQ,ci]; exact hs) | exact hs)).mono (fun e w7 hq=>?_))))))
 obtain ⟨rfl,hq7⟩:=hq
 refine ⟨_,rfl,?_⟩
 have H7:=H6.splice [1] [.blk b2 [(str ((aK ((g1 s).2) 4).2).rest),(vN ((aK ((g1 s).2) 4).2).f)] 283] [] O O hq7 (am ae aI)
 refine wo (ab O Fa.cZ<|wo (ab O Fa.im<|wo (bC (i:=2) H7 O O O O O Fa.I22 (fun w8 H8=>(wn<|ws ?_)))))
 have H9:Ke [] w w8 [.blk b1 [(aa 0),(.slice none 0 0),(.slice none 0 0),(.bool false),(aa 0),(.slice none 0 0)] 43,.blk b2 [(str ((g2 s).2).rest),(vN ((g2 s).2).f)] 283,.blk b6 [(aa (g2 s).1.1),(.slice none 0 0),(.slice none 0 0),(.bool false),(aa 0),(.slice none 0 0)] 43]:=by have h:=H8; rw [yn] at h; exact h
 have H10:=H9.nilRow 207 2
 have H11:=H10.nilRow 203 1
 have H12:=H11.nilRow 116 3
 refine wm O<|wo (az (Kd 184) O ((dC b2 ((g2 s).2) (1) _ _ (H12.part [1] O O) (by refine eh ?_; first | (rw [ec]; exact hs) | (rw [ea]; exact hs) | (rw [dZ]; exact hs) | (rw [dX]; exact hs) | (rw [dW]; exact hs) | (rw [dV]; exact hs) | (rw [cS]; exact hs) | (rw [bV,ct]; exact hs) | (rw [ba,bV,ct]; exact hs) | (rw [cN,dY]; exact hs) | (rw [bQ,ci]; exact hs) | (rw [ba,bQ,ci]; exact hs) | (rw [ba,ba,bQ,ci]; exact hs) | (rw [ba,ba,ba,bQ,ci]; exact hs) | exact hs)).mono (fun e w13 hq=>?_)))
 obtain ⟨rfl,hq13⟩:=hq
 refine ⟨_,rfl,?_⟩
 have H13:=H12.splice [1] [.blk b2 [(str ((aK ((g2 s).2) 1).2).rest),(vN ((aK ((g2 s).2) 1).2).f)] 283] [] O O hq13 (am ae aI)
 have H14:Ke [] w w13 [.blk b1 [(aa 0),(.slice none 0 0),(.slice none 0 0),(.bool false),(aa 0),(.slice none 0 0)] 43,.blk b2 [(str ((g3 s).2).rest),(vN ((g3 s).2).f)] 283,.blk b6 [(aa (g2 s).1.1),(.slice none 0 0),(.slice none 0 0),(.bool false),(aa 0),(.slice none 0 0)] 43,.row (.slice none 0 0) 207 2 0 (Kh xtc []),.row (.slice none 0 0) 203 1 0 (Kg bA []),.row (.slice none 0 0) 116 3 0 (Kh sgc [])]:=by have h:=H13; rw [vC] at h; exact h
 rw [vC]
 refine wa O<|wn<|ap<|ws<|wa O<|wn<|aB<|bi (α:=Nat × Value) (fun (k,x)=>[(2,(ptr b1 0)),(4,(ptr b2 0)),(5,(str (g1 s).1.1)),(7,(ptr b6 0)),(8,(aa (g3 s).1.1)),(9,(aa (Kl k)))]) (fun (k,x) w'=>(k≤(g3 s).1.1.toNat)∧Ke [] w w' [.blk b1 [(aa 0),(.slice none 0 0),(.slice none 0 0),(.bool false),(aa 0),(.slice none 0 0)] 43,.blk b2 [(str (xsD (g3 s).2 k).rest),(vN (xsD (g3 s).2 k).f)] 283,.blk b6 [(aa (g2 s).1.1),x,(.slice none 0 0),(.bool false),(aa 0),(.slice none 0 0)] 43,.row x 207 2 k (Kh xtc (xsL (g3 s).2 k)),.row (.slice none 0 0) 203 1 0 (Kg bA []),.row (.slice none 0 0) 116 3 0 (Kh sgc [])]) (fun (k,x)=>(g3 s).1.1.toNat-k) (0,(.slice none 0 0)) ⟨(Kk _),(by rw [Aq]; exact H14)⟩ ⟨rfl,rfl,rfl,rfl,rfl,rfl,trivial⟩ ?_
 rintro ⟨k,x⟩ w15 ⟨hk1,H15⟩
 show WC _ _ _ _ _ [(2,(ptr b1 0)),(4,(ptr b2 0)),(5,(str (g1 s).1.1)),(7,(ptr b6 0)),(8,(aa (g3 s).1.1)),(9,(aa (Kl k)))] _
 have hnl:=(g3 s).1.1.toNat_lt
 have hct:=rW (k:=k) (n:=(g3 s).1.1) (by omega)
 refine ap<|ws<|wm O<|wm O<|wo (ed O O<|wn (wE ((Kl k)<(g3 s).1.1) (fun hb16 hc16=>?_) (fun hb16 hc16=>?_)))
 ·
  have hkn:=hct.1 hc16
  refine aA<|ao<|ap<|aB<|ws<|wm O<|wo (az (Kd 184) O ((dC b2 (xsD (g3 s).2 k) (1) _ _ (H15.part [1] O O) (by refine eh ?_; first | (rw [ec]; exact hs) | (rw [ea]; exact hs) | (rw [dZ]; exact hs) | (rw [dX]; exact hs) | (rw [dW]; exact hs) | (rw [dV]; exact hs) | (rw [cS]; exact hs) | (rw [bV,ct]; exact hs) | (rw [ba,bV,ct]; exact hs) | (rw [cN,dY]; exact hs) | (rw [bQ,ci]; exact hs) | (rw [ba,bQ,ci]; exact hs) | (rw [ba,ba,bQ,ci]; exact hs) | (rw [ba,ba,ba,bQ,ci]; exact hs) | exact hs)).mono (fun e w17 hq=>?_)))
  obtain ⟨rfl,hq17⟩:=hq
  refine ⟨_,rfl,?_⟩
  have H17:=H15.splice [1] [.blk b2 [(str ((aK (xsD (g3 s).2 k) 1).2).rest),(vN ((aK (xsD (g3 s).2 k) 1).2).f)] 283] [] O O hq17 (am ae aI)
  refine wo (bP (cs:=[_,_]) Fa.cR Fa.ph O O<|wo (bt H17 Fa.cR (fun b18 w18 H18=>(wo (bw (i:=6) H18 O O O O O Fa.cR (fun w19 H19=>(wn<|ws<|wm O<|wo (az (Kd 184) O ((dC b2 ((aK (xsD (g3 s).2 k) 1).2) (2) _ _ (H19.part [1] O O) (by refine eh ?_; first | (rw [ec]; exact hs) | (rw [ea]; exact hs) | (rw [dZ]; exact hs) | (rw [dX]; exact hs) | (rw [dW]; exact hs) | (rw [dV]; exact hs) | (rw [cS]; exact hs) | (rw [bV,ct]; exact hs) | (rw [ba,bV,ct]; exact hs) | (rw [cN,dY]; exact hs) | (rw [bQ,ci]; exact hs) | (rw [ba,bQ,ci]; exact hs) | (rw [ba,ba,bQ,ci]; exact hs) | (rw [ba,ba,ba,bQ,ci]; exact hs) | exact hs)).mono (fun e w20 hq=>?_))))))))))
  obtain ⟨rfl,hq20⟩:=hq
  refine ⟨_,rfl,?_⟩
  have H20:=H19.splice [1] [.blk b2 [(str ((aK ((aK (xsD (g3 s).2 k) 1).2) 2).2).rest),(vN ((aK ((aK (xsD (g3 s).2 k) 1).2) 2).2).f)] 283] [] O O hq20 (am ae aI)
  exact wo (ab O Fa.fW<|wo (bC (i:=6) H20 O O O O O Fa.I22 (fun w21 H21=>(wn<|aG<|wo (ab O Fa.cZ<|wo (ab O Fa.da<|wo (aj O (H21.cell (i:=2) O O) A37 O<|wo (aM (vs:=[_,_]) O (H21.cells (i:=6) O O) A207 O Fa.cR O<|wo (aW (cs:=[_,_]) H21 A37 Fa.cR O O O O (by decide) (by decide) (fun b22 w22 H22=>(wo (fJ (f:=xtc) (l:=(xsL (g3 s).2 k)) (l':=[(Xt.mk ((aK (xsD (g3 s).2 k) 1).1.1) ((aK ((aK (xsD (g3 s).2 k) 1).2) 2).1.1))]) (i:=3) H22 A37 Fa.cR O O O O (ck A37 (H22.arrR (i:=7) O)) (iL (fun _=>by simp [xtc,Value.oneCell'])) (by omega) (by omega) (fun v23 w23 H23=>(wo (ab O Fa.cZ<|wo (ab O Fa.da<|wo (bC (i:=2) H23 O O O O (bS (H23.arrR (i:=3) O)) Fa.I37 (fun w24 H24=>(aY<|aE<|ao<|aG<|wm O<|wo (bW (b:=1) O O<|wa O<|aY<|aX (k+1,v23) ⟨(by omega),(by rw [rP,nX]; exact (H24.take 6))⟩ ⟨rfl,rfl,rfl,rfl,rfl,(congrArg (fun n=>some (aa n)) (ob _)),trivial⟩ (by show (g3 s).1.1.toNat-(k+1)<(g3 s).1.1.toNat-k; omega)))))))))))))))))))))
 refine bc<|an<|an<|aS<|ao<|ws ?_
 have hkx:¬k<(g3 s).1.1.toNat:=fun h=>hc16 (hct.2 h)
 obtain rfl:k=(g3 s).1.1.toNat:=by omega
 have H25:Ke [] w w15 [.blk b1 [(aa 0),(.slice none 0 0),(.slice none 0 0),(.bool false),(aa 0),(.slice none 0 0)] 43,.blk b2 [(str (g4 s).rest),(vN (g4 s).f)] 283,.blk b6 [(aa (g2 s).1.1),x,(.slice none 0 0),(.bool false),(aa 0),(.slice none 0 0)] 43,.row x 207 2 (g3 s).1.1.toNat (Kh xtc (gX s)),.row (.slice none 0 0) 203 1 0 (Kg bA []),.row (.slice none 0 0) 116 3 0 (Kh sgc [])]:=by have h:=H15; rw [BU] at h; rw [BP] at h; exact h
 refine wm O<|wo (az (Kd 184) O ((dC b2 (g4 s) (1) _ _ (H25.part [1] O O) (by refine eh ?_; first | (rw [ec]; exact hs) | (rw [ea]; exact hs) | (rw [dZ]; exact hs) | (rw [dX]; exact hs) | (rw [dW]; exact hs) | (rw [dV]; exact hs) | (rw [cS]; exact hs) | (rw [bV,ct]; exact hs) | (rw [ba,bV,ct]; exact hs) | (rw [cN,dY]; exact hs) | (rw [bQ,ci]; exact hs) | (rw [ba,bQ,ci]; exact hs) | (rw [ba,ba,bQ,ci]; exact hs) | (rw [ba,ba,ba,bQ,ci]; exact hs) | exact hs)).mono (fun e w26 hq=>?_)))
 obtain ⟨rfl,hq26⟩:=hq
 refine ⟨_,rfl,?_⟩
 have H26:=H25.splice [1] [.blk b2 [(str ((aK (g4 s) 1).2).rest),(vN ((aK (g4 s) 1).2).f)] 283] [] O O hq26 (am ae aI)
 have H27:Ke [] w w26 [.blk b1 [(aa 0),(.slice none 0 0),(.slice none 0 0),(.bool false),(aa 0),(.slice none 0 0)] 43,.blk b2 [(str ((g5 s).2).rest),(vN ((g5 s).2).f)] 283,.blk b6 [(aa (g2 s).1.1),x,(.slice none 0 0),(.bool false),(aa 0),(.slice none 0 0)] 43,.row x 207 2 (g3 s).1.1.toNat (Kh xtc (gX s)),.row (.slice none 0 0) 203 1 0 (Kg bA []),.row (.slice none 0 0) 116 3 0 (Kh sgc [])]:=by have h:=H26; rw [vB] at h; exact h
 rw [vB]
 refine wa O<|wn<|ap<|ws<|wa O<|wn<|aB<|bi (α:=Nat × Value) (fun (j,y)=>[(2,(ptr b1 0)),(4,(ptr b2 0)),(5,(str (g1 s).1.1)),(7,(ptr b6 0)),(8,(aa (g5 s).1.1)),(11,(aa (Kl j)))]) (fun (j,y) w'=>(j≤(g5 s).1.1.toNat)∧Ke [] w w' [.blk b1 [(aa 0),(.slice none 0 0),(.slice none 0 0),(.bool false),(aa 0),(.slice none 0 0)] 43,.blk b2 [(str (psD (g5 s).2 j).rest),(vN (psD (g5 s).2 j).f)] 283,.blk b6 [(aa (g2 s).1.1),x,y,(.bool false),(aa 0),(.slice none 0 0)] 43,.row x 207 2 (g3 s).1.1.toNat (Kh xtc (gX s)),.row y 203 1 j (Kg bA (psL (g5 s).2 j)),.row (.slice none 0 0) 116 3 0 (Kh sgc [])]) (fun (j,y)=>(g5 s).1.1.toNat-j) (0,(.slice none 0 0)) ⟨(Kk _),(by rw [Bd]; exact H27)⟩ ⟨rfl,rfl,rfl,rfl,rfl,rfl,trivial⟩ ?_
 rintro ⟨j,y⟩ w28 ⟨hj1,H28⟩
 show WC _ _ _ _ _ [(2,(ptr b1 0)),(4,(ptr b2 0)),(5,(str (g1 s).1.1)),(7,(ptr b6 0)),(8,(aa (g5 s).1.1)),(11,(aa (Kl j)))] _
 have hnl:=(g5 s).1.1.toNat_lt
 have hct:=rW (k:=j) (n:=(g5 s).1.1) (by omega)
 refine ap<|ws<|wm O<|wm O<|wo (ed O O<|wn (wE ((Kl j)<(g5 s).1.1) (fun hb29 hc29=>?_) (fun hb29 hc29=>?_)))
 ·
  have hkn:=hct.1 hc29
  refine aA<|ao<|ap<|aB<|WC.drawn 11 O Fa.M H28 ?_
  intro w30 H30
  refine WD.named (fun W hW=>?_)
  let e16:List (Nat × Value)→List (Nat × Value):=fun r=>(2,(ptr b1 0))::(4,(ptr b2 0))::(5,(str (g1 s).1.1))::(7,(ptr b6 0))::(8,(aa (g5 s).1.1))::(11,(aa (Kl j)))::(51,(aa (Kl j)))::(52,(aa (g5 s).1.1))::(53,(.bool (decide ((Kl j)<(g5 s).1.1))))::r
  let Bm:Ent:=.blk b1 [(aa 0),(.slice none 0 0),(.slice none 0 0),(.bool false),(aa 0),(.slice none 0 0)] 43
  let B5:Ent:=.blk b2 [(str (psD (g5 s).2 j).rest),(vN (psD (g5 s).2 j).f)] 283
  let B2:Ent:=.blk b6 [(aa (g2 s).1.1),x,y,(.bool false),(aa 0),(.slice none 0 0)] 43
  let B0:Ent:=.row x 207 2 (g3 s).1.1.toNat (Kh xtc (gX s))
  let B3:Ent:=.row y 203 1 j (Kg bA (psL (g5 s).2 j))
  let B1:Ent:=.row (.slice none 0 0) 116 3 0 (Kh sgc [])
  let B4:Ent:=.blk b2 [(str ((aK (psD (g5 s).2 j) 2).2).rest),(vN ((aK (psD (g5 s).2 j) 2).2).f)] 283
  have C8: ∀v68 b31 wS,Ke [] w wS [Bm,B4,.blk b6 [(aa (g2 s).1.1),x,v68,(.bool false),(aa 0),(.slice none 0 0)] 43,B0,.row v68 203 1 (j+1) (Kg bA ((psL (g5 s).2 j)++[(Km (aK (psD (g5 s).2 j) 2).1.1.toNat)])),B1,.row (.slice (some ⟨b31,0,none⟩) 1 1) 203 1 1 (Kg bA [(Km (aK (psD (g5 s).2 j) 2).1.1.toNat)])]→W 0 (bz 11 2047) (e16 []) wS:=fun v68 b31 wS HS=>by
   rw [hW]
   exact WD.done (by kernel_rfl)<|aE<|ao<|aG<|wm O<|wo (bW (b:=1) O O<|wa O<|aY<|aX (j+1,v68) ⟨(by omega),(by rw [sO,oz]; exact (HS.take 6))⟩ ⟨rfl,rfl,rfl,rfl,rfl,(congrArg (fun n=>some (aa n)) (ob _)),trivial⟩ (by show (g5 s).1.1.toNat-(j+1)<(g5 s).1.1.toNat-j; omega))
  have C9: ∀v68 b31 wS,Ke [] w wS [Bm,B4,B2,B0,.row v68 203 1 (j+1) (Kg bA ((psL (g5 s).2 j)++[(Km (aK (psD (g5 s).2 j) 2).1.1.toNat)])),B1,.row (.slice (some ⟨b31,0,none⟩) 1 1) 203 1 1 (Kg bA [(Km (aK (psD (g5 s).2 j) 2).1.1.toNat)])]→W 1 (bz 11 1023) (e16 [(63,v68),(65,(ptr b6 2))]) wS:=fun v68 b31 wS HS=>by
   rw [hW]
   exact wd1 10<|kS 10 O (bC (i:=2) HS O O O O (bS (HS.arrR (i:=4) O)) Fa.I38 (fun w70 H70=>(aO hW (C8 v68 b31 w70 H70))))
  have D0: ∀v68 b31 wS,Ke [] w wS [Bm,B4,B2,B0,.row v68 203 1 (j+1) (Kg bA ((psL (g5 s).2 j)++[(Km (aK (psD (g5 s).2 j) 2).1.1.toNat)])),B1,.row (.slice (some ⟨b31,0,none⟩) 1 1) 203 1 1 (Kg bA [(Km (aK (psD (g5 s).2 j) 2).1.1.toNat)])]→W 2 (bz 11 511) (e16 [(63,v68),(64,(ptr b6 0))]) wS:=fun v68 b31 wS HS=>by
   rw [hW]
   exact wd1 9<|kS 9 O (ab O Fa.di<|aO hW (C9 v68 b31 wS HS))
  have D1: ∀v68 b31 wS,Ke [] w wS [Bm,B4,B2,B0,.row v68 203 1 (j+1) (Kg bA ((psL (g5 s).2 j)++[(Km (aK (psD (g5 s).2 j) 2).1.1.toNat)])),B1,.row (.slice (some ⟨b31,0,none⟩) 1 1) 203 1 1 (Kg bA [(Km (aK (psD (g5 s).2 j) 2).1.1.toNat)])]→W 3 (bz 11 255) (e16 [(63,v68)]) wS:=fun v68 b31 wS HS=>by
   rw [hW]
   exact wd1 8<|kS 8 O (ab O Fa.cZ<|aO hW (D0 v68 b31 wS HS))
  have B6: ∀b31 wS,Ke [] w wS [Bm,B4,B2,B0,B3,B1,.row (.slice (some ⟨b31,0,none⟩) 1 1) 203 1 1 (Kg bA [(Km (aK (psD (g5 s).2 j) 2).1.1.toNat)])]→W 4 (bz 11 127) (e16 [(58,y),(62,(.slice (some ⟨b31,0,none⟩) 1 1))]) wS:=fun b31 wS HS=>by
   rw [hW]
   exact wd1 7<|kS 7 O (cx (f:=bA) (l:=(psL (g5 s).2 j)) (l':=[(Km (aK (psD (g5 s).2 j) 2).1.1.toNat)]) (i:=4) HS A38 Fa.fV O O O O (ck A38 (HS.arrR (i:=6) O)) (cV (fun _=>rfl)) (by omega) (by omega) (fun v68 w68 H68=>(aO hW (D1 v68 b31 w68 H68))))
  have B7: ∀wS,Ke [] w wS [Bm,B4,B2,B0,B3,B1]→W 5 (bz 11 63) (e16 [(58,y),(61,(bA (Km (aK (psD (g5 s).2 j) 2).1.1.toNat)))]) wS:=fun wS HS=>by
   rw [hW]
   exact wd1 6<|kS 6 O (aW (cs:=[_]) HS A38 Fa.fV O O O O (by decide) (by decide) (fun b31 w31 H31=>(aO hW (B6 b31 w31 H31))))
  have B8: ∀b31 wS,Ke [] w wS [Bm,B4,B2,B0,B3,B1,.row (.slice (some ⟨b31,0,none⟩) 1 1) 203 1 1 (Kg bA [(Km (aK (psD (g5 s).2 j) 2).1.1.toNat)])]→W 5 (bz 11 123) (e16 [(57,(ptr b6 2)),(62,(.slice (some ⟨b31,0,none⟩) 1 1))]) wS:=fun b31 wS HS=>by
   rw [hW]
   exact wd1 2<|kS 2 O (aj O (HS.cell (i:=2) O O) A38 O<|aO hW (B6 b31 wS HS))
  have B9: ∀wS,Ke [] w wS [Bm,B4,B2,B0,B3,B1]→W 6 (bz 11 31) (e16 [(58,y),(60,(aa (aK (psD (g5 s).2 j) 2).1.1))]) wS:=fun wS HS=>by
   rw [hW]
   exact wd1 5<|kS 5 O (eo (hs:=A22) (hd:=A203) O<|aO hW (B7 wS HS))
  have C0: ∀wS,Ke [] w wS [Bm,B4,B2,B0,B3,B1]→W 6 (bz 11 59) (e16 [(57,(ptr b6 2)),(61,(bA (Km (aK (psD (g5 s).2 j) 2).1.1.toNat)))]) wS:=fun wS HS=>by
   rw [hW]
   refine wd2 2 6 ?_ ?_
   ·
    exact kS 2 O (aj O (HS.cell (i:=2) O O) A38 O<|aO hW (B7 wS HS))
   exact kS 6 O (aW (cs:=[_]) HS A38 Fa.fV O O O O (by decide) (by decide) (fun b31 w31 H31=>(aO hW (B8 b31 w31 H31))))
  have C1: ∀b31 wS,Ke [] w wS [Bm,B4,B2,B0,B3,B1,.row (.slice (some ⟨b31,0,none⟩) 1 1) 203 1 1 (Kg bA [(Km (aK (psD (g5 s).2 j) 2).1.1.toNat)])]→W 6 (bz 11 121) (e16 [(56,(ptr b6 0)),(62,(.slice (some ⟨b31,0,none⟩) 1 1))]) wS:=fun b31 wS HS=>by
   rw [hW]
   exact wd1 1<|kS 1 O (ab O Fa.di<|aO hW (B8 b31 wS HS))
  have C2: ∀wS,Ke [] w wS [Bm,B5,B2,B0,B3,B1]→W 7 (bz 11 15) (e16 [(58,y),(59,(ptr b2 0))]) wS:=fun wS HS=>by
   rw [hW]
   refine wd1 4<|kS 4 O (az (Kd 184) O ((dC b2 (psD (g5 s).2 j) (2) _ _ (HS.part [1] O O) (by refine eh ?_; first | (rw [ec]; exact hs) | (rw [ea]; exact hs) | (rw [dZ]; exact hs) | (rw [dX]; exact hs) | (rw [dW]; exact hs) | (rw [dV]; exact hs) | (rw [cS]; exact hs) | (rw [bV,ct]; exact hs) | (rw [ba,bV,ct]; exact hs) | (rw [cN,dY]; exact hs) | (rw [bQ,ci]; exact hs) | (rw [ba,bQ,ci]; exact hs) | (rw [ba,ba,bQ,ci]; exact hs) | (rw [ba,ba,ba,bQ,ci]; exact hs) | exact hs)).mono (fun e w69 hq=>?_)))
   obtain ⟨rfl,hq69⟩:=hq
   refine ⟨_,rfl,?_⟩
   have H69:=HS.splice [1] [.blk b2 [(str ((aK (psD (g5 s).2 j) 2).2).rest),(vN ((aK (psD (g5 s).2 j) 2).2).f)] 283] [] O O hq69 (am ae aI)
   exact aO hW (B9 w69 H69)
  have C3: ∀wS,Ke [] w wS [Bm,B4,B2,B0,B3,B1]→W 7 (bz 11 27) (e16 [(57,(ptr b6 2)),(60,(aa (aK (psD (g5 s).2 j) 2).1.1))]) wS:=fun wS HS=>by
   rw [hW]
   refine wd2 2 5 ?_ ?_
   ·
    exact kS 2 O (aj O (HS.cell (i:=2) O O) A38 O<|aO hW (B9 wS HS))
   exact kS 5 O (eo (hs:=A22) (hd:=A203) O<|aO hW (C0 wS HS))
  have C4: ∀wS,Ke [] w wS [Bm,B4,B2,B0,B3,B1]→W 7 (bz 11 57) (e16 [(56,(ptr b6 0)),(61,(bA (Km (aK (psD (g5 s).2 j) 2).1.1.toNat)))]) wS:=fun wS HS=>by
   rw [hW]
   refine wd2 1 6 ?_ ?_
   ·
    exact kS 1 O (ab O Fa.di<|aO hW (C0 wS HS))
   exact kS 6 O (aW (cs:=[_]) HS A38 Fa.fV O O O O (by decide) (by decide) (fun b31 w31 H31=>(aO hW (C1 b31 w31 H31))))
  have D2: ∀b31 wS,Ke [] w wS [Bm,B4,B2,B0,B3,B1,.row (.slice (some ⟨b31,0,none⟩) 1 1) 203 1 1 (Kg bA [(Km (aK (psD (g5 s).2 j) 2).1.1.toNat)])]→W 7 (bz 11 120) (e16 [(62,(.slice (some ⟨b31,0,none⟩) 1 1))]) wS:=fun b31 wS HS=>by
   rw [hW]
   exact wd1 0<|kS 0 O (ab O Fa.cZ<|aO hW (C1 b31 wS HS))
  have D3: ∀wS,Ke [] w wS [Bm,B5,B2,B0,B3,B1]→W 8 (bz 11 7) (e16 [(58,y)]) wS:=fun wS HS=>by
   rw [hW]
   exact wd1 3<|kS 3 O (au O<|aO hW (C2 wS HS))
  have C5: ∀wS,Ke [] w wS [Bm,B5,B2,B0,B3,B1]→W 8 (bz 11 11) (e16 [(57,(ptr b6 2)),(59,(ptr b2 0))]) wS:=fun wS HS=>by
   rw [hW]
   refine wd2 2 4 ?_ ?_
   ·
    exact kS 2 O (aj O (HS.cell (i:=2) O O) A38 O<|aO hW (C2 wS HS))
   refine kS 4 O (az (Kd 184) O ((dC b2 (psD (g5 s).2 j) (2) _ _ (HS.part [1] O O) (by refine eh ?_; first | (rw [ec]; exact hs) | (rw [ea]; exact hs) | (rw [dZ]; exact hs) | (rw [dX]; exact hs) | (rw [dW]; exact hs) | (rw [dV]; exact hs) | (rw [cS]; exact hs) | (rw [bV,ct]; exact hs) | (rw [ba,bV,ct]; exact hs) | (rw [cN,dY]; exact hs) | (rw [bQ,ci]; exact hs) | (rw [ba,bQ,ci]; exact hs) | (rw [ba,ba,bQ,ci]; exact hs) | (rw [ba,ba,ba,bQ,ci]; exact hs) | exact hs)).mono (fun e w69 hq=>?_)))
   obtain ⟨rfl,hq69⟩:=hq
   refine ⟨_,rfl,?_⟩
   have H69:=HS.splice [1] [.blk b2 [(str ((aK (psD (g5 s).2 j) 2).2).rest),(vN ((aK (psD (g5 s).2 j) 2).2).f)] 283] [] O O hq69 (am ae aI)
   exact aO hW (C3 w69 H69)
  have C6: ∀wS,Ke [] w wS [Bm,B4,B2,B0,B3,B1]→W 8 (bz 11 25) (e16 [(56,(ptr b6 0)),(60,(aa (aK (psD (g5 s).2 j) 2).1.1))]) wS:=fun wS HS=>by
   rw [hW]
   refine wd2 1 5 ?_ ?_
   ·
    exact kS 1 O (ab O Fa.di<|aO hW (C3 wS HS))
   exact kS 5 O (eo (hs:=A22) (hd:=A203) O<|aO hW (C4 wS HS))
  have D4: ∀wS,Ke [] w wS [Bm,B4,B2,B0,B3,B1]→W 8 (bz 11 56) (e16 [(61,(bA (Km (aK (psD (g5 s).2 j) 2).1.1.toNat)))]) wS:=fun wS HS=>by
   rw [hW]
   refine wd2 0 6 ?_ ?_
   ·
    exact kS 0 O (ab O Fa.cZ<|aO hW (C4 wS HS))
   exact kS 6 O (aW (cs:=[_]) HS A38 Fa.fV O O O O (by decide) (by decide) (fun b31 w31 H31=>(aO hW (D2 b31 w31 H31))))
  have D5: ∀wS,Ke [] w wS [Bm,B5,B2,B0,B3,B1]→W 9 (bz 11 3) (e16 [(57,(ptr b6 2))]) wS:=fun wS HS=>by
   rw [hW]
   refine wd2 2 3 ?_ ?_
   ·
    exact kS 2 O (aj O (HS.cell (i:=2) O O) A38 O<|aO hW (D3 wS HS))
   exact kS 3 O (au O<|aO hW (C5 wS HS))
  have C7: ∀wS,Ke [] w wS [Bm,B5,B2,B0,B3,B1]→W 9 (bz 11 9) (e16 [(56,(ptr b6 0)),(59,(ptr b2 0))]) wS:=fun wS HS=>by
   rw [hW]
   refine wd2 1 4 ?_ ?_
   ·
    exact kS 1 O (ab O Fa.di<|aO hW (C5 wS HS))
   refine kS 4 O (az (Kd 184) O ((dC b2 (psD (g5 s).2 j) (2) _ _ (HS.part [1] O O) (by refine eh ?_; first | (rw [ec]; exact hs) | (rw [ea]; exact hs) | (rw [dZ]; exact hs) | (rw [dX]; exact hs) | (rw [dW]; exact hs) | (rw [dV]; exact hs) | (rw [cS]; exact hs) | (rw [bV,ct]; exact hs) | (rw [ba,bV,ct]; exact hs) | (rw [cN,dY]; exact hs) | (rw [bQ,ci]; exact hs) | (rw [ba,bQ,ci]; exact hs) | (rw [ba,ba,bQ,ci]; exact hs) | (rw [ba,ba,ba,bQ,ci]; exact hs) | exact hs)).mono (fun e w69 hq=>?_)))
   obtain ⟨rfl,hq69⟩:=hq
   refine ⟨_,rfl,?_⟩
   have H69:=HS.splice [1] [.blk b2 [(str ((aK (psD (g5 s).2 j) 2).2).rest),(vN ((aK (psD (g5 s).2 j) 2).2).f)] 283] [] O O hq69 (am ae aI)
   exact aO hW (C6 w69 H69)
  have D6: ∀wS,Ke [] w wS [Bm,B4,B2,B0,B3,B1]→W 9 (bz 11 24) (e16 [(60,(aa (aK (psD (g5 s).2 j) 2).1.1))]) wS:=fun wS HS=>by
   rw [hW]
   refine wd2 0 5 ?_ ?_
   ·
    exact kS 0 O (ab O Fa.cZ<|aO hW (C6 wS HS))
   exact kS 5 O (eo (hs:=A22) (hd:=A203) O<|aO hW (D4 wS HS))
  have D7: ∀wS,Ke [] w wS [Bm,B5,B2,B0,B3,B1]→W 10 (bz 11 1) (e16 [(56,(ptr b6 0))]) wS:=fun wS HS=>by
   rw [hW]
   refine wd2 1 3 ?_ ?_
   ·
    exact kS 1 O (ab O Fa.di<|aO hW (D5 wS HS))
   exact kS 3 O (au O<|aO hW (C7 wS HS))
  have D8: ∀wS,Ke [] w wS [Bm,B5,B2,B0,B3,B1]→W 10 (bz 11 8) (e16 [(59,(ptr b2 0))]) wS:=fun wS HS=>by
   rw [hW]
   refine wd2 0 4 ?_ ?_
   ·
    exact kS 0 O (ab O Fa.cZ<|aO hW (C7 wS HS))
   refine kS 4 O (az (Kd 184) O ((dC b2 (psD (g5 s).2 j) (2) _ _ (HS.part [1] O O) (by refine eh ?_; first | (rw [ec]; exact hs) | (rw [ea]; exact hs) | (rw [dZ]; exact hs) | (rw [dX]; exact hs) | (rw [dW]; exact hs) | (rw [dV]; exact hs) | (rw [cS]; exact hs) | (rw [bV,ct]; exact hs) | (rw [ba,bV,ct]; exact hs) | (rw [cN,dY]; exact hs) | (rw [bQ,ci]; exact hs) | (rw [ba,bQ,ci]; exact hs) | (rw [ba,ba,bQ,ci]; exact hs) | (rw [ba,ba,ba,bQ,ci]; exact hs) | exact hs)).mono (fun e w69 hq=>?_)))
   obtain ⟨rfl,hq69⟩:=hq
   refine ⟨_,rfl,?_⟩
   have H69:=HS.splice [1] [.blk b2 [(str ((aK (psD (g5 s).2 j) 2).2).rest),(vN ((aK (psD (g5 s).2 j) 2).2).f)] 283] [] O O hq69 (am ae aI)
   exact aO hW (D6 w69 H69)
  have D9: ∀wS,Ke [] w wS [Bm,B5,B2,B0,B3,B1]→W 11 (bz 11 0) (e16 []) wS:=fun wS HS=>by
   rw [hW]
   refine wd2 0 3 ?_ ?_
   ·
    exact kS 0 O (ab O Fa.cZ<|aO hW (D7 wS HS))
   exact kS 3 O (au O<|aO hW (D8 wS HS))
  have hq:=D9 w30 H30
  rw [hW] at hq ⊢
  refine WD.cov ?_ hq
  exact by repeat (first | exact trivial | refine ⟨rfl,?_⟩)
 refine bc<|an<|an<|aS<|ao<|ws ?_
 have hkx:¬j<(g5 s).1.1.toNat:=fun h=>hc29 (hct.2 h)
 obtain rfl:j=(g5 s).1.1.toNat:=by omega
 have H32:Ke [] w w28 [.blk b1 [(aa 0),(.slice none 0 0),(.slice none 0 0),(.bool false),(aa 0),(.slice none 0 0)] 43,.blk b2 [(str (g6 s).rest),(vN (g6 s).f)] 283,.blk b6 [(aa (g2 s).1.1),x,y,(.bool false),(aa 0),(.slice none 0 0)] 43,.row x 207 2 (g3 s).1.1.toNat (Kh xtc (gX s)),.row y 203 1 (g5 s).1.1.toNat (Kg bA (gP s)),.row (.slice none 0 0) 116 3 0 (Kh sgc [])]:=by have h:=H28; rw [BT] at h; rw [BR] at h; exact h
 refine wm O<|wo (az (Kd 184) O ((dC b2 (g6 s) (1) _ _ (H32.part [1] O O) (by refine eh ?_; first | (rw [ec]; exact hs) | (rw [ea]; exact hs) | (rw [dZ]; exact hs) | (rw [dX]; exact hs) | (rw [dW]; exact hs) | (rw [dV]; exact hs) | (rw [cS]; exact hs) | (rw [bV,ct]; exact hs) | (rw [ba,bV,ct]; exact hs) | (rw [cN,dY]; exact hs) | (rw [bQ,ci]; exact hs) | (rw [ba,bQ,ci]; exact hs) | (rw [ba,ba,bQ,ci]; exact hs) | (rw [ba,ba,ba,bQ,ci]; exact hs) | exact hs)).mono (fun e w33 hq=>?_)))
 obtain ⟨rfl,hq33⟩:=hq
 refine ⟨_,rfl,?_⟩
 have H33:=H32.splice [1] [.blk b2 [(str ((aK (g6 s) 1).2).rest),(vN ((aK (g6 s) 1).2).f)] 283] [] O O hq33 (am ae aI)
 have H34:Ke [] w w33 [.blk b1 [(aa 0),(.slice none 0 0),(.slice none 0 0),(.bool false),(aa 0),(.slice none 0 0)] 43,.blk b2 [(str ((g7 s).2).rest),(vN ((g7 s).2).f)] 283,.blk b6 [(aa (g2 s).1.1),x,y,(.bool false),(aa 0),(.slice none 0 0)] 43,.row x 207 2 (g3 s).1.1.toNat (Kh xtc (gX s)),.row y 203 1 (g5 s).1.1.toNat (Kg bA (gP s)),.row (.slice none 0 0) 116 3 0 (Kh sgc [])]:=by have h:=H33; rw [vA] at h; exact h
 rw [vA]
 refine wa O<|wn<|ws<|wm O<|wo (eu (b:=1) O O<|wo (ab O Fa.cZ<|wo (ab O Fa.qF<|wo (bC (i:=2) H34 O O O O O Fa.I4 (fun w35 H35=>(wn<|ws<|wm O<|wo (az (Kd 184) O ((dC b2 ((g7 s).2) (4) _ _ (H35.part [1] O O) (by refine eh ?_; first | (rw [ec]; exact hs) | (rw [ea]; exact hs) | (rw [dZ]; exact hs) | (rw [dX]; exact hs) | (rw [dW]; exact hs) | (rw [dV]; exact hs) | (rw [cS]; exact hs) | (rw [bV,ct]; exact hs) | (rw [ba,bV,ct]; exact hs) | (rw [cN,dY]; exact hs) | (rw [bQ,ci]; exact hs) | (rw [ba,bQ,ci]; exact hs) | (rw [ba,ba,bQ,ci]; exact hs) | (rw [ba,ba,ba,bQ,ci]; exact hs) | exact hs)).mono (fun e w36 hq=>?_)))))))))
 obtain ⟨rfl,hq36⟩:=hq
 refine ⟨_,rfl,?_⟩
 have H36:=H35.splice [1] [.blk b2 [(str ((aK ((g7 s).2) 4).2).rest),(vN ((aK ((g7 s).2) 4).2).f)] 283] [] O O hq36 (am ae aI)
 refine wo (ab O Fa.iU ?_)
 have H37:Ke [] w w36 [.blk b1 [(aa 0),(.slice none 0 0),(.slice none 0 0),(.bool false),(aa 0),(.slice none 0 0)] 43,.blk b2 [(str ((g8 s).2).rest),(vN ((g8 s).2).f)] 283,.blk b6 [(aa (g2 s).1.1),x,y,(.bool (decide ((g7 s).1.1=(1:UInt32)))),(aa 0),(.slice none 0 0)] 43,.row x 207 2 (g3 s).1.1.toNat (Kh xtc (gX s)),.row y 203 1 (g5 s).1.1.toNat (Kg bA (gP s)),.row (.slice none 0 0) 116 3 0 (Kh sgc [])]:=by have h:=H36; rw [vz] at h; exact h
 rw [vz]
 refine wo (bC (i:=2) H37 O O O O O Fa.I22 (fun w38 H38=>(wn<|ws<|wm O<|wo (az (Kd 184) O ((dC b2 ((g8 s).2) (1) _ _ (H38.part [1] O O) (by refine eh ?_; first | (rw [ec]; exact hs) | (rw [ea]; exact hs) | (rw [dZ]; exact hs) | (rw [dX]; exact hs) | (rw [dW]; exact hs) | (rw [dV]; exact hs) | (rw [cS]; exact hs) | (rw [bV,ct]; exact hs) | (rw [ba,bV,ct]; exact hs) | (rw [cN,dY]; exact hs) | (rw [bQ,ci]; exact hs) | (rw [ba,bQ,ci]; exact hs) | (rw [ba,ba,bQ,ci]; exact hs) | (rw [ba,ba,ba,bQ,ci]; exact hs) | exact hs)).mono (fun e w39 hq=>?_))))))
 obtain ⟨rfl,hq39⟩:=hq
 refine ⟨_,rfl,?_⟩
 have H39:=H38.splice [1] [.blk b2 [(str ((aK ((g8 s).2) 1).2).rest),(vN ((aK ((g8 s).2) 1).2).f)] 283] [] O O hq39 (am ae aI)
 have H40:Ke [] w w39 [.blk b1 [(aa 0),(.slice none 0 0),(.slice none 0 0),(.bool false),(aa 0),(.slice none 0 0)] 43,.blk b2 [(str ((g9 s).2).rest),(vN ((g9 s).2).f)] 283,.blk b6 [(aa (g2 s).1.1),x,y,(.bool (decide ((g7 s).1.1=(1:UInt32)))),(aa (g8 s).1.1),(.slice none 0 0)] 43,.row x 207 2 (g3 s).1.1.toNat (Kh xtc (gX s)),.row y 203 1 (g5 s).1.1.toNat (Kg bA (gP s)),.row (.slice none 0 0) 116 3 0 (Kh sgc [])]:=by have h:=H39; rw [vy] at h; exact h
 rw [vy]
 refine wa O<|wn<|ap<|ws<|wa O<|wn<|aB<|bi (α:=Nat × Value) (fun (i,z)=>[(2,(ptr b1 0)),(4,(ptr b2 0)),(5,(str (g1 s).1.1)),(7,(ptr b6 0)),(8,(aa (g9 s).1.1)),(12,(aa (g7 s).1.1)),(13,(aa (Kl i)))]) (fun (i,z) w'=>(i≤(g9 s).1.1.toNat)∧Ke [] w w' [.blk b1 [(aa 0),(.slice none 0 0),(.slice none 0 0),(.bool false),(aa 0),(.slice none 0 0)] 43,.blk b2 [(str (sgD (g9 s).2 i).rest),(vN (sgD (g9 s).2 i).f)] 283,.blk b6 [(aa (g2 s).1.1),x,y,(.bool (decide ((g7 s).1.1=(1:UInt32)))),(aa (g8 s).1.1),z] 43,.row x 207 2 (g3 s).1.1.toNat (Kh xtc (gX s)),.row y 203 1 (g5 s).1.1.toNat (Kg bA (gP s)),.row z 116 3 i (Kh sgc (sgL (g9 s).2 i))]) (fun (i,z)=>(g9 s).1.1.toNat-i) (0,(.slice none 0 0)) ⟨(Kk _),(by rw [AL]; exact H40)⟩ ⟨rfl,rfl,rfl,rfl,rfl,rfl,rfl,trivial⟩ ?_
 rintro ⟨i,z⟩ w41 ⟨hi1,H41⟩
 show WC _ _ _ _ _ [(2,(ptr b1 0)),(4,(ptr b2 0)),(5,(str (g1 s).1.1)),(7,(ptr b6 0)),(8,(aa (g9 s).1.1)),(12,(aa (g7 s).1.1)),(13,(aa (Kl i)))] _
 have hnl:=(g9 s).1.1.toNat_lt
 have hct:=rW (k:=i) (n:=(g9 s).1.1) (by omega)
 refine ap<|ws<|wm O<|wm O<|wo (ed O O<|wn (wE ((Kl i)<(g9 s).1.1) (fun hb42 hc42=>?_) (fun hb42 hc42=>?_)))
 ·
  have hkn:=hct.1 hc42
  refine aA<|ao<|ap<|aB<|ws<|wm O<|wo (az (Kd 184) O ((dC b2 (sgD (g9 s).2 i) (4) _ _ (H41.part [1] O O) (by refine eh ?_; first | (rw [ec]; exact hs) | (rw [ea]; exact hs) | (rw [dZ]; exact hs) | (rw [dX]; exact hs) | (rw [dW]; exact hs) | (rw [dV]; exact hs) | (rw [cS]; exact hs) | (rw [bV,ct]; exact hs) | (rw [ba,bV,ct]; exact hs) | (rw [cN,dY]; exact hs) | (rw [bQ,ci]; exact hs) | (rw [ba,bQ,ci]; exact hs) | (rw [ba,ba,bQ,ci]; exact hs) | (rw [ba,ba,ba,bQ,ci]; exact hs) | exact hs)).mono (fun e w43 hq=>?_)))
  obtain ⟨rfl,hq43⟩:=hq
  refine ⟨_,rfl,?_⟩
  have H43:=H41.splice [1] [.blk b2 [(str ((aK (sgD (g9 s).2 i) 4).2).rest),(vN ((aK (sgD (g9 s).2 i) 4).2).f)] 283] [] O O hq43 (am ae aI)
  refine wo (bP (cs:=[_,_,_]) Fa.de Fa.tZ O O<|wo (bt H43 Fa.de (fun b44 w44 H44=>(wo (bw (i:=6) H44 O O O O O Fa.de (fun w45 H45=>(wn<|ws<|wm O<|wo (az (Kd 184) O ((dC b2 ((aK (sgD (g9 s).2 i) 4).2) (1) _ _ (H45.part [1] O O) (by refine eh ?_; first | (rw [ec]; exact hs) | (rw [ea]; exact hs) | (rw [dZ]; exact hs) | (rw [dX]; exact hs) | (rw [dW]; exact hs) | (rw [dV]; exact hs) | (rw [cS]; exact hs) | (rw [bV,ct]; exact hs) | (rw [ba,bV,ct]; exact hs) | (rw [cN,dY]; exact hs) | (rw [bQ,ci]; exact hs) | (rw [ba,bQ,ci]; exact hs) | (rw [ba,ba,bQ,ci]; exact hs) | (rw [ba,ba,ba,bQ,ci]; exact hs) | exact hs)).mono (fun e w46 hq=>?_))))))))))
  obtain ⟨rfl,hq46⟩:=hq
  refine ⟨_,rfl,?_⟩
  have H46:=H45.splice [1] [.blk b2 [(str ((aK ((aK (sgD (g9 s).2 i) 4).2) 1).2).rest),(vN ((aK ((aK (sgD (g9 s).2 i) 4).2) 1).2).f)] 283] [] O O hq46 (am ae aI)
  refine wo (co (hs:=A22) (hd:=A5) O<|wo (ab O Fa.gB<|wo (bC (i:=6) H46 O O O O O Fa.I5 (fun w47 H47=>(wn<|ws<|wm O<|wo (az (Kd 184) O ((dC b2 ((aK ((aK (sgD (g9 s).2 i) 4).2) 1).2) (4) _ _ (H47.part [1] O O) (by refine eh ?_; first | (rw [ec]; exact hs) | (rw [ea]; exact hs) | (rw [dZ]; exact hs) | (rw [dX]; exact hs) | (rw [dW]; exact hs) | (rw [dV]; exact hs) | (rw [cS]; exact hs) | (rw [bV,ct]; exact hs) | (rw [ba,bV,ct]; exact hs) | (rw [cN,dY]; exact hs) | (rw [bQ,ci]; exact hs) | (rw [ba,bQ,ci]; exact hs) | (rw [ba,ba,bQ,ci]; exact hs) | (rw [ba,ba,ba,bQ,ci]; exact hs) | exact hs)).mono (fun e w48 hq=>?_))))))))
  obtain ⟨rfl,hq48⟩:=hq
  refine ⟨_,rfl,?_⟩
  have H48:=H47.splice [1] [.blk b2 [(str ((aK ((aK ((aK (sgD (g9 s).2 i) 4).2) 1).2) 4).2).rest),(vN ((aK ((aK ((aK (sgD (g9 s).2 i) 4).2) 1).2) 4).2).f)] 283] [] O O hq48 (am ae aI)
  refine wa O<|wn<|ap<|ws<|wm O<|wo (cI (b:=131072) O O<|wn (wE ((aK ((aK ((aK (sgD (g9 s).2 i) 4).2) 1).2) 4).1.1>(131072:UInt32)) (fun hb49 hc49=>?_) (fun hb49 hc49=>?_)))
  ·
   refine ws<|wo (bP (cs:=[_,_,_,_,_,_]) Fa.I43 Fa.kA O O<|wo (bw (i:=0) H48 O O O O O Fa.I43 (fun w50 H50=>(wa O<|wn<|aC<|aq<|aZ<|aq<|aq<|aZ<|aq<|aD (.cell O (bM (vs:=[_,_,_,_,_,_]) (H50.cells (i:=0) O O) A43 O Fa.I43 O) (.tmp O .nil)) ?_))))
   have hb:eX s=true:=Dl hkn (fun h=>absurd hc49 (UInt32.not_lt.2 h))
   rw [(dR hb).1,(dR hb).2]
   exact ⟨.slice none 0 0,.slice none 0 0,.slice none 0 0,rfl,(((H50.sel [] O O).nilRow 207 2).nilRow 203 1).nilRow 116 3⟩
  have hsz:=UInt32.not_lt.1 hc49
  refine aA<|ao<|ws<|wm O<|wm O<|wo (dA (hs:=A22) (hd:=A3) O<|wo (az (Kd 183) O ((pz b2 ((aK ((aK ((aK (sgD (g9 s).2 i) 4).2) 1).2) 4).2) (((aK ((aK ((aK (sgD (g9 s).2 i) 4).2) 1).2) 4).1.1.toNat:Nat)) _ _ (H48.part [1] O O) (by refine eh ?_; first | (rw [ec]; exact hs) | (rw [ea]; exact hs) | (rw [dZ]; exact hs) | (rw [dX]; exact hs) | (rw [dW]; exact hs) | (rw [dV]; exact hs) | (rw [cS]; exact hs) | (rw [bV,ct]; exact hs) | (rw [ba,bV,ct]; exact hs) | (rw [cN,dY]; exact hs) | (rw [bQ,ci]; exact hs) | (rw [ba,bQ,ci]; exact hs) | (rw [ba,ba,bQ,ci]; exact hs) | (rw [ba,ba,ba,bQ,ci]; exact hs) | exact hs)).mono (fun e w51 hq=>?_))))
  obtain ⟨rfl,hq51⟩:=hq
  refine ⟨_,rfl,?_⟩
  have H51:=H48.splice [1] [.blk b2 [(str ((bU ((aK ((aK ((aK (sgD (g9 s).2 i) 4).2) 1).2) 4).2) ((aK ((aK ((aK (sgD (g9 s).2 i) 4).2) 1).2) 4).1.1.toNat:Nat)).2).rest),(vN ((bU ((aK ((aK ((aK (sgD (g9 s).2 i) 4).2) 1).2) 4).2) ((aK ((aK ((aK (sgD (g9 s).2 i) 4).2) 1).2) 4).1.1.toNat:Nat)).2).f)] 283] [] O O hq51 (am ae aI)
  exact wm O<|we O O<|we O O<|wo (ab O Fa.eJ<|wo (bC (i:=6) H51 O O O O O Fa.I9 (fun w52 H52=>(wn<|aG<|wo (ab O Fa.eA<|wo (aj O (H52.cell (i:=2) O O) A41 O<|wo (aM (vs:=[_,_,_]) O (H52.cells (i:=6) O O) A116 O Fa.de O<|wo (aW (cs:=[_,_,_]) H52 A41 Fa.de O O O O (by decide) (by decide) (fun b53 w53 H53=>(wo (fJ (f:=sgc) (l:=(sgL (g9 s).2 i)) (l':=[(Sg.mk ((aK (sgD (g9 s).2 i) 4).1.1) (UInt8.ofNat (aK ((aK (sgD (g9 s).2 i) 4).2) 1).1.1.toNat) ((bU ((aK ((aK ((aK (sgD (g9 s).2 i) 4).2) 1).2) 4).2) ((aK ((aK ((aK (sgD (g9 s).2 i) 4).2) 1).2) 4).1.1.toNat:Nat)).1.1))]) (i:=5) H53 A41 Fa.de O O O O (ck A41 (H53.arrR (i:=7) O)) (iL (fun _=>by simp [sgc,Value.oneCell'])) (by omega) (by omega) (fun v54 w54 H54=>(wo (ab O Fa.eA<|wo (bC (i:=2) H54 O O O O (bS (H54.arrR (i:=5) O)) Fa.I41 (fun w55 H55=>(aY<|aE<|ao<|aG<|wm O<|wo (bW (b:=1) O O<|wa O<|aY<|aX (i+1,v54) ⟨(by omega),(by rw [sb,kD,jC hsz]; exact (H55.take 6))⟩ ⟨rfl,rfl,rfl,rfl,rfl,rfl,(congrArg (fun n=>some (aa n)) (ob _)),trivial⟩ (by show (g9 s).1.1.toNat-(i+1)<(g9 s).1.1.toNat-i; omega)))))))))))))))))))
 refine bc<|an<|an<|aS<|ao<|ap<|ws ?_
 have hkx:¬i<(g9 s).1.1.toNat:=fun h=>hc42 (hct.2 h)
 obtain rfl:i=(g9 s).1.1.toNat:=by omega
 have H56:Ke [] w w41 [.blk b1 [(aa 0),(.slice none 0 0),(.slice none 0 0),(.bool false),(aa 0),(.slice none 0 0)] 43,.blk b2 [(str (g10 s).rest),(vN (g10 s).f)] 283,.blk b6 [(aa (g2 s).1.1),x,y,(.bool (decide ((g7 s).1.1=(1:UInt32)))),(aa (g8 s).1.1),z] 43,.row x 207 2 (g3 s).1.1.toNat (Kh xtc (gX s)),.row y 203 1 (g5 s).1.1.toNat (Kg bA (gP s)),.row z 116 3 (g9 s).1.1.toNat (Kh sgc (gS s))]:=by have h:=H41; rw [wR] at h; rw [tB] at h; exact h
 refine wm O<|wo (az (Kd 185) O ((Ad b2 (g10 s)  _ _ (H56.part [1] O O) (by refine eh ?_; first | (rw [ec]; exact hs) | (rw [ea]; exact hs) | (rw [dZ]; exact hs) | (rw [dX]; exact hs) | (rw [dW]; exact hs) | (rw [dV]; exact hs) | (rw [cS]; exact hs) | (rw [bV,ct]; exact hs) | (rw [ba,bV,ct]; exact hs) | (rw [cN,dY]; exact hs) | (rw [bQ,ci]; exact hs) | (rw [ba,bQ,ci]; exact hs) | (rw [ba,ba,bQ,ci]; exact hs) | (rw [ba,ba,ba,bQ,ci]; exact hs) | exact hs)).mono (fun e w57 hq=>?_)))
 obtain ⟨rfl,hq57⟩:=hq
 refine ⟨_,rfl,?_⟩
 have H57:=H56.splice [1] [.blk b2 [(str ((fc (g10 s)).2).rest),(vN ((fc (g10 s)).2).f)] 283] [] O O hq57 (am ae aI)
 refine wo (bI (b:=0) O O<|wm O (wF 111 ((fc (g10 s)).1≠0) (fun hb58 hc58=>?_) (fun hb58 hc58=>?_)))
 ·
  refine wN hb58<|wN hb58<|wo (aQ O hb58 O<|wm O<|wN O<|wN O<|wo (aQ O O O<|wm O<|wN O<|wN O<|wN O<|wo (aQ O O O<|wn<|bX O O<|ws<|wo (bP (cs:=[_,_,_,_,_,_]) Fa.I43 Fa.kA O O<|wo (bw (i:=0) H57 O O O O O Fa.I43 (fun w59 H59=>(wa O<|wn<|aC<|aq<|aD (.cell O (bM (vs:=[_,_,_,_,_,_]) (H59.cells (i:=0) O O) A43 O Fa.I43 O) (.tmp O .nil)) ?_)))))))
  have hb:eX s=true:=by (rw [eX,le,hb58])<;>rfl
  rw [(dR hb).1,(dR hb).2]
  exact ⟨.slice none 0 0,.slice none 0 0,.slice none 0 0,rfl,(((H59.sel [] O O).nilRow 207 2).nilRow 203 1).nilRow 116 3⟩
 refine wY hb58 (au O<|wY hb58 (iX O O<|wo (aN O hb58 O<|wm O (wF 115 ((g1 s).1.1≠[65,73,77,49]) (fun hb60 hc60=>?_) (fun hb60 hc60=>?_)))))
 ·
  refine wN hb60<|wN hb60<|wo (aQ O hb60 O<|wm O<|wN O<|wN O<|wN O<|wo (aQ O O O<|wn<|bX O O<|ws<|wo (bP (cs:=[_,_,_,_,_,_]) Fa.I43 Fa.kA O O<|wo (bw (i:=0) H57 O O O O O Fa.I43 (fun w61 H61=>(wa O<|wn<|aC<|aq<|aD (.cell O (bM (vs:=[_,_,_,_,_,_]) (H61.cells (i:=0) O O) A43 O Fa.I43 O) (.tmp O .nil)) ?_))))))
  have hb:eX s=true:=by (rw [eX,le,hb58,hb60])<;>rfl
  rw [(dR hb).1,(dR hb).2]
  exact ⟨.slice none 0 0,.slice none 0 0,.slice none 0 0,rfl,(((H61.sel [] O O).nilRow 207 2).nilRow 203 1).nilRow 116 3⟩
 refine wY hb60 (au O<|wY hb60 (cI (b:=1) O O<|wo (aN O hb60 O<|wm O (wF 119 ((g7 s).1.1>(1:UInt32)) (fun hb62 hc62=>?_) (fun hb62 hc62=>?_)))))
 ·
  refine wN hb62<|wN hb62<|wN hb62<|wo (aQ O hb62 O<|wn<|bX O O<|ws<|wo (bP (cs:=[_,_,_,_,_,_]) Fa.I43 Fa.kA O O<|wo (bw (i:=0) H57 O O O O O Fa.I43 (fun w63 H63=>(wa O<|wn<|aC<|aq<|aD (.cell O (bM (vs:=[_,_,_,_,_,_]) (H63.cells (i:=0) O O) A43 O Fa.I43 O) (.tmp O .nil)) ?_)))))
  have hb:eX s=true:=by (rw [eX,le,hb58,hb60,hb62])<;>rfl
  rw [(dR hb).1,(dR hb).2]
  exact ⟨.slice none 0 0,.slice none 0 0,.slice none 0 0,rfl,(((H63.sel [] O O).nilRow 207 2).nilRow 203 1).nilRow 116 3⟩
 refine wY hb62 (aM (vs:=[_,_,_,_,_,_]) O (H57.cells (i:=2) O O) A43 O Fa.I43 O<|wY hb62 (cq H57 (Kd 34) O (qS ((g2 s).1.1) _ _ _ (gX s) (gP s) (decide ((g7 s).1.1=(1:UInt32))) ((g8 s).1.1) (gS s) _ (Arr.lenF ((H57.arrR (i:=3) O)) (fun _=>rfl) (by decide)) (Arr.lenM (H57.arrR (i:=4) O)) (Arr.lenF ((H57.arrR (i:=5) O)) (fun _=>rfl) (by decide)) (by have:=tA s; have:=(g3 s).1.1.toNat_lt; omega) (by have:=tC s; have:=(g5 s).1.1.toNat_lt; omega) (by have:=lS s; have:=(g9 s).1.1.toNat_lt; omega) (Hq s)) fun w64 H64=>?_))
 refine wY hb62 (cQ O<|wo (aN O hb62 O<|wn (wC (!(fo ((g2 s).1.1) (gX s) (gP s) ((g8 s).1.1) (gS s))) (fun hb65=>?_) (fun hb65=>?_))))
 ·
  have hn65:=(Bool.not_eq_true' _).mp hb65
  refine ws<|wo (bP (cs:=[_,_,_,_,_,_]) Fa.I43 Fa.kA O O<|wo (bw (i:=0) H64 O O O O O Fa.I43 (fun w66 H66=>(wa O<|wn<|aC<|aq<|aD (.cell O (bM (vs:=[_,_,_,_,_,_]) (H66.cells (i:=0) O O) A43 O Fa.I43 O) (.tmp O .nil)) ?_))))
  have hb:eX s=true:=by (rw [eX,le,hb58,hb60,hb62,hn65])<;>rfl
  rw [(dR hb).1,(dR hb).2]
  exact ⟨.slice none 0 0,.slice none 0 0,.slice none 0 0,rfl,(((H66.sel [] O O).nilRow 207 2).nilRow 203 1).nilRow 116 3⟩
 have hn65:=(Bool.not_eq_false' _).mp hb65
 refine aA<|ao<|ws<|wo (aM (vs:=[_,_,_,_,_,_]) O (H64.cells (i:=2) O O) A43 O Fa.I43 O<|wo (bw (i:=0) H64 O O O O (bk O (bk (bS (H64.arrR (i:=3) O)) (bk (bS (H64.arrR (i:=4) O)) (bk O (bk O (bk (bS (H64.arrR (i:=5) O)) er)))))) Fa.I43 (fun w67 H67=>(wa O<|wn<|aC<|aD (.cell O (bM (vs:=[_,_,_,_,_,_]) (H67.cells (i:=0) O O) A43 O Fa.I43 O) (.tmp O .nil)) ?_))))
 have hb:eX s=false:=by (rw [eX,le,hb58,hb60,hb62,hn65])<;>rfl
 exact tw (x:=x) (y:=y) (z:=z) hb O (H67.sel [3,4,5] O O)
theorem zd (key s:List UInt8) (w:World) (hk:key.length<2^40) (hs:s.length<2^38) :
  Calls Kf 97 #[(str key),(str s)] w (fun e w'=> ∃v u q,e=.returned (.tuple #[.agg #[aa (opI key s).pg,v,u,.bool (opI key s).c,aa (opI key s).en,q],vN (opC key s)])∧Ke [] w w' [.row v 207 2 (opI key s).xs.length (Kh xtc (opI key s).xs),.row u 203 1 (opI key s).ps.length (Kg bA (opI key s).ps),.row q 116 3 (opI key s).sg.length (Kh sgc (opI key s).sg)]):=by
 refine enter Tryz.func97 O O ?_
 have H0:=aL w []
 refine ws<|wo (bt H0 Fa.I43 (fun b1 w1 H1=>(wa O<|wn<|ws<|wm O<|wo (bH A9 O<|wo (eq (a:=((s.length:Nat):Int)) (b:=((32:Nat):Int)) O O (by omega)<|wa O<|wn<|ap<|ws<|wm O<|wo (eR (b:=(0:Int)) O O<|wn (wE ((((s.length:Nat):Int)-((32:Nat):Int))<(0:Int)) (fun hb2 hc2=>?_) (fun hb2 hc2=>?_))))))))
 ·
  refine ws<|wo (bP (cs:=[_,_,_,_,_,_]) Fa.I43 Fa.kA O O<|wo (bw (i:=0) H1 O O O O O Fa.I43 (fun w3 H3=>(wa O<|wn<|aC<|aq<|aD (.cell O (bM (vs:=[_,_,_,_,_,_]) (H3.cells (i:=0) O O) A43 O Fa.I43 O) (.tmp O .nil)) ?_))))
  have hb:=lC (key:=key) (s:=s) (by omega)
  rw [hb.1,hb.2]
  exact ⟨.slice none 0 0,.slice none 0 0,.slice none 0 0,rfl,(((H3.sel [] O O).nilRow 207 2).nilRow 203 1).nilRow 116 3⟩
 have hln:¬s.length<32:=by omega
 rw [show ((s.length:Nat):Int)-((32:Nat):Int)=((s.length-32:Nat):Int) by omega]
 refine aA<|ao<|ap<|ap<|bn 9 Fa.M H1 (mh O<|mh O<|mh O<|oh (fun w1 H1=>cT A9 O O (by omega) zr)<|oh (fun w1 H1=>az (Kd 118) O ((Dr key (s.take (s.length-32)) _ hk (by rw [List.length_take]; omega)).mono (fun e w2 hq=>⟨_,hq.1,rfl,hq.2⟩)))<|mh O<|mh O<|oh (fun w1 H1=>jj A9 O O (by omega) zr)<|oh (fun w1 H1=>iX O O zr)  bD) (by kernel_rfl) ?_
 intro β5 w5 H5
 refine wn (wE ((mac key (s.take (s.length-32)))≠(s.drop (s.length-32))) (fun hb6 hc6=>?_) (fun hb6 hc6=>?_))
 ·
  refine ws<|wo (bP (cs:=[_,_,_,_,_,_]) Fa.I43 Fa.kA O O<|wo (bw (i:=0) H5 O O O O O Fa.I43 (fun w7 H7=>(wa O<|wn<|aC<|aq<|aD (.cell O (bM (vs:=[_,_,_,_,_,_]) (H7.cells (i:=0) O O) A43 O Fa.I43 O) (.tmp O .nil)) ?_))))
  have hb:=pH (key:=key) hln (Ne.symm hc6)
  rw [hb.1,hb.2]
  exact ⟨.slice none 0 0,.slice none 0 0,.slice none 0 0,rfl,(((H7.sel [] O O).nilRow 207 2).nilRow 203 1).nilRow 116 3⟩
 refine aA<|ao<|ws<|wm O<|wm O<|wo (cT A9 O O (by omega)<|wo (az (Kd 146) O ((Dt (s.take (s.length-32)) _ (by rw [List.length_take]; omega)).mono (fun e w8 hq=>?_))))
 obtain ⟨v8,u8,q8,rfl,hq8⟩:=hq
 refine ⟨_,rfl,?_⟩
 have H8:=H5.splice [] [] [.row v8 207 2 (imG (s.take (s.length-32))).xs.length (Kh xtc (imG (s.take (s.length-32))).xs),.row u8 203 1 (imG (s.take (s.length-32))).ps.length (Kg bA (imG (s.take (s.length-32))).ps),.row q8 116 3 (imG (s.take (s.length-32))).sg.length (Kh sgc (imG (s.take (s.length-32))).sg)] O O hq8 (am ae (am ae (am ae aI)))
 refine we O O<|we O O<|wo (bw (i:=0) H8 O O O O (bk O (bk (bS (H8.arrR (i:=1) O)) (bk (bS (H8.arrR (i:=2) O)) (bk O (bk O (bk (bS (H8.arrR (i:=3) O)) er)))))) Fa.I43 (fun w9 H9=>(wa O<|wn<|aC<|aD (.cell O (bM (vs:=[_,_,_,_,_,_]) (H9.cells (i:=0) O O) A43 O Fa.I43 O) (.tmp O .nil)) ?_)))
 have hb:=nB (key:=key) hln (Decidable.not_not.mp hc6).symm
 rw [hb.1,hb.2]
 exact ⟨v8,u8,q8,rfl,H9.sel [1,2,3] O O⟩
theorem oe  (w:World) :
  Calls Kf 73 #[] w (fun e w'=> ∃s mb,e=.returned (ptr s 0)∧Ke [] w w' [.blk s [(.map (some mb))] 165,.obj mb (mP .u32 (Kg Pg.me []) 0),Ent.bs 211 Pg.cells Pg.b []]):=by
 refine enter Tryz.func73 O O ?_
 have H0:=aL w []
 exact ws<|wa O<|wn<|ws<|wo (kI (kk:=.u32) H0 (fun b1 w1 H1=>(wo (bP (cs:=[_]) Fa.Is Fa.HG O O<|wo (bK H1 O O (fun b2 w2 H2=>(wa O<|wn<|aC<|aD (.tmp O .nil) (⟨_,_,rfl,((H2.bsNil 211 Pg.cells Pg.b).sel [1,0,2] O O)⟩))))))))
theorem Dc (a:UInt32) (w:World) :
  Calls Kf 165 #[(aa a)] w (fun e w'=>e=.returned (.bool (th a))∧Fr [] w w'):=by
 refine enter Tryz.func165 O O ?_
 have H0:=aL w []
 refine ws<|wa O<|wn<|ws<|wm O<|wo (eQ (b:=256) O O (by decide)<|wo (eu (b:=0) O O<|wm O (wF 6 ((a%(256:UInt32))=(0:UInt32)) (fun hb1 hc1=>?_) (fun hb1 hc1=>?_))))
 ·
  exact wY hb1 (au O<|wY hb1 (dM (b:=1048576) O O<|wY hb1 (cQ O<|wo (aQ O hb1 O<|wa O<|wn<|aC<|aD (.tmp O .nil) (⟨by rw [th,hb1]; rfl,H0.fr⟩)))))
 exact wN hb1<|wN hb1<|wN hb1<|wo (aN O hb1 O<|wa O<|wn<|aC<|aD (.tmp O .nil) (⟨by rw [th,hb1]; rfl,H0.fr⟩))
theorem Hr (s mb c:Nat) (ps:List Pg) (a:UInt64) (w:World) (hS:cellsAt w s [(.map (some mb))]) (hM:w.heap[mb]?=some (mP .u32 (Kg Pg.me ps) c)) (_hME:MEok (Kg Pg.me ps) c) (no: ∀g∈ps,g.a≠pgA (Kl a.toNat)) (hb:¬a≥1048576) :
  Calls Kf 124 #[(ptr s 0),(cB a)] w (fun e w'=>e=.returned (.pointer none)∧Fr [] w w'):=by
 refine enter Tryz.func124 O O ?_
 have H0:=(((aL w []).oldB hS).mpOld hM)
 refine ws<|wa O<|wn<|ap<|ws<|wm O<|wo (fk (b:=1048576) O O<|wn<|bF O (decide_eq_false hb)<|aA<|ao<|ws<|wm O<|wo (aJ O<|wo (ab O Fa.mi<|wo (aj O (H0.cellO (i:=0) O O) A162 O<|wm O<|wo (ek (hs:=A154) (hd:=A22) O<|wo (rh (b:=256) O O (by decide)<|wo (kl (b:=256) O O<|wo (gH (H0.mpO (i:=1) O) (fun g hg h=>no g hg (by rw [show (Pg.me g).k=g.a.toNat from rfl] at h; exact UInt32.toNat_inj.1 (Int.ofNat.inj h))) A162 A22 Fa.HY O O ?_))))))))
 exact wa O<|wn<|aC<|aD (.tmp O .nil) (⟨rfl,H0.fr⟩)
theorem nP (s mb c:Nat) (ps:List Pg) (a:UInt64) (g:Pg) (w:World) (hS:cellsAt w s [(.map (some mb))]) (hM:w.heap[mb]?=some (mP .u32 (Kg Pg.me ps) c)) (hME:MEok (Kg Pg.me ps) c) (hg:g∈ps) (hge:g.a=pgA (Kl a.toNat)) (hb:¬a≥1048576) :
  Calls Kf 124 #[(ptr s 0),(cB a)] w (fun e w'=>e=.returned (ptr g.b 0)∧Fr [] w w'):=by
 refine enter Tryz.func124 O O ?_
 have H0:=(((aL w []).oldB hS).mpOld hM)
 refine ws<|wa O<|wn<|ap<|ws<|wm O<|wo (fk (b:=1048576) O O<|wn<|bF O (decide_eq_false hb)<|aA<|ao<|ws<|wm O<|wo (aJ O<|wo (ab O Fa.mi<|wo (aj O (H0.cellO (i:=0) O O) A162 O<|wm O<|wo (ek (hs:=A154) (hd:=A22) O<|wo (rh (b:=256) O O (by decide)<|wo (kl (b:=256) O O<|wo (fO (g:=g) (H0.mpO (i:=1) O) hME hg (by rw [show (Pg.me g).k=g.a.toNat from rfl,hge]; rfl) A162 A22 O O ?_))))))))
 exact wa O<|wn<|aC<|aD (.tmp O .nil) (⟨rfl,H0.fr⟩)
theorem vF (s mb c:Nat) (ps:List Pg) (a:UInt32) (n:Nat) (w:World) (hS:cellsAt w s [(.map (some mb))]) (hM:w.heap[mb]?=some (mP .u32 (Kg Pg.me ps) c)) (hP:BsOK 211 Pg.cells Pg.b ps w) (hME:MEok (Kg Pg.me ps) c) (hin:inS a n) (hall: ∀k,k<n→∃g∈ps,g.a=pgA (a+Kl k)) :
  Calls Kf 167 #[(ptr s 0),(aa a),(vN n),(vU8 0)] w (fun e w'=>e=.returned (vN 0)∧Fr [] w w'):=by
 refine enter Tryz.func167 O O ?_
 have H0:=((((aL w []).oldB hS).mpOld hM).bsOld hP)
 have hnn:n≤1048576:=Nat.le_trans (Nat.le_add_left _ _) hin
 refine ws<|wa O<|wn<|ap<|ws<|wm O<|wm O<|wn<|aB<|bi (α:=Nat) (fun k=>[(0,(ptr s 0)),(1,(aa a)),(2,(vN n)),(3,(vU8 0)),(12,(vN n)),(13,(vN k))]) (fun k w'=>(k≤n)∧Ke [] w w' [Ent.bo s [(.map (some mb))],Ent.mo .u32 mb (Kg Pg.me ps) c,Ent.bsO 211 Pg.cells Pg.b ps]) (fun k=>n-k) 0 ⟨(Kk _),H0⟩ ⟨rfl,rfl,rfl,rfl,rfl,rfl,trivial⟩ ?_
 rintro k w1 ⟨hk1,H1⟩
 show WC _ _ _ _ _ [(0,(ptr s 0)),(1,(aa a)),(2,(vN n)),(3,(vU8 0)),(12,(vN n)),(13,(vN k))] _
 refine ws<|wo (bm O O<|wn<|ap (wE (k<n) (fun hb2 hc2=>?_) (fun hb2 hc2=>?_)))
 ·
  refine aA<|ao<|ap<|aB<|ws ?_
  have hk:k<n:=dT hb2
  obtain ⟨gk,hgk,hge⟩:=hall k hk
  rw [←Gg hin hk] at hge
  refine wm O<|wa O<|wn<|ws<|wm O<|wo (cu (hs:=A22) (hd:=A154) O<|wm O<|wo (dq (hs:=A3) (hd:=A154) O<|wo (eH O O<|wa O<|wn<|ws<|wm O<|wm O ?_)))
  have H3:=(H1.bsView (i:=2) (a:=gk) O hgk)
  exact wo (cq H3 (Kd 124) O (nP s mb c ps ((Kn a.toNat)+(Kn k)) gk _ (H3.cellsAtO (i:=0) O) (H3.mpO (i:=1) O) hME hgk hge (EY hin hk)) fun w4 H4=>(wa O<|wn<|ws<|wm O<|wo (bG Fa.tY O O<|wm O<|wY O (au O<|wY O (aJ O<|wY O (ab O Fa.ul<|wY O (aj O (H4.cellO (i:=3) O O) A5 O<|wY O (au O<|wY O (lE (b:=0) O O<|wY O (au O<|wY O (jK (b:=0) O O<|wo (aN O O O<|wn<|bF O (by rw [UInt8.and_zero]; rfl)<|aA<|aE<|ao<|aG<|wo (aU (b:=1) O O (by omega)<|wm O<|aY<|aX (k+1) ⟨(by omega),(H4.take 3)⟩ ⟨rfl,rfl,rfl,rfl,rfl,rfl,trivial⟩ (by omega))))))))))))))
 exact bc<|an<|an<|aS<|ao<|ws<|wa O<|wn<|aC<|aD (.tmp O .nil) (⟨rfl,H1.fr⟩)
theorem Dh (s mb c:Nat) (ps:List Pg) (g:Pg) (w:World) (hS:cellsAt w s [(.map (some mb))]) (hM:w.heap[mb]?=some (mP .u32 (Kg Pg.me ps) c)) (hP:BsOK 211 Pg.cells Pg.b ps w) (hME:MEok (Kg Pg.me ps) c) (hg:g∈ps) (hq:g.a.toNat%256=0∧inS g.a 256∧g.bs.length=256) :
  Calls Kf 125 #[(ptr s 0),(aa g.a),(vN 256),(vU8 0)] w (fun e w'=>e=.returned (.tuple #[str g.bs,vN 0])∧Fr [] w w'):=by
 refine enter Tryz.func125 O O ?_
 have H0:=(((((aL w []).oldB hS).mpOld hM).bsOld hP).bsView (i:=2) (a:=g) O hg)
 obtain ⟨h0,hin,hl⟩:=hq
 refine ws<|wa O<|wa O<|wn<|ap<|aB<|ws<|wm O<|wo (bG Fa.pf O O<|wa O<|wn<|bF O O<|ws<|wm O<|wo (bm (b:=0) O O<|wm O<|bL O O O (by decide) O (au O<|bL O O O (by decide) O (cm (b:=1048576) O O<|wo (aN O (by decide) O<|wa O<|wn<|bF O (by decide)<|aA<|aE<|ao<|ws<|wm O<|wo (fR O O<|wa O<|wn<|ap<|ws<|wm O<|wm O<|wm O<|wm O<|wo (gh (f:=167) O (Kd 167) O ((vF s mb c ps g.a 256 _ (H0.cellsAtO (i:=0) O) (H0.mpO (i:=1) O) (H0.bsR (i:=2) O) hME hin (fun k hk=>⟨g,hg,(xE h0 hin hk).symm⟩)).mono (fun e w1 hq=>?_)))))))))
 obtain ⟨rfl,hf1⟩:=hq
 refine ⟨_,rfl,?_⟩
 have H1:=H0.fr' hf1
 refine wa O<|wn<|ws<|wm O<|wo (bI (b:=0) O O<|wn<|bF O (by decide)<|aA<|ao<|ws<|wm O<|wo (dj (f:=vU8) (c:=0) H1 A114 Fa.I5 O O (by omega) (by omega) (fun b2 w2 H2=>(wa O<|wn<|ap<|ws<|wm O<|wo (bu A114 O (H2.arrR (i:=4) O)<|wm O<|wn<|aB<|bi (α:=Nat × List UInt8) (fun (k,r)=>[(0,(ptr s 0)),(1,(aa g.a)),(2,(vN 256)),(3,(vU8 0)),(12,(.slice (some ⟨b2,0,none⟩) 256 256)),(38,(vN 256)),(39,(vN k))]) (fun (k,r) w'=>(k≤256∧r.length=256∧∀j,j<k→r.getD j 0=g.bs.getD j 0)∧Ke [] w w' [Ent.bo s [(.map (some mb))],Ent.mo .u32 mb (Kg Pg.me ps) c,Ent.bsO 211 Pg.cells Pg.b ps,Ent.bo g.b ([(vU8 g.pm)]++(Kg vU8 g.bs)),.row (.slice (some ⟨b2,0,none⟩) 256 256) 5 1 256 (Kg vU8 r)]) (fun (k,r)=>256-k) (0,Ki 256 0) ⟨⟨Kk _,List.length_replicate,fun j h=>absurd h (Nat.not_lt_zero _)⟩,H2⟩ ⟨rfl,rfl,rfl,rfl,rfl,rfl,rfl,trivial⟩ ?_)))))
 rintro ⟨k,r⟩ w3 ⟨⟨hk1,hr,hj⟩,H3⟩
 show WC _ _ _ _ _ [(0,(ptr s 0)),(1,(aa g.a)),(2,(vN 256)),(3,(vU8 0)),(12,(.slice (some ⟨b2,0,none⟩) 256 256)),(38,(vN 256)),(39,(vN k))] _
 refine ws<|wo (bm O O<|wn<|ap (wE (k<256) (fun hb4 hc4=>?_) (fun hb4 hc4=>?_)))
 ·
  refine aA<|ao<|ap<|aB<|ws<|wm O<|wa O<|wn<|ws<|wm O<|wm O<|wo (dB (hs:=A3) (hd:=A22) O<|wo (bW O O<|wa O<|wn<|aG<|wm O<|wm O<|wm O<|wm O<|wo (cu (hs:=A22) (hd:=A154) O ?_)))
  have hk:k<256:=dT hb4
  refine wo (cq H3 (Kd 124) O (nP s mb c ps (Kn (g.a+(Kl k)).toNat) g _ (H3.cellsAtO (i:=0) O) (H3.mpO (i:=1) O) hME hg (by rw [pT]; exact (xE h0 hin hk).symm) (rK hin hk)) fun w5 H5=>?_)
  exact wm O<|wo (eQ (b:=256) O O (by decide)<|wo (aJ O<|wo (ab O Fa.uk<|wo (br A209 Fa.I5 O O (by rw [ta h0 hin hk]; omega)<|wo (aj O (H5.cellO (i:=3) O (EA _ g.bs 1 ((g.a+(Kl k))%(256:UInt32)).toNat 0 (by rw [ta h0 hin hk,hl]; exact hk))) A5 O<|wo (aF A114 Fa.I5 O (H5.arrR (i:=4) O) O (by omega)<|wo (bN (i:=4) (f:=vU8) (l:=r) (c:=(g.bs.getD ((g.a+(Kl k))%(256:UInt32)).toNat 0)) H5 O O O hk O Fa.I5 (fun w6 H6=>(aY<|aE<|ao<|aG<|wo (aU (b:=1) O O (by omega)<|wm O<|aY<|aX (k+1,(r.set k (g.bs.getD ((g.a+(Kl k))%(256:UInt32)).toNat 0))) ⟨⟨by omega,by rw [List.length_set]; exact hr,Af hr hk hj (ta h0 hin hk)⟩,H6⟩ ⟨rfl,rfl,rfl,rfl,rfl,rfl,rfl,trivial⟩ (by show 256-(k+1)<256-k; omega)))))))))))
 exact bc<|an<|an<|aS<|ao<|ws<|wm O<|wo (cD (l:=r) A114 A5 A9 O (H3.arrR (i:=4) O) O<|wa O<|wa O<|wn<|aC<|aD (.tmp O (.tmp O .nil)) (⟨by rw [mQ hr hl (fun j h=>hj j (by omega))]; rfl,H3.fr⟩))
theorem Eg (s mb c:Nat) (ps:List Pg) (g:Pg) (w:World) (hS:cellsAt w s [(.map (some mb))]) (hM:w.heap[mb]?=some (mP .u32 (Kg Pg.me ps) c)) (hP:BsOK 211 Pg.cells Pg.b ps w) (hME:MEok (Kg Pg.me ps) c) (hg:g∈ps) (hq:g.a.toNat%256=0∧inS g.a 256∧g.bs.length=256) :
  Calls Kf 82 #[(ptr s 0),(aa g.a),(vN 256)] w (fun e w'=>e=.returned (.tuple #[str g.bs,vN 0])∧Fr [] w w'):=by
 refine enter Tryz.func82 O O ?_
 have H0:=(((((aL w []).oldB hS).mpOld hM).bsOld hP).bsView (i:=2) (a:=g) O hg)
 exact ws<|wa O<|wa O<|wn<|ws<|wm O<|wm O<|wm O<|wo (cq H0 (Kd 125) O (Dh s mb c ps g _ (H0.cellsAtO (i:=0) O) (H0.mpO (i:=1) O) (H0.bsR (i:=2) O) hME hg hq) fun w1 H1=>(we O O<|we O O<|wa O<|wa O<|wn<|aC<|aD (.tmp O (.tmp O .nil)) (⟨rfl,H1.fr⟩)))
theorem AJ (s mb c:Nat) (ps:List Pg) (g:Pg) (w:World) (hS:cellsAt w s [(.map (some mb))]) (hM:w.heap[mb]?=some (mP .u32 (Kg Pg.me ps) c)) (hP:BsOK 211 Pg.cells Pg.b ps w) (hME:MEok (Kg Pg.me ps) c) (hg:g∈ps) (hq:g.a.toNat%256=0∧inS g.a 256∧g.bs.length=256) :
  Calls Kf 81 #[(ptr s 0),(aa g.a)] w (fun e w'=>e=.returned (.tuple #[vU8 g.pm,.bool true])∧Fr [] w w'):=by
 refine enter Tryz.func81 O O ?_
 have H0:=(((((aL w []).oldB hS).mpOld hM).bsOld hP).bsView (i:=2) (a:=g) O hg)
 obtain ⟨h0,hin,hl⟩:=hq
 exact ws<|wa O<|wa O<|wn<|ap<|ws<|wm O<|wo (bG Fa.pf O O<|wn<|bF O O<|aA<|ao<|ap<|ws<|wm O<|wm O<|wo (cu (hs:=A22) (hd:=A154) O<|wo (cq H0 (Kd 124) O (nP s mb c ps (Kn g.a.toNat) g _ (H0.cellsAtO (i:=0) O) (H0.mpO (i:=1) O) hME hg (by rw [pT]; exact sQ h0) (Ci hin)) fun w1 H1=>(wa O<|wn<|ws<|wm O<|wo (fy Fa.tY O O<|wn<|bX O O<|ws<|wm O<|wo (aJ O<|wo (ab O Fa.ul<|wo (aj O (H1.cellO (i:=3) O O) A5 O<|wa O<|wa O<|wn<|aC<|aq<|aD (.tmp O (.tmp O .nil)) (⟨rfl,H1.fr⟩)))))))))
theorem Da (s mb c:Nat) (ps:List Pg) (a:UInt32) (x:List UInt8) (T:List Nat) (w:World) (H:Ke T w w [.blk s [(.map (some mb))] 165,.obj mb (mP .u32 (Kg Pg.me ps) c),Ent.bs 211 Pg.cells Pg.b ps]) (hME:MEok (Kg Pg.me ps) c) (hin:inS a x.length) (hall: ∀k,k<x.length→∃g∈ps,g.a=pgA (a+Kl k)) (hlen: ∀g∈ps,g.bs.length=256) :
  Calls Kf 166 #[(ptr s 0),(aa a),(str x),(vU8 0)] w (fun e w'=>e=.returned (vN 0)∧Ke T w w' [.blk s [(.map (some mb))] 165,.obj mb (mP .u32 (Kg Pg.me (fp ps a x x.length)) c),Ent.bs 211 Pg.cells Pg.b (fp ps a x x.length)]):=by
 refine enter Tryz.func166 O O ?_
 have hnn:x.length≤1048576:=Nat.le_trans (Nat.le_add_left _ _) hin
 refine ws<|wa O<|wn<|ap<|ws<|wm O<|wm O<|wm O<|wo (bH A9 O<|wm O<|wo (az (Kd 167) O ((vF s mb c ps a x.length _ (H.cellsAt (i:=0) O) (H.mp (i:=1) O) (H.bsG (i:=2) O) hME hin hall).mono (fun e w1 hq=>?_))))
 obtain ⟨rfl,hf1⟩:=hq
 refine ⟨_,rfl,?_⟩
 have H1:=H.fr' hf1
 refine wa O<|wn<|ws<|wm O<|wo (bI (b:=0) O O<|wn<|bF O (by decide)<|aA<|ao<|ap<|ws<|wm O<|wo (kG H1 A9 A5 A114 O (by omega) (fun v2 w2 H2=>(wo (bu A114 O (H2.arrR (i:=3) O)<|wm O<|wn<|aB<|bi (α:=Nat) (fun k=>[(0,(ptr s 0)),(1,(aa a)),(3,(vU8 0)),(24,v2),(25,(vN x.length)),(26,(vN k))]) (fun k w'=>(k≤x.length)∧Ke T w w' [.blk s [(.map (some mb))] 165,.obj mb (mP .u32 (Kg Pg.me (fp ps a x k)) c),Ent.bs 211 Pg.cells Pg.b (fp ps a x k),.row v2 5 1 x.length (Kg vU8 x)]) (fun k=>x.length-k) 0 ⟨(Kk _),H2⟩ ⟨rfl,rfl,rfl,rfl,rfl,rfl,trivial⟩ ?_)))))
 rintro k w3 ⟨hk1,H3⟩
 show WC _ _ _ _ _ [(0,(ptr s 0)),(1,(aa a)),(3,(vU8 0)),(24,v2),(25,(vN x.length)),(26,(vN k))] _
 refine ws<|wo (bm O O<|wn<|ap (wE (k<x.length) (fun hb4 hc4=>?_) (fun hb4 hc4=>?_)))
 ·
  refine aA<|ao<|ap<|aB<|ws<|wm O<|wo (aF A114 Fa.I5 O (H3.arrR (i:=3) O) O (by omega)<|wo (aj O ((H3.arrR (i:=3) O).at (aR vU8 0 (aV (H3.arrR (i:=3) O) (by omega)))) A5 O<|wa O<|wa O<|wn<|ws<|wm O<|wm O<|wo (dB (hs:=A3) (hd:=A22) O<|wo (bW O O<|wa O<|wn<|ws<|wm O<|wm O ?_))))
  have hk:k<x.length:=dT hb4
  obtain ⟨gk,hgk,hgq⟩:=Bb (a:=a) (s:=x) (k:=k) (hall k hk)
  have hgl:=sM (a:=a) (s:=x) hlen k gk hgk
  obtain ⟨l1,l2,e8⟩:=List.append_of_mem hgk
  have H5:Ke T w w3 [.blk s [(.map (some mb))] 165,.obj mb (mP .u32 (Kg Pg.me (fp ps a x k)) c),Ent.bs 211 Pg.cells Pg.b (l1++l2),.row v2 5 1 x.length (Kg vU8 x),.blk gk.b ([(vU8 gk.pm)]++(Kg vU8 gk.bs)) 211]:=H3.focus (i:=2) (l1:=l1) (l2:=l2) (a:=gk) (f:=Pg.cells) (bl:=Pg.b) (congrArg (fun z=>some (Ent.bs 211 Pg.cells Pg.b z)) e8)
  refine wo (cu (hs:=A22) (hd:=A154) O<|wo (cq H5 (Kd 124) O (nP s mb c (fp ps a x k) (Kn (a+(Kl k)).toNat) gk _ (H5.cellsAt (i:=0) O) (H5.mp (i:=1) O) (by rw [lc]; exact hME) hgk (by rw [pT]; exact hgq) (rK hin hk)) fun w6 H6=>(wa O<|wn<|ws<|wm O<|wo (fy Fa.tY O O<|wn<|bX O O<|aG<|wm O<|wm O<|wo (eQ (b:=256) O O (by decide)<|wm O<|wo (aJ O<|wo (ab O Fa.uk<|wo (br A209 Fa.I5 O O (by rw [oA]; exact Nat.mod_lt _ (by decide)) ?_))))))))
  refine wo (bC (i:=4) H6 O O O (by have h9:=Nat.mod_lt (a+Kl k).toNat (show 0<256 by decide); rw [←oA] at h9; rw [Nat.blt_eq]; simp [hgl]; omega) O Fa.I5 (fun w7 H7q=>?_))
  have H7:Ke T w w7 [.blk s [(.map (some mb))] 165,.obj mb (mP .u32 (Kg Pg.me (fp ps a x k)) c),Ent.bs 211 Pg.cells Pg.b (l1++l2),.row v2 5 1 x.length (Kg vU8 x),.blk gk.b ([(vU8 gk.pm)]++(Kg vU8 (gk.bs.set ((a+(Kl k))%(256:UInt32)).toNat (x.getD k 0)))) 211]:=Own.blkEq (i:=4) H7q O (Di _ gk.bs 1 ((a+(Kl k))%(256:UInt32)).toNat (x.getD k 0))
  refine aY<|aE<|ao<|aG<|wo (aU (b:=1) O O (by omega)<|wm O<|aY ?_)
  have hf9:=H7.fold (i:=2) (j:=4) (a:={ gk with bs:=(gk.bs.set ((a+(Kl k))%(256:UInt32)).toNat (x.getD k 0)) }) (f:=Pg.cells) (bl:=Pg.b) O O O O O
  have e9:l1++ { gk with bs:=(gk.bs.set ((a+(Kl k))%(256:UInt32)).toNat (x.getD k 0)) }::l2=fp ps a x (k+1):=by
   rw [fp,e8]; exact (Be (by rw [←e8,sN]; exact FQ hME.kn) hgq).symm
  rw [e9,show Kg Pg.me (fp ps a x k)=Kg Pg.me (fp ps a x (k+1)) from by rw [lc,lc]] at hf9
  exact aX (k+1) ⟨(by omega),(hf9.sel [0,1,2,3] O O)⟩ ⟨rfl,rfl,rfl,rfl,rfl,rfl,trivial⟩ (by omega)
 refine bc<|an<|an<|aS<|ao<|ws<|wa O<|wn<|aC<|aD (.tmp O .nil) ?_
 obtain rfl:k=x.length:=by omega
 exact ⟨rfl,H3.sel [0,1,2] O O⟩
theorem Fo (s mb c:Nat) (ps:List Pg) (a:UInt32) (x:List UInt8) (T:List Nat) (w:World) (H:Ke T w w [.blk s [(.map (some mb))] 165,.obj mb (mP .u32 (Kg Pg.me ps) c),Ent.bs 211 Pg.cells Pg.b ps]) (hME:MEok (Kg Pg.me ps) c) (hin:inS a x.length) (hall: ∀k,k<x.length→∃g∈ps,g.a=pgA (a+Kl k)) (hlen: ∀g∈ps,g.bs.length=256) :
  Calls Kf 123 #[(ptr s 0),(aa a),(str x)] w (fun e w'=>e=.returned (vN 0)∧Ke T w w' [.blk s [(.map (some mb))] 165,.obj mb (mP .u32 (Kg Pg.me (fp ps a x x.length)) c),Ent.bs 211 Pg.cells Pg.b (fp ps a x x.length)]):=by
 refine enter Tryz.func123 O O<|ws<|wa O<|wn<|ap<|ws<|wm O<|wo (bG Fa.pf O O<|wn<|bF O O<|aA<|ao<|ws<|wm O<|wm O<|wm O<|wo (az (Kd 166) O ((Da s mb c ps a x _ _ (H.part [0,1,2] O O) hME hin hall hlen).mono (fun e w1 hq=>?_))))
 obtain ⟨rfl,hq1⟩:=hq
 refine ⟨_,rfl,?_⟩
 have H1:Ke T w w1 [.blk s [(.map (some mb))] 165,.obj mb (mP .u32 (Kg Pg.me (fp ps a x x.length)) c),Ent.bs 211 Pg.cells Pg.b (fp ps a x x.length)]:=H.splice [0,1,2] [.blk s [(.map (some mb))] 165,.obj mb (mP .u32 (Kg Pg.me (fp ps a x x.length)) c),Ent.bs 211 Pg.cells Pg.b (fp ps a x x.length)] [] O O hq1 (am ae (am ae (am ae aI)))
 exact wa O<|wn<|aC<|aD (.tmp O .nil) (⟨rfl,H1⟩)
theorem FR (s mb c:Nat) (ps:List Pg) (a:UInt32) (pm:UInt8) (T:List Nat) (w:World) (H:Ke T w w [.blk s [(.map (some mb))] 165,.obj mb (mP .u32 (Kg Pg.me ps) c),Ent.bs 211 Pg.cells Pg.b ps]) (hME:MEok (Kg Pg.me ps) c) (hmay:th a=true) (h0:a.toNat%256=0) (hin:inS a 256) (hpm:¬pm>7) (no: ∀g∈ps,g.a≠a) :
  Calls Kf 122 #[(ptr s 0),(aa a),(vU8 pm)] w (fun e w'=> ∃b,e=.returned (vN 0)∧Ke T w w' [.blk s [(.map (some mb))] 165,.obj mb (mP .u32 (Kg Pg.me (ps++[(Pg.mk a b c pm (Ki 256 0))])) (c+1)),Ent.bs 211 Pg.cells Pg.b (ps++[(Pg.mk a b c pm (Ki 256 0))])]):=by
 refine enter Tryz.func122 O O<|ws<|wa O<|wn<|ap<|aB<|ws<|wm O<|wo (bG Fa.pf O O<|wa O<|wn<|bF O O<|ws<|wm O<|wo (az (Kd 165) O ((Dc a _).mono (fun e w1 hq=>?_))))
 obtain ⟨rfl,hf1⟩:=hq
 refine ⟨_,rfl,?_⟩
 have H1:=H.fr' hf1
 refine wo (cQ O<|wm O<|bL O O O (by rw [hmay]; rfl) O (au O<|bL O O O (by rw [hmay]; rfl) O (Bk (b:=7) O O<|wo (aN O (by rw [hmay]; rfl) O<|wa O<|wn<|bF O (decide_eq_false hpm)<|ws<|wm O<|wm O<|wo (cu (hs:=A22) (hd:=A154) O<|wo (cq H1 (Kd 124) O (Hr s mb c ps (Kn a.toNat) _ (H1.cellsAt (i:=0) O) (H1.mp (i:=1) O) hME (fun g hg=>by rw [pT,←sQ h0]; exact no g hg) (Ci hin)) fun w2 H2=>(wo (fy Fa.tY O O<|wa O<|wn<|bF O O<|aA<|aE<|ao<|ws<|wm O<|wo (aJ O<|wo (ab O Fa.mi<|wo (aj O (H2.cell (i:=0) O O) A162 O<|wm O<|wm O<|wo (bP (cs:=[vU8 pm]++Kg vU8 (Ki 256 0)) Fa.Gj Fa.Cx O O<|wo (bK H2 O O (fun b3 w3 H3=>(wo (qw (i:=1) (k:=a.toNat) H3 O A162 A22 (fun x hx hk=>by obtain ⟨g,hg,rfl⟩:=List.mem_map.1 hx; exact no g hg (UInt32.toNat_inj.1 hk)) O O O (fun w4 H4=>?_)))))))))))))))))
 refine wn<|ws<|wa O<|wn<|aC<|aD (.tmp O .nil) ?_
 have h:=H4
 rw [show Kg Pg.me ps++[ME.mk a.toNat b3 c]=Kg Pg.me (ps++[(Pg.mk a b3 c pm (Ki 256 0))]) from by rw [List.map_append]; rfl] at h
 have h2:=h.foldEnd (i:=2) (j:=3) (f:=Pg.cells) (bl:=Pg.b) (a:=(Pg.mk a b3 c pm (Ki 256 0))) O O O O O
 exact ⟨_,rfl,h2.sel [0,1,2] O O⟩
theorem Ef (s mb c:Nat) (ps:List Pg) (lb:Nat) (pg:UInt32) (ev pv sv:Value) (con:Bool) (en:UInt32) (l:List Pb) (x:Sg) (T:List Nat) (w:World) (H:Ke T w w [.blk s [(.map (some mb))] 165,.obj mb (mP .u32 (Kg Pg.me ps) c),Ent.bs 211 Pg.cells Pg.b ps,Ent.bo lb [(aa pg),ev,pv,(.bool con),(aa en),sv,(ptr s 0)]]) (hR:SpR ps c l) (h:SgOK x) (hlow: ∀g∈ps,g.a.toNat+256≤x.a.toNat) (hlen: ∀g∈ps,g.bs.length=256) :
  Calls Kf 74 #[(ptr lb 0),(.agg #[(aa x.a),(vU8 x.p),(str x.b)])] w (fun e w'=> ∃c' ps',e=.returned (vN 0)∧SpR ps' c' (l++gC x (pgN x))∧Ke T w w' [.blk s [(.map (some mb))] 165,.obj mb (mP .u32 (Kg Pg.me ps') c'),Ent.bs 211 Pg.cells Pg.b ps',Ent.bo lb [(aa pg),ev,pv,(.bool con),(aa en),sv,(ptr s 0)]]):=by
 refine enter Tryz.func74 O O ?_
 have hxn:=h.en
 refine ws<|wo (bK H O O (fun b1 w1 H1=>(wa O<|wn<|ap<|ws<|wa O<|wn<|aB<|bi (α:=Nat × Nat × List Pg) (fun (k,c1,qs)=>[(0,(ptr lb 0)),(3,(ptr b1 0)),(5,(vN (256 * k)))]) (fun (k,c1,qs) w'=>(256 * k<x.b.length+256∧MEok (Kg Pg.me (ps++qs)) c1∧qs.map Pg.bare=iD x k)∧Ke T w w' [.blk s [(.map (some mb))] 165,.obj mb (mP .u32 (Kg Pg.me (ps++qs)) c1),Ent.bs 211 Pg.cells Pg.b (ps++qs),Ent.bo lb [(aa pg),ev,pv,(.bool con),(aa en),sv,(ptr s 0)],.blk b1 [(aa x.a),(vU8 x.p),(str x.b)] 116]) (fun (k,c1,qs)=>x.b.length-256 * k) (0,c,[]) ⟨⟨by omega,by rw [List.append_nil]; exact hR.me,rfl⟩,(by rw [List.append_nil]; exact H1)⟩ ⟨rfl,rfl,rfl,trivial⟩ ?_)))
 rintro ⟨k,c1,qs⟩ w2 ⟨⟨hk0,hME,hq⟩,H2⟩
 show WC _ _ _ _ _ [(0,(ptr lb 0)),(3,(ptr b1 0)),(5,(vN (256 * k)))] _
 refine ap<|ws<|wm O<|wo (ab O Fa.eJ<|wo (aj O (H2.cell (i:=4) O O) A9 O<|wo (bH A9 O<|wo (bm O O<|wn (wE ((256 * k)<x.b.length) (fun hb3 hc3=>?_) (fun hb3 hc3=>?_))))))
 ·
  have hk:256 * k<x.b.length:=dT hb3
  refine aA<|ao<|ap<|aB<|ap<|bn 11 Fa.M H2 (mh O<|oh (fun w1 H1=>aJ O zr)<|oh (fun w1 H1=>ab O Fa.uo zr)<|oh (fun w1 H1=>aj O (H1.cellO (i:=3) O O) A68 O zr)<|oh (fun w1 H1=>ab O Fa.dE zr)<|oh (fun w1 H1=>aj O (H1.cell (i:=4) O O) A22 O zr)<|mh O<|oh (fun w1 H1=>dB (hs:=A3) (hd:=A22) O zr)<|oh (fun w1 H1=>bW O O zr)<|oh (fun w1 H1=>ab O Fa.gB zr)<|oh (fun w1 H1=>aj O (H1.cell (i:=4) O O) A5 O zr)  bD) (by kernel_rfl) ?_
  intro β4 w4 H4
  refine wo (az (Kd 122) O ((FR s mb c1 (ps++qs) (x.a+(Kl (256 * k))) x.p _ _ (H4.part [0,1,2] O O) hME (Ed (h.al_at hk) (h.page hk)) (h.al_at hk) (h.page hk) h.pm7 (uK h hlow hq hk)).mono (fun e w5 hq=>?_)))
  obtain ⟨b5,rfl,hq5⟩:=hq
  refine ⟨_,rfl,?_⟩
  have H5:=H4.splice [0,1,2] [.blk s [(.map (some mb))] 165,.obj mb (mP .u32 (Kg Pg.me (ps++qs++[(Pg.mk (x.a+Kl (256 * k)) b5 c1 x.p (Ki 256 0))])) (c1+1)),Ent.bs 211 Pg.cells Pg.b (ps++qs++[(Pg.mk (x.a+Kl (256 * k)) b5 c1 x.p (Ki 256 0))])] [] O O hq5 (am ae (am ae (am ae aI)))
  refine wa O<|wn<|ws<|wm O<|wo (bI (b:=0) O O<|wn<|bF O (by decide)<|aA<|aE<|ao<|aG<|wm O<|wo (aU (b:=256) O O (by omega)<|wa O<|aY ?_))
  have hn9:=H5
  rw [List.append_assoc] at hn9
  exact aX (k+1,c1+1,qs++[(Pg.mk (x.a+Kl (256 * k)) b5 c1 x.p (Ki 256 0))]) ⟨⟨by rw [Nat.mul_succ]; omega,by rw [←List.append_assoc,List.map_append]; exact hME.add (fun e he hke=>by
    obtain ⟨g,hg,rfl⟩:=List.mem_map.1 he
    exact uK h hlow hq hk g hg (UInt32.toNat_inj.1 hke)),by rw [List.map_append,hq]; rfl⟩,(hn9.take 5)⟩ ⟨rfl,rfl,(by rw [Nat.mul_succ]; rfl),trivial⟩ (by show x.b.length-256 * (k+1)<x.b.length-256 * k; omega)
 have hkn:¬256 * k<x.b.length:=dF hb3
 obtain rfl:k=pgN x:=by rw [pgN]; omega
 refine bc<|an<|an<|aS<|ao<|ap<|bn 8 Fa.M H2 (mh O<|oh (fun w1 H1=>aJ O zr)<|oh (fun w1 H1=>ab O Fa.uo zr)<|oh (fun w1 H1=>aj O (H1.cellO (i:=3) O O) A68 O zr)<|oh (fun w1 H1=>ab O Fa.dE zr)<|oh (fun w1 H1=>aj O (H1.cell (i:=4) O O) A22 O zr)<|oh (fun w1 H1=>ab O Fa.eJ zr)<|oh (fun w1 H1=>aj O (H1.cell (i:=4) O O) A9 O zr)  bD) (by kernel_rfl) ?_
 intro β6 w6 H6
 refine wo (az (Kd 123) O ((Fo s mb c1 (ps++qs) x.a x.b _ _ (H6.part [0,1,2] O O) hME h.inS (fun k hk=>Dk h hq hk) (zq hlen hq)).mono (fun e w7 hq=>?_)))
 obtain ⟨rfl,hq7⟩:=hq
 refine ⟨_,rfl,?_⟩
 have H7:=H6.splice [0,1,2] [.blk s [(.map (some mb))] 165,.obj mb (mP .u32 (Kg Pg.me (fp (ps++qs) x.a x.b x.b.length)) c1),Ent.bs 211 Pg.cells Pg.b (fp (ps++qs) x.a x.b x.b.length)] [] O O hq7 (am ae (am ae (am ae aI)))
 exact wa O<|wn<|aC<|aD (.tmp O .nil) (⟨_,_,rfl,⟨by rw [lc]; exact hME,by rw [AN h hlow hq,hR.bare]⟩,H7.sel [0,1,2,3] O O⟩)
theorem lJ (pg:UInt32) (ev pv sv:Value) (xs:List Xt) (ps:List UInt16) (con:Bool) (en:UInt32) (sg:List Sg) (w:World) (hE:Arr w ev 2 xs.length (Kh xtc xs)) (hP:Arr w pv 1 ps.length (Kg bA ps)) (hS:Arr w sv 3 sg.length (Kh sgc sg)) (hn:xs.length<2^47) (hm:ps.length<2^47) (hk:sg.length<2^47) (hB: ∀x∈sg,x.b.length≤2^47) (h0:imE pg xs ps en sg=0) :
  Calls Kf 32 #[(.agg #[(aa pg),ev,pv,(.bool con),(aa en),sv])] w (fun e w'=> ∃s mb c qs,e=.returned (.tuple #[ptr s 0,vN 0])∧SpR qs c (dD sg sg.length)∧Ke [] w w' [.blk s [(.map (some mb))] 165,.obj mb (mP .u32 (Kg Pg.me qs) c),Ent.bs 211 Pg.cells Pg.b qs]):=by
 refine enter Tryz.func32 O O ?_
 have H0:=aL w []
 refine ws<|wo (bK H0 O O (fun b1 w1 H1=>(wa O<|wa O<|wn<|ap<|ws<|wo (aM (vs:=[_,_,_,_,_,_]) O (H1.cells (i:=0) O O) A43 O Fa.I43 O<|wo (cq H1 (Kd 41) O (kr pg _ _ _ xs ps con en sg _ (H1.arr hE) (H1.arr hP) (H1.arr hS) hn hm hk) fun w2 H2=>(wa O<|wn<|ws<|wm O<|wo (bI (b:=0) O O<|wn<|bF O (by rw [h0]; rfl)<|aA<|ao<|ap<|WC.drawn 5 O Fa.M H2 ?_)))))))
 intro w3 H3
 refine WD.named (fun W hW=>?_)
 let e4:List (Nat × Value)→List (Nat × Value):=fun r=>(0,(.agg #[(aa pg),ev,pv,(.bool con),(aa en),sv]))::(1,(ptr b1 0))::(2,(.pointer none))::(3,(vN 0))::(4,(vN (imE pg xs ps en sg)))::(9,(.agg #[(aa pg),ev,pv,(.bool con),(aa en),sv]))::(10,(vN (imE pg xs ps en sg)))::(11,(vN (imE pg xs ps en sg)))::(12,(.bool (decide ((imE pg xs ps en sg)≠0))))::r
 let Bm:Ent:=.blk b1 [(aa pg),ev,pv,(.bool con),(aa en),sv] 43
 let B0:Ent:=Ent.bs 211 Pg.cells Pg.b []
 have B2: ∀b12 s11 mb11 wS,Ke [] w wS [Bm,.blk s11 [(.map (some mb11))] 165,.obj mb11 (mP .u32 (Kg Pg.me []) 0),B0,.blk b12 [(aa pg),ev,pv,(.bool con),(aa en),sv,(ptr s11 0)] 125]→W 0 (bz 5 31) (e4 [(5,(ptr b12 0))]) wS:=fun b12 s11 mb11 wS HS=>by
  rw [hW]
  refine WD.done (by kernel_rfl)<|ao<|ap<|ws ?_
  have H5:=HS.toBo (i:=4) O 7 O
  refine wm O<|wo (aJ O<|wo (ab O Fa.Gz<|wo (ab O Fa.eA<|wo (aj O (H5.cellO (i:=4) O O) A41 O<|wo (bu A41 O (H5.arr hS)<|wm O<|wn<|aB<|bi (α:=Nat × Nat × List Pg) (fun (k,c,qs)=>[(5,(ptr b12 0)),(22,sv),(23,(vN sg.length)),(24,(vN k))]) (fun (k,c,qs) w'=>(k≤sg.length∧SpR qs c (dD sg k))∧Ke [] w w' [.blk b1 [(aa pg),ev,pv,(.bool con),(aa en),sv] 43,.blk s11 [(.map (some mb11))] 165,.obj mb11 (mP .u32 (Kg Pg.me qs) c),Ent.bs 211 Pg.cells Pg.b qs,Ent.bo b12 [(aa pg),ev,pv,(.bool con),(aa en),sv,(ptr s11 0)]]) (fun (k,c,qs)=>sg.length-k) (0,0,[]) ⟨⟨Kk _,⟨MEok.nil 0,rfl⟩⟩,H5⟩ ⟨rfl,rfl,rfl,rfl,trivial⟩ ?_)))))
  rintro ⟨k,c,qs⟩ w6 ⟨⟨hk1,hR⟩,H6⟩
  show WC _ _ _ _ _ [(5,(ptr b12 0)),(22,sv),(23,(vN sg.length)),(24,(vN k))] _
  refine ws<|wo (bm O O<|wn<|ap (wE (k<sg.length) (fun hb7 hc7=>?_) (fun hb7 hc7=>?_)))
  ·
   have hkl:k<sg.length:=dT hb7
   refine aA<|ao<|ap<|aB<|ws<|wo (bJ A41 Fa.de O (H6.arr hS) O (by omega)<|wo (cH (vs:=sgc (sg.getD k Sg.zero)) O (Arr.atsF (H6.arr hS) (fun _=>rfl) (by decide) Sg.zero (by omega)) A116 O Fa.de O<|wo (bt H6 Fa.de (fun b8 w8 H8=>(wo (bw (i:=5) H8 O O O O O Fa.de (fun w9 H9=>(wn<|ws<|wm O<|wo (aM (vs:=[_,_,_]) O (H9.cells (i:=5) O O) A116 O Fa.de O<|wo (az (Kd 74) O ((Ef s11 mb11 c qs b12 pg ev pv sv con en _ (sg.getD k Sg.zero) _ _ (H9.part [1,2,3,4] O O) hR (lP h0 hB hkl).1 (fun g hg=>Nat.le_trans (ix h0 hB k (Nat.le_of_lt hkl) _ (pa hR.bare (fun p hp=>hp) g hg)).1 (lP h0 hB hkl).2) (fun g hg=>(ix h0 hB k (Nat.le_of_lt hkl) _ (pa hR.bare (fun p hp=>hp) g hg)).2.2)).mono (fun e w10 hq=>?_))))))))))))
   obtain ⟨c10,qs10,rfl,hr10,hq10⟩:=hq
   refine ⟨_,rfl,?_⟩
   have H10:=H9.splice [1,2,3,4] [.blk s11 [(.map (some mb11))] 165,.obj mb11 (mP .u32 (Kg Pg.me qs10) c10),Ent.bs 211 Pg.cells Pg.b qs10,Ent.bo b12 [(aa pg),ev,pv,(.bool con),(aa en),sv,(ptr s11 0)]] [] O O hq10 (am ae (am ae (am ae (bf (j:=3) O aI))))
   exact wa O<|wn<|ws<|wm O<|wo (bI (b:=0) O O<|wn<|bF O (by decide)<|aA<|aE<|ao<|aG<|wo (aU (b:=1) O O (by omega)<|wm O<|aY<|aX (k+1,c10,qs10) ⟨⟨by omega,hr10⟩,(H10.take 5)⟩ ⟨rfl,rfl,rfl,rfl,trivial⟩ (by show sg.length-(k+1)<sg.length-k; omega)))
  refine bc<|an<|an<|aS<|ao<|ws<|wm O<|wo (aJ O<|wo (ab O Fa.uo<|wo (aj O (H6.cellO (i:=4) O O) A68 O<|wa O<|wa O<|wn<|aC<|aD (.tmp O (.tmp O .nil)) ?_)))
  obtain rfl:k=sg.length:=by omega
  exact ⟨_,_,_,_,rfl,hR,H6.sel [1,2,3] O O⟩
 have B3: ∀b12 s11 mb11 wS,Ke [] w wS [Bm,.blk s11 [(.map (some mb11))] 165,.obj mb11 (mP .u32 (Kg Pg.me []) 0),B0,.blk b12 [(aa pg),ev,pv,(.bool con),(aa en),sv,(ptr s11 0)] 125]→W 1 (bz 5 15) (e4 [(17,(ptr b12 0))]) wS:=fun b12 s11 mb11 wS HS=>by
  rw [hW]
  exact wd1 4<|kS 4 O (ee O<|aO hW (B2 b12 s11 mb11 wS HS))
 have B4: ∀s11 mb11 wS,Ke [] w wS [Bm,.blk s11 [(.map (some mb11))] 165,.obj mb11 (mP .u32 (Kg Pg.me []) 0),B0]→W 2 (bz 5 7) (e4 [(16,(.agg #[(aa pg),ev,pv,(.bool con),(aa en),sv,(ptr s11 0)]))]) wS:=fun s11 mb11 wS HS=>by
  rw [hW]
  exact wd1 3<|kS 3 O (bK HS O O (fun b12 w12 H12=>(aO hW (B3 b12 s11 mb11 w12 H12))))
 have B1: ∀s11 mb11 wS,Ke [] w wS [Bm,.blk s11 [(.map (some mb11))] 165,.obj mb11 (mP .u32 (Kg Pg.me []) 0),B0]→W 3 (bz 5 3) (e4 [(14,(.agg #[(aa pg),ev,pv,(.bool con),(aa en),sv])),(15,(ptr s11 0))]) wS:=fun s11 mb11 wS HS=>by
  rw [hW]
  exact wd1 2<|kS 2 O (bP (cs:=[_,_,_,_,_,_,_]) Fa.Iv Fa.HK O O<|aO hW (B4 s11 mb11 wS HS))
 have B5: ∀wS,Ke [] w wS [Bm]→W 4 (bz 5 1) (e4 [(14,(.agg #[(aa pg),ev,pv,(.bool con),(aa en),sv]))]) wS:=fun wS HS=>by
  rw [hW]
  refine wd1 1<|kS 1 O (az (Kd 73) O ((oe _).mono (fun e w11 hq=>?_)))
  obtain ⟨s11,mb11,rfl,hq11⟩:=hq
  refine ⟨_,rfl,?_⟩
  have H11:=HS.splice [] [] [.blk s11 [(.map (some mb11))] 165,.obj mb11 (mP .u32 (Kg Pg.me []) 0),Ent.bs 211 Pg.cells Pg.b []] O O hq11 (am ae (am ae (am ae aI)))
  exact aO hW (B1 s11 mb11 w11 H11)
 have B6: ∀s11 mb11 wS,Ke [] w wS [Bm,.blk s11 [(.map (some mb11))] 165,.obj mb11 (mP .u32 (Kg Pg.me []) 0),B0]→W 4 (bz 5 2) (e4 [(15,(ptr s11 0))]) wS:=fun s11 mb11 wS HS=>by
  rw [hW]
  exact wd1 0<|kS 0 O (aM (vs:=[_,_,_,_,_,_]) O (HS.cells (i:=0) O O) A43 O Fa.I43 O<|aO hW (B1 s11 mb11 wS HS))
 have B7: ∀wS,Ke [] w wS [Bm]→W 5 (bz 5 0) (e4 []) wS:=fun wS HS=>by
  rw [hW]
  refine wd2 0 1 ?_ ?_
  ·
   exact kS 0 O (aM (vs:=[_,_,_,_,_,_]) O (HS.cells (i:=0) O O) A43 O Fa.I43 O<|aO hW (B5 wS HS))
  refine kS 1 O (az (Kd 73) O ((oe _).mono (fun e w11 hq=>?_)))
  obtain ⟨s11,mb11,rfl,hq11⟩:=hq
  refine ⟨_,rfl,?_⟩
  have H11:=HS.splice [] [] [.blk s11 [(.map (some mb11))] 165,.obj mb11 (mP .u32 (Kg Pg.me []) 0),Ent.bs 211 Pg.cells Pg.b []] O O hq11 (am ae (am ae (am ae aI)))
  exact aO hW (B6 s11 mb11 w11 H11)
 have hq:=B7 w3 H3
 rw [hW] at hq ⊢
 refine WD.cov ?_ hq
 exact by repeat (first | exact trivial | refine ⟨rfl,?_⟩)
theorem vt (mb c Bm:Nat) (l:List ME) (hl:MEok l c) {F:Fence} {m:Nat} (hF:Free F) (hro:F.round=none) (w0:World) (hB:w0.cell? ⟨Bm,0,none⟩=some (.map (some mb))) (hM:w0.heap[mb]?=some (mP .u32 l c)) :
  SeqStopsK F m Kf 145 #[ptr Bm 0] (fun e:ME=>#[kvI .u32 e]) KeepsWalks (fun xs=>l.Perm xs) (fun _=>True) l.length w0:=by
 intro lp J Jx W hW hJ hJx hY h0
 have hM1:W.heap[mb]?=some (mP .u32 l c):=(hW.block mb (Array.getElem?_eq_some_iff.1 hM).1).trans hM
 have hB1:W.cell? ⟨Bm,0,none⟩=some (.map (some mb)):=(hW.cell (p:=⟨Bm,0,none⟩) (block_lt_of_cell hB)).trans hB
 refine FX (args:=[.func (.yield lp) #[] #[],ptr Bm 0]) hF hro Tryz.func145 O O (WCI.seq (WCI.region (WLI.op hF O O O (aj O hB1 A162 O (WLI.op hF O O O (ki (aL W []) hM1 A162 O (fun ib w1 H1=>?_)))))))
 have hi1:w1.heap[ib]?=some (itO mb c []):=H1.ok 0 _ O
 have hle:W.heap.size≤ib:=(H1.own 0 _ O ib O).resolve_right (by simp)
 have hM2:w1.heap[mb]?=some (mP .u32 l c):=(H1.fr.block mb (Array.getElem?_eq_some_iff.1 hM1).1 (by simp)).trans hM1
 have hJ1:J [] w1:=hJ [] W w1 none h0 (Fr.grown H1.fr) (fun r e=>by cases e)
 refine WLI.nil<|WQ.nextI (WCI.block (WCI.loop (α:=List ME × List ME) (fun z=>[(0,.func (.yield lp) #[] #[]),(5,ptr ib 0)]) (fun z w'=>l.Perm (z.1++z.2)∧w'.heap[ib]?=some (itO mb c z.1)∧w'.heap[mb]?=some (mP .u32 l c)∧J z.1 w') (fun z=>z.2.length) ([],l) ⟨List.Perm.refl _,hi1,hM2,hJ1⟩ ⟨rfl,rfl,trivial⟩ ?_))
 rintro ⟨sn,rst⟩ w1 ⟨hp,hi2,hM3,hJ2⟩
 show WCI _ _ _ _ _ _ _ [(0,(.func (.yield lp) #[] #[])),(5,(ptr ib 0))] _
 refine WCI.seq (WCI.region (WLI.op hF O O O (sS (i:=0) (sn:=sn) (rest:=rst) (Own.obj1 hi2) O hM3 hl hp O (fun h0=>?_) (fun e rs hlen hp2 w3 HI=>?_))))
 ·
  exact WLI.op hF O O O (ch O O (WLI.nil<|WQ.nextI (WCI.seq (WCI.no O O (WCI.exit<|an<|an<|aS<|WQ.outEnd .nil (⟨⟨_,rfl⟩,.inl ⟨sn,by rw [h0,List.append_nil] at hp; exact hp,hJ2⟩⟩))))))
 have hi3:w3.heap[ib]?=some (itO mb c (sn++[e])):=HI.ok 0 _ O
 have hne:mb≠ib:=fun h=>by rw [h,hi2] at hM3; cases hM3
 have hM4:w3.heap[mb]?=some (mP .u32 l c):=(HI.fr.block mb (Array.getElem?_eq_some_iff.1 hM3).1 (by simpa using hne)).trans hM3
 have hJ3:J sn w3:=hJ sn _ w3 (some ib) hJ2 (Fr.grown HI.fr) (fun r e=>by cases e; exact ⟨hle,_,hi2,rfl⟩)
 have hlt:sn.length<l.length:=by have:=hp.length_eq; simp at this; omega
 refine WLI.op hF O O O (ch O O (WLI.nil<|WQ.nextI (WCI.seq (WCI.yes O O (WCI.skip<|WQ.nextI (WCI.block (WCI.seq (WCI.region (WLI.op hF O O O (zF hi3 hM4 hl hp2 O (WLI.op hF O O O (ch O O (WLI.op hF O O O (ee O (WLI.nil<|WQ.nextI (WCI.seq (WCI.region (WLI.op hF O O O (au O (WLI.op hF O O O (au O (WLI.yield hF O O O (hY sn e w3 hJ3 hlt) (fun e4 w4 h4=>?_)))))))))))))))))))))))
 rcases h4 with ⟨rfl,hJ4,hk4⟩ | ⟨rfl,hJ4⟩
 ·
  refine ⟨_,rfl,?_⟩
  exact WLI.op hF O O O (cQ O (WLI.nil<|WQ.nextI (WCI.no O (congrArg Bool.not O) (WCI.skip<|aE<|aX (sn++[e],rs) ⟨hp2,hk4.same _ _ hi3 O,hk4.same _ _ hM4 O,hJ4⟩ ⟨rfl,rfl,trivial⟩ (by show rs.length<rst.length; omega)))))
 refine ⟨_,rfl,?_⟩
 exact WLI.op hF O O O (cQ O (WLI.nil<|WQ.nextI (WCI.yes O (congrArg Bool.not O) (WCI.ret<|aZ<|aq<|aZ<|aD .nil (⟨⟨_,rfl⟩,.inr ⟨_,trivial,hJ4⟩⟩)))))
theorem xa (mb c Bm:Nat) (l:List ME) (hl:MEok l c) (hn:l.length<2^40) (w:World) (hB:w.cell? ⟨Bm,0,none⟩=some (.map (some mb))) (hM:w.heap[mb]?=some (mP .u32 l c)) :
  Calls Kf 180 #[.slice none 0 0,.func (.func 145) #[] #[ptr Bm 0]] w (fun e w'=> ∃v xs,e=.returned v∧l.Perm xs∧Ke [] w w' [.row v 22 1 xs.length (Kg (kvI .u32) xs)]):=by
 refine (callsIn_wide (n:=6)).1 (FW (args:=[.slice none 0 0,.func (.func 145) #[] #[ptr Bm 0]]) Free.wide O Tryz.func180 O O ?_)
 have H0:=aL w []
 refine WCI.seq (WCI.region (WLI.op Free.wide O O O (bK H0 O O (fun b1 w1 H1=>(WLI.op Free.wide O O O (ee O (WLI.nil<|WQ.nextI (WCI.seq (WCI.seq (WCI.region (WLI.op Free.wide O O O (au O (WLI.nil<|WQ.nextI (WCI.block ?_))))))))))))))
 have hN:=H1.nilRow 22 1
 have hsz:w.heap.size≤w1.heap.size:=H1.fr.size
 refine WCI.rangeF (enc:=(kvI .u32)) (fun l=>Free.round l) Free.wide O O (nK (Kd 145)) (vt mb c Bm l hl Free.wide O w hB hM) (Fr.below H1.fr) (by decide) O O (fun xs W=> ∃v,Ke [] w W [.blk b1 [v] 73,.row v 22 1 xs.length (Kg (kvI .u32) xs)]) (fun xs W W' row hs hg hr=>hs.elim fun v H=>⟨v,H.turnF hg (fun r e=>⟨Nat.le_trans hsz (hr r e).1,(hr r e).2⟩)⟩) ⟨_,hN⟩ (fun lp pre x W hi hlt=>?_) (fun d xs W hd hS hi hk=>?_)
 ·
  obtain ⟨v,H5⟩:=hi
  have H6:=H5.part [0,1] O O
  have hT:=H5.cellsT2
  refine WCI.block (WCI.region (WLI.op (Free.round lp) O O O (aj O (H6.cell (i:=0) O O) A73 O (WLI.op (Free.round lp) O O O (au O (WLI.op (Free.round lp) O O O (aW (cs:=[_]) H6 A73 Fa.I22 O O O O (by decide) (by decide) (fun b2 w2 H2=>(WLI.op (Free.round lp) O O O (hZ (i:=1) H2 A73 Fa.I22 O O O O (ck A73 (H2.arrR (i:=2) O)) (by intro c hc; rw [List.mem_singleton.1 hc]; rfl) (by omega) (by omega) (fun v3 w3 H3=>(WLI.op (Free.round lp) O O O (bC (i:=0) H3 O O O O (bS (H3.arrR (i:=1) O)) Fa.I73 (fun w4 H4=>(WLI.nil<|aE ?_)))))))))))))))
  intro a ha
  have ho:=Fr.others H4.fr hT
  have h8:=H4.sel [0,1] O O
  have h9:=Own.splice H5 [0,1] [.blk b1 [v3] 73,.row v3 22 1 (pre.length+1) ((Kg (kvI .u32) pre)++[((kvI .u32) x)])] [] O O h8 (am ae (am ae aI))
  have e9:((Kg (kvI .u32) pre)++[((kvI .u32) x)])=Kg (kvI .u32) (pre++[x]):=by rw [List.map_append]; rfl
  rw [e9,show (pre.length+1)=(pre++[x]).length by simp] at h9
  exact ⟨ho.1,ho.2,_,h9⟩
 obtain ⟨v,H5⟩:=hi
 exact aE<|WQ.nextI (WCI.seq (WCI.region (WLI.op Free.wide O O O (aj O (H5.cell (i:=0) O O) A73 O (WLI.op Free.wide O O O (ee O (WLI.nil<|WQ.nextI (WCI.ret<|WQ.outM hk (.tmp O .nil) (⟨_,_,rfl,hS,(H5.turn (Fr.putObj _ _ _) (Nat.le_trans hsz hd) hk O).sel [1] O O⟩)))))))))
theorem wU (mb c Bm:Nat) (l:List ME) (w:World) (hl:MEok l c) (hn:l.length<2^40) (h32: ∀e∈l,e.k<2^32) (hB:w.cell? ⟨Bm,0,none⟩=some (.map (some mb))) (hM:w.heap[mb]?=some (mP .u32 l c)) :
  Calls Kf 143 #[(.func (.func 145) #[] #[(ptr Bm 0)])] w (fun e w'=> ∃v ks,e=.returned v∧(l.map Go.Spec.ME.ku).Perm ks∧Ke [] w w' [.row v 22 1 ks.length (Kg aa ks)]):=by
 refine enter Tryz.func143 O O ?_
 have H0:=aL w []
 refine ws<|wa O<|wn<|ws<|wm O<|wo (az (Kd 180) O ((xa mb c Bm l hl hn _ hB hM).mono (fun e w1 hq=>?_)))
 obtain ⟨v1,xs1,rfl,hp1,hq1⟩:=hq
 refine ⟨_,rfl,?_⟩
 have H1:=H0.splice [] [] [.row v1 22 1 xs1.length (Kg (kvI .u32) xs1)] O O hq1 (am ae aI)
 refine wa O<|wn<|aC<|aD (.tmp O .nil) ?_
 have e9:Kg (kvI .u32) xs1=Kg aa (xs1.map Go.Spec.ME.ku):=by rw [List.map_map]; exact List.map_congr_left (fun e he=>HR (h32 e (hp1.mem_iff.2 he)))
 have h9:=H1.sel [0] O O
 rw [e9,show xs1.length=(xs1.map Go.Spec.ME.ku).length by rw [List.length_map]] at h9
 exact ⟨_,_,rfl,hp1.map _,h9⟩
theorem FN (x:UInt32) (w:World) :
  Calls Kf 241 #[(aa x)] w (fun e w'=>e=.returned (.bool false)∧Fr [] w w'):=by
 refine enter Tryz.func241 O O ?_
 have H0:=aL w []
 exact ws<|wa O<|wn<|ws<|wm O<|wm O<|wo (eG O O<|wa O<|wn<|aC<|aD (.tmp O .nil) (⟨by rw [show decide (x≠x)=false from decide_eq_false (fun h=>h O)]; rfl,H0.fr⟩))
theorem eC (x y:UInt32) (w:World) :
  Calls Kf 217 #[(aa x),(aa y)] w (fun e w'=>e=.returned (.bool (bO x y))∧Fr [] w w'):=by
 refine enter Tryz.func217 O O ?_
 have H0:=aL w []
 exact ws<|wa O<|wn<|ws<|wm O<|wo (cq H0 (Kd 241) O (FN x _) fun w1 H1=>(wm O<|wN O<|wN O<|wN O<|wo (aN O O O<|wm O<|wY O (au O<|wY O (au O<|wY O (ed O O<|wo (aN O O O<|wa O<|wn<|aC<|aD (.tmp O .nil) (⟨rfl,H1.fr⟩))))))))
theorem FV (v:Value) (n:Nat) (l:List UInt32) (a b:Nat) (T:List Nat) (w:World) (H:Ke T w w [.row v 22 1 n (Kg aa l)]) (hn:l.length=n) (hN:n<2^62) (hb:b≤n) (ha:a≤n) :
  Calls Kf 211 #[v,(vN a),(vN b)] w (fun e w'=> ∃l':List UInt32,e=.returned undef∧(Sw 0 a b l l'∧SortS bO 0 a b l')∧Ke T w w' [.row v 22 1 n (Kg aa l')]):=by
 refine enter Tryz.func211 O O<|ws<|wm O<|wo (aU (b:=1) O O (by omega)<|wa O<|wn<|aB<|bi (α:=Nat × List UInt32) (fun (i,l1)=>[(0,v),(1,(vN a)),(2,(vN b)),(6,(vN i))]) (fun (i,l1) w'=>(a+1≤i∧i≤max b (a+1)∧Sw 0 a b l l1∧SortS bO 0 a i l1)∧Ke T w w' [.row v 22 1 n (Kg aa l1)]) (fun (i,l1)=>b-i) (a+1,l) ⟨⟨Nat.le_refl _,by omega,.refl _,SortS.nil (by omega)⟩,H⟩ ⟨rfl,rfl,rfl,rfl,trivial⟩ ?_)
 rintro ⟨i,l1⟩ w1 ⟨⟨hi1,hi2,hs1,ho1⟩,H1⟩
 show WC _ _ _ _ _ [(0,v),(1,(vN a)),(2,(vN b)),(6,(vN i))] _
 have hL1:=hs1.len
 refine ap<|ws<|wm O<|wm O<|wo (bm O O<|wn (wE (i<b) (fun hb2 hc2=>?_) (fun hb2 hc2=>?_)))
 ·
  refine aA<|ao<|ap<|aB<|ws<|wm O<|wa O<|wn<|aB<|bi (α:=Nat × List UInt32) (fun (j,l2)=>[(0,v),(1,(vN a)),(2,(vN b)),(6,(vN i)),(7,(vN j))]) (fun (j,l2) w'=>(a≤j∧j≤i∧Sw 0 a b l l2∧ub bO 0 a i j l2)∧Ke T w w' [.row v 22 1 n (Kg aa l2)]) (fun (j,l2)=>j) (i,l1) ⟨⟨by omega,Nat.le_refl _,hs1,tt ho1⟩,H1⟩ ⟨rfl,rfl,rfl,rfl,rfl,trivial⟩ ?_
  rintro ⟨j,l2⟩ w3 ⟨⟨hj1,hj2,hs2,hj3⟩,H3⟩
  show WC _ _ _ _ _ [(0,v),(1,(vN a)),(2,(vN b)),(6,(vN i)),(7,(vN j))] _
  have hL2:=hs2.len
  refine ap<|ap (wG (j>a) (fun hb4 hc4=>?_) (fun hb4 hc4=>?_))
  ·
   refine bn 15 Fa.M H3 (mh O<|mh O<|oh (fun w1 H1=>cm O O zr)<|mh O<|yh hb4 (fun w1 H1=>au O zr)<|yh hb4 (fun w1 H1=>au O zr)<|yh hb4 (fun w1 H1=>aF A73 Fa.I22 O (H1.arrR (i:=0) O) O (by omega) zr)<|yh hb4 (fun w1 H1=>aj O ((H1.arrR (i:=0) O).at (aR aa 0 (aV (H1.arrR (i:=0) O) (by omega)))) A22 O zr)<|yh hb4 (fun w1 H1=>au O zr)<|yh hb4 (fun w1 H1=>au O zr)<|yh hb4 (fun w1 H1=>bE (b:=1) O O (by omega) (by omega) zr)<|yh hb4 (fun w1 H1=>aF A73 Fa.I22 O (H1.arrR (i:=0) O) O (by omega) zr)<|yh hb4 (fun w1 H1=>aj O ((H1.arrR (i:=0) O).at (aR aa 0 (aV (H1.arrR (i:=0) O) (by omega)))) A22 O zr)<|yh hb4 (fun w1 H1=>az (Kd 217) O ((eC (l2.getD j 0) (l2.getD (j-1) 0) _).mono (fun e w2 hq=>⟨_,hq.1,rfl,hq.2⟩)))<|oh (fun w1 H1=>aQ O hb4 O zr)  bD) (by kernel_rfl) ?_
   intro β6 w6 H6
   refine wn (wC (bO (l2.getD j 0) (l2.getD (j-1) 0)) (fun hb7=>?_) (fun hb7=>?_))
   ·
    refine aA<|ao<|ap<|aB<|WC.held 18 O Fa.M H6 (fun w'=> ∃L',Ke T w w' ([]++L')) ?_
    intro w8 H8
    refine xt 0 O v H8 (fun _ _ HX=>au O ⟨rfl,rfl⟩)<|xt 1 O (vN j) H8 (fun _ _ HX=>au O ⟨rfl,rfl⟩)<|xt 2 O v H8 (fun _ _ HX=>au O ⟨rfl,rfl⟩)<|xt 3 O (vN j) H8 (fun _ _ HX=>au O ⟨rfl,rfl⟩)<|xt 4 O (vN (j-1)) H8 (fun _ _ HX=>bE (b:=1) O O (by omega) (by omega) ⟨rfl,rfl⟩)<|xt 5 O v H8 (fun _ _ HX=>au O ⟨rfl,rfl⟩)<|xt 6 O (vN j) H8 (fun _ _ HX=>au O ⟨rfl,rfl⟩)<|xt 7 O (vN (j-1)) H8 (fun _ _ HX=>bE (b:=1) O O (by omega) (by omega) ⟨rfl,rfl⟩)<|xt 8 O (.pointer (some (sp v (j-1)))) H8 (fun _ _ HX=>aP A73 Fa.I22 O (H8.arrR (i:=0) O) O (by omega) ⟨rfl,rfl⟩)<|xt 10 O v H8 (fun _ _ HX=>au O ⟨rfl,rfl⟩)<|xt 11 O (vN j) H8 (fun _ _ HX=>au O ⟨rfl,rfl⟩)<|xt 12 O (.pointer (some (sp v j))) H8 (fun _ _ HX=>aP A73 Fa.I22 O (H8.arrR (i:=0) O) O (by omega) ⟨rfl,rfl⟩)<|dh (fun W hW=>?_)
    let e6:List (Nat × Value)→List (Nat × Value):=fun r=>(0,v)::(1,(vN a))::(2,(vN b))::(6,(vN i))::(7,(vN j))::(16,(vN j))::(17,(vN a))::(18,(.bool (decide (j>a))))::(19,(.bool (decide (j>a))))::(20,v)::(21,(vN j))::(22,(.pointer (some (sp v j))))::(23,(aa (l2.getD j 0)))::(24,v)::(25,(vN j))::(26,(vN (j-1)))::(27,(.pointer (some (sp v (j-1)))))::(28,(aa (l2.getD (j-1) 0)))::(29,(.bool (bO (l2.getD j 0) (l2.getD (j-1) 0))))::(30,(.bool (bO (l2.getD j 0) (l2.getD (j-1) 0))))::r
    let Bm:Ent:=.row v 22 1 n (Kg aa l2)
    have B1: ∀wS,Ke T w wS [.row v 22 1 n (Kg aa ((l2.set j (l2.getD (j-1) 0)).set (j-1) (l2.getD j 0)))]→W 0 (bz 18 262143) (e6 []) wS:=fun wS HS=>by
     rw [hW]
     exact WH.done (by kernel_rfl)<|aE<|ao<|aG<|wm O<|wo (bE (b:=1) O O (by omega) (by omega)<|wa O<|aY<|aX (j-1,cY 0 l2 j (j-1)) ⟨⟨by omega,by omega,hs2.step (by omega) (by omega) (by omega) (by omega),tr cX (by omega) hj3 (by omega) hj2 hb7⟩,HS⟩ ⟨rfl,rfl,rfl,rfl,rfl,trivial⟩ (by show j-1<j; omega))
    have B2: ∀wS,Ke T w wS [.row v 22 1 n (Kg aa (l2.set j (l2.getD (j-1) 0)))]→W 1 (bz 18 131071) (e6 [(46,(aa (l2.getD j 0))),(48,(.pointer (some (sp v (j-1)))))]) wS:=fun wS HS=>by
     rw [hW]
     refine wh1 17<|kH 17 O (bN (i:=0) (f:=aa) (l:=(l2.set j (l2.getD (j-1) 0))) (c:=(l2.getD j 0)) HS O O O (by omega) O Fa.I22 (fun w11 H11=>(⟨⟨_,H11⟩,?_⟩)))
     exact bh hW (B1 w11 H11)
    have B0: ∀wS,Ke T w wS [Bm]→W 3 (bz 18 32767) (e6 [(35,v),(37,(vN (j-1))),(42,(aa (l2.getD (j-1) 0))),(46,(aa (l2.getD j 0))),(47,(.pointer (some (sp v j))))]) wS:=fun wS HS=>by
     rw [hW]
     refine wh1 15<|kH 15 O (bN (i:=0) (f:=aa) (l:=l2) (c:=(l2.getD (j-1) 0)) HS O O O (by omega) O Fa.I22 (fun w9 H9=>(⟨⟨_,H9⟩,?_⟩)))
     exact xt 16 O (.pointer (some (sp v (j-1)))) H9 (fun _ _ HX=>aP A73 Fa.I22 O (H9.arrR (i:=0) O) O (by omega) ⟨rfl,rfl⟩)<|bh hW (B2 w9 H9)
    have B3: ∀wS,Ke T w wS [Bm]→W 5 (bz 18 8191) (e6 [(33,v),(34,(vN j)),(35,v),(37,(vN (j-1))),(42,(aa (l2.getD (j-1) 0))),(45,(.pointer (some (sp v j))))]) wS:=fun wS HS=>by
     rw [hW]
     refine wh1 13<|kH 13 O (aj O ((HS.arrR (i:=0) O).at (aR aa 0 (aV (HS.arrR (i:=0) O) (by omega)))) A22 O (⟨⟨_,HS⟩,?_⟩))
     exact xt 14 O (.pointer (some (sp v j))) HS (fun _ _ HX=>aP A73 Fa.I22 O (HS.arrR (i:=0) O) O (by omega) ⟨rfl,rfl⟩)<|bh hW (B0 wS HS)
    have B4: ∀wS,Ke T w wS [Bm]→W 5 (bz 18 15871) (e6 [(33,v),(34,(vN j)),(35,v),(37,(vN (j-1))),(41,(.pointer (some (sp v (j-1))))),(46,(aa (l2.getD j 0)))]) wS:=fun wS HS=>by
     rw [hW]
     refine wh1 9<|kH 9 O (aj O ((HS.arrR (i:=0) O).at (aR aa 0 (aV (HS.arrR (i:=0) O) (by omega)))) A22 O (⟨⟨_,HS⟩,?_⟩))
     exact xt 14 O (.pointer (some (sp v j))) HS (fun _ _ HX=>aP A73 Fa.I22 O (HS.arrR (i:=0) O) O (by omega) ⟨rfl,rfl⟩)<|bh hW (B0 wS HS)
    have B5: ∀wS,Ke T w wS [Bm]→W 6 (bz 18 7679) (e6 [(33,v),(34,(vN j)),(35,v),(37,(vN (j-1))),(41,(.pointer (some (sp v (j-1))))),(45,(.pointer (some (sp v j))))]) wS:=fun wS HS=>by
     rw [hW]
     refine wh2 9 13 ?_ ?_
     ·
      refine kH 9 O (aj O ((HS.arrR (i:=0) O).at (aR aa 0 (aV (HS.arrR (i:=0) O) (by omega)))) A22 O (⟨⟨_,HS⟩,?_⟩))
      exact bh hW (B3 wS HS)
     refine kH 13 O (aj O ((HS.arrR (i:=0) O).at (aR aa 0 (aV (HS.arrR (i:=0) O) (by omega)))) A22 O (⟨⟨_,HS⟩,?_⟩))
     exact bh hW (B4 wS HS)
    have hq:=B5 w8 H8
    rw [hW] at hq ⊢
    exact WH.cv hq
   exact bc<|an<|an<|aS<|aE<|ao<|aG<|wm O<|wo (aU (b:=1) O O (by omega)<|wa O<|aY<|aX (i+1,l2) ⟨⟨by omega,by omega,hs2,lN cX hj3 (.inr hb7) hj1⟩,H6⟩ ⟨rfl,rfl,rfl,rfl,trivial⟩ (by show b-(i+1)<b-i; omega))
  refine bn 15 Fa.M H3 (mh O<|mh O<|oh (fun w1 H1=>cm O O zr)<|mh O<|nh hb4<|nh hb4<|nh hb4<|nh hb4<|nh hb4<|nh hb4<|nh hb4<|nh hb4<|nh hb4<|nh hb4<|oh (fun w1 H1=>aN O hb4 O zr)  bD) (by kernel_rfl) ?_
  intro β10 w10 H10
  exact wn<|bF O O<|bc<|an<|an<|aS<|aE<|ao<|aG<|wm O<|wo (aU (b:=1) O O (by omega)<|wa O<|aY<|aX (i+1,l2) ⟨⟨by omega,by omega,hs2,lN cX hj3 (.inl (by omega)) hj1⟩,H10⟩ ⟨rfl,rfl,rfl,rfl,trivial⟩ (by show b-(i+1)<b-i; omega))
 exact bc<|an<|an<|aS<|WQ.outEnd .nil (⟨_,rfl,⟨hs1,fun p q h1 h2 h3=>ho1 p q h1 h2 (by omega)⟩,H1⟩)
end Go.Proofs.YtbjhccnffacbcaaGreat
