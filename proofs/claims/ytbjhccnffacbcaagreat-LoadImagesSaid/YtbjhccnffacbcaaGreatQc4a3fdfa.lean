/- General lemmas and walks: WImg11, WImg12, WSeal, WSeal2, WImg14, WImg15, WSeal3, WSpc, WSpc2, WSpc3, WSpc4, WSpc5, WSeq, WSeq2, USort. No condition but what each theorem names. -/
import Derived.Test.YtbjhccnffacbcaaGreatQ9230fe84
import Derived.Test.YtbjhccnffacbcaaGreatQ07fd6d5c
import Derived.Test.YtbjhccnffacbcaaGreatQ0a1db9bb
import Derived.Test.YtbjhccnffacbcaaGreatQcb9860f8
import Derived.Test.YtbjhccnffacbcaaGreatQ949f1dd9
set_option maxRecDepth 100000
set_option maxHeartbeats 8000000
namespace Go.Proofs.YtbjhccnffacbcaaGreat
open Go.Owl Go.Spec
theorem iget_fin {s:List UInt8} (hb:gBad s=false) {e:Ending} {w w':World} {x y z:Value} (he:e=.returned (.tuple #[.agg #[vU32 (g2 s).1.1,x,y,.bool (decide ((g7 s).1.1=1)),vU32 (g8 s).1.1,z],vN 0]))
  (H:Owl.Own [] w w' [.row x 207 2 (g3 s).1.1.toNat (List.flatMap xtc (gX s)),.row y 203 1 (g5 s).1.1.toNat (List.map vU16 (gP s)),.row z 116 3 (g9 s).1.1.toNat (List.flatMap sgc (gS s))]) :
  ∃v u q,e=.returned (.tuple #[.agg #[vU32 (imG s).pg,v,u,.bool (imG s).c,vU32 (imG s).en,q],vN (imGE s)])∧Owl.Own [] w w' [.row v 207 2 (imG s).xs.length (List.flatMap xtc (imG s).xs),.row u 203 1 (imG s).ps.length (List.map vU16 (imG s).ps),.row q 116 3 (imG s).sg.length (List.flatMap sgc (imG s).sg)]:=by
 rw [←gX_len,←gP_len,←gS_len] at H
 rw [(get_good hb).1,(get_good hb).2]
 dsimp only
 exact ⟨x,y,z,he,H⟩
theorem iget_ok (s:List UInt8) (w:World) (hs:s.length<2^47) :
  Calls Tryz.prog 116 #[(str s)] w (fun e w'=> ∃v u q,e=.returned (.tuple #[.agg #[vU32 (imG s).pg,v,u,.bool (imG s).c,vU32 (imG s).en,q],vN (imGE s)])∧Owl.Own [] w w' [.row v 207 2 (imG s).xs.length (List.flatMap xtc (imG s).xs),.row u 203 1 (imG s).ps.length (List.map vU16 (imG s).ps),.row q 116 3 (imG s).sg.length (List.flatMap sgc (imG s).sg)]):=by
 refine enter (args:=[(str s)]) Tryz.func116 rfl rfl ?_
 have H0:Owl.Own [] w w []:=Own.start w []
 refine ws<|wo (op_alloc H0 Fa.I43 (fun b1 w1 H1=>(wa rfl<|wn<|ws<|wm rfl<|wo (op_callF Fa.C157 rfl ((rdnew_ok s _).mono (fun e w2 hq=>?_))))))
 obtain ⟨q2,rfl,hq2⟩:=hq
 refine ⟨_,rfl,?_⟩
 have H2:=H1.splice [] [] [.blk q2 [(str s),(vN 0),(vN 0)] 298] rfl rfl hq2 (Fits.solid True.intro Fits.nil)
 refine wo (op_build (cs:=[_]) Fa.I254 Fa.PL254 rfl rfl<|wo (op_alloc H2 Fa.I254 (fun b3 w3 H3=>(wo (op_storeBW (i:=2) H3 rfl rfl rfl rfl rfl Fa.I254 (fun w4 H4=>(wn<|ws<|wo (op_fieldAddr rfl Fa.F254_0<|wo (op_load rfl (H4.cell (i:=2) rfl rfl) Tryz.underlying251 rfl<|wo (op_callF Fa.C158 rfl ((take_ok q2 (Rd.mk s 0 0 (Nat.zero_le _)) (4) 298 _ _ (H4.part [1] rfl rfl) (by first | (rw [g1_t]; exact hs) | (rw [g2_t]; exact hs) | (rw [g4_t]; exact hs) | (rw [g6_t]; exact hs) | (rw [g7_t]; exact hs) | (rw [g8_t]; exact hs) | (rw [g10_t]; exact hs) | (rw [xsD_t,g3_t]; exact hs) | (rw [numR_s,xsD_t,g3_t]; exact hs) | (rw [psD_t,g5_t]; exact hs) | (rw [sgD_t,g9_t]; exact hs) | exact hs)).mono (fun e w5 hq=>?_))))))))))))
 obtain ⟨rfl,hq5⟩:=hq
 refine ⟨_,rfl,?_⟩
 have H5:=H4.splice [1] [.blk q2 [(str ((takeR (Rd.mk s 0 0 (Nat.zero_le _)) 4).2).s),(vN ((takeR (Rd.mk s 0 0 (Nat.zero_le _)) 4).2).at_),(vN ((takeR (Rd.mk s 0 0 (Nat.zero_le _)) 4).2).f)] 298] [] rfl rfl hq5 (Fits.solid True.intro Fits.nil)
 refine wm rfl<|we rfl rfl<|we rfl rfl<|wa rfl<|wa rfl<|wn<|ws ?_
 have H6:Owl.Own [] w w5 [.blk b1 [(vU32 0),(.slice none 0 0),(.slice none 0 0),(.bool false),(vU32 0),(.slice none 0 0)] 43,.blk q2 [(str ((g1 s).2).s),(vN ((g1 s).2).at_),(vN ((g1 s).2).f)] 298,.blk b3 [(ptr q2 0)] 254]:=by have h:=H5; rw [show takeR (Rd.mk s 0 0 (Nat.zero_le _)) 4=g1 s from rfl] at h; exact h
 rw [show takeR (Rd.mk s 0 0 (Nat.zero_le _)) 4=g1 s from rfl]
 refine wo (op_alloc H6 Fa.I43 (fun b7 w7 H7=>(wn<|ws<|wo (op_loadS (vs:=[_]) rfl (H7.cells (i:=2) rfl rfl) Tryz.underlying254 rfl Fa.I254 rfl<|wo (op_callF Fa.C159 rfl ((inum_ok q2 ((g1 s).2) (4) 298 _ _ (H7.part [1] rfl rfl) (by first | (rw [g1_t]; exact hs) | (rw [g2_t]; exact hs) | (rw [g4_t]; exact hs) | (rw [g6_t]; exact hs) | (rw [g7_t]; exact hs) | (rw [g8_t]; exact hs) | (rw [g10_t]; exact hs) | (rw [xsD_t,g3_t]; exact hs) | (rw [numR_s,xsD_t,g3_t]; exact hs) | (rw [psD_t,g5_t]; exact hs) | (rw [sgD_t,g9_t]; exact hs) | exact hs)).mono (fun e w8 hq=>?_)))))))
 obtain ⟨rfl,hq8⟩:=hq
 refine ⟨_,rfl,?_⟩
 have H8:=H7.splice [1] [.blk q2 [(str ((numR ((g1 s).2) 4).2).s),(vN ((numR ((g1 s).2) 4).2).at_),(vN ((numR ((g1 s).2) 4).2).f)] 298] [] rfl rfl hq8 (Fits.solid True.intro Fits.nil)
 refine wo (op_fieldAddr rfl Fa.F43_0<|wo (op_fieldAddr rfl Fa.F40_0<|wo (op_storeB (i:=3) H8 rfl rfl rfl rfl rfl Fa.I22 (fun w9 H9=>(wn<|WC.seq<|ws ?_)))))
 have H10:Owl.Own [] w w9 [.blk b1 [(vU32 0),(.slice none 0 0),(.slice none 0 0),(.bool false),(vU32 0),(.slice none 0 0)] 43,.blk q2 [(str ((g2 s).2).s),(vN ((g2 s).2).at_),(vN ((g2 s).2).f)] 298,.blk b3 [(ptr q2 0)] 254,.blk b7 [(vU32 (g2 s).1.1),(.slice none 0 0),(.slice none 0 0),(.bool false),(vU32 0),(.slice none 0 0)] 43]:=by have h:=H9; rw [show numR (g1 s).2 4=g2 s from rfl] at h; exact h
 have H11:=H10.nilRow 207 2
 have H12:=H11.nilRow 203 1
 have H13:=H12.nilRow 116 3
 refine wo (op_loadS (vs:=[_]) rfl (H13.cells (i:=2) rfl rfl) Tryz.underlying254 rfl Fa.I254 rfl<|wo (op_callF Fa.C159 rfl ((inum_ok q2 ((g2 s).2) (1) 298 _ _ (H13.part [1] rfl rfl) (by first | (rw [g1_t]; exact hs) | (rw [g2_t]; exact hs) | (rw [g4_t]; exact hs) | (rw [g6_t]; exact hs) | (rw [g7_t]; exact hs) | (rw [g8_t]; exact hs) | (rw [g10_t]; exact hs) | (rw [xsD_t,g3_t]; exact hs) | (rw [numR_s,xsD_t,g3_t]; exact hs) | (rw [psD_t,g5_t]; exact hs) | (rw [sgD_t,g9_t]; exact hs) | exact hs)).mono (fun e w14 hq=>?_))))
 obtain ⟨rfl,hq14⟩:=hq
 refine ⟨_,rfl,?_⟩
 have H14:=H13.splice [1] [.blk q2 [(str ((numR ((g2 s).2) 1).2).s),(vN ((numR ((g2 s).2) 1).2).at_),(vN ((numR ((g2 s).2) 1).2).f)] 298] [] rfl rfl hq14 (Fits.solid True.intro Fits.nil)
 have H15:Owl.Own [] w w14 [.blk b1 [(vU32 0),(.slice none 0 0),(.slice none 0 0),(.bool false),(vU32 0),(.slice none 0 0)] 43,.blk q2 [(str ((g3 s).2).s),(vN ((g3 s).2).at_),(vN ((g3 s).2).f)] 298,.blk b3 [(ptr q2 0)] 254,.blk b7 [(vU32 (g2 s).1.1),(.slice none 0 0),(.slice none 0 0),(.bool false),(vU32 0),(.slice none 0 0)] 43,.row (.slice none 0 0) 207 2 0 (List.flatMap xtc []),.row (.slice none 0 0) 203 1 0 (List.map vU16 []),.row (.slice none 0 0) 116 3 0 (List.flatMap sgc [])]:=by have h:=H14; rw [show numR (g2 s).2 1=g3 s from rfl] at h; exact h
 rw [show numR (g2 s).2 1=g3 s from rfl]
 refine wa rfl<|wn<|WC.block<|WC.loop (α:=Nat × Value) (fun (k,x)=>[(2,(ptr b1 0)),(4,(ptr b3 0)),(5,(str (g1 s).1.1)),(7,(ptr b7 0)),(8,(vU32 ((g3 s).1.1-UInt32.ofNat k)))]) (fun (k,x) w'=>(k≤(g3 s).1.1.toNat)∧Owl.Own [] w w' [.blk b1 [(vU32 0),(.slice none 0 0),(.slice none 0 0),(.bool false),(vU32 0),(.slice none 0 0)] 43,.blk q2 [(str (xsD (g3 s).2 k).s),(vN (xsD (g3 s).2 k).at_),(vN (xsD (g3 s).2 k).f)] 298,.blk b3 [(ptr q2 0)] 254,.blk b7 [(vU32 (g2 s).1.1),x,(.slice none 0 0),(.bool false),(vU32 0),(.slice none 0 0)] 43,.row x 207 2 k (List.flatMap xtc (xsL (g3 s).2 k)),.row (.slice none 0 0) 203 1 0 (List.map vU16 []),.row (.slice none 0 0) 116 3 0 (List.flatMap sgc [])]) (fun (k,x)=>(g3 s).1.1.toNat-k) (0,(.slice none 0 0)) ⟨(Nat.zero_le _),(by rw [xsD_0]; exact H15)⟩ ⟨rfl,rfl,rfl,rfl,(congrArg (fun n=>some (vU32 n)) (u32_sub0 _)),trivial⟩ ?_
 rintro ⟨k,x⟩ w16 ⟨hk1,H16⟩
 show WC _ _ _ _ _ [(2,(ptr b1 0)),(4,(ptr b3 0)),(5,(str (g1 s).1.1)),(7,(ptr b7 0)),(8,(vU32 ((g3 s).1.1-UInt32.ofNat k)))] _
 have hct:=u32_gt hk1
 have hnl:=(g3 s).1.1.toNat_lt
 refine WC.seq<|ws<|wm rfl<|wo (op_gtrU32 (b:=0) rfl rfl<|wn (wC (decide (((g3 s).1.1-UInt32.ofNat k)>(0:UInt32))) (fun hb17=>?_) (fun hb17=>?_)))
 ·
  have hc17:=dT hb17
  have hkn:=hct.1 hc17
  refine WC.skip<|WQ.next<|WC.seq<|WC.block<|WC.drawn 13 rfl Fa.M H16 ?_
  intro w18 H18
  refine WD.named (fun W hW=>?_)
  let e8:List (Nat × Value)→List (Nat × Value):=fun r=>(2,(ptr b1 0))::(4,(ptr b3 0))::(5,(str (g1 s).1.1))::(7,(ptr b7 0))::(8,(vU32 ((g3 s).1.1-UInt32.ofNat k)))::(27,(vU32 ((g3 s).1.1-UInt32.ofNat k)))::(28,(.bool (decide (((g3 s).1.1-UInt32.ofNat k)>(0:UInt32)))))::r
  let a8_0:Ent:=.blk b1 [(vU32 0),(.slice none 0 0),(.slice none 0 0),(.bool false),(vU32 0),(.slice none 0 0)] 43
  let a8_1:Ent:=.blk q2 [(str (xsD (g3 s).2 k).s),(vN (xsD (g3 s).2 k).at_),(vN (xsD (g3 s).2 k).f)] 298
  let a8_2:Ent:=.blk b3 [(ptr q2 0)] 254
  let a8_3:Ent:=.blk b7 [(vU32 (g2 s).1.1),x,(.slice none 0 0),(.bool false),(vU32 0),(.slice none 0 0)] 43
  let a8_4:Ent:=.row x 207 2 k (List.flatMap xtc (xsL (g3 s).2 k))
  let a8_5:Ent:=.row (.slice none 0 0) 203 1 0 (List.map vU16 [])
  let a8_6:Ent:=.row (.slice none 0 0) 116 3 0 (List.flatMap sgc [])
  let a8_7:Ent:=.blk q2 [(str ((numR (xsD (g3 s).2 k) 1).2).s),(vN ((numR (xsD (g3 s).2 k) 1).2).at_),(vN ((numR (xsD (g3 s).2 k) 1).2).f)] 298
  let a8_8:Ent:=.blk q2 [(str ((numR ((numR (xsD (g3 s).2 k) 1).2) 2).2).s),(vN ((numR ((numR (xsD (g3 s).2 k) 1).2) 2).2).at_),(vN ((numR ((numR (xsD (g3 s).2 k) 1).2) 2).2).f)] 298
  have st8_39: ∀(v29181:_) (b29161:_) (wS:World),Owl.Own [] w wS [a8_0,a8_8,a8_2,.blk b7 [(vU32 (g2 s).1.1),v29181,(.slice none 0 0),(.bool false),(vU32 0),(.slice none 0 0)] 43,.row v29181 207 2 (k+1) (List.flatMap xtc ((xsL (g3 s).2 k)++[(Xt.mk ((numR (xsD (g3 s).2 k) 1).1.1) ((numR ((numR (xsD (g3 s).2 k) 1).2) 2).1.1))])),a8_5,a8_6,.row (.slice (some ⟨b29161,0,none⟩) 1 1) 207 2 1 (List.map vU32 [(numR (xsD (g3 s).2 k) 1).1.1,(numR ((numR (xsD (g3 s).2 k) 1).2) 2).1.1])]→W 0 (bz 13 8191) (e8 []) wS:=by
   intro v29181 b29161 wS HS
   rw [hW]
   exact WD.done (by kernel_rfl)<|WQ.inNormal<|WQ.next<|WC.region<|wm rfl<|wo (op_subU32 (b:=1) rfl rfl<|wa rfl<|WL.nil<|WQ.round (k+1,v29181) ⟨(by omega),(by rw [xsD_s,xsL_s]; exact (HS.take 7))⟩ ⟨rfl,rfl,rfl,rfl,(congrArg (fun n=>some (vU32 n)) (u32_dec hkn)),trivial⟩ (by show (g3 s).1.1.toNat-(k+1)<(g3 s).1.1.toNat-k; omega))
  have st8_38: ∀(v29181:_) (b29161:_) (wS:World),Owl.Own [] w wS [a8_0,a8_8,a8_2,a8_3,.row v29181 207 2 (k+1) (List.flatMap xtc ((xsL (g3 s).2 k)++[(Xt.mk ((numR (xsD (g3 s).2 k) 1).1.1) ((numR ((numR (xsD (g3 s).2 k) 1).2) 2).1.1))])),a8_5,a8_6,.row (.slice (some ⟨b29161,0,none⟩) 1 1) 207 2 1 (List.map vU32 [(numR (xsD (g3 s).2 k) 1).1.1,(numR ((numR (xsD (g3 s).2 k) 1).2) 2).1.1])]→W 1 (bz 13 4095) (e8 [(40,v29181),(42,(ptr b7 1))]) wS:=by
   intro v29181 b29161 wS HS
   rw [hW]
   refine wd1 12 ?_
   ·
    exact kS 12 rfl (op_storeB (i:=3) HS rfl rfl rfl rfl (Arr.one (HS.arrR (i:=4) rfl)) Fa.I37 (fun w29241 H29241=>(WD.cw hW (st8_39 v29181 b29161 w29241 H29241))))
  have st8_37: ∀(v29181:_) (b29161:_) (wS:World),Owl.Own [] w wS [a8_0,a8_8,a8_2,a8_3,.row v29181 207 2 (k+1) (List.flatMap xtc ((xsL (g3 s).2 k)++[(Xt.mk ((numR (xsD (g3 s).2 k) 1).1.1) ((numR ((numR (xsD (g3 s).2 k) 1).2) 2).1.1))])),a8_5,a8_6,.row (.slice (some ⟨b29161,0,none⟩) 1 1) 207 2 1 (List.map vU32 [(numR (xsD (g3 s).2 k) 1).1.1,(numR ((numR (xsD (g3 s).2 k) 1).2) 2).1.1])]→W 2 (bz 13 2047) (e8 [(40,v29181),(41,(ptr b7 0))]) wS:=by
   intro v29181 b29161 wS HS
   rw [hW]
   refine wd1 11 ?_
   ·
    exact kS 11 rfl (op_fieldAddr rfl Fa.F40_1<|WD.cw hW (st8_38 v29181 b29161 wS HS))
  have st8_36: ∀(v29181:_) (b29161:_) (wS:World),Owl.Own [] w wS [a8_0,a8_8,a8_2,a8_3,.row v29181 207 2 (k+1) (List.flatMap xtc ((xsL (g3 s).2 k)++[(Xt.mk ((numR (xsD (g3 s).2 k) 1).1.1) ((numR ((numR (xsD (g3 s).2 k) 1).2) 2).1.1))])),a8_5,a8_6,.row (.slice (some ⟨b29161,0,none⟩) 1 1) 207 2 1 (List.map vU32 [(numR (xsD (g3 s).2 k) 1).1.1,(numR ((numR (xsD (g3 s).2 k) 1).2) 2).1.1])]→W 3 (bz 13 1023) (e8 [(40,v29181)]) wS:=by
   intro v29181 b29161 wS HS
   rw [hW]
   refine wd1 10 ?_
   ·
    exact kS 10 rfl (op_fieldAddr rfl Fa.F43_0<|WD.cw hW (st8_37 v29181 b29161 wS HS))
  have st8_35: ∀(b29161:_) (wS:World),Owl.Own [] w wS [a8_0,a8_8,a8_2,a8_3,a8_4,a8_5,a8_6,.row (.slice (some ⟨b29161,0,none⟩) 1 1) 207 2 1 (List.map vU32 [(numR (xsD (g3 s).2 k) 1).1.1,(numR ((numR (xsD (g3 s).2 k) 1).2) 2).1.1])]→W 4 (bz 13 511) (e8 [(33,x),(39,(.slice (some ⟨b29161,0,none⟩) 1 1))]) wS:=by
   intro b29161 wS HS
   rw [hW]
   refine wd1 9 ?_
   ·
    exact kS 9 rfl (op_appendF (f:=xtc) (l:=(xsL (g3 s).2 k)) (l':=[(Xt.mk ((numR (xsD (g3 s).2 k) 1).1.1) ((numR ((numR (xsD (g3 s).2 k) 1).2) 2).1.1))]) (i:=4) HS Tryz.underlying37 Fa.I207 rfl rfl rfl rfl (Src.ofArr Tryz.underlying37 (HS.arrR (i:=7) rfl)) (one_flat (fun _=>by simp [xtc,Value.oneCell'])) (by omega) (by omega) (fun v29181 w29181 H29181=>(WD.cw hW (st8_36 v29181 b29161 w29181 H29181))))
  have st8_33: ∀(wS:World),Owl.Own [] w wS [a8_0,a8_8,a8_2,a8_3,a8_4,a8_5,a8_6]→W 5 (bz 13 255) (e8 [(33,x),(38,(.agg #[(vU32 (numR (xsD (g3 s).2 k) 1).1.1),(vU32 (numR ((numR (xsD (g3 s).2 k) 1).2) 2).1.1)]))]) wS:=by
   intro wS HS
   rw [hW]
   refine wd1 8 ?_
   ·
    exact kS 8 rfl (op_buildSlice (cs:=[_,_]) HS Tryz.underlying37 Fa.I207 rfl rfl rfl rfl (by decide) (by decide) (fun b29161 w29161 H29161=>(WD.cw hW (st8_35 b29161 w29161 H29161))))
  have st8_34: ∀(b29161:_) (wS:World),Owl.Own [] w wS [a8_0,a8_8,a8_2,a8_3,a8_4,a8_5,a8_6,.row (.slice (some ⟨b29161,0,none⟩) 1 1) 207 2 1 (List.map vU32 [(numR (xsD (g3 s).2 k) 1).1.1,(numR ((numR (xsD (g3 s).2 k) 1).2) 2).1.1])]→W 5 (bz 13 507) (e8 [(32,(ptr b7 1)),(39,(.slice (some ⟨b29161,0,none⟩) 1 1))]) wS:=by
   intro b29161 wS HS
   rw [hW]
   refine wd1 2 ?_
   ·
    exact kS 2 rfl (op_load rfl (HS.cell (i:=3) rfl rfl) Tryz.underlying37 rfl<|WD.cw hW (st8_35 b29161 wS HS))
  have st8_30: ∀(wS:World),Owl.Own [] w wS [a8_0,a8_8,a8_2,a8_3,a8_4,a8_5,a8_6]→W 6 (bz 13 127) (e8 [(33,x),(35,(vU32 (numR (xsD (g3 s).2 k) 1).1.1)),(37,(vU32 (numR ((numR (xsD (g3 s).2 k) 1).2) 2).1.1))]) wS:=by
   intro wS HS
   rw [hW]
   refine wd1 7 ?_
   ·
    exact kS 7 rfl (op_build (cs:=[_,_]) Fa.I207 Fa.PL207 rfl rfl<|WD.cw hW (st8_33 wS HS))
  have st8_31: ∀(wS:World),Owl.Own [] w wS [a8_0,a8_8,a8_2,a8_3,a8_4,a8_5,a8_6]→W 6 (bz 13 251) (e8 [(32,(ptr b7 1)),(38,(.agg #[(vU32 (numR (xsD (g3 s).2 k) 1).1.1),(vU32 (numR ((numR (xsD (g3 s).2 k) 1).2) 2).1.1)]))]) wS:=by
   intro wS HS
   rw [hW]
   refine wd2 2 8 ?_ ?_
   ·
    exact kS 2 rfl (op_load rfl (HS.cell (i:=3) rfl rfl) Tryz.underlying37 rfl<|WD.cw hW (st8_33 wS HS))
   ·
    exact kS 8 rfl (op_buildSlice (cs:=[_,_]) HS Tryz.underlying37 Fa.I207 rfl rfl rfl rfl (by decide) (by decide) (fun b29161 w29161 H29161=>(WD.cw hW (st8_34 b29161 w29161 H29161))))
  have st8_32: ∀(b29161:_) (wS:World),Owl.Own [] w wS [a8_0,a8_8,a8_2,a8_3,a8_4,a8_5,a8_6,.row (.slice (some ⟨b29161,0,none⟩) 1 1) 207 2 1 (List.map vU32 [(numR (xsD (g3 s).2 k) 1).1.1,(numR ((numR (xsD (g3 s).2 k) 1).2) 2).1.1])]→W 6 (bz 13 505) (e8 [(31,(ptr b7 0)),(39,(.slice (some ⟨b29161,0,none⟩) 1 1))]) wS:=by
   intro b29161 wS HS
   rw [hW]
   refine wd1 1 ?_
   ·
    exact kS 1 rfl (op_fieldAddr rfl Fa.F40_1<|WD.cw hW (st8_34 b29161 wS HS))
  have st8_26: ∀(wS:World),Owl.Own [] w wS [a8_0,a8_7,a8_2,a8_3,a8_4,a8_5,a8_6]→W 7 (bz 13 63) (e8 [(33,x),(35,(vU32 (numR (xsD (g3 s).2 k) 1).1.1)),(36,(.agg #[(ptr q2 0)]))]) wS:=by
   intro wS HS
   rw [hW]
   refine wd1 6 ?_
   ·
    refine kS 6 rfl (op_callF Fa.C159 rfl ((inum_ok q2 ((numR (xsD (g3 s).2 k) 1).2) (2) 298 _ _ (HS.part [1] rfl rfl) (by first | (rw [g1_t]; exact hs) | (rw [g2_t]; exact hs) | (rw [g4_t]; exact hs) | (rw [g6_t]; exact hs) | (rw [g7_t]; exact hs) | (rw [g8_t]; exact hs) | (rw [g10_t]; exact hs) | (rw [xsD_t,g3_t]; exact hs) | (rw [numR_s,xsD_t,g3_t]; exact hs) | (rw [psD_t,g5_t]; exact hs) | (rw [sgD_t,g9_t]; exact hs) | exact hs)).mono (fun e w29121 hq=>?_)))
    obtain ⟨rfl,hq29121⟩:=hq
    refine ⟨_,rfl,?_⟩
    have H29121:=HS.splice [1] [.blk q2 [(str ((numR ((numR (xsD (g3 s).2 k) 1).2) 2).2).s),(vN ((numR ((numR (xsD (g3 s).2 k) 1).2) 2).2).at_),(vN ((numR ((numR (xsD (g3 s).2 k) 1).2) 2).2).f)] 298] [] rfl rfl hq29121 (Fits.solid True.intro Fits.nil)
    exact WD.cw hW (st8_30 w29121 H29121)
  have st8_27: ∀(wS:World),Owl.Own [] w wS [a8_0,a8_8,a8_2,a8_3,a8_4,a8_5,a8_6]→W 7 (bz 13 123) (e8 [(32,(ptr b7 1)),(35,(vU32 (numR (xsD (g3 s).2 k) 1).1.1)),(37,(vU32 (numR ((numR (xsD (g3 s).2 k) 1).2) 2).1.1))]) wS:=by
   intro wS HS
   rw [hW]
   refine wd2 2 7 ?_ ?_
   ·
    exact kS 2 rfl (op_load rfl (HS.cell (i:=3) rfl rfl) Tryz.underlying37 rfl<|WD.cw hW (st8_30 wS HS))
   ·
    exact kS 7 rfl (op_build (cs:=[_,_]) Fa.I207 Fa.PL207 rfl rfl<|WD.cw hW (st8_31 wS HS))
  have st8_28: ∀(wS:World),Owl.Own [] w wS [a8_0,a8_8,a8_2,a8_3,a8_4,a8_5,a8_6]→W 7 (bz 13 249) (e8 [(31,(ptr b7 0)),(38,(.agg #[(vU32 (numR (xsD (g3 s).2 k) 1).1.1),(vU32 (numR ((numR (xsD (g3 s).2 k) 1).2) 2).1.1)]))]) wS:=by
   intro wS HS
   rw [hW]
   refine wd2 1 8 ?_ ?_
   ·
    exact kS 1 rfl (op_fieldAddr rfl Fa.F40_1<|WD.cw hW (st8_31 wS HS))
   ·
    exact kS 8 rfl (op_buildSlice (cs:=[_,_]) HS Tryz.underlying37 Fa.I207 rfl rfl rfl rfl (by decide) (by decide) (fun b29161 w29161 H29161=>(WD.cw hW (st8_32 b29161 w29161 H29161))))
  have st8_29: ∀(b29161:_) (wS:World),Owl.Own [] w wS [a8_0,a8_8,a8_2,a8_3,a8_4,a8_5,a8_6,.row (.slice (some ⟨b29161,0,none⟩) 1 1) 207 2 1 (List.map vU32 [(numR (xsD (g3 s).2 k) 1).1.1,(numR ((numR (xsD (g3 s).2 k) 1).2) 2).1.1])]→W 7 (bz 13 504) (e8 [(39,(.slice (some ⟨b29161,0,none⟩) 1 1))]) wS:=by
   intro b29161 wS HS
   rw [hW]
   refine wd1 0 ?_
   ·
    exact kS 0 rfl (op_fieldAddr rfl Fa.F43_0<|WD.cw hW (st8_32 b29161 wS HS))
  have st8_21: ∀(wS:World),Owl.Own [] w wS [a8_0,a8_7,a8_2,a8_3,a8_4,a8_5,a8_6]→W 8 (bz 13 31) (e8 [(33,x),(35,(vU32 (numR (xsD (g3 s).2 k) 1).1.1))]) wS:=by
   intro wS HS
   rw [hW]
   refine wd1 5 ?_
   ·
    exact kS 5 rfl (op_loadS (vs:=[_]) rfl (HS.cells (i:=2) rfl rfl) Tryz.underlying254 rfl Fa.I254 rfl<|WD.cw hW (st8_26 wS HS))
  have st8_22: ∀(wS:World),Owl.Own [] w wS [a8_0,a8_1,a8_2,a8_3,a8_4,a8_5,a8_6]→W 8 (bz 13 47) (e8 [(33,x),(34,(.agg #[(ptr q2 0)])),(36,(.agg #[(ptr q2 0)]))]) wS:=by
   intro wS HS
   rw [hW]
   refine wd1 4 ?_
   ·
    refine kS 4 rfl (op_callF Fa.C159 rfl ((inum_ok q2 (xsD (g3 s).2 k) (1) 298 _ _ (HS.part [1] rfl rfl) (by first | (rw [g1_t]; exact hs) | (rw [g2_t]; exact hs) | (rw [g4_t]; exact hs) | (rw [g6_t]; exact hs) | (rw [g7_t]; exact hs) | (rw [g8_t]; exact hs) | (rw [g10_t]; exact hs) | (rw [xsD_t,g3_t]; exact hs) | (rw [numR_s,xsD_t,g3_t]; exact hs) | (rw [psD_t,g5_t]; exact hs) | (rw [sgD_t,g9_t]; exact hs) | exact hs)).mono (fun e w29081 hq=>?_)))
    obtain ⟨rfl,hq29081⟩:=hq
    refine ⟨_,rfl,?_⟩
    have H29081:=HS.splice [1] [.blk q2 [(str ((numR (xsD (g3 s).2 k) 1).2).s),(vN ((numR (xsD (g3 s).2 k) 1).2).at_),(vN ((numR (xsD (g3 s).2 k) 1).2).f)] 298] [] rfl rfl hq29081 (Fits.solid True.intro Fits.nil)
    exact WD.cw hW (st8_26 w29081 H29081)
  have st8_23: ∀(wS:World),Owl.Own [] w wS [a8_0,a8_7,a8_2,a8_3,a8_4,a8_5,a8_6]→W 8 (bz 13 59) (e8 [(32,(ptr b7 1)),(35,(vU32 (numR (xsD (g3 s).2 k) 1).1.1)),(36,(.agg #[(ptr q2 0)]))]) wS:=by
   intro wS HS
   rw [hW]
   refine wd2 2 6 ?_ ?_
   ·
    exact kS 2 rfl (op_load rfl (HS.cell (i:=3) rfl rfl) Tryz.underlying37 rfl<|WD.cw hW (st8_26 wS HS))
   ·
    refine kS 6 rfl (op_callF Fa.C159 rfl ((inum_ok q2 ((numR (xsD (g3 s).2 k) 1).2) (2) 298 _ _ (HS.part [1] rfl rfl) (by first | (rw [g1_t]; exact hs) | (rw [g2_t]; exact hs) | (rw [g4_t]; exact hs) | (rw [g6_t]; exact hs) | (rw [g7_t]; exact hs) | (rw [g8_t]; exact hs) | (rw [g10_t]; exact hs) | (rw [xsD_t,g3_t]; exact hs) | (rw [numR_s,xsD_t,g3_t]; exact hs) | (rw [psD_t,g5_t]; exact hs) | (rw [sgD_t,g9_t]; exact hs) | exact hs)).mono (fun e w29121 hq=>?_)))
    obtain ⟨rfl,hq29121⟩:=hq
    refine ⟨_,rfl,?_⟩
    have H29121:=HS.splice [1] [.blk q2 [(str ((numR ((numR (xsD (g3 s).2 k) 1).2) 2).2).s),(vN ((numR ((numR (xsD (g3 s).2 k) 1).2) 2).2).at_),(vN ((numR ((numR (xsD (g3 s).2 k) 1).2) 2).2).f)] 298] [] rfl rfl hq29121 (Fits.solid True.intro Fits.nil)
    exact WD.cw hW (st8_27 w29121 H29121)
  have st8_24: ∀(wS:World),Owl.Own [] w wS [a8_0,a8_8,a8_2,a8_3,a8_4,a8_5,a8_6]→W 8 (bz 13 121) (e8 [(31,(ptr b7 0)),(35,(vU32 (numR (xsD (g3 s).2 k) 1).1.1)),(37,(vU32 (numR ((numR (xsD (g3 s).2 k) 1).2) 2).1.1))]) wS:=by
   intro wS HS
   rw [hW]
   refine wd2 1 7 ?_ ?_
   ·
    exact kS 1 rfl (op_fieldAddr rfl Fa.F40_1<|WD.cw hW (st8_27 wS HS))
   ·
    exact kS 7 rfl (op_build (cs:=[_,_]) Fa.I207 Fa.PL207 rfl rfl<|WD.cw hW (st8_28 wS HS))
  have st8_25: ∀(wS:World),Owl.Own [] w wS [a8_0,a8_8,a8_2,a8_3,a8_4,a8_5,a8_6]→W 8 (bz 13 248) (e8 [(38,(.agg #[(vU32 (numR (xsD (g3 s).2 k) 1).1.1),(vU32 (numR ((numR (xsD (g3 s).2 k) 1).2) 2).1.1)]))]) wS:=by
   intro wS HS
   rw [hW]
   refine wd2 0 8 ?_ ?_
   ·
    exact kS 0 rfl (op_fieldAddr rfl Fa.F43_0<|WD.cw hW (st8_28 wS HS))
   ·
    exact kS 8 rfl (op_buildSlice (cs:=[_,_]) HS Tryz.underlying37 Fa.I207 rfl rfl rfl rfl (by decide) (by decide) (fun b29161 w29161 H29161=>(WD.cw hW (st8_29 b29161 w29161 H29161))))
  have st8_15: ∀(wS:World),Owl.Own [] w wS [a8_0,a8_1,a8_2,a8_3,a8_4,a8_5,a8_6]→W 9 (bz 13 15) (e8 [(33,x),(34,(.agg #[(ptr q2 0)]))]) wS:=by
   intro wS HS
   rw [hW]
   refine wd2 4 5 ?_ ?_
   ·
    refine kS 4 rfl (op_callF Fa.C159 rfl ((inum_ok q2 (xsD (g3 s).2 k) (1) 298 _ _ (HS.part [1] rfl rfl) (by first | (rw [g1_t]; exact hs) | (rw [g2_t]; exact hs) | (rw [g4_t]; exact hs) | (rw [g6_t]; exact hs) | (rw [g7_t]; exact hs) | (rw [g8_t]; exact hs) | (rw [g10_t]; exact hs) | (rw [xsD_t,g3_t]; exact hs) | (rw [numR_s,xsD_t,g3_t]; exact hs) | (rw [psD_t,g5_t]; exact hs) | (rw [sgD_t,g9_t]; exact hs) | exact hs)).mono (fun e w29081 hq=>?_)))
    obtain ⟨rfl,hq29081⟩:=hq
    refine ⟨_,rfl,?_⟩
    have H29081:=HS.splice [1] [.blk q2 [(str ((numR (xsD (g3 s).2 k) 1).2).s),(vN ((numR (xsD (g3 s).2 k) 1).2).at_),(vN ((numR (xsD (g3 s).2 k) 1).2).f)] 298] [] rfl rfl hq29081 (Fits.solid True.intro Fits.nil)
    exact WD.cw hW (st8_21 w29081 H29081)
   ·
    exact kS 5 rfl (op_loadS (vs:=[_]) rfl (HS.cells (i:=2) rfl rfl) Tryz.underlying254 rfl Fa.I254 rfl<|WD.cw hW (st8_22 wS HS))
  have st8_16: ∀(wS:World),Owl.Own [] w wS [a8_0,a8_1,a8_2,a8_3,a8_4,a8_5,a8_6]→W 9 (bz 13 39) (e8 [(33,x),(36,(.agg #[(ptr q2 0)]))]) wS:=by
   intro wS HS
   rw [hW]
   refine wd1 3 ?_
   ·
    exact kS 3 rfl (op_loadS (vs:=[_]) rfl (HS.cells (i:=2) rfl rfl) Tryz.underlying254 rfl Fa.I254 rfl<|WD.cw hW (st8_22 wS HS))
  have st8_17: ∀(wS:World),Owl.Own [] w wS [a8_0,a8_7,a8_2,a8_3,a8_4,a8_5,a8_6]→W 9 (bz 13 27) (e8 [(32,(ptr b7 1)),(35,(vU32 (numR (xsD (g3 s).2 k) 1).1.1))]) wS:=by
   intro wS HS
   rw [hW]
   refine wd2 2 5 ?_ ?_
   ·
    exact kS 2 rfl (op_load rfl (HS.cell (i:=3) rfl rfl) Tryz.underlying37 rfl<|WD.cw hW (st8_21 wS HS))
   ·
    exact kS 5 rfl (op_loadS (vs:=[_]) rfl (HS.cells (i:=2) rfl rfl) Tryz.underlying254 rfl Fa.I254 rfl<|WD.cw hW (st8_23 wS HS))
  have st8_18: ∀(wS:World),Owl.Own [] w wS [a8_0,a8_1,a8_2,a8_3,a8_4,a8_5,a8_6]→W 9 (bz 13 43) (e8 [(32,(ptr b7 1)),(34,(.agg #[(ptr q2 0)])),(36,(.agg #[(ptr q2 0)]))]) wS:=by
   intro wS HS
   rw [hW]
   refine wd2 2 4 ?_ ?_
   ·
    exact kS 2 rfl (op_load rfl (HS.cell (i:=3) rfl rfl) Tryz.underlying37 rfl<|WD.cw hW (st8_22 wS HS))
   ·
    refine kS 4 rfl (op_callF Fa.C159 rfl ((inum_ok q2 (xsD (g3 s).2 k) (1) 298 _ _ (HS.part [1] rfl rfl) (by first | (rw [g1_t]; exact hs) | (rw [g2_t]; exact hs) | (rw [g4_t]; exact hs) | (rw [g6_t]; exact hs) | (rw [g7_t]; exact hs) | (rw [g8_t]; exact hs) | (rw [g10_t]; exact hs) | (rw [xsD_t,g3_t]; exact hs) | (rw [numR_s,xsD_t,g3_t]; exact hs) | (rw [psD_t,g5_t]; exact hs) | (rw [sgD_t,g9_t]; exact hs) | exact hs)).mono (fun e w29081 hq=>?_)))
    obtain ⟨rfl,hq29081⟩:=hq
    refine ⟨_,rfl,?_⟩
    have H29081:=HS.splice [1] [.blk q2 [(str ((numR (xsD (g3 s).2 k) 1).2).s),(vN ((numR (xsD (g3 s).2 k) 1).2).at_),(vN ((numR (xsD (g3 s).2 k) 1).2).f)] 298] [] rfl rfl hq29081 (Fits.solid True.intro Fits.nil)
    exact WD.cw hW (st8_23 w29081 H29081)
  have st8_19: ∀(wS:World),Owl.Own [] w wS [a8_0,a8_7,a8_2,a8_3,a8_4,a8_5,a8_6]→W 9 (bz 13 57) (e8 [(31,(ptr b7 0)),(35,(vU32 (numR (xsD (g3 s).2 k) 1).1.1)),(36,(.agg #[(ptr q2 0)]))]) wS:=by
   intro wS HS
   rw [hW]
   refine wd2 1 6 ?_ ?_
   ·
    exact kS 1 rfl (op_fieldAddr rfl Fa.F40_1<|WD.cw hW (st8_23 wS HS))
   ·
    refine kS 6 rfl (op_callF Fa.C159 rfl ((inum_ok q2 ((numR (xsD (g3 s).2 k) 1).2) (2) 298 _ _ (HS.part [1] rfl rfl) (by first | (rw [g1_t]; exact hs) | (rw [g2_t]; exact hs) | (rw [g4_t]; exact hs) | (rw [g6_t]; exact hs) | (rw [g7_t]; exact hs) | (rw [g8_t]; exact hs) | (rw [g10_t]; exact hs) | (rw [xsD_t,g3_t]; exact hs) | (rw [numR_s,xsD_t,g3_t]; exact hs) | (rw [psD_t,g5_t]; exact hs) | (rw [sgD_t,g9_t]; exact hs) | exact hs)).mono (fun e w29121 hq=>?_)))
    obtain ⟨rfl,hq29121⟩:=hq
    refine ⟨_,rfl,?_⟩
    have H29121:=HS.splice [1] [.blk q2 [(str ((numR ((numR (xsD (g3 s).2 k) 1).2) 2).2).s),(vN ((numR ((numR (xsD (g3 s).2 k) 1).2) 2).2).at_),(vN ((numR ((numR (xsD (g3 s).2 k) 1).2) 2).2).f)] 298] [] rfl rfl hq29121 (Fits.solid True.intro Fits.nil)
    exact WD.cw hW (st8_24 w29121 H29121)
  have st8_20: ∀(wS:World),Owl.Own [] w wS [a8_0,a8_8,a8_2,a8_3,a8_4,a8_5,a8_6]→W 9 (bz 13 120) (e8 [(35,(vU32 (numR (xsD (g3 s).2 k) 1).1.1)),(37,(vU32 (numR ((numR (xsD (g3 s).2 k) 1).2) 2).1.1))]) wS:=by
   intro wS HS
   rw [hW]
   refine wd2 0 7 ?_ ?_
   ·
    exact kS 0 rfl (op_fieldAddr rfl Fa.F43_0<|WD.cw hW (st8_24 wS HS))
   ·
    exact kS 7 rfl (op_build (cs:=[_,_]) Fa.I207 Fa.PL207 rfl rfl<|WD.cw hW (st8_25 wS HS))
  have st8_9: ∀(wS:World),Owl.Own [] w wS [a8_0,a8_1,a8_2,a8_3,a8_4,a8_5,a8_6]→W 10 (bz 13 7) (e8 [(33,x)]) wS:=by
   intro wS HS
   rw [hW]
   refine wd2 3 5 ?_ ?_
   ·
    exact kS 3 rfl (op_loadS (vs:=[_]) rfl (HS.cells (i:=2) rfl rfl) Tryz.underlying254 rfl Fa.I254 rfl<|WD.cw hW (st8_15 wS HS))
   ·
    exact kS 5 rfl (op_loadS (vs:=[_]) rfl (HS.cells (i:=2) rfl rfl) Tryz.underlying254 rfl Fa.I254 rfl<|WD.cw hW (st8_16 wS HS))
  have st8_10: ∀(wS:World),Owl.Own [] w wS [a8_0,a8_1,a8_2,a8_3,a8_4,a8_5,a8_6]→W 10 (bz 13 11) (e8 [(32,(ptr b7 1)),(34,(.agg #[(ptr q2 0)]))]) wS:=by
   intro wS HS
   rw [hW]
   refine wd3 2 4 5 ?_ ?_ ?_
   ·
    exact kS 2 rfl (op_load rfl (HS.cell (i:=3) rfl rfl) Tryz.underlying37 rfl<|WD.cw hW (st8_15 wS HS))
   ·
    refine kS 4 rfl (op_callF Fa.C159 rfl ((inum_ok q2 (xsD (g3 s).2 k) (1) 298 _ _ (HS.part [1] rfl rfl) (by first | (rw [g1_t]; exact hs) | (rw [g2_t]; exact hs) | (rw [g4_t]; exact hs) | (rw [g6_t]; exact hs) | (rw [g7_t]; exact hs) | (rw [g8_t]; exact hs) | (rw [g10_t]; exact hs) | (rw [xsD_t,g3_t]; exact hs) | (rw [numR_s,xsD_t,g3_t]; exact hs) | (rw [psD_t,g5_t]; exact hs) | (rw [sgD_t,g9_t]; exact hs) | exact hs)).mono (fun e w29081 hq=>?_)))
    obtain ⟨rfl,hq29081⟩:=hq
    refine ⟨_,rfl,?_⟩
    have H29081:=HS.splice [1] [.blk q2 [(str ((numR (xsD (g3 s).2 k) 1).2).s),(vN ((numR (xsD (g3 s).2 k) 1).2).at_),(vN ((numR (xsD (g3 s).2 k) 1).2).f)] 298] [] rfl rfl hq29081 (Fits.solid True.intro Fits.nil)
    exact WD.cw hW (st8_17 w29081 H29081)
   ·
    exact kS 5 rfl (op_loadS (vs:=[_]) rfl (HS.cells (i:=2) rfl rfl) Tryz.underlying254 rfl Fa.I254 rfl<|WD.cw hW (st8_18 wS HS))
  have st8_11: ∀(wS:World),Owl.Own [] w wS [a8_0,a8_1,a8_2,a8_3,a8_4,a8_5,a8_6]→W 10 (bz 13 35) (e8 [(32,(ptr b7 1)),(36,(.agg #[(ptr q2 0)]))]) wS:=by
   intro wS HS
   rw [hW]
   refine wd2 2 3 ?_ ?_
   ·
    exact kS 2 rfl (op_load rfl (HS.cell (i:=3) rfl rfl) Tryz.underlying37 rfl<|WD.cw hW (st8_16 wS HS))
   ·
    exact kS 3 rfl (op_loadS (vs:=[_]) rfl (HS.cells (i:=2) rfl rfl) Tryz.underlying254 rfl Fa.I254 rfl<|WD.cw hW (st8_18 wS HS))
  have st8_12: ∀(wS:World),Owl.Own [] w wS [a8_0,a8_7,a8_2,a8_3,a8_4,a8_5,a8_6]→W 10 (bz 13 25) (e8 [(31,(ptr b7 0)),(35,(vU32 (numR (xsD (g3 s).2 k) 1).1.1))]) wS:=by
   intro wS HS
   rw [hW]
   refine wd2 1 5 ?_ ?_
   ·
    exact kS 1 rfl (op_fieldAddr rfl Fa.F40_1<|WD.cw hW (st8_17 wS HS))
   ·
    exact kS 5 rfl (op_loadS (vs:=[_]) rfl (HS.cells (i:=2) rfl rfl) Tryz.underlying254 rfl Fa.I254 rfl<|WD.cw hW (st8_19 wS HS))
  have st8_13: ∀(wS:World),Owl.Own [] w wS [a8_0,a8_1,a8_2,a8_3,a8_4,a8_5,a8_6]→W 10 (bz 13 41) (e8 [(31,(ptr b7 0)),(34,(.agg #[(ptr q2 0)])),(36,(.agg #[(ptr q2 0)]))]) wS:=by
   intro wS HS
   rw [hW]
   refine wd2 1 4 ?_ ?_
   ·
    exact kS 1 rfl (op_fieldAddr rfl Fa.F40_1<|WD.cw hW (st8_18 wS HS))
   ·
    refine kS 4 rfl (op_callF Fa.C159 rfl ((inum_ok q2 (xsD (g3 s).2 k) (1) 298 _ _ (HS.part [1] rfl rfl) (by first | (rw [g1_t]; exact hs) | (rw [g2_t]; exact hs) | (rw [g4_t]; exact hs) | (rw [g6_t]; exact hs) | (rw [g7_t]; exact hs) | (rw [g8_t]; exact hs) | (rw [g10_t]; exact hs) | (rw [xsD_t,g3_t]; exact hs) | (rw [numR_s,xsD_t,g3_t]; exact hs) | (rw [psD_t,g5_t]; exact hs) | (rw [sgD_t,g9_t]; exact hs) | exact hs)).mono (fun e w29081 hq=>?_)))
    obtain ⟨rfl,hq29081⟩:=hq
    refine ⟨_,rfl,?_⟩
    have H29081:=HS.splice [1] [.blk q2 [(str ((numR (xsD (g3 s).2 k) 1).2).s),(vN ((numR (xsD (g3 s).2 k) 1).2).at_),(vN ((numR (xsD (g3 s).2 k) 1).2).f)] 298] [] rfl rfl hq29081 (Fits.solid True.intro Fits.nil)
    exact WD.cw hW (st8_19 w29081 H29081)
  have st8_14: ∀(wS:World),Owl.Own [] w wS [a8_0,a8_7,a8_2,a8_3,a8_4,a8_5,a8_6]→W 10 (bz 13 56) (e8 [(35,(vU32 (numR (xsD (g3 s).2 k) 1).1.1)),(36,(.agg #[(ptr q2 0)]))]) wS:=by
   intro wS HS
   rw [hW]
   refine wd2 0 6 ?_ ?_
   ·
    exact kS 0 rfl (op_fieldAddr rfl Fa.F43_0<|WD.cw hW (st8_19 wS HS))
   ·
    refine kS 6 rfl (op_callF Fa.C159 rfl ((inum_ok q2 ((numR (xsD (g3 s).2 k) 1).2) (2) 298 _ _ (HS.part [1] rfl rfl) (by first | (rw [g1_t]; exact hs) | (rw [g2_t]; exact hs) | (rw [g4_t]; exact hs) | (rw [g6_t]; exact hs) | (rw [g7_t]; exact hs) | (rw [g8_t]; exact hs) | (rw [g10_t]; exact hs) | (rw [xsD_t,g3_t]; exact hs) | (rw [numR_s,xsD_t,g3_t]; exact hs) | (rw [psD_t,g5_t]; exact hs) | (rw [sgD_t,g9_t]; exact hs) | exact hs)).mono (fun e w29121 hq=>?_)))
    obtain ⟨rfl,hq29121⟩:=hq
    refine ⟨_,rfl,?_⟩
    have H29121:=HS.splice [1] [.blk q2 [(str ((numR ((numR (xsD (g3 s).2 k) 1).2) 2).2).s),(vN ((numR ((numR (xsD (g3 s).2 k) 1).2) 2).2).at_),(vN ((numR ((numR (xsD (g3 s).2 k) 1).2) 2).2).f)] 298] [] rfl rfl hq29121 (Fits.solid True.intro Fits.nil)
    exact WD.cw hW (st8_20 w29121 H29121)
  have st8_4: ∀(wS:World),Owl.Own [] w wS [a8_0,a8_1,a8_2,a8_3,a8_4,a8_5,a8_6]→W 11 (bz 13 3) (e8 [(32,(ptr b7 1))]) wS:=by
   intro wS HS
   rw [hW]
   refine wd3 2 3 5 ?_ ?_ ?_
   ·
    exact kS 2 rfl (op_load rfl (HS.cell (i:=3) rfl rfl) Tryz.underlying37 rfl<|WD.cw hW (st8_9 wS HS))
   ·
    exact kS 3 rfl (op_loadS (vs:=[_]) rfl (HS.cells (i:=2) rfl rfl) Tryz.underlying254 rfl Fa.I254 rfl<|WD.cw hW (st8_10 wS HS))
   ·
    exact kS 5 rfl (op_loadS (vs:=[_]) rfl (HS.cells (i:=2) rfl rfl) Tryz.underlying254 rfl Fa.I254 rfl<|WD.cw hW (st8_11 wS HS))
  have st8_5: ∀(wS:World),Owl.Own [] w wS [a8_0,a8_1,a8_2,a8_3,a8_4,a8_5,a8_6]→W 11 (bz 13 9) (e8 [(31,(ptr b7 0)),(34,(.agg #[(ptr q2 0)]))]) wS:=by
   intro wS HS
   rw [hW]
   refine wd3 1 4 5 ?_ ?_ ?_
   ·
    exact kS 1 rfl (op_fieldAddr rfl Fa.F40_1<|WD.cw hW (st8_10 wS HS))
   ·
    refine kS 4 rfl (op_callF Fa.C159 rfl ((inum_ok q2 (xsD (g3 s).2 k) (1) 298 _ _ (HS.part [1] rfl rfl) (by first | (rw [g1_t]; exact hs) | (rw [g2_t]; exact hs) | (rw [g4_t]; exact hs) | (rw [g6_t]; exact hs) | (rw [g7_t]; exact hs) | (rw [g8_t]; exact hs) | (rw [g10_t]; exact hs) | (rw [xsD_t,g3_t]; exact hs) | (rw [numR_s,xsD_t,g3_t]; exact hs) | (rw [psD_t,g5_t]; exact hs) | (rw [sgD_t,g9_t]; exact hs) | exact hs)).mono (fun e w29081 hq=>?_)))
    obtain ⟨rfl,hq29081⟩:=hq
    refine ⟨_,rfl,?_⟩
    have H29081:=HS.splice [1] [.blk q2 [(str ((numR (xsD (g3 s).2 k) 1).2).s),(vN ((numR (xsD (g3 s).2 k) 1).2).at_),(vN ((numR (xsD (g3 s).2 k) 1).2).f)] 298] [] rfl rfl hq29081 (Fits.solid True.intro Fits.nil)
    exact WD.cw hW (st8_12 w29081 H29081)
   ·
    exact kS 5 rfl (op_loadS (vs:=[_]) rfl (HS.cells (i:=2) rfl rfl) Tryz.underlying254 rfl Fa.I254 rfl<|WD.cw hW (st8_13 wS HS))
  have st8_6: ∀(wS:World),Owl.Own [] w wS [a8_0,a8_1,a8_2,a8_3,a8_4,a8_5,a8_6]→W 11 (bz 13 33) (e8 [(31,(ptr b7 0)),(36,(.agg #[(ptr q2 0)]))]) wS:=by
   intro wS HS
   rw [hW]
   refine wd2 1 3 ?_ ?_
   ·
    exact kS 1 rfl (op_fieldAddr rfl Fa.F40_1<|WD.cw hW (st8_11 wS HS))
   ·
    exact kS 3 rfl (op_loadS (vs:=[_]) rfl (HS.cells (i:=2) rfl rfl) Tryz.underlying254 rfl Fa.I254 rfl<|WD.cw hW (st8_13 wS HS))
  have st8_7: ∀(wS:World),Owl.Own [] w wS [a8_0,a8_7,a8_2,a8_3,a8_4,a8_5,a8_6]→W 11 (bz 13 24) (e8 [(35,(vU32 (numR (xsD (g3 s).2 k) 1).1.1))]) wS:=by
   intro wS HS
   rw [hW]
   refine wd2 0 5 ?_ ?_
   ·
    exact kS 0 rfl (op_fieldAddr rfl Fa.F43_0<|WD.cw hW (st8_12 wS HS))
   ·
    exact kS 5 rfl (op_loadS (vs:=[_]) rfl (HS.cells (i:=2) rfl rfl) Tryz.underlying254 rfl Fa.I254 rfl<|WD.cw hW (st8_14 wS HS))
  have st8_8: ∀(wS:World),Owl.Own [] w wS [a8_0,a8_1,a8_2,a8_3,a8_4,a8_5,a8_6]→W 11 (bz 13 40) (e8 [(34,(.agg #[(ptr q2 0)])),(36,(.agg #[(ptr q2 0)]))]) wS:=by
   intro wS HS
   rw [hW]
   refine wd2 0 4 ?_ ?_
   ·
    exact kS 0 rfl (op_fieldAddr rfl Fa.F43_0<|WD.cw hW (st8_13 wS HS))
   ·
    refine kS 4 rfl (op_callF Fa.C159 rfl ((inum_ok q2 (xsD (g3 s).2 k) (1) 298 _ _ (HS.part [1] rfl rfl) (by first | (rw [g1_t]; exact hs) | (rw [g2_t]; exact hs) | (rw [g4_t]; exact hs) | (rw [g6_t]; exact hs) | (rw [g7_t]; exact hs) | (rw [g8_t]; exact hs) | (rw [g10_t]; exact hs) | (rw [xsD_t,g3_t]; exact hs) | (rw [numR_s,xsD_t,g3_t]; exact hs) | (rw [psD_t,g5_t]; exact hs) | (rw [sgD_t,g9_t]; exact hs) | exact hs)).mono (fun e w29081 hq=>?_)))
    obtain ⟨rfl,hq29081⟩:=hq
    refine ⟨_,rfl,?_⟩
    have H29081:=HS.splice [1] [.blk q2 [(str ((numR (xsD (g3 s).2 k) 1).2).s),(vN ((numR (xsD (g3 s).2 k) 1).2).at_),(vN ((numR (xsD (g3 s).2 k) 1).2).f)] 298] [] rfl rfl hq29081 (Fits.solid True.intro Fits.nil)
    exact WD.cw hW (st8_14 w29081 H29081)
  have st8_1: ∀(wS:World),Owl.Own [] w wS [a8_0,a8_1,a8_2,a8_3,a8_4,a8_5,a8_6]→W 12 (bz 13 1) (e8 [(31,(ptr b7 0))]) wS:=by
   intro wS HS
   rw [hW]
   refine wd3 1 3 5 ?_ ?_ ?_
   ·
    exact kS 1 rfl (op_fieldAddr rfl Fa.F40_1<|WD.cw hW (st8_4 wS HS))
   ·
    exact kS 3 rfl (op_loadS (vs:=[_]) rfl (HS.cells (i:=2) rfl rfl) Tryz.underlying254 rfl Fa.I254 rfl<|WD.cw hW (st8_5 wS HS))
   ·
    exact kS 5 rfl (op_loadS (vs:=[_]) rfl (HS.cells (i:=2) rfl rfl) Tryz.underlying254 rfl Fa.I254 rfl<|WD.cw hW (st8_6 wS HS))
  have st8_2: ∀(wS:World),Owl.Own [] w wS [a8_0,a8_1,a8_2,a8_3,a8_4,a8_5,a8_6]→W 12 (bz 13 8) (e8 [(34,(.agg #[(ptr q2 0)]))]) wS:=by
   intro wS HS
   rw [hW]
   refine wd3 0 4 5 ?_ ?_ ?_
   ·
    exact kS 0 rfl (op_fieldAddr rfl Fa.F43_0<|WD.cw hW (st8_5 wS HS))
   ·
    refine kS 4 rfl (op_callF Fa.C159 rfl ((inum_ok q2 (xsD (g3 s).2 k) (1) 298 _ _ (HS.part [1] rfl rfl) (by first | (rw [g1_t]; exact hs) | (rw [g2_t]; exact hs) | (rw [g4_t]; exact hs) | (rw [g6_t]; exact hs) | (rw [g7_t]; exact hs) | (rw [g8_t]; exact hs) | (rw [g10_t]; exact hs) | (rw [xsD_t,g3_t]; exact hs) | (rw [numR_s,xsD_t,g3_t]; exact hs) | (rw [psD_t,g5_t]; exact hs) | (rw [sgD_t,g9_t]; exact hs) | exact hs)).mono (fun e w29081 hq=>?_)))
    obtain ⟨rfl,hq29081⟩:=hq
    refine ⟨_,rfl,?_⟩
    have H29081:=HS.splice [1] [.blk q2 [(str ((numR (xsD (g3 s).2 k) 1).2).s),(vN ((numR (xsD (g3 s).2 k) 1).2).at_),(vN ((numR (xsD (g3 s).2 k) 1).2).f)] 298] [] rfl rfl hq29081 (Fits.solid True.intro Fits.nil)
    exact WD.cw hW (st8_7 w29081 H29081)
   ·
    exact kS 5 rfl (op_loadS (vs:=[_]) rfl (HS.cells (i:=2) rfl rfl) Tryz.underlying254 rfl Fa.I254 rfl<|WD.cw hW (st8_8 wS HS))
  have st8_3: ∀(wS:World),Owl.Own [] w wS [a8_0,a8_1,a8_2,a8_3,a8_4,a8_5,a8_6]→W 12 (bz 13 32) (e8 [(36,(.agg #[(ptr q2 0)]))]) wS:=by
   intro wS HS
   rw [hW]
   refine wd2 0 3 ?_ ?_
   ·
    exact kS 0 rfl (op_fieldAddr rfl Fa.F43_0<|WD.cw hW (st8_6 wS HS))
   ·
    exact kS 3 rfl (op_loadS (vs:=[_]) rfl (HS.cells (i:=2) rfl rfl) Tryz.underlying254 rfl Fa.I254 rfl<|WD.cw hW (st8_8 wS HS))
  have st8_0: ∀(wS:World),Owl.Own [] w wS [a8_0,a8_1,a8_2,a8_3,a8_4,a8_5,a8_6]→W 13 (bz 13 0) (e8 []) wS:=by
   intro wS HS
   rw [hW]
   refine wd3 0 3 5 ?_ ?_ ?_
   ·
    exact kS 0 rfl (op_fieldAddr rfl Fa.F43_0<|WD.cw hW (st8_1 wS HS))
   ·
    exact kS 3 rfl (op_loadS (vs:=[_]) rfl (HS.cells (i:=2) rfl rfl) Tryz.underlying254 rfl Fa.I254 rfl<|WD.cw hW (st8_2 wS HS))
   ·
    exact kS 5 rfl (op_loadS (vs:=[_]) rfl (HS.cells (i:=2) rfl rfl) Tryz.underlying254 rfl Fa.I254 rfl<|WD.cw hW (st8_3 wS HS))
  have hq:=st8_0 w18 H18
  rw [hW] at hq ⊢
  refine WD.cov ?_ hq
  exact by repeat (first | exact trivial | refine ⟨rfl,?_⟩)
 ·
  have hc17:=dF hb17
  refine WC.exit<|WQ.thenExit<|WQ.thenExit<|WQ.inHere<|WQ.next<|WC.seq<|ws ?_
  have hkx:¬k<(g3 s).1.1.toNat:=fun h=>hc17 (hct.2 h)
  obtain rfl:k=(g3 s).1.1.toNat:=by omega
  have H20:Owl.Own [] w w16 [.blk b1 [(vU32 0),(.slice none 0 0),(.slice none 0 0),(.bool false),(vU32 0),(.slice none 0 0)] 43,.blk q2 [(str (g4 s).s),(vN (g4 s).at_),(vN (g4 s).f)] 298,.blk b3 [(ptr q2 0)] 254,.blk b7 [(vU32 (g2 s).1.1),x,(.slice none 0 0),(.bool false),(vU32 0),(.slice none 0 0)] 43,.row x 207 2 (g3 s).1.1.toNat (List.flatMap xtc (gX s)),.row (.slice none 0 0) 203 1 0 (List.map vU16 []),.row (.slice none 0 0) 116 3 0 (List.flatMap sgc [])]:=by have h:=H16; rw [show xsD (g3 s).2 (g3 s).1.1.toNat=g4 s from rfl] at h; rw [show xsL (g3 s).2 (g3 s).1.1.toNat=gX s from rfl] at h; exact h
  refine wo (op_loadS (vs:=[_]) rfl (H20.cells (i:=2) rfl rfl) Tryz.underlying254 rfl Fa.I254 rfl<|wo (op_callF Fa.C159 rfl ((inum_ok q2 (g4 s) (1) 298 _ _ (H20.part [1] rfl rfl) (by first | (rw [g1_t]; exact hs) | (rw [g2_t]; exact hs) | (rw [g4_t]; exact hs) | (rw [g6_t]; exact hs) | (rw [g7_t]; exact hs) | (rw [g8_t]; exact hs) | (rw [g10_t]; exact hs) | (rw [xsD_t,g3_t]; exact hs) | (rw [numR_s,xsD_t,g3_t]; exact hs) | (rw [psD_t,g5_t]; exact hs) | (rw [sgD_t,g9_t]; exact hs) | exact hs)).mono (fun e w21 hq=>?_))))
  obtain ⟨rfl,hq21⟩:=hq
  refine ⟨_,rfl,?_⟩
  have H21:=H20.splice [1] [.blk q2 [(str ((numR (g4 s) 1).2).s),(vN ((numR (g4 s) 1).2).at_),(vN ((numR (g4 s) 1).2).f)] 298] [] rfl rfl hq21 (Fits.solid True.intro Fits.nil)
  have H22:Owl.Own [] w w21 [.blk b1 [(vU32 0),(.slice none 0 0),(.slice none 0 0),(.bool false),(vU32 0),(.slice none 0 0)] 43,.blk q2 [(str ((g5 s).2).s),(vN ((g5 s).2).at_),(vN ((g5 s).2).f)] 298,.blk b3 [(ptr q2 0)] 254,.blk b7 [(vU32 (g2 s).1.1),x,(.slice none 0 0),(.bool false),(vU32 0),(.slice none 0 0)] 43,.row x 207 2 (g3 s).1.1.toNat (List.flatMap xtc (gX s)),.row (.slice none 0 0) 203 1 0 (List.map vU16 []),.row (.slice none 0 0) 116 3 0 (List.flatMap sgc [])]:=by have h:=H21; rw [show numR (g4 s) 1=g5 s from rfl] at h; exact h
  rw [show numR (g4 s) 1=g5 s from rfl]
  refine wa rfl<|wn<|WC.block<|WC.loop (α:=Nat × Value) (fun (j,y)=>[(2,(ptr b1 0)),(4,(ptr b3 0)),(5,(str (g1 s).1.1)),(7,(ptr b7 0)),(9,(vU32 ((g5 s).1.1-UInt32.ofNat j)))]) (fun (j,y) w'=>(j≤(g5 s).1.1.toNat)∧Owl.Own [] w w' [.blk b1 [(vU32 0),(.slice none 0 0),(.slice none 0 0),(.bool false),(vU32 0),(.slice none 0 0)] 43,.blk q2 [(str (psD (g5 s).2 j).s),(vN (psD (g5 s).2 j).at_),(vN (psD (g5 s).2 j).f)] 298,.blk b3 [(ptr q2 0)] 254,.blk b7 [(vU32 (g2 s).1.1),x,y,(.bool false),(vU32 0),(.slice none 0 0)] 43,.row x 207 2 (g3 s).1.1.toNat (List.flatMap xtc (gX s)),.row y 203 1 j (List.map vU16 (psL (g5 s).2 j)),.row (.slice none 0 0) 116 3 0 (List.flatMap sgc [])]) (fun (j,y)=>(g5 s).1.1.toNat-j) (0,(.slice none 0 0)) ⟨(Nat.zero_le _),(by rw [psD_0]; exact H22)⟩ ⟨rfl,rfl,rfl,rfl,(congrArg (fun n=>some (vU32 n)) (u32_sub0 _)),trivial⟩ ?_
  rintro ⟨j,y⟩ w23 ⟨hj1,H23⟩
  show WC _ _ _ _ _ [(2,(ptr b1 0)),(4,(ptr b3 0)),(5,(str (g1 s).1.1)),(7,(ptr b7 0)),(9,(vU32 ((g5 s).1.1-UInt32.ofNat j)))] _
  have hct:=u32_gt hj1
  have hnl:=(g5 s).1.1.toNat_lt
  refine WC.seq<|ws<|wm rfl<|wo (op_gtrU32 (b:=0) rfl rfl<|wn (wC (decide (((g5 s).1.1-UInt32.ofNat j)>(0:UInt32))) (fun hb24=>?_) (fun hb24=>?_)))
  ·
   have hc24:=dT hb24
   have hkn:=hct.1 hc24
   refine WC.skip<|WQ.next<|WC.seq<|WC.block<|WC.drawn 11 rfl Fa.M H23 ?_
   intro w25 H25
   refine WD.named (fun W hW=>?_)
   let e12:List (Nat × Value)→List (Nat × Value):=fun r=>(2,(ptr b1 0))::(4,(ptr b3 0))::(5,(str (g1 s).1.1))::(7,(ptr b7 0))::(9,(vU32 ((g5 s).1.1-UInt32.ofNat j)))::(45,(vU32 ((g5 s).1.1-UInt32.ofNat j)))::(46,(.bool (decide (((g5 s).1.1-UInt32.ofNat j)>(0:UInt32)))))::r
   let a12_0:Ent:=.blk b1 [(vU32 0),(.slice none 0 0),(.slice none 0 0),(.bool false),(vU32 0),(.slice none 0 0)] 43
   let a12_1:Ent:=.blk q2 [(str (psD (g5 s).2 j).s),(vN (psD (g5 s).2 j).at_),(vN (psD (g5 s).2 j).f)] 298
   let a12_2:Ent:=.blk b3 [(ptr q2 0)] 254
   let a12_3:Ent:=.blk b7 [(vU32 (g2 s).1.1),x,y,(.bool false),(vU32 0),(.slice none 0 0)] 43
   let a12_4:Ent:=.row x 207 2 (g3 s).1.1.toNat (List.flatMap xtc (gX s))
   let a12_5:Ent:=.row y 203 1 j (List.map vU16 (psL (g5 s).2 j))
   let a12_6:Ent:=.row (.slice none 0 0) 116 3 0 (List.flatMap sgc [])
   let a12_7:Ent:=.blk q2 [(str ((numR (psD (g5 s).2 j) 2).2).s),(vN ((numR (psD (g5 s).2 j) 2).2).at_),(vN ((numR (psD (g5 s).2 j) 2).2).f)] 298
   have st12_23: ∀(v36141:_) (b36121:_) (wS:World),Owl.Own [] w wS [a12_0,a12_7,a12_2,.blk b7 [(vU32 (g2 s).1.1),x,v36141,(.bool false),(vU32 0),(.slice none 0 0)] 43,a12_4,.row v36141 203 1 (j+1) (List.map vU16 ((psL (g5 s).2 j)++[(UInt16.ofNat (numR (psD (g5 s).2 j) 2).1.1.toNat)])),a12_6,.row (.slice (some ⟨b36121,0,none⟩) 1 1) 203 1 1 (List.map vU16 [(UInt16.ofNat (numR (psD (g5 s).2 j) 2).1.1.toNat)])]→W 0 (bz 11 2047) (e12 []) wS:=by
    intro v36141 b36121 wS HS
    rw [hW]
    exact WD.done (by kernel_rfl)<|WQ.inNormal<|WQ.next<|WC.region<|wm rfl<|wo (op_subU32 (b:=1) rfl rfl<|wa rfl<|WL.nil<|WQ.round (j+1,v36141) ⟨(by omega),(by rw [psD_s,psL_s]; exact (HS.take 7))⟩ ⟨rfl,rfl,rfl,rfl,(congrArg (fun n=>some (vU32 n)) (u32_dec hkn)),trivial⟩ (by show (g5 s).1.1.toNat-(j+1)<(g5 s).1.1.toNat-j; omega))
   have st12_22: ∀(v36141:_) (b36121:_) (wS:World),Owl.Own [] w wS [a12_0,a12_7,a12_2,a12_3,a12_4,.row v36141 203 1 (j+1) (List.map vU16 ((psL (g5 s).2 j)++[(UInt16.ofNat (numR (psD (g5 s).2 j) 2).1.1.toNat)])),a12_6,.row (.slice (some ⟨b36121,0,none⟩) 1 1) 203 1 1 (List.map vU16 [(UInt16.ofNat (numR (psD (g5 s).2 j) 2).1.1.toNat)])]→W 1 (bz 11 1023) (e12 [(56,v36141),(58,(ptr b7 2))]) wS:=by
    intro v36141 b36121 wS HS
    rw [hW]
    refine wd1 10 ?_
    ·
     exact kS 10 rfl (op_storeB (i:=3) HS rfl rfl rfl rfl (Arr.one (HS.arrR (i:=5) rfl)) Fa.I38 (fun w36201 H36201=>(WD.cw hW (st12_23 v36141 b36121 w36201 H36201))))
   have st12_21: ∀(v36141:_) (b36121:_) (wS:World),Owl.Own [] w wS [a12_0,a12_7,a12_2,a12_3,a12_4,.row v36141 203 1 (j+1) (List.map vU16 ((psL (g5 s).2 j)++[(UInt16.ofNat (numR (psD (g5 s).2 j) 2).1.1.toNat)])),a12_6,.row (.slice (some ⟨b36121,0,none⟩) 1 1) 203 1 1 (List.map vU16 [(UInt16.ofNat (numR (psD (g5 s).2 j) 2).1.1.toNat)])]→W 2 (bz 11 511) (e12 [(56,v36141),(57,(ptr b7 0))]) wS:=by
    intro v36141 b36121 wS HS
    rw [hW]
    refine wd1 9 ?_
    ·
     exact kS 9 rfl (op_fieldAddr rfl Fa.F40_2<|WD.cw hW (st12_22 v36141 b36121 wS HS))
   have st12_20: ∀(v36141:_) (b36121:_) (wS:World),Owl.Own [] w wS [a12_0,a12_7,a12_2,a12_3,a12_4,.row v36141 203 1 (j+1) (List.map vU16 ((psL (g5 s).2 j)++[(UInt16.ofNat (numR (psD (g5 s).2 j) 2).1.1.toNat)])),a12_6,.row (.slice (some ⟨b36121,0,none⟩) 1 1) 203 1 1 (List.map vU16 [(UInt16.ofNat (numR (psD (g5 s).2 j) 2).1.1.toNat)])]→W 3 (bz 11 255) (e12 [(56,v36141)]) wS:=by
    intro v36141 b36121 wS HS
    rw [hW]
    refine wd1 8 ?_
    ·
     exact kS 8 rfl (op_fieldAddr rfl Fa.F43_0<|WD.cw hW (st12_21 v36141 b36121 wS HS))
   have st12_19: ∀(b36121:_) (wS:World),Owl.Own [] w wS [a12_0,a12_7,a12_2,a12_3,a12_4,a12_5,a12_6,.row (.slice (some ⟨b36121,0,none⟩) 1 1) 203 1 1 (List.map vU16 [(UInt16.ofNat (numR (psD (g5 s).2 j) 2).1.1.toNat)])]→W 4 (bz 11 127) (e12 [(51,y),(55,(.slice (some ⟨b36121,0,none⟩) 1 1))]) wS:=by
    intro b36121 wS HS
    rw [hW]
    refine wd1 7 ?_
    ·
     exact kS 7 rfl (op_appendM (f:=vU16) (l:=(psL (g5 s).2 j)) (l':=[(UInt16.ofNat (numR (psD (g5 s).2 j) 2).1.1.toNat)]) (i:=5) HS Tryz.underlying38 Fa.I203 rfl rfl rfl rfl (Src.ofArr Tryz.underlying38 (HS.arrR (i:=7) rfl)) (one_mapM (fun _=>rfl)) (by omega) (by omega) (fun v36141 w36141 H36141=>(WD.cw hW (st12_20 v36141 b36121 w36141 H36141))))
   have st12_17: ∀(wS:World),Owl.Own [] w wS [a12_0,a12_7,a12_2,a12_3,a12_4,a12_5,a12_6]→W 5 (bz 11 63) (e12 [(51,y),(54,(vU16 (UInt16.ofNat (numR (psD (g5 s).2 j) 2).1.1.toNat)))]) wS:=by
    intro wS HS
    rw [hW]
    refine wd1 6 ?_
    ·
     exact kS 6 rfl (op_buildSlice (cs:=[_]) HS Tryz.underlying38 Fa.I203 rfl rfl rfl rfl (by decide) (by decide) (fun b36121 w36121 H36121=>(WD.cw hW (st12_19 b36121 w36121 H36121))))
   have st12_18: ∀(b36121:_) (wS:World),Owl.Own [] w wS [a12_0,a12_7,a12_2,a12_3,a12_4,a12_5,a12_6,.row (.slice (some ⟨b36121,0,none⟩) 1 1) 203 1 1 (List.map vU16 [(UInt16.ofNat (numR (psD (g5 s).2 j) 2).1.1.toNat)])]→W 5 (bz 11 123) (e12 [(50,(ptr b7 2)),(55,(.slice (some ⟨b36121,0,none⟩) 1 1))]) wS:=by
    intro b36121 wS HS
    rw [hW]
    refine wd1 2 ?_
    ·
     exact kS 2 rfl (op_load rfl (HS.cell (i:=3) rfl rfl) Tryz.underlying38 rfl<|WD.cw hW (st12_19 b36121 wS HS))
   have st12_14: ∀(wS:World),Owl.Own [] w wS [a12_0,a12_7,a12_2,a12_3,a12_4,a12_5,a12_6]→W 6 (bz 11 31) (e12 [(51,y),(53,(vU32 (numR (psD (g5 s).2 j) 2).1.1))]) wS:=by
    intro wS HS
    rw [hW]
    refine wd1 5 ?_
    ·
     exact kS 5 rfl (op_convU32U16 (hs:=Tryz.underlying22) (hd:=Tryz.underlying203) rfl<|WD.cw hW (st12_17 wS HS))
   have st12_15: ∀(wS:World),Owl.Own [] w wS [a12_0,a12_7,a12_2,a12_3,a12_4,a12_5,a12_6]→W 6 (bz 11 59) (e12 [(50,(ptr b7 2)),(54,(vU16 (UInt16.ofNat (numR (psD (g5 s).2 j) 2).1.1.toNat)))]) wS:=by
    intro wS HS
    rw [hW]
    refine wd2 2 6 ?_ ?_
    ·
     exact kS 2 rfl (op_load rfl (HS.cell (i:=3) rfl rfl) Tryz.underlying38 rfl<|WD.cw hW (st12_17 wS HS))
    ·
     exact kS 6 rfl (op_buildSlice (cs:=[_]) HS Tryz.underlying38 Fa.I203 rfl rfl rfl rfl (by decide) (by decide) (fun b36121 w36121 H36121=>(WD.cw hW (st12_18 b36121 w36121 H36121))))
   have st12_16: ∀(b36121:_) (wS:World),Owl.Own [] w wS [a12_0,a12_7,a12_2,a12_3,a12_4,a12_5,a12_6,.row (.slice (some ⟨b36121,0,none⟩) 1 1) 203 1 1 (List.map vU16 [(UInt16.ofNat (numR (psD (g5 s).2 j) 2).1.1.toNat)])]→W 6 (bz 11 121) (e12 [(49,(ptr b7 0)),(55,(.slice (some ⟨b36121,0,none⟩) 1 1))]) wS:=by
    intro b36121 wS HS
    rw [hW]
    refine wd1 1 ?_
    ·
     exact kS 1 rfl (op_fieldAddr rfl Fa.F40_2<|WD.cw hW (st12_18 b36121 wS HS))
   have st12_10: ∀(wS:World),Owl.Own [] w wS [a12_0,a12_1,a12_2,a12_3,a12_4,a12_5,a12_6]→W 7 (bz 11 15) (e12 [(51,y),(52,(.agg #[(ptr q2 0)]))]) wS:=by
    intro wS HS
    rw [hW]
    refine wd1 4 ?_
    ·
     refine kS 4 rfl (op_callF Fa.C159 rfl ((inum_ok q2 (psD (g5 s).2 j) (2) 298 _ _ (HS.part [1] rfl rfl) (by first | (rw [g1_t]; exact hs) | (rw [g2_t]; exact hs) | (rw [g4_t]; exact hs) | (rw [g6_t]; exact hs) | (rw [g7_t]; exact hs) | (rw [g8_t]; exact hs) | (rw [g10_t]; exact hs) | (rw [xsD_t,g3_t]; exact hs) | (rw [numR_s,xsD_t,g3_t]; exact hs) | (rw [psD_t,g5_t]; exact hs) | (rw [sgD_t,g9_t]; exact hs) | exact hs)).mono (fun e w36081 hq=>?_)))
     obtain ⟨rfl,hq36081⟩:=hq
     refine ⟨_,rfl,?_⟩
     have H36081:=HS.splice [1] [.blk q2 [(str ((numR (psD (g5 s).2 j) 2).2).s),(vN ((numR (psD (g5 s).2 j) 2).2).at_),(vN ((numR (psD (g5 s).2 j) 2).2).f)] 298] [] rfl rfl hq36081 (Fits.solid True.intro Fits.nil)
     exact WD.cw hW (st12_14 w36081 H36081)
   have st12_11: ∀(wS:World),Owl.Own [] w wS [a12_0,a12_7,a12_2,a12_3,a12_4,a12_5,a12_6]→W 7 (bz 11 27) (e12 [(50,(ptr b7 2)),(53,(vU32 (numR (psD (g5 s).2 j) 2).1.1))]) wS:=by
    intro wS HS
    rw [hW]
    refine wd2 2 5 ?_ ?_
    ·
     exact kS 2 rfl (op_load rfl (HS.cell (i:=3) rfl rfl) Tryz.underlying38 rfl<|WD.cw hW (st12_14 wS HS))
    ·
     exact kS 5 rfl (op_convU32U16 (hs:=Tryz.underlying22) (hd:=Tryz.underlying203) rfl<|WD.cw hW (st12_15 wS HS))
   have st12_12: ∀(wS:World),Owl.Own [] w wS [a12_0,a12_7,a12_2,a12_3,a12_4,a12_5,a12_6]→W 7 (bz 11 57) (e12 [(49,(ptr b7 0)),(54,(vU16 (UInt16.ofNat (numR (psD (g5 s).2 j) 2).1.1.toNat)))]) wS:=by
    intro wS HS
    rw [hW]
    refine wd2 1 6 ?_ ?_
    ·
     exact kS 1 rfl (op_fieldAddr rfl Fa.F40_2<|WD.cw hW (st12_15 wS HS))
    ·
     exact kS 6 rfl (op_buildSlice (cs:=[_]) HS Tryz.underlying38 Fa.I203 rfl rfl rfl rfl (by decide) (by decide) (fun b36121 w36121 H36121=>(WD.cw hW (st12_16 b36121 w36121 H36121))))
   have st12_13: ∀(b36121:_) (wS:World),Owl.Own [] w wS [a12_0,a12_7,a12_2,a12_3,a12_4,a12_5,a12_6,.row (.slice (some ⟨b36121,0,none⟩) 1 1) 203 1 1 (List.map vU16 [(UInt16.ofNat (numR (psD (g5 s).2 j) 2).1.1.toNat)])]→W 7 (bz 11 120) (e12 [(55,(.slice (some ⟨b36121,0,none⟩) 1 1))]) wS:=by
    intro b36121 wS HS
    rw [hW]
    refine wd1 0 ?_
    ·
     exact kS 0 rfl (op_fieldAddr rfl Fa.F43_0<|WD.cw hW (st12_16 b36121 wS HS))
   have st12_6: ∀(wS:World),Owl.Own [] w wS [a12_0,a12_1,a12_2,a12_3,a12_4,a12_5,a12_6]→W 8 (bz 11 7) (e12 [(51,y)]) wS:=by
    intro wS HS
    rw [hW]
    refine wd1 3 ?_
    ·
     exact kS 3 rfl (op_loadS (vs:=[_]) rfl (HS.cells (i:=2) rfl rfl) Tryz.underlying254 rfl Fa.I254 rfl<|WD.cw hW (st12_10 wS HS))
   have st12_7: ∀(wS:World),Owl.Own [] w wS [a12_0,a12_1,a12_2,a12_3,a12_4,a12_5,a12_6]→W 8 (bz 11 11) (e12 [(50,(ptr b7 2)),(52,(.agg #[(ptr q2 0)]))]) wS:=by
    intro wS HS
    rw [hW]
    refine wd2 2 4 ?_ ?_
    ·
     exact kS 2 rfl (op_load rfl (HS.cell (i:=3) rfl rfl) Tryz.underlying38 rfl<|WD.cw hW (st12_10 wS HS))
    ·
     refine kS 4 rfl (op_callF Fa.C159 rfl ((inum_ok q2 (psD (g5 s).2 j) (2) 298 _ _ (HS.part [1] rfl rfl) (by first | (rw [g1_t]; exact hs) | (rw [g2_t]; exact hs) | (rw [g4_t]; exact hs) | (rw [g6_t]; exact hs) | (rw [g7_t]; exact hs) | (rw [g8_t]; exact hs) | (rw [g10_t]; exact hs) | (rw [xsD_t,g3_t]; exact hs) | (rw [numR_s,xsD_t,g3_t]; exact hs) | (rw [psD_t,g5_t]; exact hs) | (rw [sgD_t,g9_t]; exact hs) | exact hs)).mono (fun e w36081 hq=>?_)))
     obtain ⟨rfl,hq36081⟩:=hq
     refine ⟨_,rfl,?_⟩
     have H36081:=HS.splice [1] [.blk q2 [(str ((numR (psD (g5 s).2 j) 2).2).s),(vN ((numR (psD (g5 s).2 j) 2).2).at_),(vN ((numR (psD (g5 s).2 j) 2).2).f)] 298] [] rfl rfl hq36081 (Fits.solid True.intro Fits.nil)
     exact WD.cw hW (st12_11 w36081 H36081)
   have st12_8: ∀(wS:World),Owl.Own [] w wS [a12_0,a12_7,a12_2,a12_3,a12_4,a12_5,a12_6]→W 8 (bz 11 25) (e12 [(49,(ptr b7 0)),(53,(vU32 (numR (psD (g5 s).2 j) 2).1.1))]) wS:=by
    intro wS HS
    rw [hW]
    refine wd2 1 5 ?_ ?_
    ·
     exact kS 1 rfl (op_fieldAddr rfl Fa.F40_2<|WD.cw hW (st12_11 wS HS))
    ·
     exact kS 5 rfl (op_convU32U16 (hs:=Tryz.underlying22) (hd:=Tryz.underlying203) rfl<|WD.cw hW (st12_12 wS HS))
   have st12_9: ∀(wS:World),Owl.Own [] w wS [a12_0,a12_7,a12_2,a12_3,a12_4,a12_5,a12_6]→W 8 (bz 11 56) (e12 [(54,(vU16 (UInt16.ofNat (numR (psD (g5 s).2 j) 2).1.1.toNat)))]) wS:=by
    intro wS HS
    rw [hW]
    refine wd2 0 6 ?_ ?_
    ·
     exact kS 0 rfl (op_fieldAddr rfl Fa.F43_0<|WD.cw hW (st12_12 wS HS))
    ·
     exact kS 6 rfl (op_buildSlice (cs:=[_]) HS Tryz.underlying38 Fa.I203 rfl rfl rfl rfl (by decide) (by decide) (fun b36121 w36121 H36121=>(WD.cw hW (st12_13 b36121 w36121 H36121))))
   have st12_3: ∀(wS:World),Owl.Own [] w wS [a12_0,a12_1,a12_2,a12_3,a12_4,a12_5,a12_6]→W 9 (bz 11 3) (e12 [(50,(ptr b7 2))]) wS:=by
    intro wS HS
    rw [hW]
    refine wd2 2 3 ?_ ?_
    ·
     exact kS 2 rfl (op_load rfl (HS.cell (i:=3) rfl rfl) Tryz.underlying38 rfl<|WD.cw hW (st12_6 wS HS))
    ·
     exact kS 3 rfl (op_loadS (vs:=[_]) rfl (HS.cells (i:=2) rfl rfl) Tryz.underlying254 rfl Fa.I254 rfl<|WD.cw hW (st12_7 wS HS))
   have st12_4: ∀(wS:World),Owl.Own [] w wS [a12_0,a12_1,a12_2,a12_3,a12_4,a12_5,a12_6]→W 9 (bz 11 9) (e12 [(49,(ptr b7 0)),(52,(.agg #[(ptr q2 0)]))]) wS:=by
    intro wS HS
    rw [hW]
    refine wd2 1 4 ?_ ?_
    ·
     exact kS 1 rfl (op_fieldAddr rfl Fa.F40_2<|WD.cw hW (st12_7 wS HS))
    ·
     refine kS 4 rfl (op_callF Fa.C159 rfl ((inum_ok q2 (psD (g5 s).2 j) (2) 298 _ _ (HS.part [1] rfl rfl) (by first | (rw [g1_t]; exact hs) | (rw [g2_t]; exact hs) | (rw [g4_t]; exact hs) | (rw [g6_t]; exact hs) | (rw [g7_t]; exact hs) | (rw [g8_t]; exact hs) | (rw [g10_t]; exact hs) | (rw [xsD_t,g3_t]; exact hs) | (rw [numR_s,xsD_t,g3_t]; exact hs) | (rw [psD_t,g5_t]; exact hs) | (rw [sgD_t,g9_t]; exact hs) | exact hs)).mono (fun e w36081 hq=>?_)))
     obtain ⟨rfl,hq36081⟩:=hq
     refine ⟨_,rfl,?_⟩
     have H36081:=HS.splice [1] [.blk q2 [(str ((numR (psD (g5 s).2 j) 2).2).s),(vN ((numR (psD (g5 s).2 j) 2).2).at_),(vN ((numR (psD (g5 s).2 j) 2).2).f)] 298] [] rfl rfl hq36081 (Fits.solid True.intro Fits.nil)
     exact WD.cw hW (st12_8 w36081 H36081)
   have st12_5: ∀(wS:World),Owl.Own [] w wS [a12_0,a12_7,a12_2,a12_3,a12_4,a12_5,a12_6]→W 9 (bz 11 24) (e12 [(53,(vU32 (numR (psD (g5 s).2 j) 2).1.1))]) wS:=by
    intro wS HS
    rw [hW]
    refine wd2 0 5 ?_ ?_
    ·
     exact kS 0 rfl (op_fieldAddr rfl Fa.F43_0<|WD.cw hW (st12_8 wS HS))
    ·
     exact kS 5 rfl (op_convU32U16 (hs:=Tryz.underlying22) (hd:=Tryz.underlying203) rfl<|WD.cw hW (st12_9 wS HS))
   have st12_1: ∀(wS:World),Owl.Own [] w wS [a12_0,a12_1,a12_2,a12_3,a12_4,a12_5,a12_6]→W 10 (bz 11 1) (e12 [(49,(ptr b7 0))]) wS:=by
    intro wS HS
    rw [hW]
    refine wd2 1 3 ?_ ?_
    ·
     exact kS 1 rfl (op_fieldAddr rfl Fa.F40_2<|WD.cw hW (st12_3 wS HS))
    ·
     exact kS 3 rfl (op_loadS (vs:=[_]) rfl (HS.cells (i:=2) rfl rfl) Tryz.underlying254 rfl Fa.I254 rfl<|WD.cw hW (st12_4 wS HS))
   have st12_2: ∀(wS:World),Owl.Own [] w wS [a12_0,a12_1,a12_2,a12_3,a12_4,a12_5,a12_6]→W 10 (bz 11 8) (e12 [(52,(.agg #[(ptr q2 0)]))]) wS:=by
    intro wS HS
    rw [hW]
    refine wd2 0 4 ?_ ?_
    ·
     exact kS 0 rfl (op_fieldAddr rfl Fa.F43_0<|WD.cw hW (st12_4 wS HS))
    ·
     refine kS 4 rfl (op_callF Fa.C159 rfl ((inum_ok q2 (psD (g5 s).2 j) (2) 298 _ _ (HS.part [1] rfl rfl) (by first | (rw [g1_t]; exact hs) | (rw [g2_t]; exact hs) | (rw [g4_t]; exact hs) | (rw [g6_t]; exact hs) | (rw [g7_t]; exact hs) | (rw [g8_t]; exact hs) | (rw [g10_t]; exact hs) | (rw [xsD_t,g3_t]; exact hs) | (rw [numR_s,xsD_t,g3_t]; exact hs) | (rw [psD_t,g5_t]; exact hs) | (rw [sgD_t,g9_t]; exact hs) | exact hs)).mono (fun e w36081 hq=>?_)))
     obtain ⟨rfl,hq36081⟩:=hq
     refine ⟨_,rfl,?_⟩
     have H36081:=HS.splice [1] [.blk q2 [(str ((numR (psD (g5 s).2 j) 2).2).s),(vN ((numR (psD (g5 s).2 j) 2).2).at_),(vN ((numR (psD (g5 s).2 j) 2).2).f)] 298] [] rfl rfl hq36081 (Fits.solid True.intro Fits.nil)
     exact WD.cw hW (st12_5 w36081 H36081)
   have st12_0: ∀(wS:World),Owl.Own [] w wS [a12_0,a12_1,a12_2,a12_3,a12_4,a12_5,a12_6]→W 11 (bz 11 0) (e12 []) wS:=by
    intro wS HS
    rw [hW]
    refine wd2 0 3 ?_ ?_
    ·
     exact kS 0 rfl (op_fieldAddr rfl Fa.F43_0<|WD.cw hW (st12_1 wS HS))
    ·
     exact kS 3 rfl (op_loadS (vs:=[_]) rfl (HS.cells (i:=2) rfl rfl) Tryz.underlying254 rfl Fa.I254 rfl<|WD.cw hW (st12_2 wS HS))
   have hq:=st12_0 w25 H25
   rw [hW] at hq ⊢
   refine WD.cov ?_ hq
   exact by repeat (first | exact trivial | refine ⟨rfl,?_⟩)
  ·
   have hc24:=dF hb24
   refine WC.exit<|WQ.thenExit<|WQ.thenExit<|WQ.inHere<|WQ.next<|ws ?_
   have hkx:¬j<(g5 s).1.1.toNat:=fun h=>hc24 (hct.2 h)
   obtain rfl:j=(g5 s).1.1.toNat:=by omega
   have H27:Owl.Own [] w w23 [.blk b1 [(vU32 0),(.slice none 0 0),(.slice none 0 0),(.bool false),(vU32 0),(.slice none 0 0)] 43,.blk q2 [(str (g6 s).s),(vN (g6 s).at_),(vN (g6 s).f)] 298,.blk b3 [(ptr q2 0)] 254,.blk b7 [(vU32 (g2 s).1.1),x,y,(.bool false),(vU32 0),(.slice none 0 0)] 43,.row x 207 2 (g3 s).1.1.toNat (List.flatMap xtc (gX s)),.row y 203 1 (g5 s).1.1.toNat (List.map vU16 (gP s)),.row (.slice none 0 0) 116 3 0 (List.flatMap sgc [])]:=by have h:=H23; rw [show psD (g5 s).2 (g5 s).1.1.toNat=g6 s from rfl] at h; rw [show psL (g5 s).2 (g5 s).1.1.toNat=gP s from rfl] at h; exact h
   refine wo (op_loadS (vs:=[_]) rfl (H27.cells (i:=2) rfl rfl) Tryz.underlying254 rfl Fa.I254 rfl<|wo (op_callF Fa.C159 rfl ((inum_ok q2 (g6 s) (1) 298 _ _ (H27.part [1] rfl rfl) (by first | (rw [g1_t]; exact hs) | (rw [g2_t]; exact hs) | (rw [g4_t]; exact hs) | (rw [g6_t]; exact hs) | (rw [g7_t]; exact hs) | (rw [g8_t]; exact hs) | (rw [g10_t]; exact hs) | (rw [xsD_t,g3_t]; exact hs) | (rw [numR_s,xsD_t,g3_t]; exact hs) | (rw [psD_t,g5_t]; exact hs) | (rw [sgD_t,g9_t]; exact hs) | exact hs)).mono (fun e w28 hq=>?_))))
   obtain ⟨rfl,hq28⟩:=hq
   refine ⟨_,rfl,?_⟩
   have H28:=H27.splice [1] [.blk q2 [(str ((numR (g6 s) 1).2).s),(vN ((numR (g6 s) 1).2).at_),(vN ((numR (g6 s) 1).2).f)] 298] [] rfl rfl hq28 (Fits.solid True.intro Fits.nil)
   have H29:Owl.Own [] w w28 [.blk b1 [(vU32 0),(.slice none 0 0),(.slice none 0 0),(.bool false),(vU32 0),(.slice none 0 0)] 43,.blk q2 [(str ((g7 s).2).s),(vN ((g7 s).2).at_),(vN ((g7 s).2).f)] 298,.blk b3 [(ptr q2 0)] 254,.blk b7 [(vU32 (g2 s).1.1),x,y,(.bool false),(vU32 0),(.slice none 0 0)] 43,.row x 207 2 (g3 s).1.1.toNat (List.flatMap xtc (gX s)),.row y 203 1 (g5 s).1.1.toNat (List.map vU16 (gP s)),.row (.slice none 0 0) 116 3 0 (List.flatMap sgc [])]:=by have h:=H28; rw [show numR (g6 s) 1=g7 s from rfl] at h; exact h
   rw [show numR (g6 s) 1=g7 s from rfl]
   refine wa rfl<|wn<|ws<|wm rfl<|wo (op_eqlU32 (b:=1) rfl rfl<|wo (op_fieldAddr rfl Fa.F43_0<|wo (op_fieldAddr rfl Fa.F40_3<|wo (op_storeB (i:=3) H29 rfl rfl rfl rfl rfl Fa.I4 (fun w30 H30=>(wn<|ws<|wo (op_loadS (vs:=[_]) rfl (H30.cells (i:=2) rfl rfl) Tryz.underlying254 rfl Fa.I254 rfl<|wo (op_callF Fa.C159 rfl ((inum_ok q2 ((g7 s).2) (4) 298 _ _ (H30.part [1] rfl rfl) (by first | (rw [g1_t]; exact hs) | (rw [g2_t]; exact hs) | (rw [g4_t]; exact hs) | (rw [g6_t]; exact hs) | (rw [g7_t]; exact hs) | (rw [g8_t]; exact hs) | (rw [g10_t]; exact hs) | (rw [xsD_t,g3_t]; exact hs) | (rw [numR_s,xsD_t,g3_t]; exact hs) | (rw [psD_t,g5_t]; exact hs) | (rw [sgD_t,g9_t]; exact hs) | exact hs)).mono (fun e w31 hq=>?_))))))))))
   obtain ⟨rfl,hq31⟩:=hq
   refine ⟨_,rfl,?_⟩
   have H31:=H30.splice [1] [.blk q2 [(str ((numR ((g7 s).2) 4).2).s),(vN ((numR ((g7 s).2) 4).2).at_),(vN ((numR ((g7 s).2) 4).2).f)] 298] [] rfl rfl hq31 (Fits.solid True.intro Fits.nil)
   refine wo (op_fieldAddr rfl Fa.F43_1 ?_)
   have H32:Owl.Own [] w w31 [.blk b1 [(vU32 0),(.slice none 0 0),(.slice none 0 0),(.bool false),(vU32 0),(.slice none 0 0)] 43,.blk q2 [(str ((g8 s).2).s),(vN ((g8 s).2).at_),(vN ((g8 s).2).f)] 298,.blk b3 [(ptr q2 0)] 254,.blk b7 [(vU32 (g2 s).1.1),x,y,(.bool (decide ((g7 s).1.1=(1:UInt32)))),(vU32 0),(.slice none 0 0)] 43,.row x 207 2 (g3 s).1.1.toNat (List.flatMap xtc (gX s)),.row y 203 1 (g5 s).1.1.toNat (List.map vU16 (gP s)),.row (.slice none 0 0) 116 3 0 (List.flatMap sgc [])]:=by have h:=H31; rw [show numR (g7 s).2 4=g8 s from rfl] at h; exact h
   rw [show numR (g7 s).2 4=g8 s from rfl]
   refine wo (op_storeB (i:=3) H32 rfl rfl rfl rfl rfl Fa.I22 (fun w33 H33=>(wn<|WC.seq<|ws<|wo (op_loadS (vs:=[_]) rfl (H33.cells (i:=2) rfl rfl) Tryz.underlying254 rfl Fa.I254 rfl<|wo (op_callF Fa.C159 rfl ((inum_ok q2 ((g8 s).2) (1) 298 _ _ (H33.part [1] rfl rfl) (by first | (rw [g1_t]; exact hs) | (rw [g2_t]; exact hs) | (rw [g4_t]; exact hs) | (rw [g6_t]; exact hs) | (rw [g7_t]; exact hs) | (rw [g8_t]; exact hs) | (rw [g10_t]; exact hs) | (rw [xsD_t,g3_t]; exact hs) | (rw [numR_s,xsD_t,g3_t]; exact hs) | (rw [psD_t,g5_t]; exact hs) | (rw [sgD_t,g9_t]; exact hs) | exact hs)).mono (fun e w34 hq=>?_)))))))
   obtain ⟨rfl,hq34⟩:=hq
   refine ⟨_,rfl,?_⟩
   have H34:=H33.splice [1] [.blk q2 [(str ((numR ((g8 s).2) 1).2).s),(vN ((numR ((g8 s).2) 1).2).at_),(vN ((numR ((g8 s).2) 1).2).f)] 298] [] rfl rfl hq34 (Fits.solid True.intro Fits.nil)
   have H35:Owl.Own [] w w34 [.blk b1 [(vU32 0),(.slice none 0 0),(.slice none 0 0),(.bool false),(vU32 0),(.slice none 0 0)] 43,.blk q2 [(str ((g9 s).2).s),(vN ((g9 s).2).at_),(vN ((g9 s).2).f)] 298,.blk b3 [(ptr q2 0)] 254,.blk b7 [(vU32 (g2 s).1.1),x,y,(.bool (decide ((g7 s).1.1=(1:UInt32)))),(vU32 (g8 s).1.1),(.slice none 0 0)] 43,.row x 207 2 (g3 s).1.1.toNat (List.flatMap xtc (gX s)),.row y 203 1 (g5 s).1.1.toNat (List.map vU16 (gP s)),.row (.slice none 0 0) 116 3 0 (List.flatMap sgc [])]:=by have h:=H34; rw [show numR (g8 s).2 1=g9 s from rfl] at h; exact h
   rw [show numR (g8 s).2 1=g9 s from rfl]
   refine wa rfl<|wn<|WC.block<|WC.loop (α:=Nat × Value) (fun (i,z)=>[(2,(ptr b1 0)),(4,(ptr b3 0)),(5,(str (g1 s).1.1)),(7,(ptr b7 0)),(10,(vU32 (g7 s).1.1)),(11,(vU32 ((g9 s).1.1-UInt32.ofNat i)))]) (fun (i,z) w'=>(i≤(g9 s).1.1.toNat)∧Owl.Own [] w w' [.blk b1 [(vU32 0),(.slice none 0 0),(.slice none 0 0),(.bool false),(vU32 0),(.slice none 0 0)] 43,.blk q2 [(str (sgD (g9 s).2 i).s),(vN (sgD (g9 s).2 i).at_),(vN (sgD (g9 s).2 i).f)] 298,.blk b3 [(ptr q2 0)] 254,.blk b7 [(vU32 (g2 s).1.1),x,y,(.bool (decide ((g7 s).1.1=(1:UInt32)))),(vU32 (g8 s).1.1),z] 43,.row x 207 2 (g3 s).1.1.toNat (List.flatMap xtc (gX s)),.row y 203 1 (g5 s).1.1.toNat (List.map vU16 (gP s)),.row z 116 3 i (List.flatMap sgc (sgL (g9 s).2 i))]) (fun (i,z)=>(g9 s).1.1.toNat-i) (0,(.slice none 0 0)) ⟨(Nat.zero_le _),(by rw [sgD_0]; exact H35)⟩ ⟨rfl,rfl,rfl,rfl,rfl,(congrArg (fun n=>some (vU32 n)) (u32_sub0 _)),trivial⟩ ?_
   rintro ⟨i,z⟩ w36 ⟨hi1,H36⟩
   show WC _ _ _ _ _ [(2,(ptr b1 0)),(4,(ptr b3 0)),(5,(str (g1 s).1.1)),(7,(ptr b7 0)),(10,(vU32 (g7 s).1.1)),(11,(vU32 ((g9 s).1.1-UInt32.ofNat i)))] _
   have hct:=u32_gt hi1
   have hnl:=(g9 s).1.1.toNat_lt
   refine WC.seq<|ws<|wm rfl<|wo (op_gtrU32 (b:=0) rfl rfl<|wn (wC (decide (((g9 s).1.1-UInt32.ofNat i)>(0:UInt32))) (fun hb37=>?_) (fun hb37=>?_)))
   ·
    have hc37:=dT hb37
    have hkn:=hct.1 hc37
    refine WC.skip<|WQ.next<|WC.seq<|WC.block<|WC.drawn 8 rfl Fa.M H36 ?_
    intro w38 H38
    refine WD.named (fun W hW=>?_)
    let e19:List (Nat × Value)→List (Nat × Value):=fun r=>(2,(ptr b1 0))::(4,(ptr b3 0))::(5,(str (g1 s).1.1))::(7,(ptr b7 0))::(10,(vU32 (g7 s).1.1))::(11,(vU32 ((g9 s).1.1-UInt32.ofNat i)))::(70,(vU32 ((g9 s).1.1-UInt32.ofNat i)))::(71,(.bool (decide (((g9 s).1.1-UInt32.ofNat i)>(0:UInt32)))))::r
    let a19_0:Ent:=.blk b1 [(vU32 0),(.slice none 0 0),(.slice none 0 0),(.bool false),(vU32 0),(.slice none 0 0)] 43
    let a19_1:Ent:=.blk q2 [(str (sgD (g9 s).2 i).s),(vN (sgD (g9 s).2 i).at_),(vN (sgD (g9 s).2 i).f)] 298
    let a19_2:Ent:=.blk b3 [(ptr q2 0)] 254
    let a19_3:Ent:=.blk b7 [(vU32 (g2 s).1.1),x,y,(.bool (decide ((g7 s).1.1=(1:UInt32)))),(vU32 (g8 s).1.1),z] 43
    let a19_4:Ent:=.row x 207 2 (g3 s).1.1.toNat (List.flatMap xtc (gX s))
    let a19_5:Ent:=.row y 203 1 (g5 s).1.1.toNat (List.map vU16 (gP s))
    let a19_6:Ent:=.row z 116 3 i (List.flatMap sgc (sgL (g9 s).2 i))
    let a19_7:Ent:=.blk q2 [(str ((segR (sgD (g9 s).2 i)).2).s),(vN ((segR (sgD (g9 s).2 i)).2).at_),(vN ((segR (sgD (g9 s).2 i)).2).f)] 298
    have st19_14: ∀(v49101:_) (b49081:_) (wS:World),Owl.Own [] w wS [a19_0,a19_7,a19_2,.blk b7 [(vU32 (g2 s).1.1),x,y,(.bool (decide ((g7 s).1.1=(1:UInt32)))),(vU32 (g8 s).1.1),v49101] 43,a19_4,a19_5,.row v49101 116 3 (i+1) (List.flatMap sgc ((sgL (g9 s).2 i)++[(segR (sgD (g9 s).2 i)).1])),.row (.slice (some ⟨b49081,0,none⟩) 1 1) 116 3 1 (List.flatMap sgc [(segR (sgD (g9 s).2 i)).1])]→W 0 (bz 8 255) (e19 []) wS:=by
     intro v49101 b49081 wS HS
     rw [hW]
     exact WD.done (by kernel_rfl)<|WQ.inNormal<|WQ.next<|WC.region<|wm rfl<|wo (op_subU32 (b:=1) rfl rfl<|wa rfl<|WL.nil<|WQ.round (i+1,v49101) ⟨(by omega),(by rw [sgD_s,sgL_s]; exact (HS.take 7))⟩ ⟨rfl,rfl,rfl,rfl,rfl,(congrArg (fun n=>some (vU32 n)) (u32_dec hkn)),trivial⟩ (by show (g9 s).1.1.toNat-(i+1)<(g9 s).1.1.toNat-i; omega))
    have st19_13: ∀(v49101:_) (b49081:_) (wS:World),Owl.Own [] w wS [a19_0,a19_7,a19_2,a19_3,a19_4,a19_5,.row v49101 116 3 (i+1) (List.flatMap sgc ((sgL (g9 s).2 i)++[(segR (sgD (g9 s).2 i)).1])),.row (.slice (some ⟨b49081,0,none⟩) 1 1) 116 3 1 (List.flatMap sgc [(segR (sgD (g9 s).2 i)).1])]→W 1 (bz 8 127) (e19 [(79,v49101),(80,(ptr b7 5))]) wS:=by
     intro v49101 b49081 wS HS
     rw [hW]
     refine wd1 7 ?_
     ·
      exact kS 7 rfl (op_storeB (i:=3) HS rfl rfl rfl rfl (Arr.one (HS.arrR (i:=6) rfl)) Fa.I41 (fun w49141 H49141=>(WD.cw hW (st19_14 v49101 b49081 w49141 H49141))))
    have st19_12: ∀(v49101:_) (b49081:_) (wS:World),Owl.Own [] w wS [a19_0,a19_7,a19_2,a19_3,a19_4,a19_5,.row v49101 116 3 (i+1) (List.flatMap sgc ((sgL (g9 s).2 i)++[(segR (sgD (g9 s).2 i)).1])),.row (.slice (some ⟨b49081,0,none⟩) 1 1) 116 3 1 (List.flatMap sgc [(segR (sgD (g9 s).2 i)).1])]→W 2 (bz 8 63) (e19 [(79,v49101)]) wS:=by
     intro v49101 b49081 wS HS
     rw [hW]
     refine wd1 6 ?_
     ·
      exact kS 6 rfl (op_fieldAddr rfl Fa.F43_2<|WD.cw hW (st19_13 v49101 b49081 wS HS))
    have st19_11: ∀(b49081:_) (wS:World),Owl.Own [] w wS [a19_0,a19_7,a19_2,a19_3,a19_4,a19_5,a19_6,.row (.slice (some ⟨b49081,0,none⟩) 1 1) 116 3 1 (List.flatMap sgc [(segR (sgD (g9 s).2 i)).1])]→W 3 (bz 8 31) (e19 [(75,z),(78,(.slice (some ⟨b49081,0,none⟩) 1 1))]) wS:=by
     intro b49081 wS HS
     rw [hW]
     refine wd1 5 ?_
     ·
      exact kS 5 rfl (op_appendF (f:=sgc) (l:=(sgL (g9 s).2 i)) (l':=[(segR (sgD (g9 s).2 i)).1]) (i:=6) HS Tryz.underlying41 Fa.I116 rfl rfl rfl rfl (Src.ofArr Tryz.underlying41 (HS.arrR (i:=7) rfl)) (one_flat (fun _=>by simp [sgc,Value.oneCell'])) (by omega) (by omega) (fun v49101 w49101 H49101=>(WD.cw hW (st19_12 v49101 b49081 w49101 H49101))))
    have st19_9: ∀(wS:World),Owl.Own [] w wS [a19_0,a19_7,a19_2,a19_3,a19_4,a19_5,a19_6]→W 4 (bz 8 15) (e19 [(75,z),(77,(.agg #[(vU32 (segR (sgD (g9 s).2 i)).1.a),(vU8 (segR (sgD (g9 s).2 i)).1.p),(str (segR (sgD (g9 s).2 i)).1.b)]))]) wS:=by
     intro wS HS
     rw [hW]
     refine wd1 4 ?_
     ·
      exact kS 4 rfl (op_buildSlice (cs:=[_,_,_]) HS Tryz.underlying41 Fa.I116 rfl rfl rfl rfl (by decide) (by decide) (fun b49081 w49081 H49081=>(WD.cw hW (st19_11 b49081 w49081 H49081))))
    have st19_10: ∀(b49081:_) (wS:World),Owl.Own [] w wS [a19_0,a19_7,a19_2,a19_3,a19_4,a19_5,a19_6,.row (.slice (some ⟨b49081,0,none⟩) 1 1) 116 3 1 (List.flatMap sgc [(segR (sgD (g9 s).2 i)).1])]→W 4 (bz 8 29) (e19 [(74,(ptr b7 5)),(78,(.slice (some ⟨b49081,0,none⟩) 1 1))]) wS:=by
     intro b49081 wS HS
     rw [hW]
     refine wd1 1 ?_
     ·
      exact kS 1 rfl (op_load rfl (HS.cell (i:=3) rfl rfl) Tryz.underlying41 rfl<|WD.cw hW (st19_11 b49081 wS HS))
    have st19_6: ∀(wS:World),Owl.Own [] w wS [a19_0,a19_1,a19_2,a19_3,a19_4,a19_5,a19_6]→W 5 (bz 8 7) (e19 [(75,z),(76,(.agg #[(ptr q2 0)]))]) wS:=by
     intro wS HS
     rw [hW]
     refine wd1 3 ?_
     ·
      refine kS 3 rfl (op_callF Fa.C160 rfl ((iseg_ok q2 (sgD (g9 s).2 i) 298 _ _ (HS.part [1] rfl rfl) (by first | (rw [g1_t]; exact hs) | (rw [g2_t]; exact hs) | (rw [g4_t]; exact hs) | (rw [g6_t]; exact hs) | (rw [g7_t]; exact hs) | (rw [g8_t]; exact hs) | (rw [g10_t]; exact hs) | (rw [xsD_t,g3_t]; exact hs) | (rw [numR_s,xsD_t,g3_t]; exact hs) | (rw [psD_t,g5_t]; exact hs) | (rw [sgD_t,g9_t]; exact hs) | exact hs)).mono (fun e w49061 hq=>?_)))
      obtain ⟨rfl,hq49061⟩:=hq
      refine ⟨_,rfl,?_⟩
      have H49061:=HS.splice [1] [.blk q2 [(str ((segR (sgD (g9 s).2 i)).2).s),(vN ((segR (sgD (g9 s).2 i)).2).at_),(vN ((segR (sgD (g9 s).2 i)).2).f)] 298] [] rfl rfl hq49061 (Fits.solid True.intro Fits.nil)
      exact WD.cw hW (st19_9 w49061 H49061)
    have st19_7: ∀(wS:World),Owl.Own [] w wS [a19_0,a19_7,a19_2,a19_3,a19_4,a19_5,a19_6]→W 5 (bz 8 13) (e19 [(74,(ptr b7 5)),(77,(.agg #[(vU32 (segR (sgD (g9 s).2 i)).1.a),(vU8 (segR (sgD (g9 s).2 i)).1.p),(str (segR (sgD (g9 s).2 i)).1.b)]))]) wS:=by
     intro wS HS
     rw [hW]
     refine wd2 1 4 ?_ ?_
     ·
      exact kS 1 rfl (op_load rfl (HS.cell (i:=3) rfl rfl) Tryz.underlying41 rfl<|WD.cw hW (st19_9 wS HS))
     ·
      exact kS 4 rfl (op_buildSlice (cs:=[_,_,_]) HS Tryz.underlying41 Fa.I116 rfl rfl rfl rfl (by decide) (by decide) (fun b49081 w49081 H49081=>(WD.cw hW (st19_10 b49081 w49081 H49081))))
    have st19_8: ∀(b49081:_) (wS:World),Owl.Own [] w wS [a19_0,a19_7,a19_2,a19_3,a19_4,a19_5,a19_6,.row (.slice (some ⟨b49081,0,none⟩) 1 1) 116 3 1 (List.flatMap sgc [(segR (sgD (g9 s).2 i)).1])]→W 5 (bz 8 28) (e19 [(78,(.slice (some ⟨b49081,0,none⟩) 1 1))]) wS:=by
     intro b49081 wS HS
     rw [hW]
     refine wd1 0 ?_
     ·
      exact kS 0 rfl (op_fieldAddr rfl Fa.F43_2<|WD.cw hW (st19_10 b49081 wS HS))
    have st19_3: ∀(wS:World),Owl.Own [] w wS [a19_0,a19_1,a19_2,a19_3,a19_4,a19_5,a19_6]→W 6 (bz 8 3) (e19 [(75,z)]) wS:=by
     intro wS HS
     rw [hW]
     refine wd1 2 ?_
     ·
      exact kS 2 rfl (op_loadS (vs:=[_]) rfl (HS.cells (i:=2) rfl rfl) Tryz.underlying254 rfl Fa.I254 rfl<|WD.cw hW (st19_6 wS HS))
    have st19_4: ∀(wS:World),Owl.Own [] w wS [a19_0,a19_1,a19_2,a19_3,a19_4,a19_5,a19_6]→W 6 (bz 8 5) (e19 [(74,(ptr b7 5)),(76,(.agg #[(ptr q2 0)]))]) wS:=by
     intro wS HS
     rw [hW]
     refine wd2 1 3 ?_ ?_
     ·
      exact kS 1 rfl (op_load rfl (HS.cell (i:=3) rfl rfl) Tryz.underlying41 rfl<|WD.cw hW (st19_6 wS HS))
     ·
      refine kS 3 rfl (op_callF Fa.C160 rfl ((iseg_ok q2 (sgD (g9 s).2 i) 298 _ _ (HS.part [1] rfl rfl) (by first | (rw [g1_t]; exact hs) | (rw [g2_t]; exact hs) | (rw [g4_t]; exact hs) | (rw [g6_t]; exact hs) | (rw [g7_t]; exact hs) | (rw [g8_t]; exact hs) | (rw [g10_t]; exact hs) | (rw [xsD_t,g3_t]; exact hs) | (rw [numR_s,xsD_t,g3_t]; exact hs) | (rw [psD_t,g5_t]; exact hs) | (rw [sgD_t,g9_t]; exact hs) | exact hs)).mono (fun e w49061 hq=>?_)))
      obtain ⟨rfl,hq49061⟩:=hq
      refine ⟨_,rfl,?_⟩
      have H49061:=HS.splice [1] [.blk q2 [(str ((segR (sgD (g9 s).2 i)).2).s),(vN ((segR (sgD (g9 s).2 i)).2).at_),(vN ((segR (sgD (g9 s).2 i)).2).f)] 298] [] rfl rfl hq49061 (Fits.solid True.intro Fits.nil)
      exact WD.cw hW (st19_7 w49061 H49061)
    have st19_5: ∀(wS:World),Owl.Own [] w wS [a19_0,a19_7,a19_2,a19_3,a19_4,a19_5,a19_6]→W 6 (bz 8 12) (e19 [(77,(.agg #[(vU32 (segR (sgD (g9 s).2 i)).1.a),(vU8 (segR (sgD (g9 s).2 i)).1.p),(str (segR (sgD (g9 s).2 i)).1.b)]))]) wS:=by
     intro wS HS
     rw [hW]
     refine wd2 0 4 ?_ ?_
     ·
      exact kS 0 rfl (op_fieldAddr rfl Fa.F43_2<|WD.cw hW (st19_7 wS HS))
     ·
      exact kS 4 rfl (op_buildSlice (cs:=[_,_,_]) HS Tryz.underlying41 Fa.I116 rfl rfl rfl rfl (by decide) (by decide) (fun b49081 w49081 H49081=>(WD.cw hW (st19_8 b49081 w49081 H49081))))
    have st19_1: ∀(wS:World),Owl.Own [] w wS [a19_0,a19_1,a19_2,a19_3,a19_4,a19_5,a19_6]→W 7 (bz 8 1) (e19 [(74,(ptr b7 5))]) wS:=by
     intro wS HS
     rw [hW]
     refine wd2 1 2 ?_ ?_
     ·
      exact kS 1 rfl (op_load rfl (HS.cell (i:=3) rfl rfl) Tryz.underlying41 rfl<|WD.cw hW (st19_3 wS HS))
     ·
      exact kS 2 rfl (op_loadS (vs:=[_]) rfl (HS.cells (i:=2) rfl rfl) Tryz.underlying254 rfl Fa.I254 rfl<|WD.cw hW (st19_4 wS HS))
    have st19_2: ∀(wS:World),Owl.Own [] w wS [a19_0,a19_1,a19_2,a19_3,a19_4,a19_5,a19_6]→W 7 (bz 8 4) (e19 [(76,(.agg #[(ptr q2 0)]))]) wS:=by
     intro wS HS
     rw [hW]
     refine wd2 0 3 ?_ ?_
     ·
      exact kS 0 rfl (op_fieldAddr rfl Fa.F43_2<|WD.cw hW (st19_4 wS HS))
     ·
      refine kS 3 rfl (op_callF Fa.C160 rfl ((iseg_ok q2 (sgD (g9 s).2 i) 298 _ _ (HS.part [1] rfl rfl) (by first | (rw [g1_t]; exact hs) | (rw [g2_t]; exact hs) | (rw [g4_t]; exact hs) | (rw [g6_t]; exact hs) | (rw [g7_t]; exact hs) | (rw [g8_t]; exact hs) | (rw [g10_t]; exact hs) | (rw [xsD_t,g3_t]; exact hs) | (rw [numR_s,xsD_t,g3_t]; exact hs) | (rw [psD_t,g5_t]; exact hs) | (rw [sgD_t,g9_t]; exact hs) | exact hs)).mono (fun e w49061 hq=>?_)))
      obtain ⟨rfl,hq49061⟩:=hq
      refine ⟨_,rfl,?_⟩
      have H49061:=HS.splice [1] [.blk q2 [(str ((segR (sgD (g9 s).2 i)).2).s),(vN ((segR (sgD (g9 s).2 i)).2).at_),(vN ((segR (sgD (g9 s).2 i)).2).f)] 298] [] rfl rfl hq49061 (Fits.solid True.intro Fits.nil)
      exact WD.cw hW (st19_5 w49061 H49061)
    have st19_0: ∀(wS:World),Owl.Own [] w wS [a19_0,a19_1,a19_2,a19_3,a19_4,a19_5,a19_6]→W 8 (bz 8 0) (e19 []) wS:=by
     intro wS HS
     rw [hW]
     refine wd2 0 2 ?_ ?_
     ·
      exact kS 0 rfl (op_fieldAddr rfl Fa.F43_2<|WD.cw hW (st19_1 wS HS))
     ·
      exact kS 2 rfl (op_loadS (vs:=[_]) rfl (HS.cells (i:=2) rfl rfl) Tryz.underlying254 rfl Fa.I254 rfl<|WD.cw hW (st19_2 wS HS))
    have hq:=st19_0 w38 H38
    rw [hW] at hq ⊢
    refine WD.cov ?_ hq
    exact by repeat (first | exact trivial | refine ⟨rfl,?_⟩)
   ·
    have hc37:=dF hb37
    refine WC.exit<|WQ.thenExit<|WQ.thenExit<|WQ.inHere<|WQ.next<|WC.seq<|ws ?_
    have hkx:¬i<(g9 s).1.1.toNat:=fun h=>hc37 (hct.2 h)
    obtain rfl:i=(g9 s).1.1.toNat:=by omega
    have H40:Owl.Own [] w w36 [.blk b1 [(vU32 0),(.slice none 0 0),(.slice none 0 0),(.bool false),(vU32 0),(.slice none 0 0)] 43,.blk q2 [(str (g10 s).s),(vN (g10 s).at_),(vN (g10 s).f)] 298,.blk b3 [(ptr q2 0)] 254,.blk b7 [(vU32 (g2 s).1.1),x,y,(.bool (decide ((g7 s).1.1=(1:UInt32)))),(vU32 (g8 s).1.1),z] 43,.row x 207 2 (g3 s).1.1.toNat (List.flatMap xtc (gX s)),.row y 203 1 (g5 s).1.1.toNat (List.map vU16 (gP s)),.row z 116 3 (g9 s).1.1.toNat (List.flatMap sgc (gS s))]:=by have h:=H36; rw [show sgD (g9 s).2 (g9 s).1.1.toNat=g10 s from rfl] at h; rw [show sgL (g9 s).2 (g9 s).1.1.toNat=gS s from rfl] at h; exact h
    refine wo (op_fieldAddr rfl Fa.F254_0<|wo (op_load rfl (H40.cell (i:=2) rfl rfl) Tryz.underlying251 rfl<|wo (op_callF Fa.C161 rfl ((rdend_ok q2 (g10 s)  298 _ _ (H40.part [1] rfl rfl) (by first | (rw [g1_t]; exact hs) | (rw [g2_t]; exact hs) | (rw [g4_t]; exact hs) | (rw [g6_t]; exact hs) | (rw [g7_t]; exact hs) | (rw [g8_t]; exact hs) | (rw [g10_t]; exact hs) | (rw [xsD_t,g3_t]; exact hs) | (rw [numR_s,xsD_t,g3_t]; exact hs) | (rw [psD_t,g5_t]; exact hs) | (rw [sgD_t,g9_t]; exact hs) | exact hs)).mono (fun e w41 hq=>?_)))))
    obtain ⟨rfl,hq41⟩:=hq
    refine ⟨_,rfl,?_⟩
    have H41:=H40.splice [1] [.blk q2 [(str ((endR (g10 s)).2).s),(vN ((endR (g10 s)).2).at_),(vN ((endR (g10 s)).2).f)] 298] [] rfl rfl hq41 (Fits.solid True.intro Fits.nil)
    refine wo (op_neqN (b:=0) rfl rfl<|wm rfl (wV 85 (decide ((endR (g10 s)).1≠0)) (fun hb42=>?_) (fun hb42=>?_)))
    ·
     have hc42:=dT hb42
     refine wN hb42<|wN hb42<|wo (op_pickT rfl hb42 rfl<|wm rfl<|wN rfl<|wN rfl<|wo (op_pickT rfl rfl rfl<|wm rfl<|wN rfl<|wN rfl<|wN rfl<|wo (op_pickT rfl rfl rfl<|wn<|WC.yes rfl rfl<|ws<|wo (op_build (cs:=[_,_,_,_,_,_]) Fa.I43 Fa.PL43 rfl rfl<|wo (op_storeBW (i:=0) H41 rfl rfl rfl rfl rfl Fa.I43 (fun w43 H43=>(wa rfl<|wn<|WC.ret<|WQ.thenRet<|WQ.out (.cell rfl (run_loadVarS (vs:=[_,_,_,_,_,_]) (H43.cells (i:=0) rfl rfl) Tryz.underlying43 rfl Fa.I43 rfl) (.tmp rfl .nil)) ?_)))))))
     have hb:gBad s=true:=by (rw [gBad,hb42])<;>rfl
     rw [(get_bad hb).1,(get_bad hb).2]
     exact ⟨.slice none 0 0,.slice none 0 0,.slice none 0 0,rfl,(((H43.sel [] rfl rfl).nilRow 207 2).nilRow 203 1).nilRow 116 3⟩
    ·
     have hc42:=dF hb42
     refine wY hb42 (op_move rfl<|wY hb42 (op_neqStr rfl rfl<|wo (op_pickF rfl hb42 rfl<|wm rfl (wV 89 (decide ((g1 s).1.1≠[65,73,77,49])) (fun hb44=>?_) (fun hb44=>?_)))))
     ·
      have hc44:=dT hb44
      refine wN hb44<|wN hb44<|wo (op_pickT rfl hb44 rfl<|wm rfl<|wN rfl<|wN rfl<|wN rfl<|wo (op_pickT rfl rfl rfl<|wn<|WC.yes rfl rfl<|ws<|wo (op_build (cs:=[_,_,_,_,_,_]) Fa.I43 Fa.PL43 rfl rfl<|wo (op_storeBW (i:=0) H41 rfl rfl rfl rfl rfl Fa.I43 (fun w45 H45=>(wa rfl<|wn<|WC.ret<|WQ.thenRet<|WQ.out (.cell rfl (run_loadVarS (vs:=[_,_,_,_,_,_]) (H45.cells (i:=0) rfl rfl) Tryz.underlying43 rfl Fa.I43 rfl) (.tmp rfl .nil)) ?_))))))
      have hb:gBad s=true:=by (rw [gBad,hb42,hb44])<;>rfl
      rw [(get_bad hb).1,(get_bad hb).2]
      exact ⟨.slice none 0 0,.slice none 0 0,.slice none 0 0,rfl,(((H45.sel [] rfl rfl).nilRow 207 2).nilRow 203 1).nilRow 116 3⟩
     ·
      have hc44:=dF hb44
      refine wY hb44 (op_move rfl<|wY hb44 (op_gtrU32 (b:=1) rfl rfl<|wo (op_pickF rfl hb44 rfl<|wm rfl (wV 93 (decide ((g7 s).1.1>(1:UInt32))) (fun hb46=>?_) (fun hb46=>?_)))))
      ·
       have hc46:=dT hb46
       refine wN hb46<|wN hb46<|wN hb46<|wo (op_pickT rfl hb46 rfl<|wn<|WC.yes rfl rfl<|ws<|wo (op_build (cs:=[_,_,_,_,_,_]) Fa.I43 Fa.PL43 rfl rfl<|wo (op_storeBW (i:=0) H41 rfl rfl rfl rfl rfl Fa.I43 (fun w47 H47=>(wa rfl<|wn<|WC.ret<|WQ.thenRet<|WQ.out (.cell rfl (run_loadVarS (vs:=[_,_,_,_,_,_]) (H47.cells (i:=0) rfl rfl) Tryz.underlying43 rfl Fa.I43 rfl) (.tmp rfl .nil)) ?_)))))
       have hb:gBad s=true:=by (rw [gBad,hb42,hb44,hb46])<;>rfl
       rw [(get_bad hb).1,(get_bad hb).2]
       exact ⟨.slice none 0 0,.slice none 0 0,.slice none 0 0,rfl,(((H47.sel [] rfl rfl).nilRow 207 2).nilRow 203 1).nilRow 116 3⟩
      ·
       have hc46:=dF hb46
       refine wY hb46 (op_loadS (vs:=[_,_,_,_,_,_]) rfl (H41.cells (i:=3) rfl rfl) Tryz.underlying43 rfl Fa.I43 rfl<|wY hb46 (op_callF Fa.C41 rfl ((icheck_ok ((g2 s).1.1) _ _ _ (gX s) (gP s) (decide ((g7 s).1.1=(1:UInt32))) ((g8 s).1.1) (gS s) _ (Arr.lenF ((H41.arrR (i:=4) rfl)) (fun _=>rfl) (by decide)) (Arr.lenM (H41.arrR (i:=5) rfl)) (Arr.lenF ((H41.arrR (i:=6) rfl)) (fun _=>rfl) (by decide)) (by have:=xsL_len (g3 s).2 (g3 s).1.1.toNat; have:=(g3 s).1.1.toNat_lt; rw [gX]; omega) (by have:=psL_len (g5 s).2 (g5 s).1.1.toNat; have:=(g5 s).1.1.toNat_lt; rw [gP]; omega) (by have:=sgL_len (g9 s).2 (g9 s).1.1.toNat; have:=(g9 s).1.1.toNat_lt; rw [gS]; omega)).mono (fun e w48 hq=>?_))))
       obtain ⟨rfl,hf48⟩:=hq
       refine ⟨_,rfl,?_⟩
       have H48:=H41.fr' hf48
       refine wY hb46 (op_neqN (b:=0) rfl rfl<|wo (op_pickF rfl hb46 rfl<|wn (wC (decide ((imE ((g2 s).1.1) (gX s) (gP s) ((g8 s).1.1) (gS s))≠0)) (fun hb49=>?_) (fun hb49=>?_))))
       ·
        have hc49:=dT hb49
        refine ws<|wo (op_build (cs:=[_,_,_,_,_,_]) Fa.I43 Fa.PL43 rfl rfl<|wo (op_storeBW (i:=0) H48 rfl rfl rfl rfl rfl Fa.I43 (fun w50 H50=>(wa rfl<|wn<|WC.ret<|WQ.thenRet<|WQ.out (.cell rfl (run_loadVarS (vs:=[_,_,_,_,_,_]) (H50.cells (i:=0) rfl rfl) Tryz.underlying43 rfl Fa.I43 rfl) (.tmp rfl .nil)) ?_))))
        have hb:gBad s=true:=by (rw [gBad,hb42,hb44,hb46,hb49])<;>rfl
        rw [(get_bad hb).1,(get_bad hb).2]
        exact ⟨.slice none 0 0,.slice none 0 0,.slice none 0 0,rfl,(((H50.sel [] rfl rfl).nilRow 207 2).nilRow 203 1).nilRow 116 3⟩
       ·
        have hc49:=dF hb49
        refine WC.skip<|WQ.next<|ws<|wo (op_loadS (vs:=[_,_,_,_,_,_]) rfl (H48.cells (i:=3) rfl rfl) Tryz.underlying43 rfl Fa.I43 rfl<|wo (op_storeBW (i:=0) H48 rfl rfl rfl rfl (one_cons rfl (one_cons (Arr.one (H48.arrR (i:=4) rfl)) (one_cons (Arr.one (H48.arrR (i:=5) rfl)) (one_cons rfl (one_cons rfl (one_cons (Arr.one (H48.arrR (i:=6) rfl)) one_nil)))))) Fa.I43 (fun w51 H51=>(wa rfl<|wn<|WC.ret<|WQ.out (.cell rfl (run_loadVarS (vs:=[_,_,_,_,_,_]) (H51.cells (i:=0) rfl rfl) Tryz.underlying43 rfl Fa.I43 rfl) (.tmp rfl .nil)) ?_))))
        have hb:gBad s=false:=by (rw [gBad,hb42,hb44,hb46,hb49])<;>rfl
        exact iget_fin (x:=x) (y:=y) (z:=z) hb rfl (H51.sel [4,5,6] rfl rfl)
theorem stag_ok (key:List UInt8) (lv:Value) (ls:List (List UInt8)) (w:World) (hA:Arr w lv 1 ls.length (List.map str ls)) (hk:key.length<2^40) (ht:ls.length+(List.flatten ls).length<2^39) :
  Calls Tryz.prog 114 #[(str key),lv] w (fun e w'=>e=.returned (str (mac key (List.flatten ls)))∧Fr [] w w'):=by
 refine enter (args:=[(str key),lv]) Tryz.func114 rfl rfl ?_
 have H0:Owl.Own [] w w []:=Own.start w []
 refine ws<|wa rfl<|wn<|ws<|wm rfl<|wo (op_callF Fa.C153 rfl ((macnew_ok key _ hk).mono (fun e w1 hq=>?_)))
 obtain ⟨m1,q1,v1,rfl,hq1⟩:=hq
 refine ⟨_,rfl,?_⟩
 have H1:=H0.splice [] [] [.blk m1 [(ptr q1 0),(str (blockM key))] 293,.blk q1 [(vU32 (hst (xorL (blockM key) 54)).a),(vU32 (hst (xorL (blockM key) 54)).b),(vU32 (hst (xorL (blockM key) 54)).c),(vU32 (hst (xorL (blockM key) 54)).d),(vU32 (hst (xorL (blockM key) 54)).e),(vU32 (hst (xorL (blockM key) 54)).f),(vU32 (hst (xorL (blockM key) 54)).g),(vU32 (hst (xorL (blockM key) 54)).h),v1,(vN (xorL (blockM key) 54).length)] 325,.row v1 5 1 (hrest (xorL (blockM key) 54)).length (List.map vU8 (hrest (xorL (blockM key) 54)))] rfl rfl hq1 (Fits.solid True.intro (Fits.solid True.intro (Fits.solid True.intro Fits.nil)))
 refine wa rfl<|wn<|ws<|wm rfl<|wm rfl<|wo (op_callF Fa.C154 rfl ((macw_ok m1 q1 v1 lv (blockM key) (xorL (blockM key) 54) ls _ _ (H1.part [0,1,2] rfl rfl) (fun w1 hf=>(fun w1 hf=>hA.fr hf (by simp)) w1 (H1.frPart (I:=[0,1,2]) rfl hf)) (by first | (rw [List.length_append,xorL_length,blockM_length]; omega) | (rw [xorL_length,blockM_length]; omega)) (by omega)).mono (fun e w2 hq=>?_)))
 obtain ⟨v2,rfl,hq2⟩:=hq
 refine ⟨_,rfl,?_⟩
 have H2:=H1.splice [0,1,2] [.blk m1 [(ptr q1 0),(str (blockM key))] 293,.blk q1 [(vU32 (hst ((xorL (blockM key) 54)++ls.flatten)).a),(vU32 (hst ((xorL (blockM key) 54)++ls.flatten)).b),(vU32 (hst ((xorL (blockM key) 54)++ls.flatten)).c),(vU32 (hst ((xorL (blockM key) 54)++ls.flatten)).d),(vU32 (hst ((xorL (blockM key) 54)++ls.flatten)).e),(vU32 (hst ((xorL (blockM key) 54)++ls.flatten)).f),(vU32 (hst ((xorL (blockM key) 54)++ls.flatten)).g),(vU32 (hst ((xorL (blockM key) 54)++ls.flatten)).h),v2,(vN ((xorL (blockM key) 54)++ls.flatten).length)] 325,.row v2 5 1 (hrest ((xorL (blockM key) 54)++ls.flatten)).length (List.map vU8 (hrest ((xorL (blockM key) 54)++ls.flatten)))] [] rfl rfl hq2 (Fits.solid True.intro (Fits.solid True.intro (Fits.solid True.intro Fits.nil)))
 refine wn<|ws<|wm rfl<|wo (op_callF Fa.C155 rfl ((macs_ok m1 q1 v2 (blockM key) ((xorL (blockM key) 54)++ls.flatten) _ (H2.cellsAt (i:=0) rfl) (H2.cellsAt (i:=1) rfl) (H2.arrR (i:=2) rfl) (by first | (rw [List.length_append,xorL_length,blockM_length]; omega) | (rw [xorL_length,blockM_length]; omega)) (by rw [blockM_length]; decide)).mono (fun e w3 hq=>?_)))
 obtain ⟨rfl,hf3⟩:=hq
 refine ⟨_,rfl,?_⟩
 have H3:=H2.fr' hf3
 exact wa rfl<|wn<|WC.ret<|WQ.out (.tmp rfl .nil) (⟨by simp [tup,mac],H3.fr⟩)
theorem sseal_ok (key:List UInt8) (pg:UInt32) (ev pv sv:Value) (xs:List Xt) (ps:List UInt16) (con:Bool) (en:UInt32) (sg:List Sg) (w:World) (hE:Arr w ev 2 xs.length (List.flatMap xtc xs)) (hP:Arr w pv 1 ps.length (List.map vU16 ps)) (hS:Arr w sv 3 sg.length (List.flatMap sgc sg)) (hk:key.length<2^40) (bx:xs.length≤2^20) (bp:ps.length≤2^20) (bs:sg.length≤2^10) (bb: ∀x∈sg,x.b.length≤2^30) (hL:(imB pg xs ps con en sg).length<2^38) :
  Calls Tryz.prog 55 #[(.agg #[(vU32 pg),ev,pv,(.bool con),(vU32 en),sv,(str key)])] w (fun e w'=>e=.returned (.tuple #[str (slS key pg xs ps con en sg),vN (imE pg xs ps en sg)])∧Fr [] w w'):=by
 refine enter (args:=[(.agg #[(vU32 pg),ev,pv,(.bool con),(vU32 en),sv,(str key)])]) Tryz.func55 rfl rfl ?_
 have H0:Owl.Own [] w w []:=Own.start w []
 refine ws<|wo (op_box H0 rfl rfl (fun b1 w1 H1=>(wa rfl<|wa rfl<|wn<|ws<|wo (op_fieldAddr rfl Fa.F105_0<|wo (op_loadS (vs:=[_,_,_,_,_,_]) rfl (H1.cells (i:=0) rfl rfl) Tryz.underlying43 rfl Fa.I43 rfl<|wo (op_callF Fa.C113 rfl ((iput_ok pg _ _ _ xs ps con en sg _ (H1.arr hE) (H1.arr hP) (H1.arr hS) bx bp bs bb).mono (fun e w2 hq=>?_))))))))
 obtain ⟨rfl,hf2⟩:=hq
 refine ⟨_,rfl,?_⟩
 have H2:=H1.fr' hf2
 refine wm rfl<|we rfl rfl<|we rfl rfl<|wa rfl<|wa rfl<|wn<|WC.seq<|ws<|wo (op_fieldAddr rfl Fa.F105_0<|wo (op_fieldAddr rfl Fa.F43_2<|wo (op_load rfl (H2.cell (i:=0) rfl rfl) Tryz.underlying41 rfl<|wo (op_lenA Tryz.underlying41 rfl (H2.arr hS)<|wo (op_eqlN (b:=0) rfl rfl<|wm rfl (wV 17 (decide (sg.length=0)) (fun hb3=>?_) (fun hb3=>?_)))))))
 ·
  have hc3:=dT hb3
  refine wN hb3<|wN hb3<|wo (op_pickT rfl hb3 rfl<|wn<|WC.yes rfl rfl<|ws<|wa rfl<|wa rfl<|wn<|WC.ret<|WQ.thenRet<|WQ.out (.tmp rfl (.tmp rfl .nil)) ?_)
  have h2:=imE_nil (pg:=pg) (xs:=xs) (ps:=ps) (en:=en) hc3
  rw [slS,h2,if_neg (by decide)]
  exact ⟨rfl,H2.fr⟩
 ·
  have hc3:=dF hb3
  refine wY hb3 (op_move rfl<|wY hb3 (op_neqN (b:=0) rfl rfl<|wo (op_pickF rfl hb3 rfl<|wn (wC (decide ((imE pg xs ps en sg)≠0)) (fun hb4=>?_) (fun hb4=>?_)))))
  ·
   have hc4:=dT hb4
   refine ws<|wa rfl<|wa rfl<|wn<|WC.ret<|WQ.thenRet<|WQ.out (.tmp rfl (.tmp rfl .nil)) ?_
   rw [slS,if_neg hc4,imE_2 hc4]
   exact ⟨rfl,H2.fr⟩
  ·
   have hc4:=dF hb4
   refine WC.skip<|WQ.next<|ws<|wm rfl<|wo (op_fieldAddr rfl Fa.F105_1<|wo (op_load rfl (H2.cell (i:=0) rfl rfl) Tryz.underlying9 rfl<|wm rfl<|wo (op_buildSlice (cs:=[_]) H2 Tryz.underlying59 Fa.I9 rfl rfl rfl rfl (by decide) (by decide) (fun b5 w5 H5=>(wo (op_callF Fa.C114 rfl ((stag_ok key _ ([(imB pg xs ps con en sg)]) _ (H5.arrR (i:=1) rfl) hk (by simp only [List.flatten_cons,List.flatten_nil,List.append_nil,List.length_cons,List.length_nil]; omega)).mono (fun e w6 hq=>?_))))))))
   obtain ⟨rfl,hf6⟩:=hq
   refine ⟨_,rfl,?_⟩
   have H6:=H5.fr' hf6
   refine wo (op_addStr rfl rfl (by rw [mac_length]; omega)<|wa rfl<|wa rfl<|wn<|WC.ret<|WQ.out (.tmp rfl (.tmp rfl .nil)) ?_)
   have h0:=Decidable.not_not.mp hc4
   rw [slS,if_pos h0,h0]
   exact ⟨by simp [tup],H6.fr⟩
theorem seal_ok (key:List UInt8) (pg:UInt32) (ev pv sv:Value) (xs:List Xt) (ps:List UInt16) (con:Bool) (en:UInt32) (sg:List Sg) (w:World) (hE:Arr w ev 2 xs.length (List.flatMap xtc xs)) (hP:Arr w pv 1 ps.length (List.map vU16 ps)) (hS:Arr w sv 3 sg.length (List.flatMap sgc sg)) (hk:key.length<2^40) (bx:xs.length≤2^20) (bp:ps.length≤2^20) (bs:sg.length≤2^10) (bb: ∀x∈sg,x.b.length≤2^30) (hL:(imB pg xs ps con en sg).length<2^38) :
  Calls Tryz.prog 18 #[(str key),(.agg #[(vU32 pg),ev,pv,(.bool con),(vU32 en),sv])] w (fun e w'=>e=.returned (.tuple #[str (slS key pg xs ps con en sg),vN (imE pg xs ps en sg)])∧Fr [] w w'):=by
 refine enter (args:=[(str key),(.agg #[(vU32 pg),ev,pv,(.bool con),(vU32 en),sv])]) Tryz.func18 rfl rfl ?_
 have H0:Owl.Own [] w w []:=Own.start w []
 refine ws<|wo (op_box H0 rfl rfl (fun b1 w1 H1=>(wa rfl<|wa rfl<|wn<|ws<|wo (op_loadS (vs:=[_,_,_,_,_,_]) rfl (H1.cells (i:=0) rfl rfl) Tryz.underlying43 rfl Fa.I43 rfl<|wm rfl<|wo (op_build (cs:=[_,_,_,_,_,_,_]) Fa.I105 Fa.PL105 rfl rfl<|wo (op_callF Fa.C55 rfl ((sseal_ok key pg _ _ _ xs ps con en sg _ (H1.arr hE) (H1.arr hP) (H1.arr hS) hk bx bp bs bb hL).mono (fun e w2 hq=>?_))))))))
 obtain ⟨rfl,hf2⟩:=hq
 refine ⟨_,rfl,?_⟩
 have H2:=H1.fr' hf2
 exact we rfl rfl<|we rfl rfl<|wa rfl<|wa rfl<|wn<|WC.ret<|WQ.out (.tmp rfl (.tmp rfl .nil)) (⟨rfl,H2.fr⟩)
theorem sopen_ok (key s:List UInt8) (w:World) (hk:key.length<2^40) (hs:s.length<2^38) :
  Calls Tryz.prog 57 #[(str key),(str s)] w (fun e w'=> ∃v u q,e=.returned (.tuple #[.agg #[vU32 (opI key s).pg,v,u,.bool (opI key s).c,vU32 (opI key s).en,q],vN (opC key s)])∧Owl.Own [] w w' [.row v 207 2 (opI key s).xs.length (List.flatMap xtc (opI key s).xs),.row u 203 1 (opI key s).ps.length (List.map vU16 (opI key s).ps),.row q 116 3 (opI key s).sg.length (List.flatMap sgc (opI key s).sg)]):=by
 refine enter (args:=[(str key),(str s)]) Tryz.func57 rfl rfl ?_
 have H0:Owl.Own [] w w []:=Own.start w []
 refine ws<|wo (op_alloc H0 Fa.I43 (fun b1 w1 H1=>(wa rfl<|wn<|ws<|wm rfl<|wo (op_lenStr Tryz.underlying9 rfl<|wo (op_subI (a:=((s.length:Nat):Int)) (b:=((32:Nat):Int)) rfl rfl (by omega)<|wa rfl<|wn<|WC.seq<|ws<|wm rfl<|wo (op_lssI (b:=(0:Int)) rfl rfl<|wn (wC (decide ((((s.length:Nat):Int)-((32:Nat):Int))<(0:Int))) (fun hb2=>?_) (fun hb2=>?_))))))))
 ·
  have hc2:=dT hb2
  refine ws<|wo (op_build (cs:=[_,_,_,_,_,_]) Fa.I43 Fa.PL43 rfl rfl<|wo (op_storeBW (i:=0) H1 rfl rfl rfl rfl rfl Fa.I43 (fun w3 H3=>(wa rfl<|wn<|WC.ret<|WQ.thenRet<|WQ.out (.cell rfl (run_loadVarS (vs:=[_,_,_,_,_,_]) (H3.cells (i:=0) rfl rfl) Tryz.underlying43 rfl Fa.I43 rfl) (.tmp rfl .nil)) ?_))))
  have hb:=op_short (key:=key) (s:=s) (by omega)
  rw [hb.1,hb.2]
  exact ⟨.slice none 0 0,.slice none 0 0,.slice none 0 0,rfl,(((H3.sel [] rfl rfl).nilRow 207 2).nilRow 203 1).nilRow 116 3⟩
 ·
  have hc2:=dF hb2
  have hln:¬s.length<32:=by omega
  rw [show ((s.length:Nat):Int)-((32:Nat):Int)=((s.length-32:Nat):Int) by omega]
  refine WC.skip<|WQ.next<|WC.seq<|WC.seq<|WC.draw 9 Fa.M H1 (mh rfl<|mh rfl<|mh rfl<|oh (fun w1 H1=>op_sliceStrHi Tryz.underlying9 rfl rfl (by omega) zr)<|mh rfl<|mh rfl<|oh (fun w1 H1=>op_sliceStrLo Tryz.underlying9 rfl rfl (by omega) zr)<|oh (fun w1 H1=>op_callF Fa.C115 rfl ((mcheck_ok key (s.take (s.length-32)) (s.drop (s.length-32)) _ hk (by rw [List.length_take]; omega)).mono (fun e w2 hq=>⟨_,hq.1,rfl,hq.2⟩)))<|oh (fun w1 H1=>op_not rfl zr)  HW.nil) (by kernel_rfl) ?_
  intro β5 w5 H5
  refine wn (wC (!(decide ((s.drop (s.length-32))=mac key (s.take (s.length-32))))) (fun hb6=>?_) (fun hb6=>?_))
  ·
   have hn6:=(Bool.not_eq_true' _).mp hb6
   refine ws<|wo (op_build (cs:=[_,_,_,_,_,_]) Fa.I43 Fa.PL43 rfl rfl<|wo (op_storeBW (i:=0) H5 rfl rfl rfl rfl rfl Fa.I43 (fun w7 H7=>(wa rfl<|wn<|WC.ret<|WQ.thenRet<|WQ.out (.cell rfl (run_loadVarS (vs:=[_,_,_,_,_,_]) (H7.cells (i:=0) rfl rfl) Tryz.underlying43 rfl Fa.I43 rfl) (.tmp rfl .nil)) ?_))))
   have hb:=op_tag (key:=key) hln (dF (by simpa using hn6))
   rw [hb.1,hb.2]
   exact ⟨.slice none 0 0,.slice none 0 0,.slice none 0 0,rfl,(((H7.sel [] rfl rfl).nilRow 207 2).nilRow 203 1).nilRow 116 3⟩
  ·
   have hn6:=(Bool.not_eq_false' _).mp hb6
   refine WC.skip<|WQ.next<|ws<|wm rfl<|wm rfl<|wo (op_sliceStrHi Tryz.underlying9 rfl rfl (by omega)<|wo (op_callF Fa.C116 rfl ((iget_ok (s.take (s.length-32)) _ (by rw [List.length_take]; omega)).mono (fun e w8 hq=>?_))))
   obtain ⟨v8,u8,q8,rfl,hq8⟩:=hq
   refine ⟨_,rfl,?_⟩
   have H8:=H5.splice [] [] [.row v8 207 2 (imG (s.take (s.length-32))).xs.length (List.flatMap xtc (imG (s.take (s.length-32))).xs),.row u8 203 1 (imG (s.take (s.length-32))).ps.length (List.map vU16 (imG (s.take (s.length-32))).ps),.row q8 116 3 (imG (s.take (s.length-32))).sg.length (List.flatMap sgc (imG (s.take (s.length-32))).sg)] rfl rfl hq8 (Fits.solid True.intro (Fits.solid True.intro (Fits.solid True.intro Fits.nil)))
   refine we rfl rfl<|we rfl rfl<|wo (op_storeBW (i:=0) H8 rfl rfl rfl rfl (one_cons rfl (one_cons (Arr.one (H8.arrR (i:=1) rfl)) (one_cons (Arr.one (H8.arrR (i:=2) rfl)) (one_cons rfl (one_cons rfl (one_cons (Arr.one (H8.arrR (i:=3) rfl)) one_nil)))))) Fa.I43 (fun w9 H9=>(wa rfl<|wn<|WC.ret<|WQ.out (.cell rfl (run_loadVarS (vs:=[_,_,_,_,_,_]) (H9.cells (i:=0) rfl rfl) Tryz.underlying43 rfl Fa.I43 rfl) (.tmp rfl .nil)) ?_)))
   have hb:=op_get (key:=key) hln (dT (by simpa using hn6))
   rw [hb.1,hb.2]
   exact ⟨v8,u8,q8,rfl,H9.sel [1,2,3] rfl rfl⟩
theorem spNew_ok  (w:World) :
  Calls Tryz.prog 73 #[] w (fun e w'=> ∃s mb,e=.returned (ptr s 0)∧Owl.Own [] w w' [.blk s [(.map (some mb))] 165,.obj mb (mP .u32 (List.map Pg.me []) 0),Ent.bs 211 Pg.cells Pg.b []]):=by
 refine enter (args:=[]) Tryz.func73 rfl rfl ?_
 have H0:Owl.Own [] w w []:=Own.start w []
 exact ws<|wa rfl<|wn<|ws<|wo (op_makeMapP (kk:=.u32) H0 (fun b1 w1 H1=>(wo (op_build (cs:=[_]) Fa.I165 Fa.PL165 rfl rfl<|wo (op_box H1 rfl rfl (fun b2 w2 H2=>(wa rfl<|wn<|WC.ret<|WQ.out (.tmp rfl .nil) (⟨_,_,rfl,((H2.bsNil 211 Pg.cells Pg.b).sel [1,0,2] rfl rfl)⟩))))))))
theorem smay_ok (a:UInt32) (w:World) :
  Calls Tryz.prog 165 #[(vU32 a)] w (fun e w'=>e=.returned (.bool (mayA a))∧Fr [] w w'):=by
 refine enter (args:=[(vU32 a)]) Tryz.func165 rfl rfl ?_
 have H0:Owl.Own [] w w []:=Own.start w []
 refine ws<|wa rfl<|wn<|ws<|wm rfl<|wo (op_remU32 (b:=256) rfl rfl (by decide)<|wo (op_eqlU32 (b:=0) rfl rfl<|wm rfl (wV 6 (decide ((a%(256:UInt32))=(0:UInt32))) (fun hb1=>?_) (fun hb1=>?_))))
 ·
  have hc1:=dT hb1
  exact wY hb1 (op_move rfl<|wY hb1 (op_geqU32 (b:=1048576) rfl rfl<|wY hb1 (op_not rfl<|wo (op_pickT rfl hb1 rfl<|wa rfl<|wn<|WC.ret<|WQ.out (.tmp rfl .nil) (⟨by rw [mayA,hb1]; rfl,H0.fr⟩)))))
 ·
  have hc1:=dF hb1
  exact wN hb1<|wN hb1<|wN hb1<|wo (op_pickF rfl hb1 rfl<|wa rfl<|wn<|WC.ret<|WQ.out (.tmp rfl .nil) (⟨by rw [mayA,hb1]; rfl,H0.fr⟩))
theorem at_no (s mb c:Nat) (ps:List Pg) (a:UInt64) (w:World) (hS:cellsAt w s [(.map (some mb))]) (hM:w.heap[mb]?=some (mP .u32 (List.map Pg.me ps) c)) (hME:MEok (List.map Pg.me ps) c) (no: ∀g∈ps,g.a≠pgA (UInt32.ofNat a.toNat)) (hb:¬a≥1048576) :
  Calls Tryz.prog 124 #[(ptr s 0),(vU64 a)] w (fun e w'=>e=.returned (.pointer none)∧Fr [] w w'):=by
 refine enter (args:=[(ptr s 0),(vU64 a)]) Tryz.func124 rfl rfl ?_
 have H0:Owl.Own [] w w [Ent.bo s [(.map (some mb))],Ent.mo .u32 mb (List.map Pg.me ps) c]:=(((Own.start w []).oldB hS).mpOld hM)
 refine ws<|wa rfl<|wn<|WC.seq<|ws<|wm rfl<|wo (op_geqU64 (b:=1048576) rfl rfl<|wn<|WC.no rfl (decide_eq_false hb)<|WC.skip<|WQ.next<|ws<|wm rfl<|wo (op_nilCheck rfl<|wo (op_fieldAddr rfl Fa.F165_0<|wo (op_load rfl (H0.cellO (i:=0) rfl rfl) Tryz.underlying162 rfl<|wm rfl<|wo (op_convU64U32 (hs:=Tryz.underlying154) (hd:=Tryz.underlying22) rfl<|wo (op_quoU32 (b:=256) rfl rfl (by decide)<|wo (op_mulU32 (b:=256) rfl rfl<|wo (op_lookG_no (H0.mpO (i:=1) rfl) (fun g hg h=>no g hg (by rw [show (Pg.me g).k=g.a.toNat from rfl] at h; exact UInt32.toNat_inj.1 (Int.ofNat.inj h))) Tryz.underlying162 Tryz.underlying22 Fa.Z163 rfl rfl ?_))))))))
 exact wa rfl<|wn<|WC.ret<|WQ.out (.tmp rfl .nil) (⟨rfl,H0.fr⟩)
theorem at_some (s mb c:Nat) (ps:List Pg) (a:UInt64) (g:Pg) (w:World) (hS:cellsAt w s [(.map (some mb))]) (hM:w.heap[mb]?=some (mP .u32 (List.map Pg.me ps) c)) (hME:MEok (List.map Pg.me ps) c) (hg:g∈ps) (hge:g.a=pgA (UInt32.ofNat a.toNat)) (hb:¬a≥1048576) :
  Calls Tryz.prog 124 #[(ptr s 0),(vU64 a)] w (fun e w'=>e=.returned (ptr g.b 0)∧Fr [] w w'):=by
 refine enter (args:=[(ptr s 0),(vU64 a)]) Tryz.func124 rfl rfl ?_
 have H0:Owl.Own [] w w [Ent.bo s [(.map (some mb))],Ent.mo .u32 mb (List.map Pg.me ps) c]:=(((Own.start w []).oldB hS).mpOld hM)
 refine ws<|wa rfl<|wn<|WC.seq<|ws<|wm rfl<|wo (op_geqU64 (b:=1048576) rfl rfl<|wn<|WC.no rfl (decide_eq_false hb)<|WC.skip<|WQ.next<|ws<|wm rfl<|wo (op_nilCheck rfl<|wo (op_fieldAddr rfl Fa.F165_0<|wo (op_load rfl (H0.cellO (i:=0) rfl rfl) Tryz.underlying162 rfl<|wm rfl<|wo (op_convU64U32 (hs:=Tryz.underlying154) (hd:=Tryz.underlying22) rfl<|wo (op_quoU32 (b:=256) rfl rfl (by decide)<|wo (op_mulU32 (b:=256) rfl rfl<|wo (op_lookG_some (g:=g) (H0.mpO (i:=1) rfl) hME hg (by rw [show (Pg.me g).k=g.a.toNat from rfl,hge]; rfl) Tryz.underlying162 Tryz.underlying22 rfl rfl ?_))))))))
 exact wa rfl<|wn<|WC.ret<|WQ.out (.tmp rfl .nil) (⟨rfl,H0.fr⟩)
theorem fits_ok (s mb c:Nat) (ps:List Pg) (a:UInt32) (n:Nat) (w:World) (hS:cellsAt w s [(.map (some mb))]) (hM:w.heap[mb]?=some (mP .u32 (List.map Pg.me ps) c)) (hP:BsOK 211 Pg.cells Pg.b ps w) (hME:MEok (List.map Pg.me ps) c) (hin:inS a n) (hall: ∀k,k<n→∃g∈ps,g.a=pgA (a+UInt32.ofNat k)) :
  Calls Tryz.prog 167 #[(ptr s 0),(vU32 a),(vN n),(vU8 0)] w (fun e w'=>e=.returned (vN 0)∧Fr [] w w'):=by
 refine enter (args:=[(ptr s 0),(vU32 a),(vN n),(vU8 0)]) Tryz.func167 rfl rfl ?_
 have H0:Owl.Own [] w w [Ent.bo s [(.map (some mb))],Ent.mo .u32 mb (List.map Pg.me ps) c,Ent.bsO 211 Pg.cells Pg.b ps]:=((((Own.start w []).oldB hS).mpOld hM).bsOld hP)
 have hnn:n≤1048576:=Nat.le_trans (Nat.le_add_left _ _) hin
 refine ws<|wa rfl<|wn<|WC.seq<|ws<|wm rfl<|wm rfl<|wn<|WC.block<|WC.loop (α:=Nat) (fun k=>[(0,(ptr s 0)),(1,(vU32 a)),(2,(vN n)),(3,(vU8 0)),(12,(vN n)),(13,(vN k))]) (fun k w'=>(k≤n)∧Owl.Own [] w w' [Ent.bo s [(.map (some mb))],Ent.mo .u32 mb (List.map Pg.me ps) c,Ent.bsO 211 Pg.cells Pg.b ps]) (fun k=>n-k) 0 ⟨(Nat.zero_le _),H0⟩ ⟨rfl,rfl,rfl,rfl,rfl,rfl,trivial⟩ ?_
 rintro k w1 ⟨hk1,H1⟩
 show WC _ _ _ _ _ [(0,(ptr s 0)),(1,(vU32 a)),(2,(vN n)),(3,(vU8 0)),(12,(vN n)),(13,(vN k))] _
 refine ws<|wo (op_lssN rfl rfl<|wn<|WC.seq (wC (decide (k<n)) (fun hb2=>?_) (fun hb2=>?_)))
 ·
  have hc2:=dT hb2
  refine WC.skip<|WQ.next<|WC.seq<|WC.block<|ws ?_
  have hk:k<n:=dT hb2
  obtain ⟨gk,hgk,hge⟩:=hall k hk
  rw [←addr32 hin hk] at hge
  refine wm rfl<|wa rfl<|wn<|ws<|wm rfl<|wo (op_convU32U64 (hs:=Tryz.underlying22) (hd:=Tryz.underlying154) rfl<|wm rfl<|wo (op_convNU64 (hs:=Tryz.underlying3) (hd:=Tryz.underlying154) rfl<|wo (op_addU64 rfl rfl<|wa rfl<|wn<|ws<|wm rfl<|wm rfl ?_)))
  have H3:=(H1.bsView (i:=2) (a:=gk) rfl hgk)
  refine wo (op_callF Fa.C124 rfl ((at_some s mb c ps ((UInt64.ofNat a.toNat)+(UInt64.ofNat k)) gk _ (H3.cellsAtO (i:=0) rfl) (H3.mpO (i:=1) rfl) hME hgk hge (addr_lt hin hk)).mono (fun e w4 hq=>?_)))
  obtain ⟨rfl,hf4⟩:=hq
  refine ⟨_,rfl,?_⟩
  have H4:=H3.fr' hf4
  exact wa rfl<|wn<|ws<|wm rfl<|wo (op_eqlPN Fa.PT163 rfl rfl<|wm rfl<|wY rfl (op_move rfl<|wY rfl (op_nilCheck rfl<|wY rfl (op_fieldAddr rfl Fa.F211_0<|wY rfl (op_load rfl (H4.cellO (i:=3) rfl rfl) Tryz.underlying5 rfl<|wY rfl (op_move rfl<|wY rfl (op_andU8 (b:=0) rfl rfl<|wY rfl (op_move rfl<|wY rfl (op_neqU8 (b:=0) rfl rfl<|wo (op_pickF rfl rfl rfl<|wn<|WC.no rfl (by rw [UInt8.and_zero]; rfl)<|WC.skip<|WQ.inNormal<|WQ.next<|WC.region<|wo (op_addN (b:=1) rfl rfl (by omega)<|wm rfl<|WL.nil<|WQ.round (k+1) ⟨(by omega),(H4.take 3)⟩ ⟨rfl,rfl,rfl,rfl,rfl,rfl,trivial⟩ (by omega))))))))))))
 ·
  have hc2:=dF hb2
  exact WC.exit<|WQ.thenExit<|WQ.thenExit<|WQ.inHere<|WQ.next<|ws<|wa rfl<|wn<|WC.ret<|WQ.out (.tmp rfl .nil) (⟨rfl,H1.fr⟩)
theorem sput_ok (s mb c:Nat) (ps:List Pg) (a:UInt32) (x:List UInt8) (T:List Nat) (w:World) (H:Owl.Own T w w [.blk s [(.map (some mb))] 165,.obj mb (mP .u32 (List.map Pg.me ps) c),Ent.bs 211 Pg.cells Pg.b ps]) (hME:MEok (List.map Pg.me ps) c) (hin:inS a x.length) (hall: ∀k,k<x.length→∃g∈ps,g.a=pgA (a+UInt32.ofNat k)) (hlen: ∀g∈ps,g.bs.length=256) :
  Calls Tryz.prog 166 #[(ptr s 0),(vU32 a),(str x),(vU8 0)] w (fun e w'=>e=.returned (vN 0)∧Owl.Own T w w' [.blk s [(.map (some mb))] 165,.obj mb (mP .u32 (List.map Pg.me (putN ps a x x.length)) c),Ent.bs 211 Pg.cells Pg.b (putN ps a x x.length)]):=by
 refine enter (args:=[(ptr s 0),(vU32 a),(str x),(vU8 0)]) Tryz.func166 rfl rfl ?_
 have hnn:x.length≤1048576:=Nat.le_trans (Nat.le_add_left _ _) hin
 refine ws<|wa rfl<|wn<|WC.seq<|ws<|wm rfl<|wm rfl<|wm rfl<|wo (op_lenStr Tryz.underlying9 rfl<|wm rfl<|wo (op_callF Fa.C167 rfl ((fits_ok s mb c ps a x.length _ (H.cellsAt (i:=0) rfl) (H.mp (i:=1) rfl) (H.bsG (i:=2) rfl) hME hin hall).mono (fun e w1 hq=>?_))))
 obtain ⟨rfl,hf1⟩:=hq
 refine ⟨_,rfl,?_⟩
 have H1:=H.fr' hf1
 refine wa rfl<|wn<|ws<|wm rfl<|wo (op_neqN (b:=0) rfl rfl<|wn<|WC.no rfl (by decide)<|WC.skip<|WQ.next<|WC.seq<|ws<|wm rfl<|wo (op_strBytes H1 Tryz.underlying9 Tryz.underlying5 Tryz.underlying114 rfl (by omega) (fun v2 w2 H2=>(wo (op_lenA Tryz.underlying114 rfl (H2.arrR (i:=3) rfl)<|wm rfl<|wn<|WC.block<|WC.loop (α:=Nat) (fun k=>[(0,(ptr s 0)),(1,(vU32 a)),(3,(vU8 0)),(24,v2),(25,(vN x.length)),(26,(vN k))]) (fun k w'=>(k≤x.length)∧Owl.Own T w w' [.blk s [(.map (some mb))] 165,.obj mb (mP .u32 (List.map Pg.me (putN ps a x k)) c),Ent.bs 211 Pg.cells Pg.b (putN ps a x k),.row v2 5 1 x.length (List.map vU8 x)]) (fun k=>x.length-k) 0 ⟨(Nat.zero_le _),H2⟩ ⟨rfl,rfl,rfl,rfl,rfl,rfl,trivial⟩ ?_)))))
 rintro k w3 ⟨hk1,H3⟩
 show WC _ _ _ _ _ [(0,(ptr s 0)),(1,(vU32 a)),(3,(vU8 0)),(24,v2),(25,(vN x.length)),(26,(vN k))] _
 refine ws<|wo (op_lssN rfl rfl<|wn<|WC.seq (wC (decide (k<x.length)) (fun hb4=>?_) (fun hb4=>?_)))
 ·
  have hc4:=dT hb4
  refine WC.skip<|WQ.next<|WC.seq<|WC.block<|ws<|wm rfl<|wo (op_indexAddr1 Tryz.underlying114 Fa.I5 rfl (H3.arrR (i:=3) rfl) rfl (by omega)<|wo (op_load rfl ((H3.arrR (i:=3) rfl).at (get_map vU8 0 (Arr.ltM (H3.arrR (i:=3) rfl) (by omega)))) Tryz.underlying5 rfl<|wa rfl<|wa rfl<|wn<|ws<|wm rfl<|wm rfl<|wo (op_convNU32 (hs:=Tryz.underlying3) (hd:=Tryz.underlying22) rfl<|wo (op_addU32 rfl rfl<|wa rfl<|wn<|ws<|wm rfl<|wm rfl ?_))))
  have hk:k<x.length:=dT hb4
  obtain ⟨gk,hgk,hgq⟩:=putN_has (a:=a) (s:=x) (k:=k) (hall k hk)
  have hgl:=putN_len (a:=a) (s:=x) hlen k gk hgk
  obtain ⟨l1,l2,e8⟩:=List.append_of_mem hgk
  have H5:Owl.Own T w w3 [.blk s [(.map (some mb))] 165,.obj mb (mP .u32 (List.map Pg.me (putN ps a x k)) c),Ent.bs 211 Pg.cells Pg.b (l1++l2),.row v2 5 1 x.length (List.map vU8 x),.blk gk.b ([(vU8 gk.pm)]++(List.map vU8 gk.bs)) 211]:=H3.focus (i:=2) (l1:=l1) (l2:=l2) (a:=gk) (f:=Pg.cells) (bl:=Pg.b) (congrArg (fun z=>some (Ent.bs 211 Pg.cells Pg.b z)) e8)
  refine wo (op_convU32U64 (hs:=Tryz.underlying22) (hd:=Tryz.underlying154) rfl<|wo (op_callF Fa.C124 rfl ((at_some s mb c (putN ps a x k) (UInt64.ofNat (a+(UInt32.ofNat k)).toNat) gk _ (H5.cellsAt (i:=0) rfl) (H5.mp (i:=1) rfl) (by rw [putN_me]; exact hME) hgk (by rw [back32]; exact hgq) (addr_lt32 hin hk)).mono (fun e w6 hq=>?_))))
  obtain ⟨rfl,hf6⟩:=hq
  refine ⟨_,rfl,?_⟩
  have H6:=H5.fr' hf6
  refine wa rfl<|wn<|ws<|wm rfl<|wo (op_neqPN Fa.PT163 rfl rfl<|wn<|WC.yes rfl rfl<|WC.region<|wm rfl<|wm rfl<|wo (op_remU32 (b:=256) rfl rfl (by decide)<|wm rfl<|wo (op_nilCheck rfl<|wo (op_fieldAddr rfl Fa.F211_1<|wo (op_indexAddrA1 Tryz.underlying209 Fa.I5 rfl rfl (by rw [pgMod]; exact Nat.mod_lt _ (by decide)) ?_)))))
  refine wo (op_storeB (i:=4) H6 rfl rfl rfl (by have h9:=Nat.mod_lt (a+UInt32.ofNat k).toNat (show 0<256 by decide); rw [←pgMod] at h9; rw [Nat.blt_eq]; simp [hgl]; omega) rfl Fa.I5 (fun w7 H7q=>?_))
  have H7:Owl.Own T w w7 [.blk s [(.map (some mb))] 165,.obj mb (mP .u32 (List.map Pg.me (putN ps a x k)) c),Ent.bs 211 Pg.cells Pg.b (l1++l2),.row v2 5 1 x.length (List.map vU8 x),.blk gk.b ([(vU8 gk.pm)]++(List.map vU8 (gk.bs.set ((a+(UInt32.ofNat k))%(256:UInt32)).toNat (x.getD k 0)))) 211]:=Own.blkEq (i:=4) H7q rfl (set_tab _ gk.bs 1 ((a+(UInt32.ofNat k))%(256:UInt32)).toNat (x.getD k 0))
  refine WL.nil<|WQ.inNormal<|WQ.next<|WC.region<|wo (op_addN (b:=1) rfl rfl (by omega)<|wm rfl<|WL.nil ?_)
  have hf9:=H7.fold (i:=2) (j:=4) (a:={ gk with bs:=(gk.bs.set ((a+(UInt32.ofNat k))%(256:UInt32)).toNat (x.getD k 0)) }) (f:=Pg.cells) (bl:=Pg.b) rfl rfl rfl rfl rfl
  have e9:l1++ { gk with bs:=(gk.bs.set ((a+(UInt32.ofNat k))%(256:UInt32)).toNat (x.getD k 0)) }::l2=putN ps a x (k+1):=by
   rw [putN,e8]; exact (pgPutMid (by rw [←e8,putN_a]; exact me_a hME.kn) hgq).symm
  rw [e9,show List.map Pg.me (putN ps a x k)=List.map Pg.me (putN ps a x (k+1)) from by rw [putN_me,putN_me]] at hf9
  exact WQ.round (k+1) ⟨(by omega),(hf9.sel [0,1,2,3] rfl rfl)⟩ ⟨rfl,rfl,rfl,rfl,rfl,rfl,trivial⟩ (by omega)
 ·
  have hc4:=dF hb4
  refine WC.exit<|WQ.thenExit<|WQ.thenExit<|WQ.inHere<|WQ.next<|ws<|wa rfl<|wn<|WC.ret<|WQ.out (.tmp rfl .nil) ?_
  obtain rfl:k=x.length:=by omega
  exact ⟨rfl,H3.sel [0,1,2] rfl rfl⟩
theorem set_ok (s mb c:Nat) (ps:List Pg) (a:UInt32) (x:List UInt8) (T:List Nat) (w:World) (H:Owl.Own T w w [.blk s [(.map (some mb))] 165,.obj mb (mP .u32 (List.map Pg.me ps) c),Ent.bs 211 Pg.cells Pg.b ps]) (hME:MEok (List.map Pg.me ps) c) (hin:inS a x.length) (hall: ∀k,k<x.length→∃g∈ps,g.a=pgA (a+UInt32.ofNat k)) (hlen: ∀g∈ps,g.bs.length=256) :
  Calls Tryz.prog 123 #[(ptr s 0),(vU32 a),(str x)] w (fun e w'=>e=.returned (vN 0)∧Owl.Own T w w' [.blk s [(.map (some mb))] 165,.obj mb (mP .u32 (List.map Pg.me (putN ps a x x.length)) c),Ent.bs 211 Pg.cells Pg.b (putN ps a x x.length)]):=by
 refine enter (args:=[(ptr s 0),(vU32 a),(str x)]) Tryz.func123 rfl rfl<|ws<|wa rfl<|wn<|WC.seq<|ws<|wm rfl<|wo (op_eqlPN Fa.PT68 rfl rfl<|wn<|WC.no rfl rfl<|WC.skip<|WQ.next<|ws<|wm rfl<|wm rfl<|wm rfl<|wo (op_callF Fa.C166 rfl ((sput_ok s mb c ps a x _ _ (H.part [0,1,2] rfl rfl) hME hin hall hlen).mono (fun e w1 hq=>?_))))
 obtain ⟨rfl,hq1⟩:=hq
 refine ⟨_,rfl,?_⟩
 have H1:Owl.Own T w w1 [.blk s [(.map (some mb))] 165,.obj mb (mP .u32 (List.map Pg.me (putN ps a x x.length)) c),Ent.bs 211 Pg.cells Pg.b (putN ps a x x.length)]:=H.splice [0,1,2] [.blk s [(.map (some mb))] 165,.obj mb (mP .u32 (List.map Pg.me (putN ps a x x.length)) c),Ent.bs 211 Pg.cells Pg.b (putN ps a x x.length)] [] rfl rfl hq1 (Fits.solid True.intro (Fits.solid True.intro (Fits.solid True.intro Fits.nil)))
 exact wa rfl<|wn<|WC.ret<|WQ.out (.tmp rfl .nil) (⟨rfl,H1⟩)
theorem map_ok (s mb c:Nat) (ps:List Pg) (a:UInt32) (pm:UInt8) (T:List Nat) (w:World) (H:Owl.Own T w w [.blk s [(.map (some mb))] 165,.obj mb (mP .u32 (List.map Pg.me ps) c),Ent.bs 211 Pg.cells Pg.b ps]) (hME:MEok (List.map Pg.me ps) c) (hmay:mayA a=true) (h0:a.toNat%256=0) (hin:inS a 256) (hpm:¬pm>7) (no: ∀g∈ps,g.a≠a) :
  Calls Tryz.prog 122 #[(ptr s 0),(vU32 a),(vU8 pm)] w (fun e w'=> ∃b,e=.returned (vN 0)∧Owl.Own T w w' [.blk s [(.map (some mb))] 165,.obj mb (mP .u32 (List.map Pg.me (ps++[(Pg.mk a b c pm (List.replicate 256 0))])) (c+1)),Ent.bs 211 Pg.cells Pg.b (ps++[(Pg.mk a b c pm (List.replicate 256 0))])]):=by
 refine enter (args:=[(ptr s 0),(vU32 a),(vU8 pm)]) Tryz.func122 rfl rfl<|ws<|wa rfl<|wn<|WC.seq<|WC.block<|ws<|wm rfl<|wo (op_eqlPN Fa.PT68 rfl rfl<|wa rfl<|wn<|WC.no rfl rfl<|ws<|wm rfl<|wo (op_callF Fa.C165 rfl ((smay_ok a _).mono (fun e w1 hq=>?_))))
 obtain ⟨rfl,hf1⟩:=hq
 refine ⟨_,rfl,?_⟩
 have H1:=H.fr' hf1
 refine wo (op_not rfl<|wm rfl<|WL.yes rfl rfl rfl (by rw [hmay]; rfl) rfl (op_move rfl<|WL.yes rfl rfl rfl (by rw [hmay]; rfl) rfl (op_gtrU8 (b:=7) rfl rfl<|wo (op_pickF rfl (by rw [hmay]; rfl) rfl<|wa rfl<|wn<|WC.no rfl (decide_eq_false hpm)<|ws<|wm rfl<|wm rfl<|wo (op_convU32U64 (hs:=Tryz.underlying22) (hd:=Tryz.underlying154) rfl<|wo (op_callF Fa.C124 rfl ((at_no s mb c ps (UInt64.ofNat a.toNat) _ (H1.cellsAt (i:=0) rfl) (H1.mp (i:=1) rfl) hME (fun g hg=>by rw [back32,←pgA_self h0]; exact no g hg) (big32 hin)).mono (fun e w2 hq=>?_))))))))
 obtain ⟨rfl,hf2⟩:=hq
 refine ⟨_,rfl,?_⟩
 have H2:=H1.fr' hf2
 refine wo (op_neqPN Fa.PT163 rfl rfl<|wa rfl<|wn<|WC.no rfl rfl<|WC.skip<|WQ.inNormal<|WQ.next<|ws<|wm rfl<|wo (op_nilCheck rfl<|wo (op_fieldAddr rfl Fa.F165_0<|wo (op_load rfl (H2.cell (i:=0) rfl rfl) Tryz.underlying162 rfl<|wm rfl<|wm rfl<|wo (op_build (cs:=[vU8 pm]++List.map vU8 (List.replicate 256 0)) Fa.I211 Fa.PL211 rfl rfl<|wo (op_box H2 rfl rfl (fun b3 w3 H3=>(wo (op_updP (i:=1) (k:=a.toNat) H3 rfl Tryz.underlying162 Tryz.underlying22 (fun x hx hk=>by obtain ⟨g,hg,rfl⟩:=List.mem_map.1 hx; exact no g hg (UInt32.toNat_inj.1 hk)) rfl rfl rfl (fun w4 H4=>?_))))))))))
 refine wn<|ws<|wa rfl<|wn<|WC.ret<|WQ.out (.tmp rfl .nil) ?_
 have h:=H4
 rw [show List.map Pg.me ps++[ME.mk a.toNat b3 c]=List.map Pg.me (ps++[(Pg.mk a b3 c pm (List.replicate 256 0))]) from by rw [List.map_append]; rfl] at h
 have h2:=h.foldEnd (i:=2) (j:=3) (f:=Pg.cells) (bl:=Pg.b) (a:=(Pg.mk a b3 c pm (List.replicate 256 0))) rfl rfl rfl rfl rfl
 exact ⟨_,rfl,h2.sel [0,1,2] rfl rfl⟩
theorem lseg_ok (s mb c:Nat) (ps:List Pg) (lb:Nat) (pg:UInt32) (ev pv sv:Value) (con:Bool) (en:UInt32) (l:List Pb) (x:Sg) (T:List Nat) (w:World) (H:Owl.Own T w w [.blk s [(.map (some mb))] 165,.obj mb (mP .u32 (List.map Pg.me ps) c),Ent.bs 211 Pg.cells Pg.b ps,Ent.bo lb [(vU32 pg),ev,pv,(.bool con),(vU32 en),sv,(ptr s 0)]]) (hR:SpR ps c l) (h:SgOK x) (hlow: ∀g∈ps,g.a.toNat+256≤x.a.toNat) (hlen: ∀g∈ps,g.bs.length=256) :
  Calls Tryz.prog 74 #[(ptr lb 0),(.agg #[(vU32 x.a),(vU8 x.p),(str x.b)])] w (fun e w'=> ∃c' ps',e=.returned (vN 0)∧SpR ps' c' (l++segP x (pgN x))∧Owl.Own T w w' [.blk s [(.map (some mb))] 165,.obj mb (mP .u32 (List.map Pg.me ps') c'),Ent.bs 211 Pg.cells Pg.b ps',Ent.bo lb [(vU32 pg),ev,pv,(.bool con),(vU32 en),sv,(ptr s 0)]]):=by
 refine enter (args:=[(ptr lb 0),(.agg #[(vU32 x.a),(vU8 x.p),(str x.b)])]) Tryz.func74 rfl rfl ?_
 have hxn:=h.en
 refine ws<|wo (op_box H rfl rfl (fun b1 w1 H1=>(wa rfl<|wn<|WC.seq<|ws<|wa rfl<|wn<|WC.block<|WC.loop (α:=Nat × Nat × List Pg) (fun (k,c1,qs)=>[(0,(ptr lb 0)),(3,(ptr b1 0)),(5,(vN (256 * k)))]) (fun (k,c1,qs) w'=>(256 * k<x.b.length+256∧MEok (List.map Pg.me (ps++qs)) c1∧qs.map Pg.bare=zeroP x k)∧Owl.Own T w w' [.blk s [(.map (some mb))] 165,.obj mb (mP .u32 (List.map Pg.me (ps++qs)) c1),Ent.bs 211 Pg.cells Pg.b (ps++qs),Ent.bo lb [(vU32 pg),ev,pv,(.bool con),(vU32 en),sv,(ptr s 0)],.blk b1 [(vU32 x.a),(vU8 x.p),(str x.b)] 116]) (fun (k,c1,qs)=>x.b.length-256 * k) (0,c,[]) ⟨⟨by omega,by rw [List.append_nil]; exact hR.me,rfl⟩,(by rw [List.append_nil]; exact H1)⟩ ⟨rfl,rfl,rfl,trivial⟩ ?_)))
 rintro ⟨k,c1,qs⟩ w2 ⟨⟨hk0,hME,hq⟩,H2⟩
 show WC _ _ _ _ _ [(0,(ptr lb 0)),(3,(ptr b1 0)),(5,(vN (256 * k)))] _
 refine WC.seq<|ws<|wm rfl<|wo (op_fieldAddr rfl Fa.F116_2<|wo (op_load rfl (H2.cell (i:=4) rfl rfl) Tryz.underlying9 rfl<|wo (op_lenStr Tryz.underlying9 rfl<|wo (op_lssN rfl rfl<|wn (wC (decide ((256 * k)<x.b.length)) (fun hb3=>?_) (fun hb3=>?_))))))
 ·
  have hc3:=dT hb3
  have hk:256 * k<x.b.length:=dT hb3
  refine WC.skip<|WQ.next<|WC.seq<|WC.block<|WC.seq<|WC.draw 11 Fa.M H2 (mh rfl<|oh (fun w1 H1=>op_nilCheck rfl zr)<|oh (fun w1 H1=>op_fieldAddr rfl Fa.F125_1 zr)<|oh (fun w1 H1=>op_load rfl (H1.cellO (i:=3) rfl rfl) Tryz.underlying68 rfl zr)<|oh (fun w1 H1=>op_fieldAddr rfl Fa.F116_0 zr)<|oh (fun w1 H1=>op_load rfl (H1.cell (i:=4) rfl rfl) Tryz.underlying22 rfl zr)<|mh rfl<|oh (fun w1 H1=>op_convNU32 (hs:=Tryz.underlying3) (hd:=Tryz.underlying22) rfl zr)<|oh (fun w1 H1=>op_addU32 rfl rfl zr)<|oh (fun w1 H1=>op_fieldAddr rfl Fa.F116_1 zr)<|oh (fun w1 H1=>op_load rfl (H1.cell (i:=4) rfl rfl) Tryz.underlying5 rfl zr)  HW.nil) (by kernel_rfl) ?_
  intro β4 w4 H4
  refine wo (op_callF Fa.C122 rfl ((map_ok s mb c1 (ps++qs) (x.a+(UInt32.ofNat (256 * k))) x.p _ _ (H4.part [0,1,2] rfl rfl) hME (mayA_of (h.al_at hk) (h.page hk)) (h.al_at hk) (h.page hk) h.pm7 (seg_new h hlow hq hk)).mono (fun e w5 hq=>?_)))
  obtain ⟨b5,rfl,hq5⟩:=hq
  refine ⟨_,rfl,?_⟩
  have H5:=H4.splice [0,1,2] [.blk s [(.map (some mb))] 165,.obj mb (mP .u32 (List.map Pg.me (ps++qs++[(Pg.mk (x.a+UInt32.ofNat (256 * k)) b5 c1 x.p (List.replicate 256 0))])) (c1+1)),Ent.bs 211 Pg.cells Pg.b (ps++qs++[(Pg.mk (x.a+UInt32.ofNat (256 * k)) b5 c1 x.p (List.replicate 256 0))])] [] rfl rfl hq5 (Fits.solid True.intro (Fits.solid True.intro (Fits.solid True.intro Fits.nil)))
  refine wa rfl<|wn<|ws<|wm rfl<|wo (op_neqN (b:=0) rfl rfl<|wn<|WC.no rfl (by decide)<|WC.skip<|WQ.inNormal<|WQ.next<|WC.region<|wm rfl<|wo (op_addN (b:=256) rfl rfl (by omega)<|wa rfl<|WL.nil ?_))
  have hn9:=H5
  rw [List.append_assoc] at hn9
  exact WQ.round (k+1,c1+1,qs++[(Pg.mk (x.a+UInt32.ofNat (256 * k)) b5 c1 x.p (List.replicate 256 0))]) ⟨⟨by rw [Nat.mul_succ]; omega,by rw [←List.append_assoc,List.map_append]; exact hME.add (fun e he hke=>by
    obtain ⟨g,hg,rfl⟩:=List.mem_map.1 he
    exact seg_new h hlow hq hk g hg (UInt32.toNat_inj.1 hke)),by rw [List.map_append,hq]; rfl⟩,(hn9.take 5)⟩ ⟨rfl,rfl,(by rw [Nat.mul_succ]; rfl),trivial⟩ (by show x.b.length-256 * (k+1)<x.b.length-256 * k; omega)
 ·
  have hc3:=dF hb3
  have hkn:¬256 * k<x.b.length:=dF hb3
  obtain rfl:k=pgN x:=by rw [pgN]; omega
  refine WC.exit<|WQ.thenExit<|WQ.thenExit<|WQ.inHere<|WQ.next<|WC.seq<|WC.draw 8 Fa.M H2 (mh rfl<|oh (fun w1 H1=>op_nilCheck rfl zr)<|oh (fun w1 H1=>op_fieldAddr rfl Fa.F125_1 zr)<|oh (fun w1 H1=>op_load rfl (H1.cellO (i:=3) rfl rfl) Tryz.underlying68 rfl zr)<|oh (fun w1 H1=>op_fieldAddr rfl Fa.F116_0 zr)<|oh (fun w1 H1=>op_load rfl (H1.cell (i:=4) rfl rfl) Tryz.underlying22 rfl zr)<|oh (fun w1 H1=>op_fieldAddr rfl Fa.F116_2 zr)<|oh (fun w1 H1=>op_load rfl (H1.cell (i:=4) rfl rfl) Tryz.underlying9 rfl zr)  HW.nil) (by kernel_rfl) ?_
  intro β6 w6 H6
  refine wo (op_callF Fa.C123 rfl ((set_ok s mb c1 (ps++qs) x.a x.b _ _ (H6.part [0,1,2] rfl rfl) hME h.inS (fun k hk=>seg_has h hq hk) (pgBareLen hlen hq)).mono (fun e w7 hq=>?_)))
  obtain ⟨rfl,hq7⟩:=hq
  refine ⟨_,rfl,?_⟩
  have H7:=H6.splice [0,1,2] [.blk s [(.map (some mb))] 165,.obj mb (mP .u32 (List.map Pg.me (putN (ps++qs) x.a x.b x.b.length)) c1),Ent.bs 211 Pg.cells Pg.b (putN (ps++qs) x.a x.b x.b.length)] [] rfl rfl hq7 (Fits.solid True.intro (Fits.solid True.intro (Fits.solid True.intro Fits.nil)))
  exact wa rfl<|wn<|WC.ret<|WQ.out (.tmp rfl .nil) (⟨_,_,rfl,⟨by rw [putN_me]; exact hME,by rw [seg_fill h hlow hq,hR.bare]⟩,H7.sel [0,1,2,3] rfl rfl⟩)
theorem lspace_no (pg:UInt32) (ev pv sv:Value) (xs:List Xt) (ps:List UInt16) (con:Bool) (en:UInt32) (sg:List Sg) (w:World) (hE:Arr w ev 2 xs.length (List.flatMap xtc xs)) (hP:Arr w pv 1 ps.length (List.map vU16 ps)) (hS:Arr w sv 3 sg.length (List.flatMap sgc sg)) (hn:xs.length<2^47) (hm:ps.length<2^47) (hk:sg.length<2^47) (h2:imE pg xs ps en sg=2) :
  Calls Tryz.prog 32 #[(.agg #[(vU32 pg),ev,pv,(.bool con),(vU32 en),sv])] w (fun e w'=>e=.returned (.tuple #[.pointer none,vN 2])∧Fr [] w w'):=by
 refine enter (args:=[(.agg #[(vU32 pg),ev,pv,(.bool con),(vU32 en),sv])]) Tryz.func32 rfl rfl ?_
 have H0:Owl.Own [] w w []:=Own.start w []
 refine ws<|wo (op_box H0 rfl rfl (fun b1 w1 H1=>(wa rfl<|wa rfl<|wn<|WC.seq<|ws<|wo (op_loadS (vs:=[_,_,_,_,_,_]) rfl (H1.cells (i:=0) rfl rfl) Tryz.underlying43 rfl Fa.I43 rfl<|wo (op_callF Fa.C41 rfl ((icheck_ok pg _ _ _ xs ps con en sg _ (H1.arr hE) (H1.arr hP) (H1.arr hS) hn hm hk).mono (fun e w2 hq=>?_)))))))
 obtain ⟨rfl,hf2⟩:=hq
 refine ⟨_,rfl,?_⟩
 have H2:=H1.fr' hf2
 exact wa rfl<|wn<|ws<|wm rfl<|wo (op_neqN (b:=0) rfl rfl<|wn<|WC.yes rfl (by rw [h2]; rfl)<|ws<|wm rfl<|wa rfl<|wa rfl<|wn<|WC.ret<|WQ.thenRet<|WQ.out (.tmp rfl (.tmp rfl .nil)) (⟨by rw [h2]; rfl,H2.fr⟩))
theorem lspace_yes (pg:UInt32) (ev pv sv:Value) (xs:List Xt) (ps:List UInt16) (con:Bool) (en:UInt32) (sg:List Sg) (w:World) (hE:Arr w ev 2 xs.length (List.flatMap xtc xs)) (hP:Arr w pv 1 ps.length (List.map vU16 ps)) (hS:Arr w sv 3 sg.length (List.flatMap sgc sg)) (hn:xs.length<2^47) (hm:ps.length<2^47) (hk:sg.length<2^47) (hB: ∀x∈sg,x.b.length≤2^47) (h0:imE pg xs ps en sg=0) :
  Calls Tryz.prog 32 #[(.agg #[(vU32 pg),ev,pv,(.bool con),(vU32 en),sv])] w (fun e w'=> ∃s mb c qs,e=.returned (.tuple #[ptr s 0,vN 0])∧SpR qs c (imgP sg sg.length)∧Owl.Own [] w w' [.blk s [(.map (some mb))] 165,.obj mb (mP .u32 (List.map Pg.me qs) c),Ent.bs 211 Pg.cells Pg.b qs]):=by
 refine enter (args:=[(.agg #[(vU32 pg),ev,pv,(.bool con),(vU32 en),sv])]) Tryz.func32 rfl rfl ?_
 have H0:Owl.Own [] w w []:=Own.start w []
 refine ws<|wo (op_box H0 rfl rfl (fun b1 w1 H1=>(wa rfl<|wa rfl<|wn<|WC.seq<|ws<|wo (op_loadS (vs:=[_,_,_,_,_,_]) rfl (H1.cells (i:=0) rfl rfl) Tryz.underlying43 rfl Fa.I43 rfl<|wo (op_callF Fa.C41 rfl ((icheck_ok pg _ _ _ xs ps con en sg _ (H1.arr hE) (H1.arr hP) (H1.arr hS) hn hm hk).mono (fun e w2 hq=>?_)))))))
 obtain ⟨rfl,hf2⟩:=hq
 refine ⟨_,rfl,?_⟩
 have H2:=H1.fr' hf2
 refine wa rfl<|wn<|ws<|wm rfl<|wo (op_neqN (b:=0) rfl rfl<|wn<|WC.no rfl (by rw [h0]; rfl)<|WC.skip<|WQ.next<|WC.seq<|WC.drawn 5 rfl Fa.M H2 ?_)
 intro w3 H3
 refine WD.named (fun W hW=>?_)
 let e4:List (Nat × Value)→List (Nat × Value):=fun r=>(0,(.agg #[(vU32 pg),ev,pv,(.bool con),(vU32 en),sv]))::(1,(ptr b1 0))::(2,(.pointer none))::(3,(vN 0))::(4,(vN (imE pg xs ps en sg)))::(9,(.agg #[(vU32 pg),ev,pv,(.bool con),(vU32 en),sv]))::(10,(vN (imE pg xs ps en sg)))::(11,(vN (imE pg xs ps en sg)))::(12,(.bool (decide ((imE pg xs ps en sg)≠0))))::r
 let a4_0:Ent:=.blk b1 [(vU32 pg),ev,pv,(.bool con),(vU32 en),sv] 43
 let a4_1:Ent:=Ent.bs 211 Pg.cells Pg.b []
 have st4_6: ∀(b14061:_) (s14021:_) (mb14021:_) (wS:World),Owl.Own [] w wS [a4_0,.blk s14021 [(.map (some mb14021))] 165,.obj mb14021 (mP .u32 (List.map Pg.me []) 0),a4_1,.blk b14061 [(vU32 pg),ev,pv,(.bool con),(vU32 en),sv,(ptr s14021 0)] 125]→W 0 (bz 5 31) (e4 [(5,(ptr b14061 0))]) wS:=by
  intro b14061 s14021 mb14021 wS HS
  rw [hW]
  refine WD.done (by kernel_rfl)<|WQ.next<|WC.seq<|ws ?_
  have H5:=HS.toBo (i:=4) rfl 7 rfl
  refine wm rfl<|wo (op_nilCheck rfl<|wo (op_fieldAddr rfl Fa.F125_0<|wo (op_fieldAddr rfl Fa.F43_2<|wo (op_load rfl (H5.cellO (i:=4) rfl rfl) Tryz.underlying41 rfl<|wo (op_lenA Tryz.underlying41 rfl (H5.arr hS)<|wm rfl<|wn<|WC.block<|WC.loop (α:=Nat × Nat × List Pg) (fun (k,c,qs)=>[(5,(ptr b14061 0)),(22,sv),(23,(vN sg.length)),(24,(vN k))]) (fun (k,c,qs) w'=>(k≤sg.length∧SpR qs c (imgP sg k))∧Owl.Own [] w w' [.blk b1 [(vU32 pg),ev,pv,(.bool con),(vU32 en),sv] 43,.blk s14021 [(.map (some mb14021))] 165,.obj mb14021 (mP .u32 (List.map Pg.me qs) c),Ent.bs 211 Pg.cells Pg.b qs,Ent.bo b14061 [(vU32 pg),ev,pv,(.bool con),(vU32 en),sv,(ptr s14021 0)]]) (fun (k,c,qs)=>sg.length-k) (0,0,[]) ⟨⟨Nat.zero_le _,⟨MEok.nil 0,rfl⟩⟩,H5⟩ ⟨rfl,rfl,rfl,rfl,trivial⟩ ?_)))))
  rintro ⟨k,c,qs⟩ w6 ⟨⟨hk1,hR⟩,H6⟩
  show WC _ _ _ _ _ [(5,(ptr b14061 0)),(22,sv),(23,(vN sg.length)),(24,(vN k))] _
  refine ws<|wo (op_lssN rfl rfl<|wn<|WC.seq (wC (decide (k<sg.length)) (fun hb7=>?_) (fun hb7=>?_)))
  ·
   have hc7:=dT hb7
   have hkl:k<sg.length:=dT hb7
   refine WC.skip<|WQ.next<|WC.seq<|WC.block<|ws<|wo (op_indexAddr Tryz.underlying41 Fa.I116 rfl (H6.arr hS) rfl (by omega)<|wo (op_loadSP (vs:=sgc (sg.getD k Sg.zero)) rfl (Arr.atsF (H6.arr hS) (fun _=>rfl) (by decide) Sg.zero (by omega)) Tryz.underlying116 rfl Fa.I116 rfl<|wo (op_alloc H6 Fa.I116 (fun b8 w8 H8=>(wo (op_storeBW (i:=5) H8 rfl rfl rfl rfl rfl Fa.I116 (fun w9 H9=>(wn<|ws<|wm rfl<|wo (op_loadS (vs:=[_,_,_]) rfl (H9.cells (i:=5) rfl rfl) Tryz.underlying116 rfl Fa.I116 rfl<|wo (op_callF Fa.C74 rfl ((lseg_ok s14021 mb14021 c qs b14061 pg ev pv sv con en _ (sg.getD k Sg.zero) _ _ (H9.part [1,2,3,4] rfl rfl) hR (img_ok h0 hB hkl).1 (fun g hg=>Nat.le_trans (img_low h0 hB k (Nat.le_of_lt hkl) _ (bare_all hR.bare (fun p hp=>hp) g hg)).1 (img_ok h0 hB hkl).2) (fun g hg=>(img_low h0 hB k (Nat.le_of_lt hkl) _ (bare_all hR.bare (fun p hp=>hp) g hg)).2.2)).mono (fun e w10 hq=>?_))))))))))))
   obtain ⟨c10,qs10,rfl,hr10,hq10⟩:=hq
   refine ⟨_,rfl,?_⟩
   have H10:=H9.splice [1,2,3,4] [.blk s14021 [(.map (some mb14021))] 165,.obj mb14021 (mP .u32 (List.map Pg.me qs10) c10),Ent.bs 211 Pg.cells Pg.b qs10,Ent.bo b14061 [(vU32 pg),ev,pv,(.bool con),(vU32 en),sv,(ptr s14021 0)]] [] rfl rfl hq10 (Fits.solid True.intro (Fits.solid True.intro (Fits.solid True.intro (Fits.same (j:=3) rfl Fits.nil))))
   exact wa rfl<|wn<|ws<|wm rfl<|wo (op_neqN (b:=0) rfl rfl<|wn<|WC.no rfl (by decide)<|WC.skip<|WQ.inNormal<|WQ.next<|WC.region<|wo (op_addN (b:=1) rfl rfl (by omega)<|wm rfl<|WL.nil<|WQ.round (k+1,c10,qs10) ⟨⟨by omega,hr10⟩,(H10.take 5)⟩ ⟨rfl,rfl,rfl,rfl,trivial⟩ (by show sg.length-(k+1)<sg.length-k; omega)))
  ·
   have hc7:=dF hb7
   refine WC.exit<|WQ.thenExit<|WQ.thenExit<|WQ.inHere<|WQ.next<|ws<|wm rfl<|wo (op_nilCheck rfl<|wo (op_fieldAddr rfl Fa.F125_1<|wo (op_load rfl (H6.cellO (i:=4) rfl rfl) Tryz.underlying68 rfl<|wa rfl<|wa rfl<|wn<|WC.ret<|WQ.out (.tmp rfl (.tmp rfl .nil)) ?_)))
   obtain rfl:k=sg.length:=by omega
   exact ⟨_,_,_,_,rfl,hR,H6.sel [1,2,3] rfl rfl⟩
 have st4_5: ∀(b14061:_) (s14021:_) (mb14021:_) (wS:World),Owl.Own [] w wS [a4_0,.blk s14021 [(.map (some mb14021))] 165,.obj mb14021 (mP .u32 (List.map Pg.me []) 0),a4_1,.blk b14061 [(vU32 pg),ev,pv,(.bool con),(vU32 en),sv,(ptr s14021 0)] 125]→W 1 (bz 5 15) (e4 [(17,(ptr b14061 0))]) wS:=by
  intro b14061 s14021 mb14021 wS HS
  rw [hW]
  refine wd1 4 ?_
  ·
   exact kS 4 rfl (op_assign rfl<|WD.cw hW (st4_6 b14061 s14021 mb14021 wS HS))
 have st4_4: ∀(s14021:_) (mb14021:_) (wS:World),Owl.Own [] w wS [a4_0,.blk s14021 [(.map (some mb14021))] 165,.obj mb14021 (mP .u32 (List.map Pg.me []) 0),a4_1]→W 2 (bz 5 7) (e4 [(16,(.agg #[(vU32 pg),ev,pv,(.bool con),(vU32 en),sv,(ptr s14021 0)]))]) wS:=by
  intro s14021 mb14021 wS HS
  rw [hW]
  refine wd1 3 ?_
  ·
   exact kS 3 rfl (op_box HS rfl rfl (fun b14061 w14061 H14061=>(WD.cw hW (st4_5 b14061 s14021 mb14021 w14061 H14061))))
 have st4_3: ∀(s14021:_) (mb14021:_) (wS:World),Owl.Own [] w wS [a4_0,.blk s14021 [(.map (some mb14021))] 165,.obj mb14021 (mP .u32 (List.map Pg.me []) 0),a4_1]→W 3 (bz 5 3) (e4 [(14,(.agg #[(vU32 pg),ev,pv,(.bool con),(vU32 en),sv])),(15,(ptr s14021 0))]) wS:=by
  intro s14021 mb14021 wS HS
  rw [hW]
  refine wd1 2 ?_
  ·
   exact kS 2 rfl (op_build (cs:=[_,_,_,_,_,_,_]) Fa.I125 Fa.PL125 rfl rfl<|WD.cw hW (st4_4 s14021 mb14021 wS HS))
 have st4_1: ∀(wS:World),Owl.Own [] w wS [a4_0]→W 4 (bz 5 1) (e4 [(14,(.agg #[(vU32 pg),ev,pv,(.bool con),(vU32 en),sv]))]) wS:=by
  intro wS HS
  rw [hW]
  refine wd1 1 ?_
  ·
   refine kS 1 rfl (op_callF Fa.C73 rfl ((spNew_ok _).mono (fun e w14021 hq=>?_)))
   obtain ⟨s14021,mb14021,rfl,hq14021⟩:=hq
   refine ⟨_,rfl,?_⟩
   have H14021:=HS.splice [] [] [.blk s14021 [(.map (some mb14021))] 165,.obj mb14021 (mP .u32 (List.map Pg.me []) 0),Ent.bs 211 Pg.cells Pg.b []] rfl rfl hq14021 (Fits.solid True.intro (Fits.solid True.intro (Fits.solid True.intro Fits.nil)))
   exact WD.cw hW (st4_3 s14021 mb14021 w14021 H14021)
 have st4_2: ∀(s14021:_) (mb14021:_) (wS:World),Owl.Own [] w wS [a4_0,.blk s14021 [(.map (some mb14021))] 165,.obj mb14021 (mP .u32 (List.map Pg.me []) 0),a4_1]→W 4 (bz 5 2) (e4 [(15,(ptr s14021 0))]) wS:=by
  intro s14021 mb14021 wS HS
  rw [hW]
  refine wd1 0 ?_
  ·
   exact kS 0 rfl (op_loadS (vs:=[_,_,_,_,_,_]) rfl (HS.cells (i:=0) rfl rfl) Tryz.underlying43 rfl Fa.I43 rfl<|WD.cw hW (st4_3 s14021 mb14021 wS HS))
 have st4_0: ∀(wS:World),Owl.Own [] w wS [a4_0]→W 5 (bz 5 0) (e4 []) wS:=by
  intro wS HS
  rw [hW]
  refine wd2 0 1 ?_ ?_
  ·
   exact kS 0 rfl (op_loadS (vs:=[_,_,_,_,_,_]) rfl (HS.cells (i:=0) rfl rfl) Tryz.underlying43 rfl Fa.I43 rfl<|WD.cw hW (st4_1 wS HS))
  ·
   refine kS 1 rfl (op_callF Fa.C73 rfl ((spNew_ok _).mono (fun e w14021 hq=>?_)))
   obtain ⟨s14021,mb14021,rfl,hq14021⟩:=hq
   refine ⟨_,rfl,?_⟩
   have H14021:=HS.splice [] [] [.blk s14021 [(.map (some mb14021))] 165,.obj mb14021 (mP .u32 (List.map Pg.me []) 0),Ent.bs 211 Pg.cells Pg.b []] rfl rfl hq14021 (Fits.solid True.intro (Fits.solid True.intro (Fits.solid True.intro Fits.nil)))
   exact WD.cw hW (st4_2 s14021 mb14021 w14021 H14021)
 have hq:=st4_0 w3 H3
 rw [hW] at hq ⊢
 refine WD.cov ?_ hq
 exact by repeat (first | exact trivial | refine ⟨rfl,?_⟩)
theorem keys1_uint32 (mb c Bm:Nat) (l:List ME) (hl:MEok l c) {F:Fence} {m:Nat} (hF:Free F) (hro:F.round=none) (w0:World) (hB:w0.cell? ⟨Bm,0,none⟩=some (.map (some mb))) (hM:w0.heap[mb]?=some (mP .u32 l c)) :
  SeqStopsK F m Tryz.prog 145 #[ptr Bm 0] (fun e:ME=>#[kvI .u32 e]) KeepsWalks (fun xs=>l.Perm xs) (fun _=>True) l.length w0:=by
 intro lp J Jx W hW hJ hJx hY h0
 have hM1:W.heap[mb]?=some (mP .u32 l c):=(hW.block mb (Array.getElem?_eq_some_iff.1 hM).1).trans hM
 have hB1:W.cell? ⟨Bm,0,none⟩=some (.map (some mb)):=(hW.cell (p:=⟨Bm,0,none⟩) (block_lt_of_cell hB)).trans hB
 refine enterI (args:=[.func (.yield lp) #[] #[],ptr Bm 0]) hF hro Tryz.func145 rfl rfl (WCI.seq (WCI.region (WLI.op hF rfl rfl rfl (op_load rfl hB1 Tryz.underlying162 rfl (WLI.op hF rfl rfl rfl (op_rangeP (Own.start W []) hM1 Tryz.underlying162 rfl (fun ib w1 H1=>?_)))))))
 have hi1:w1.heap[ib]?=some (itO mb c []):=H1.ok 0 _ rfl
 have hle:W.heap.size≤ib:=(H1.own 0 _ rfl ib rfl).resolve_right (by simp)
 have hM2:w1.heap[mb]?=some (mP .u32 l c):=(H1.fr.block mb (Array.getElem?_eq_some_iff.1 hM1).1 (by simp)).trans hM1
 have hJ1:J [] w1:=hJ [] W w1 none h0 (Fr.grown H1.fr) (fun r e=>by cases e)
 refine WLI.nil<|WQ.nextI (WCI.block (WCI.loop (α:=List ME × List ME) (fun z=>[(0,.func (.yield lp) #[] #[]),(5,ptr ib 0)]) (fun z w'=>l.Perm (z.1++z.2)∧w'.heap[ib]?=some (itO mb c z.1)∧w'.heap[mb]?=some (mP .u32 l c)∧J z.1 w') (fun z=>z.2.length) ([],l) ⟨List.Perm.refl _,hi1,hM2,hJ1⟩ ⟨rfl,rfl,trivial⟩ ?_))
 rintro ⟨sn,rst⟩ w1 ⟨hp,hi2,hM3,hJ2⟩
 show WCI _ _ _ _ _ _ _ [(0,(.func (.yield lp) #[] #[])),(5,(ptr ib 0))] _
 refine WCI.seq (WCI.region (WLI.op hF rfl rfl rfl (op_nextP (i:=0) (sn:=sn) (rest:=rst) (Own.obj1 hi2) rfl hM3 hl hp rfl (fun h0=>?_) (fun e rs hlen hp2 w3 HI=>?_))))
 ·
  exact WLI.op hF rfl rfl rfl (op_extract rfl rfl (WLI.nil<|WQ.nextI (WCI.seq (WCI.no rfl rfl (WCI.exit<|WQ.thenExit<|WQ.thenExit<|WQ.inHere<|WQ.outEnd .nil (⟨⟨_,rfl⟩,.inl ⟨sn,by rw [h0,List.append_nil] at hp; exact hp,hJ2⟩⟩))))))
 ·
  have hi3:w3.heap[ib]?=some (itO mb c (sn++[e])):=HI.ok 0 _ rfl
  have hne:mb≠ib:=fun h=>by rw [h,hi2] at hM3; cases hM3
  have hM4:w3.heap[mb]?=some (mP .u32 l c):=(HI.fr.block mb (Array.getElem?_eq_some_iff.1 hM3).1 (by simpa using hne)).trans hM3
  have hJ3:J sn w3:=hJ sn _ w3 (some ib) hJ2 (Fr.grown HI.fr) (fun r e=>by cases e; exact ⟨hle,_,hi2,rfl⟩)
  have hlt:sn.length<l.length:=by have:=hp.length_eq; simp at this; omega
  refine WLI.op hF rfl rfl rfl (op_extract rfl rfl (WLI.nil<|WQ.nextI (WCI.seq (WCI.yes rfl rfl (WCI.skip<|WQ.nextI (WCI.block (WCI.seq (WCI.region (WLI.op hF rfl rfl rfl (op_entryR hi3 hM4 hl hp2 rfl (WLI.op hF rfl rfl rfl (op_extract rfl rfl (WLI.op hF rfl rfl rfl (op_assign rfl (WLI.nil<|WQ.nextI (WCI.seq (WCI.region (WLI.op hF rfl rfl rfl (op_move rfl (WLI.op hF rfl rfl rfl (op_move rfl (WLI.yield hF rfl rfl rfl (hY sn e w3 hJ3 hlt) (fun e4 w4 h4=>?_)))))))))))))))))))))))
  rcases h4 with ⟨rfl,hJ4,hk4⟩ | ⟨rfl,hJ4⟩
  ·
   refine ⟨_,rfl,?_⟩
   exact WLI.op hF rfl rfl rfl (op_not rfl (WLI.nil<|WQ.nextI (WCI.no rfl (congrArg Bool.not rfl) (WCI.skip<|WQ.inNormal<|WQ.round (sn++[e],rs) ⟨hp2,hk4.same _ _ hi3 rfl,hk4.same _ _ hM4 rfl,hJ4⟩ ⟨rfl,rfl,trivial⟩ (by show rs.length<rst.length; omega)))))
  ·
   refine ⟨_,rfl,?_⟩
   exact WLI.op hF rfl rfl rfl (op_not rfl (WLI.nil<|WQ.nextI (WCI.yes rfl (congrArg Bool.not rfl) (WCI.ret<|WQ.inRet<|WQ.thenRet<|WQ.inRet<|WQ.out .nil (⟨⟨_,rfl⟩,.inr ⟨_,trivial,hJ4⟩⟩)))))
theorem aseq_uint32 (mb c Bm:Nat) (l:List ME) (hl:MEok l c) (hn:l.length<2^40) (w:World) (hB:w.cell? ⟨Bm,0,none⟩=some (.map (some mb))) (hM:w.heap[mb]?=some (mP .u32 l c)) :
  Calls Tryz.prog 180 #[.slice none 0 0,.func (.func 145) #[] #[ptr Bm 0]] w (fun e w'=> ∃v xs,e=.returned v∧l.Perm xs∧Owl.Own [] w w' [.row v 22 1 xs.length (List.map (kvI .u32) xs)]):=by
 refine (callsIn_wide (n:=6)).1 (enterM (args:=[.slice none 0 0,.func (.func 145) #[] #[ptr Bm 0]]) Free.wide rfl Tryz.func180 rfl rfl ?_)
 have H0:Owl.Own [] w w []:=Own.start w []
 refine WCI.seq (WCI.region (WLI.op Free.wide rfl rfl rfl (op_box H0 rfl rfl (fun b1 w1 H1=>(WLI.op Free.wide rfl rfl rfl (op_assign rfl (WLI.nil<|WQ.nextI (WCI.seq (WCI.seq (WCI.region (WLI.op Free.wide rfl rfl rfl (op_move rfl (WLI.nil<|WQ.nextI (WCI.block ?_))))))))))))))
 have hN:=H1.nilRow 22 1
 have hsz:w.heap.size≤w1.heap.size:=H1.fr.size
 refine WCI.rangeF (enc:=(kvI .u32)) (fun l=>Free.round l) Free.wide rfl rfl (enters_callB Fa.C145) (keys1_uint32 mb c Bm l hl Free.wide rfl w hB hM) (Fr.below H1.fr) (by decide) rfl rfl (fun xs W=> ∃v,Owl.Own [] w W [.blk b1 [v] 73,.row v 22 1 xs.length (List.map (kvI .u32) xs)]) (fun xs W W' row hs hg hr=>hs.elim fun v H=>⟨v,H.turnF hg (fun r e=>⟨Nat.le_trans hsz (hr r e).1,(hr r e).2⟩)⟩) ⟨_,hN⟩ (fun lp pre x W hi hlt=>?_) (fun d xs W hd hS hi hk=>?_)
 ·
  obtain ⟨v,H5⟩:=hi
  have H6:=H5.part [0,1] rfl rfl
  have hT:=H5.cellsT2
  refine WCI.block (WCI.region (WLI.op (Free.round lp) rfl rfl rfl (op_load rfl (H6.cell (i:=0) rfl rfl) Tryz.underlying73 rfl (WLI.op (Free.round lp) rfl rfl rfl (op_move rfl (WLI.op (Free.round lp) rfl rfl rfl (op_buildSlice (cs:=[_]) H6 Tryz.underlying73 Fa.I22 rfl rfl rfl rfl (by decide) (by decide) (fun b2 w2 H2=>(WLI.op (Free.round lp) rfl rfl rfl (op_append (i:=1) H2 Tryz.underlying73 Fa.I22 rfl rfl rfl rfl (Src.ofArr Tryz.underlying73 (H2.arrR (i:=2) rfl)) (by intro c hc; rw [List.mem_singleton.1 hc]; rfl) (by omega) (by omega) (fun v3 w3 H3=>(WLI.op (Free.round lp) rfl rfl rfl (op_storeB (i:=0) H3 rfl rfl rfl rfl (Arr.one (H3.arrR (i:=1) rfl)) Fa.I73 (fun w4 H4=>(WLI.nil<|WQ.inNormal ?_)))))))))))))))
  intro a ha
  have ho:=Fr.others H4.fr hT
  have h8:=H4.sel [0,1] rfl rfl
  have h9:=Own.splice H5 [0,1] [.blk b1 [v3] 73,.row v3 22 1 (pre.length+1) ((List.map (kvI .u32) pre)++[((kvI .u32) x)])] [] rfl rfl h8 (Fits.solid True.intro (Fits.solid True.intro Fits.nil))
  have e9:((List.map (kvI .u32) pre)++[((kvI .u32) x)])=List.map (kvI .u32) (pre++[x]):=by rw [List.map_append]; rfl
  rw [e9,show (pre.length+1)=(pre++[x]).length by simp] at h9
  exact ⟨ho.1,ho.2,_,h9⟩
 ·
  obtain ⟨v,H5⟩:=hi
  exact WQ.inNormal<|WQ.nextI (WCI.seq (WCI.region (WLI.op Free.wide rfl rfl rfl (op_load rfl (H5.cell (i:=0) rfl rfl) Tryz.underlying73 rfl (WLI.op Free.wide rfl rfl rfl (op_assign rfl (WLI.nil<|WQ.nextI (WCI.ret<|WQ.outM hk (.tmp rfl .nil) (⟨_,_,rfl,hS,(H5.turn (Fr.putObj _ _ _) (Nat.le_trans hsz hd) hk rfl).sel [1] rfl rfl⟩)))))))))
theorem coll_uint32 (mb c Bm:Nat) (l:List ME) (w:World) (hl:MEok l c) (hn:l.length<2^40) (h32: ∀e∈l,e.k<2^32) (hB:w.cell? ⟨Bm,0,none⟩=some (.map (some mb))) (hM:w.heap[mb]?=some (mP .u32 l c)) :
  Calls Tryz.prog 143 #[(.func (.func 145) #[] #[(ptr Bm 0)])] w (fun e w'=> ∃v ks,e=.returned v∧(l.map Go.Spec.ME.ku).Perm ks∧Owl.Own [] w w' [.row v 22 1 ks.length (List.map vU32 ks)]):=by
 refine enter (args:=[(.func (.func 145) #[] #[(ptr Bm 0)])]) Tryz.func143 rfl rfl ?_
 have H0:Owl.Own [] w w []:=Own.start w []
 refine ws<|wa rfl<|wn<|ws<|wm rfl<|wo (op_callF Fa.C180 rfl ((aseq_uint32 mb c Bm l hl hn _ hB hM).mono (fun e w1 hq=>?_)))
 obtain ⟨v1,xs1,rfl,hp1,hq1⟩:=hq
 refine ⟨_,rfl,?_⟩
 have H1:=H0.splice [] [] [.row v1 22 1 xs1.length (List.map (kvI .u32) xs1)] rfl rfl hq1 (Fits.solid True.intro Fits.nil)
 refine wa rfl<|wn<|WC.ret<|WQ.out (.tmp rfl .nil) ?_
 have e9:List.map (kvI .u32) xs1=List.map vU32 (xs1.map Go.Spec.ME.ku):=by rw [List.map_map]; exact List.map_congr_left (fun e he=>kv32 (h32 e (hp1.mem_iff.2 he)))
 have h9:=H1.sel [0] rfl rfl
 rw [e9,show xs1.length=(xs1.map Go.Spec.ME.ku).length by rw [List.length_map]] at h9
 exact ⟨_,_,rfl,hp1.map _,h9⟩
theorem nan_ok (x:UInt32) (w:World) :
  Calls Tryz.prog 241 #[(vU32 x)] w (fun e w'=>e=.returned (.bool false)∧Fr [] w w'):=by
 refine enter (args:=[(vU32 x)]) Tryz.func241 rfl rfl ?_
 have H0:Owl.Own [] w w []:=Own.start w []
 exact ws<|wa rfl<|wn<|ws<|wm rfl<|wm rfl<|wo (op_neqU32 rfl rfl<|wa rfl<|wn<|WC.ret<|WQ.out (.tmp rfl .nil) (⟨by rw [show decide (x≠x)=false from decide_eq_false (fun h=>h rfl)]; rfl,H0.fr⟩))
theorem less_ok (x y:UInt32) (w:World) :
  Calls Tryz.prog 217 #[(vU32 x),(vU32 y)] w (fun e w'=>e=.returned (.bool (ltU32 x y))∧Fr [] w w'):=by
 refine enter (args:=[(vU32 x),(vU32 y)]) Tryz.func217 rfl rfl ?_
 have H0:Owl.Own [] w w []:=Own.start w []
 refine ws<|wa rfl<|wn<|ws<|wm rfl<|wo (op_callF Fa.C241 rfl ((nan_ok x _).mono (fun e w1 hq=>?_)))
 obtain ⟨rfl,hf1⟩:=hq
 refine ⟨_,rfl,?_⟩
 have H1:=H0.fr' hf1
 exact wm rfl<|wN rfl<|wN rfl<|wN rfl<|wo (op_pickF rfl rfl rfl<|wm rfl<|wY rfl (op_move rfl<|wY rfl (op_move rfl<|wY rfl (op_lssU32 rfl rfl<|wo (op_pickF rfl rfl rfl<|wa rfl<|wn<|WC.ret<|WQ.out (.tmp rfl .nil) (⟨rfl,H1.fr⟩))))))
theorem ins_ok (v:Value) (n:Nat) (l:List UInt32) (a b:Nat) (T:List Nat) (w:World) (H:Owl.Own T w w [.row v 22 1 n (List.map vU32 l)]) (hn:l.length=n) (hN:n<2^62) (hb:b≤n) (ha:a≤n) :
  Calls Tryz.prog 211 #[v,(vN a),(vN b)] w (fun e w'=> ∃l':List UInt32,e=.returned undef∧(Sw 0 a b l l'∧SortS ltU32 0 a b l')∧Owl.Own T w w' [.row v 22 1 n (List.map vU32 l')]):=by
 refine enter (args:=[v,(vN a),(vN b)]) Tryz.func211 rfl rfl<|ws<|wm rfl<|wo (op_addN (b:=1) rfl rfl (by omega)<|wa rfl<|wn<|WC.block<|WC.loop (α:=Nat × List UInt32) (fun (i,l1)=>[(0,v),(1,(vN a)),(2,(vN b)),(6,(vN i))]) (fun (i,l1) w'=>(a+1≤i∧i≤max b (a+1)∧Sw 0 a b l l1∧SortS ltU32 0 a i l1)∧Owl.Own T w w' [.row v 22 1 n (List.map vU32 l1)]) (fun (i,l1)=>b-i) (a+1,l) ⟨⟨Nat.le_refl _,by omega,.refl _,SortS.nil (by omega)⟩,H⟩ ⟨rfl,rfl,rfl,rfl,trivial⟩ ?_)
 rintro ⟨i,l1⟩ w1 ⟨⟨hi1,hi2,hs1,ho1⟩,H1⟩
 show WC _ _ _ _ _ [(0,v),(1,(vN a)),(2,(vN b)),(6,(vN i))] _
 have hL1:=hs1.len
 refine WC.seq<|ws<|wm rfl<|wm rfl<|wo (op_lssN rfl rfl<|wn (wC (decide (i<b)) (fun hb2=>?_) (fun hb2=>?_)))
 ·
  have hc2:=dT hb2
  refine WC.skip<|WQ.next<|WC.seq<|WC.block<|ws<|wm rfl<|wa rfl<|wn<|WC.block<|WC.loop (α:=Nat × List UInt32) (fun (j,l2)=>[(0,v),(1,(vN a)),(2,(vN b)),(6,(vN i)),(7,(vN j))]) (fun (j,l2) w'=>(a≤j∧j≤i∧Sw 0 a b l l2∧InsI ltU32 0 a i j l2)∧Owl.Own T w w' [.row v 22 1 n (List.map vU32 l2)]) (fun (j,l2)=>j) (i,l1) ⟨⟨by omega,Nat.le_refl _,hs1,ins_init ho1⟩,H1⟩ ⟨rfl,rfl,rfl,rfl,rfl,trivial⟩ ?_
  rintro ⟨j,l2⟩ w3 ⟨⟨hj1,hj2,hs2,hj3⟩,H3⟩
  show WC _ _ _ _ _ [(0,v),(1,(vN a)),(2,(vN b)),(6,(vN i)),(7,(vN j))] _
  have hL2:=hs2.len
  refine WC.seq<|WC.seq (wB (decide (j>a)) (fun hb4=>?_) (fun hb4=>?_))
  ·
   have hc4:=dT hb4
   refine WC.draw 15 Fa.M H3 (mh rfl<|mh rfl<|oh (fun w1 H1=>op_gtrN rfl rfl zr)<|mh rfl<|yh hb4 (fun w1 H1=>op_move rfl zr)<|yh hb4 (fun w1 H1=>op_move rfl zr)<|yh hb4 (fun w1 H1=>op_indexAddr1 Tryz.underlying73 Fa.I22 rfl (H1.arrR (i:=0) rfl) rfl (by omega) zr)<|yh hb4 (fun w1 H1=>op_load rfl ((H1.arrR (i:=0) rfl).at (get_map vU32 0 (Arr.ltM (H1.arrR (i:=0) rfl) (by omega)))) Tryz.underlying22 rfl zr)<|yh hb4 (fun w1 H1=>op_move rfl zr)<|yh hb4 (fun w1 H1=>op_move rfl zr)<|yh hb4 (fun w1 H1=>op_subN (b:=1) rfl rfl (by omega) (by omega) zr)<|yh hb4 (fun w1 H1=>op_indexAddr1 Tryz.underlying73 Fa.I22 rfl (H1.arrR (i:=0) rfl) rfl (by omega) zr)<|yh hb4 (fun w1 H1=>op_load rfl ((H1.arrR (i:=0) rfl).at (get_map vU32 0 (Arr.ltM (H1.arrR (i:=0) rfl) (by omega)))) Tryz.underlying22 rfl zr)<|yh hb4 (fun w1 H1=>op_callF Fa.C217 rfl ((less_ok (l2.getD j 0) (l2.getD (j-1) 0) _).mono (fun e w2 hq=>⟨_,hq.1,rfl,hq.2⟩)))<|oh (fun w1 H1=>op_pickT rfl hb4 rfl zr)  HW.nil) (by kernel_rfl) ?_
   intro β6 w6 H6
   refine wn (wC (ltU32 (l2.getD j 0) (l2.getD (j-1) 0)) (fun hb7=>?_) (fun hb7=>?_))
   ·
    refine WC.skip<|WQ.next<|WC.seq<|WC.block<|WC.held 18 rfl Fa.M H6 (fun w'=> ∃L',Owl.Own T w w' ([]++L')) ?_
    intro w8 H8
    refine xt 0 rfl v H8 (fun _ _ HX=>op_move rfl ⟨rfl,rfl⟩)<|xt 1 rfl (vN j) H8 (fun _ _ HX=>op_move rfl ⟨rfl,rfl⟩)<|xt 2 rfl v H8 (fun _ _ HX=>op_move rfl ⟨rfl,rfl⟩)<|xt 3 rfl (vN j) H8 (fun _ _ HX=>op_move rfl ⟨rfl,rfl⟩)<|xt 4 rfl (vN (j-1)) H8 (fun _ _ HX=>op_subN (b:=1) rfl rfl (by omega) (by omega) ⟨rfl,rfl⟩)<|xt 5 rfl v H8 (fun _ _ HX=>op_move rfl ⟨rfl,rfl⟩)<|xt 6 rfl (vN j) H8 (fun _ _ HX=>op_move rfl ⟨rfl,rfl⟩)<|xt 7 rfl (vN (j-1)) H8 (fun _ _ HX=>op_subN (b:=1) rfl rfl (by omega) (by omega) ⟨rfl,rfl⟩)<|xt 8 rfl (.pointer (some (sp v (j-1)))) H8 (fun _ _ HX=>op_indexAddr1W Tryz.underlying73 Fa.I22 rfl (H8.arrR (i:=0) rfl) rfl (by omega) ⟨rfl,rfl⟩)<|xt 10 rfl v H8 (fun _ _ HX=>op_move rfl ⟨rfl,rfl⟩)<|xt 11 rfl (vN j) H8 (fun _ _ HX=>op_move rfl ⟨rfl,rfl⟩)<|xt 12 rfl (.pointer (some (sp v j))) H8 (fun _ _ HX=>op_indexAddr1W Tryz.underlying73 Fa.I22 rfl (H8.arrR (i:=0) rfl) rfl (by omega) ⟨rfl,rfl⟩)<|WH.named (fun W hW=>?_)
    let e6:List (Nat × Value)→List (Nat × Value):=fun r=>(0,v)::(1,(vN a))::(2,(vN b))::(6,(vN i))::(7,(vN j))::(16,(vN j))::(17,(vN a))::(18,(.bool (decide (j>a))))::(19,(.bool (decide (j>a))))::(20,v)::(21,(vN j))::(22,(.pointer (some (sp v j))))::(23,(vU32 (l2.getD j 0)))::(24,v)::(25,(vN j))::(26,(vN (j-1)))::(27,(.pointer (some (sp v (j-1)))))::(28,(vU32 (l2.getD (j-1) 0)))::(29,(.bool (ltU32 (l2.getD j 0) (l2.getD (j-1) 0))))::(30,(.bool (ltU32 (l2.getD j 0) (l2.getD (j-1) 0))))::r
    let a6_0:Ent:=.row v 22 1 n (List.map vU32 l2)
    have st6_5: ∀(wS:World),Owl.Own T w wS [.row v 22 1 n (List.map vU32 ((l2.set j (l2.getD (j-1) 0)).set (j-1) (l2.getD j 0)))]→W 0 (bz 18 262143) (e6 []) wS:=by
     intro wS HS
     rw [hW]
     exact WH.done (by kernel_rfl)<|WQ.inNormal<|WQ.next<|WC.region<|wm rfl<|wo (op_subN (b:=1) rfl rfl (by omega) (by omega)<|wa rfl<|WL.nil<|WQ.round (j-1,swapL 0 l2 j (j-1)) ⟨⟨by omega,by omega,hs2.step (by omega) (by omega) (by omega) (by omega),ins_step ltU32OK (by omega) hj3 (by omega) hj2 hb7⟩,HS⟩ ⟨rfl,rfl,rfl,rfl,rfl,trivial⟩ (by show j-1<j; omega))
    have st6_4: ∀(wS:World),Owl.Own T w wS [.row v 22 1 n (List.map vU32 (l2.set j (l2.getD (j-1) 0)))]→W 1 (bz 18 131071) (e6 [(46,(vU32 (l2.getD j 0))),(48,(.pointer (some (sp v (j-1)))))]) wS:=by
     intro wS HS
     rw [hW]
     refine wh1 17 ?_
     ·
      refine kH 17 rfl (op_storeRM (i:=0) (f:=vU32) (l:=(l2.set j (l2.getD (j-1) 0))) (c:=(l2.getD j 0)) HS rfl rfl rfl (by omega) rfl Fa.I22 (fun w19341 H19341=>(⟨⟨_,H19341⟩,?_⟩)))
      exact WH.cw hW (st6_5 w19341 H19341)
    have st6_3: ∀(wS:World),Owl.Own T w wS [a6_0]→W 3 (bz 18 32767) (e6 [(35,v),(37,(vN (j-1))),(42,(vU32 (l2.getD (j-1) 0))),(46,(vU32 (l2.getD j 0))),(47,(.pointer (some (sp v j))))]) wS:=by
     intro wS HS
     rw [hW]
     refine wh1 15 ?_
     ·
      refine kH 15 rfl (op_storeRM (i:=0) (f:=vU32) (l:=l2) (c:=(l2.getD (j-1) 0)) HS rfl rfl rfl (by omega) rfl Fa.I22 (fun w19301 H19301=>(⟨⟨_,H19301⟩,?_⟩)))
      exact xt 16 rfl (.pointer (some (sp v (j-1)))) H19301 (fun _ _ HX=>op_indexAddr1W Tryz.underlying73 Fa.I22 rfl (H19301.arrR (i:=0) rfl) rfl (by omega) ⟨rfl,rfl⟩)<|WH.cw hW (st6_4 w19301 H19301)
    have st6_1: ∀(wS:World),Owl.Own T w wS [a6_0]→W 5 (bz 18 8191) (e6 [(33,v),(34,(vN j)),(35,v),(37,(vN (j-1))),(42,(vU32 (l2.getD (j-1) 0))),(45,(.pointer (some (sp v j))))]) wS:=by
     intro wS HS
     rw [hW]
     refine wh1 13 ?_
     ·
      refine kH 13 rfl (op_load rfl ((HS.arrR (i:=0) rfl).at (get_map vU32 0 (Arr.ltM (HS.arrR (i:=0) rfl) (by omega)))) Tryz.underlying22 rfl (⟨⟨_,HS⟩,?_⟩))
      exact xt 14 rfl (.pointer (some (sp v j))) HS (fun _ _ HX=>op_indexAddr1W Tryz.underlying73 Fa.I22 rfl (HS.arrR (i:=0) rfl) rfl (by omega) ⟨rfl,rfl⟩)<|WH.cw hW (st6_3 wS HS)
    have st6_2: ∀(wS:World),Owl.Own T w wS [a6_0]→W 5 (bz 18 15871) (e6 [(33,v),(34,(vN j)),(35,v),(37,(vN (j-1))),(41,(.pointer (some (sp v (j-1))))),(46,(vU32 (l2.getD j 0)))]) wS:=by
     intro wS HS
     rw [hW]
     refine wh1 9 ?_
     ·
      refine kH 9 rfl (op_load rfl ((HS.arrR (i:=0) rfl).at (get_map vU32 0 (Arr.ltM (HS.arrR (i:=0) rfl) (by omega)))) Tryz.underlying22 rfl (⟨⟨_,HS⟩,?_⟩))
      exact xt 14 rfl (.pointer (some (sp v j))) HS (fun _ _ HX=>op_indexAddr1W Tryz.underlying73 Fa.I22 rfl (HS.arrR (i:=0) rfl) rfl (by omega) ⟨rfl,rfl⟩)<|WH.cw hW (st6_3 wS HS)
    have st6_0: ∀(wS:World),Owl.Own T w wS [a6_0]→W 6 (bz 18 7679) (e6 [(33,v),(34,(vN j)),(35,v),(37,(vN (j-1))),(41,(.pointer (some (sp v (j-1))))),(45,(.pointer (some (sp v j))))]) wS:=by
     intro wS HS
     rw [hW]
     refine wh2 9 13 ?_ ?_
     ·
      refine kH 9 rfl (op_load rfl ((HS.arrR (i:=0) rfl).at (get_map vU32 0 (Arr.ltM (HS.arrR (i:=0) rfl) (by omega)))) Tryz.underlying22 rfl (⟨⟨_,HS⟩,?_⟩))
      exact WH.cw hW (st6_1 wS HS)
     ·
      refine kH 13 rfl (op_load rfl ((HS.arrR (i:=0) rfl).at (get_map vU32 0 (Arr.ltM (HS.arrR (i:=0) rfl) (by omega)))) Tryz.underlying22 rfl (⟨⟨_,HS⟩,?_⟩))
      exact WH.cw hW (st6_2 wS HS)
    have hq:=st6_0 w8 H8
    rw [hW] at hq ⊢
    exact WH.cv hq
   ·
    exact WC.exit<|WQ.thenExit<|WQ.thenExit<|WQ.inHere<|WQ.inNormal<|WQ.next<|WC.region<|wm rfl<|wo (op_addN (b:=1) rfl rfl (by omega)<|wa rfl<|WL.nil<|WQ.round (i+1,l2) ⟨⟨by omega,by omega,hs2,ins_done ltU32OK hj3 (.inr hb7) hj1⟩,H6⟩ ⟨rfl,rfl,rfl,rfl,trivial⟩ (by show b-(i+1)<b-i; omega))
  ·
   have hc4:=dF hb4
   refine WC.draw 15 Fa.M H3 (mh rfl<|mh rfl<|oh (fun w1 H1=>op_gtrN rfl rfl zr)<|mh rfl<|nh hb4<|nh hb4<|nh hb4<|nh hb4<|nh hb4<|nh hb4<|nh hb4<|nh hb4<|nh hb4<|nh hb4<|oh (fun w1 H1=>op_pickF rfl hb4 rfl zr)  HW.nil) (by kernel_rfl) ?_
   intro β10 w10 H10
   exact wn<|WC.no rfl rfl<|WC.exit<|WQ.thenExit<|WQ.thenExit<|WQ.inHere<|WQ.inNormal<|WQ.next<|WC.region<|wm rfl<|wo (op_addN (b:=1) rfl rfl (by omega)<|wa rfl<|WL.nil<|WQ.round (i+1,l2) ⟨⟨by omega,by omega,hs2,ins_done ltU32OK hj3 (.inl (by omega)) hj1⟩,H10⟩ ⟨rfl,rfl,rfl,rfl,trivial⟩ (by show b-(i+1)<b-i; omega))
 ·
  have hc2:=dF hb2
  exact WC.exit<|WQ.thenExit<|WQ.thenExit<|WQ.inHere<|WQ.outEnd .nil (⟨_,rfl,⟨hs1,fun p q h1 h2 h3=>ho1 p q h1 h2 (by omega)⟩,H1⟩)
end Go.Proofs.YtbjhccnffacbcaaGreat
