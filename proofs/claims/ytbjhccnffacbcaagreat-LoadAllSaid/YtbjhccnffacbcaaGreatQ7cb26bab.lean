/- General lemmas and walks: WLda3, WLda4, WLda5. No condition but what each theorem names. -/
import Derived.Test.YtbjhccnffacbcaaGreatQ9230fe84
import Derived.Test.YtbjhccnffacbcaaGreatQ7826d55e
import Derived.Test.YtbjhccnffacbcaaGreatQcb9860f8
import Derived.Test.YtbjhccnffacbcaaGreatQ65453c56
set_option maxRecDepth 100000
set_option maxHeartbeats 8000000
namespace Go.Proofs.YtbjhccnffacbcaaGreat
open Go.Owl Go.Spec
theorem lloadA_no (x k:Nat) (pk:UInt32) (hx nv bv:Value) (c:Nat) (pg:UInt32) (hv:Value) (he:List UInt32) (mb cn:Nat) (gs:List Gr) (sl:List Slt) (key:List UInt8) (L:List (List UInt8)) (m:Nat) (T:List Nat) (w:World) (H:Owl.Own T w w [.blk x (xoC k sl) 146,Ent.bo k [(vU32 pk),hx,(ptr c 0),nv,bv,(vU32 0)],.blk c [(vU32 pg),hv,(.map (some mb))] 196,Ent.ar hv 1 he.length (List.map vU32 he),.obj mb (mP .i64 (List.map Gr.me gs) cn),Ent.bs 199 Gr.cells Gr.b gs,Ent.dp grD.list gs,Ent.dp (sltD 211).list sl]) (hR:CapR gs cn (allG pg he key L m)) (hU:upS 0 m sl) (hm:m≤8) (hhe:he.length<2^32) (hkl:key.length<2^40) (hsl:(L.getD m []).length<2^37) (hC:allC pg he key L m≠0) :
    Calls Tryz.prog 21 #[(ptr x 0),(str key),(str (L.getD m []))] w (fun e w'=> ∃cn' gs',e=.returned (.tuple #[vN 0,vN (allC pg he key L m)])∧CapR gs' cn' (allG pg he key L m)∧DpTo w gs gs'∧Owl.Own T w w' [.blk x (xoC k sl) 146,Ent.bo k [(vU32 pk),hx,(ptr c 0),nv,bv,(vU32 0)],.blk c [(vU32 pg),hv,(.map (some mb))] 196,Ent.ar hv 1 he.length (List.map vU32 he),.obj mb (mP .i64 (List.map Gr.me gs') cn'),Ent.bs 199 Gr.cells Gr.b gs',Ent.dp grD.list gs',Ent.dp (sltD 211).list sl]):=by
  by_cases hO:opC key (L.getD m [])=0
  · by_cases h8:m=8
    · have e4:allC pg he key L m=4:=by rw [allC,if_neg (fun h=>h hO),if_pos h8]
      exact (lload_full x k pk hx nv bv c pg hv he mb cn gs sl _ key _ _ _ H hR hU.1 hhe hkl hsl hO (by rw [hU.ff hm,h8])).mono (fun e w' h=>⟨_,_,by rw [e4]; exact h.1,hR,DpTo.refl,h.2⟩)
    · have eE:=allC_E (pg:=pg) (he:=he) hU hm hO h8
      have hw:=eE ▸ hC
      exact (lload_no x k pk hx nv bv c pg hv he mb cn gs sl _ key _ _ _ H hR hU.1 hhe hkl hsl hO (by rw [hU.ff hm]; omega) hw).mono (fun e w' ⟨cn',gs',h1,h2,h3,h4⟩=>⟨cn',gs',by rw [eE]; exact h1,by rw [allG_same hw] at h2; exact h2,h3,h4⟩)
  · have e4:allC pg he key L m=opC key (L.getD m []):=by rw [allC,if_pos hO]
    exact (lload_bad x k pk hx nv bv c pg hv he mb cn gs sl _ key _ _ _ H hR hU.1 hhe hkl hsl hO).mono (fun e w' h=>⟨_,_,by rw [e4]; exact h.1,hR,DpTo.refl,h.2⟩)
theorem lloadA_yes (x k:Nat) (pk:UInt32) (hx nv bv:Value) (c:Nat) (pg:UInt32) (hv:Value) (he:List UInt32) (mb cn:Nat) (gs:List Gr) (sl:List Slt) (key:List UInt8) (L:List (List UInt8)) (m:Nat) (T:List Nat) (w:World) (H:Owl.Own T w w [.blk x (xoC k sl) 146,Ent.bo k [(vU32 pk),hx,(ptr c 0),nv,bv,(vU32 0)],.blk c [(vU32 pg),hv,(.map (some mb))] 196,Ent.ar hv 1 he.length (List.map vU32 he),.obj mb (mP .i64 (List.map Gr.me gs) cn),Ent.bs 199 Gr.cells Gr.b gs,Ent.dp grD.list gs,Ent.dp (sltD 211).list sl]) (hR:CapR gs cn (allG pg he key L m)) (hU:upS 0 m sl) (hm:m≤8) (hhe:he.length<2^32) (hkl:key.length<2^40) (hsl:(L.getD m []).length<2^37) (hC:allC pg he key L m=0) :
  Calls Tryz.prog 21 #[(ptr x 0),(str key),(str (L.getD m []))] w (fun e w'=> ∃cn' gs' sl',e=.returned (.tuple #[vN (m+1),vN 0])∧(CapR gs' cn' (allG pg he key L (m+1))∧upS 0 (m+1) sl'∧DpTo w gs gs'∧SltTo 211 w sl sl')∧Owl.Own T w w' [.blk x (xoC k sl') 146,Ent.bo k [(vU32 pk),hx,(ptr c 0),nv,bv,(vU32 0)],.blk c [(vU32 pg),hv,(.map (some mb))] 196,Ent.ar hv 1 he.length (List.map vU32 he),.obj mb (mP .i64 (List.map Gr.me gs') cn'),Ent.bs 199 Gr.cells Gr.b gs',Ent.dp grD.list gs',Ent.dp (sltD 211).list sl']):=by
 obtain ⟨hO,h8⟩:=allC_8 hC
 have hf:=hU.ff hm
 have eE:=allC_E (pg:=pg) (he:=he) hU hm hO h8
 exact (lload_yes x k pk hx nv bv c pg hv he mb cn gs sl _ key _ _ _ H hR hU.1 hhe hkl hsl hO (by rw [hf]; omega) (eE ▸ hC)).mono (fun e w' ⟨cn',gs',a,h1,h2,_,h4,h5,h6⟩=>⟨cn',gs',_,by rw [←hf]; exact h1,⟨by rw [allG_load hU hm] at h2; exact h2,hU.load (by omega),h4,h5⟩,h6⟩)
theorem all_ok (x k:Nat) (pk:UInt32) (hx nv bv:Value) (c:Nat) (pg:UInt32) (hv:Value) (he:List UInt32) (mb cn:Nat) (gs:List Gr) (sl:List Slt) (key:List UInt8) (lv:Value) (L:List (List UInt8)) (T:List Nat) (w:World) (H:Owl.Own T w w [.blk x (xoC k sl) 146,Ent.bo k [(vU32 pk),hx,(ptr c 0),nv,bv,(vU32 0)],.blk c [(vU32 pg),hv,(.map (some mb))] 196,Ent.ar hv 1 he.length (List.map vU32 he),.obj mb (mP .i64 (List.map Gr.me gs) cn),Ent.bs 199 Gr.cells Gr.b gs,Ent.dp grD.list gs,Ent.dp (sltD 211).list sl,Ent.ar lv 1 L.length (List.map str L)]) (hR:CapR gs cn []) (hU:upS 0 0 sl) (hhe:he.length<2^32) (hkl:key.length<2^40) (hL:L.length<2^40) (hsl: ∀i,i<L.length→(L.getD i []).length<2^37) :
  Calls Tryz.prog 39 #[(ptr x 0),(str key),lv] w (fun e w'=> ∃v cn' gs' sl',e=.returned (.tuple #[v,vN (allN pg he key L),vN (allE pg he key L)])∧CapR gs' cn' (allG pg he key L (allM pg he key L))∧upS 0 (allM pg he key L) sl'∧DpTo w gs gs'∧SltTo 211 w sl sl'∧Owl.Own T w w' [.blk x (xoC k sl') 146,Ent.bo k [(vU32 pk),hx,(ptr c 0),nv,bv,(vU32 0)],.blk c [(vU32 pg),hv,(.map (some mb))] 196,Ent.ar hv 1 he.length (List.map vU32 he),.obj mb (mP .i64 (List.map Gr.me gs') cn'),Ent.bs 199 Gr.cells Gr.b gs',Ent.dp grD.list gs',Ent.dp (sltD 211).list sl',Ent.ar lv 1 L.length (List.map str L),.row v 3 1 (allM pg he key L) (List.map vN (upto (allM pg he key L)))]):=by
 refine enter (args:=[(ptr x 0),(str key),lv]) Tryz.func39 rfl rfl<|ws<|wa rfl ?_
 have H1:=H.nilRow 3 1
 refine wa rfl<|wa rfl<|wn<|WC.seq<|ws<|wm rfl<|wo (op_eqlPN Fa.PT47 rfl rfl<|wn<|WC.no rfl rfl<|WC.skip<|WQ.next<|WC.seq<|ws<|wm rfl<|wo (op_lenA Tryz.underlying59 rfl (H1.arrO (i:=8) rfl)<|wm rfl<|wn<|WC.block<|WC.loop (α:=Nat × Nat × List Gr × List Slt × Value) (fun (i,cn1,gs1,sl1,v)=>[(0,(ptr x 0)),(1,(str key)),(2,lv),(6,v),(17,lv),(18,(vN L.length)),(19,(vN i))]) (fun (i,cn1,gs1,sl1,v) w'=>(i≤L.length∧i≤8∧(∀q,q<i→allC pg he key L q=0)∧CapR gs1 cn1 (allG pg he key L i)∧upS 0 i sl1∧DpTo w gs gs1∧SltTo 211 w sl sl1)∧Owl.Own T w w' [.blk x (xoC k sl1) 146,Ent.bo k [(vU32 pk),hx,(ptr c 0),nv,bv,(vU32 0)],.blk c [(vU32 pg),hv,(.map (some mb))] 196,Ent.ar hv 1 he.length (List.map vU32 he),.obj mb (mP .i64 (List.map Gr.me gs1) cn1),Ent.bs 199 Gr.cells Gr.b gs1,Ent.dp grD.list gs1,Ent.dp (sltD 211).list sl1,Ent.ar lv 1 L.length (List.map str L),.row v 3 1 i (List.map vN (upto i))]) (fun (i,cn1,gs1,sl1,v)=>L.length-i) (0,cn,gs,sl,.slice none 0 0) ⟨⟨Nat.zero_le _,Nat.zero_le _,fun q hq=>absurd hq (Nat.not_lt_zero q),hR,hU,DpTo.refl,SltTo.refl⟩,H1⟩ ⟨rfl,rfl,rfl,rfl,rfl,rfl,rfl,trivial⟩ ?_))
 rintro ⟨i,cn1,gs1,sl1,v⟩ w2 ⟨⟨hi1,him8,hall,hR1,hU1,hD1,hS1⟩,H2⟩
 show WC _ _ _ _ _ [(0,(ptr x 0)),(1,(str key)),(2,lv),(6,v),(17,lv),(18,(vN L.length)),(19,(vN i))] _
 refine ws<|wo (op_lssN rfl rfl<|wn<|WC.seq (wC (decide (i<L.length)) (fun hb3=>?_) (fun hb3=>?_)))
 ·
  have hc3:=dT hb3
  refine WC.skip<|WQ.next<|WC.seq<|WC.block<|ws<|wm rfl<|wo (op_indexAddr1 Tryz.underlying59 Fa.I9 rfl (H2.arrO (i:=8) rfl) rfl (by omega)<|wo (op_load rfl ((H2.arrO (i:=8) rfl).at (get_map str [] (Arr.ltM (H2.arrO (i:=8) rfl) (by omega)))) Tryz.underlying9 rfl<|wa rfl<|wa rfl<|wn<|ws (wB (decide (allC pg he key L i=0)) (fun hb4=>?_) (fun hb4=>?_))))
  ·
   refine wm rfl<|wm rfl<|wm rfl<|wo (op_callF Fa.C21 rfl ((lloadA_yes x k pk hx nv bv c pg hv he mb cn1 gs1 sl1 key L i _ _ (H2.part [0,1,2,3,4,5,6,7] rfl rfl) hR1 hU1 him8 hhe hkl (hsl i (by omega)) (dT hb4)).mono (fun e w5 hq=>?_)))
   obtain ⟨cn5,gs5,sl5,rfl,hi5,hq5⟩:=hq
   refine ⟨_,rfl,?_⟩
   have H5:=H2.splice [0,1,2,3,4,5,6,7] [.blk x (xoC k sl5) 146,Ent.bo k [(vU32 pk),hx,(ptr c 0),nv,bv,(vU32 0)],.blk c [(vU32 pg),hv,(.map (some mb))] 196,Ent.ar hv 1 he.length (List.map vU32 he),.obj mb (mP .i64 (List.map Gr.me gs5) cn5),Ent.bs 199 Gr.cells Gr.b gs5,Ent.dp grD.list gs5,Ent.dp (sltD 211).list sl5] [] rfl rfl hq5 (Fits.solid True.intro (Fits.same (j:=1) rfl (Fits.solid True.intro (Fits.same (j:=3) rfl (Fits.solid True.intro (Fits.solid True.intro (Fits.dpTo 6 rfl hi5.2.2.1 (Fits.dpTo 7 rfl hi5.2.2.2 Fits.nil))))))))
   exact wm rfl<|we rfl rfl<|we rfl rfl<|wa rfl<|wa rfl<|wn<|WC.seq<|ws<|wm rfl<|wo (op_neqN (b:=0) rfl rfl<|wn<|WC.no rfl (decide_eq_false (fun h=>h rfl))<|WC.skip<|WQ.next<|WC.region<|wm rfl<|wm rfl<|wo (op_buildSlice (cs:=[_]) H5 Tryz.underlying83 Fa.I3 rfl rfl rfl rfl (by decide) (by decide) (fun b6 w6 H6=>(wo (op_appendM (f:=vN) (l:=(upto i)) (l':=[(i+1)]) (i:=9) H6 Tryz.underlying83 Fa.I3 rfl rfl rfl rfl (Src.ofArr Tryz.underlying83 (H6.arrR (i:=10) rfl)) (one_mapM (fun _=>rfl)) (by omega) (by omega) (fun v7 w7 H7=>(wa rfl<|WL.nil<|WQ.inNormal<|WQ.next<|WC.region<|wo (op_addN (b:=1) rfl rfl (by omega)<|wm rfl<|WL.nil<|WQ.round (i+1,cn5,gs5,sl5,v7) ⟨⟨by omega,by have:=(allC_8 (dT hb4)).2; omega,fun q hq=>by rcases Nat.lt_or_ge q i with h3 | h3; exact hall q h3; rw [show q=i by omega]; exact dT hb4,hi5.1,hi5.2.1,hD1.trans (hi5.2.2.1.mono H2.fr.size),hS1.trans (hi5.2.2.2.mono H2.fr.size)⟩,(by have h:=(show Owl.Own T w w7 [.blk x (xoC k sl5) 146,Ent.bo k [(vU32 pk),hx,(ptr c 0),nv,bv,(vU32 0)],.blk c [(vU32 pg),hv,(.map (some mb))] 196,Ent.ar hv 1 he.length (List.map vU32 he),.obj mb (mP .i64 (List.map Gr.me gs5) cn5),Ent.bs 199 Gr.cells Gr.b gs5,Ent.dp grD.list gs5,Ent.dp (sltD 211).list sl5,Ent.ar lv 1 L.length (List.map str L),.row v7 3 1 (i+1) (List.map vN ((upto i)++[(i+1)])),.row (.slice (some ⟨b6,0,none⟩) 1 1) 3 1 1 (List.map vN [(i+1)])] from H7); rw [upto_succ] at h; exact h.take 10)⟩ ⟨rfl,rfl,rfl,rfl,rfl,rfl,rfl,trivial⟩ (by show L.length-(i+1)<L.length-i; omega)))))))))
  ·
   refine wm rfl<|wm rfl<|wm rfl<|wo (op_callF Fa.C21 rfl ((lloadA_no x k pk hx nv bv c pg hv he mb cn1 gs1 sl1 key L i _ _ (H2.part [0,1,2,3,4,5,6,7] rfl rfl) hR1 hU1 him8 hhe hkl (hsl i (by omega)) (dF hb4)).mono (fun e w8 hq=>?_)))
   obtain ⟨cn8,gs8,rfl,hi8,hd8,hq8⟩:=hq
   refine ⟨_,rfl,?_⟩
   have H8:=H2.splice [0,1,2,3,4,5,6,7] [.blk x (xoC k sl1) 146,Ent.bo k [(vU32 pk),hx,(ptr c 0),nv,bv,(vU32 0)],.blk c [(vU32 pg),hv,(.map (some mb))] 196,Ent.ar hv 1 he.length (List.map vU32 he),.obj mb (mP .i64 (List.map Gr.me gs8) cn8),Ent.bs 199 Gr.cells Gr.b gs8,Ent.dp grD.list gs8,Ent.dp (sltD 211).list sl1] [] rfl rfl hq8 (Fits.solid True.intro (Fits.same (j:=1) rfl (Fits.solid True.intro (Fits.same (j:=3) rfl (Fits.solid True.intro (Fits.solid True.intro (Fits.dpTo 6 rfl hd8 (Fits.same (j:=7) rfl Fits.nil))))))))
   refine wm rfl<|we rfl rfl<|we rfl rfl<|wa rfl<|wa rfl<|wn<|WC.seq<|ws<|wm rfl<|wo (op_neqN (b:=0) rfl rfl<|wn<|WC.yes rfl (decide_eq_true (dF hb4))<|WC.seq<|ws<|wm rfl<|wo (op_lenA Tryz.underlying83 rfl (H8.arrR (i:=9) rfl)<|wm rfl<|wn<|WC.block<|WC.loop (α:=Nat × List Gr × List Slt) (fun (j,gs2,sl2)=>[(0,(ptr x 0)),(9,(vN i)),(12,(vN (allC pg he key L i))),(33,v),(34,(vN i)),(35,(vN j))]) (fun (j,gs2,sl2) w'=>(j≤i∧CapR gs2 cn8 (delG (allG pg he key L i) j)∧upS j i sl2∧DpTo w gs gs2∧SltTo 211 w sl sl2)∧Owl.Own T w w' [.blk x (xoC k sl2) 146,Ent.bo k [(vU32 pk),hx,(ptr c 0),nv,bv,(vU32 0)],.blk c [(vU32 pg),hv,(.map (some mb))] 196,Ent.ar hv 1 he.length (List.map vU32 he),.obj mb (mP .i64 (List.map Gr.me gs2) cn8),Ent.bs 199 Gr.cells Gr.b gs2,Ent.dp grD.list gs2,Ent.dp (sltD 211).list sl2,Ent.ar lv 1 L.length (List.map str L),.row v 3 1 i (List.map vN (upto i))]) (fun (j,gs2,sl2)=>i-j) (0,gs8,sl1) ⟨⟨Nat.zero_le _,by rw [delG_zero]; exact hi8,hU1,hD1.trans (hd8.mono H2.fr.size),hS1⟩,H8⟩ ⟨rfl,rfl,rfl,rfl,rfl,rfl,trivial⟩ ?_))
   rintro ⟨j,gs2,sl2⟩ w9 ⟨⟨hj1,hR2,hU2,hD2,hS2⟩,H9⟩
   show WC _ _ _ _ _ [(0,(ptr x 0)),(9,(vN i)),(12,(vN (allC pg he key L i))),(33,v),(34,(vN i)),(35,(vN j))] _
   refine ws<|wo (op_lssN rfl rfl<|wn<|WC.seq (wC (decide (j<i)) (fun hb10=>?_) (fun hb10=>?_)))
   ·
    have hc10:=dT hb10
    have hj:j<i:=dT hb10
    refine WC.skip<|WQ.next<|WC.seq<|WC.block<|ws<|wo (op_indexAddr1 Tryz.underlying83 Fa.I3 rfl (H9.arrR (i:=9) rfl) rfl (by omega)<|wo (op_load rfl ((H9.arrR (i:=9) rfl).at (get_map vN 0 (Arr.ltM (H9.arrR (i:=9) rfl) (by omega)))) Tryz.underlying3 rfl<|wa rfl<|wn<|WC.region<|wm rfl<|wm rfl<|wo (op_callF Fa.C46 rfl ((xrel_ok x k pk hx nv bv c pg hv he mb cn8 gs2 sl2 (delG (allG pg he key L i) j) ((upto i).getD j 0) _ _ (H9.part [0,1,2,3,4,5,6,7] rfl rfl) hR2 hU2.1 (by rw [upto_get hj]; exact hU2.has (by omega) hj)).mono (fun e w11 hq=>?_)))))
    obtain ⟨gs11,rfl,hi11,hd11,hq11⟩:=hq
    refine ⟨_,rfl,?_⟩
    have H11:=H9.splice [0,1,2,3,4,5,6,7] [.blk x (xoC k (sl2.set ((upto i).getD j 0) Slt.zero)) 146,Ent.bo k [(vU32 pk),hx,(ptr c 0),nv,bv,(vU32 0)],.blk c [(vU32 pg),hv,(.map (some mb))] 196,Ent.ar hv 1 he.length (List.map vU32 he),.obj mb (mP .i64 (List.map Gr.me gs11) cn8),Ent.bs 199 Gr.cells Gr.b gs11,Ent.dp grD.list gs11,Ent.dp (sltD 211).list (sl2.set ((upto i).getD j 0) Slt.zero)] [] rfl rfl hq11 (Fits.solid True.intro (Fits.same (j:=1) rfl (Fits.solid True.intro (Fits.same (j:=3) rfl (Fits.solid True.intro (Fits.solid True.intro (Fits.dpTo 6 rfl hd11 (Fits.dpTo 7 rfl (fun b hb=>.inr (slt_set_ft b hb)) Fits.nil))))))))
    exact WL.nil<|WQ.inNormal<|WQ.next<|WC.region<|wo (op_addN (b:=1) rfl rfl (by omega)<|wm rfl<|WL.nil<|WQ.round (j+1,gs11,(sl2.set ((upto i).getD j 0) Slt.zero)) ⟨⟨by omega,by have h:=hi11; rw [upto_get hj,delG_rel] at h; exact h,by rw [upto_get hj]; exact hU2.rel (by omega) hj,hD2.trans (hd11.mono H9.fr.size),hS2.trans (fun b hb=>.inr (slt_set_ft b hb))⟩,H11⟩ ⟨rfl,rfl,rfl,rfl,rfl,rfl,trivial⟩ (by show i-(j+1)<i-j; omega))
   ·
    have hc10:=dF hb10
    refine WC.exit<|WQ.thenExit<|WQ.thenExit<|WQ.inHere<|WQ.next<|ws<|wm rfl<|wm rfl<|wa rfl<|wa rfl<|wa rfl<|wn<|WC.ret<|WQ.thenRet<|WQ.inRet<|WQ.thenRet<|WQ.thenRet<|WQ.inRet<|WQ.thenRet<|WQ.out (.tmp rfl (.tmp rfl (.tmp rfl .nil))) ?_
    have hN:=allN_eq (pg:=pg) (he:=he) (key:=key) hi1 hall (.inr (dF hb4))
    obtain rfl:i=j:=by omega
    have hil:¬i=L.length:=by omega
    have hM:allM pg he key L=0:=by rw [allM,hN,if_neg hil]
    have h:=(H9.nilRow 3 1).sel [0,1,2,3,4,5,6,7,8,10] rfl rfl
    exact ⟨_,_,_,_,by rw [allE,hN,if_neg hil]; rfl,by rw [hM]; exact (delG_all (pg:=pg) (he:=he) (key:=key) (L:=L) i) ▸ hR2,by rw [hM]; exact hU2.none,hD2,hS2,by rw [hM]; exact h⟩
 ·
  have hc3:=dF hb3
  refine WC.exit<|WQ.thenExit<|WQ.thenExit<|WQ.inHere<|WQ.next<|ws<|wm rfl<|wm rfl<|wo (op_lenA Tryz.underlying59 rfl (H2.arrO (i:=8) rfl)<|wa rfl<|wa rfl<|wa rfl<|wn<|WC.ret<|WQ.out (.tmp rfl (.tmp rfl (.tmp rfl .nil))) ?_)
  obtain rfl:i=L.length:=by omega
  have hN:=allN_eq (pg:=pg) (he:=he) (key:=key) (Nat.le_refl _) hall (.inl rfl)
  have hM:allM pg he key L=L.length:=by rw [allM,hN,if_pos rfl]
  exact ⟨_,_,_,_,by rw [allE,hN,if_pos rfl]; rfl,by rw [hM]; exact hR1,by rw [hM]; exact hU1,hD1,hS1,by rw [hM]; exact H2.sel [0,1,2,3,4,5,6,7,8,9] rfl rfl⟩
theorem loadAll_ok (pg:UInt32) (hv:Value) (he:List UInt32) (key:List UInt8) (lv:Value) (L:List (List UInt8)) (w:World) (hH:Arr w hv 1 he.length (List.map vU32 he)) (hA:Arr w lv 1 L.length (List.map str L)) (hB: ∀x∈L,x.length≤140737488351232) (hk:key.length≤140737488351232) (hn:he.length<2^47) (hl:L.length<2^47) :
  Calls Tryz.prog 7 #[(.agg #[(vU32 pg),hv]),(str key),lv] w (fun e w'=>e=.returned (.bool true)∧Fr [] w w'):=by
 refine enter (args:=[(.agg #[(vU32 pg),hv]),(str key),lv]) Tryz.func7 rfl rfl ?_
 have H0:Owl.Own [] w w []:=Own.start w []
 refine ws<|wo (op_box H0 rfl rfl (fun b1 w1 H1=>(wa rfl<|wn<|WC.seq<|ws<|wo (op_loadS (vs:=[_,_]) rfl (H1.cells (i:=0) rfl rfl) Tryz.underlying75 rfl Fa.I75 rfl<|wm rfl<|wm rfl<|wo (op_callF Fa.C36 rfl ((large24_ok pg _ he key _ L _ (H1.arr hH) (H1.arr hA) hB hk hn hl).mono (fun e w2 hq=>?_)))))))
 obtain ⟨rfl,hf2⟩:=hq
 refine ⟨_,rfl,?_⟩
 have H2:=H1.fr' hf2
 refine wn (wC (large24 he key L) (fun hb3=>?_) (fun hb3=>?_))
 ·
  refine ws<|wo (op_callF Fa.C31 rfl ((alive24_ok _).mono (fun e w4 hq=>?_)))
  obtain ⟨rfl,hf4⟩:=hq
  refine ⟨_,rfl,?_⟩
  have H4:=H2.fr' hf4
  exact wa rfl<|wn<|WC.ret<|WQ.thenRet<|WQ.out (.tmp rfl .nil) (⟨rfl,H4.fr⟩)
 ·
  obtain ⟨hh40,hl12,hk17,hs17⟩:=large24_no hb3
  refine WC.skip<|WQ.next<|ws (wB (decide (hardE pg he=0)) (fun hb5=>?_) (fun hb5=>?_))
  ·
   refine wo (op_loadS (vs:=[_,_]) rfl (H2.cells (i:=0) rfl rfl) Tryz.underlying75 rfl Fa.I75 rfl<|wo (op_callF Fa.C37 rfl ((exoNewL_ok pg _ he _ (H2.arr hH) (dT hb5) (by omega)).mono (fun e w6 hq=>?_))))
   obtain ⟨x6,k6,hx6,nv6,bv6,c6,yv6,mb6,rfl,hk6,hv6,hq6⟩:=hq
   refine ⟨_,rfl,?_⟩
   have H6:=H2.splice [] [] [.blk x6 (xoC k6 (List.replicate 9 Slt.zero)) 146,Ent.bo k6 [(vU32 pg),hx6,(ptr c6 0),nv6,bv6,(vU32 0)],.blk c6 [(vU32 pg),yv6,(.map (some mb6))] 196,Ent.ar yv6 1 he.length (List.map vU32 he),.obj mb6 (mP .i64 (List.map Gr.me []) 0),Ent.bs 199 Gr.cells Gr.b [],Ent.dp grD.list [],Ent.dp (sltD 211).list (List.replicate 9 Slt.zero)] rfl rfl hq6 (Fits.solid True.intro (Fits.fresh (fun b hb=>by cases List.mem_singleton.1 hb; exact hk6) (Fits.solid True.intro (Fits.fresh hv6 (Fits.solid True.intro (Fits.solid True.intro (Fits.fresh (fun b hb=>by cases hb) (Fits.fresh (fun b hb=>by cases slt_zero_ft b hb) Fits.nil))))))))
   refine wm rfl<|we rfl rfl<|we rfl rfl<|wa rfl<|wa rfl<|wn<|ws<|wo (op_loadS (vs:=[_,_]) rfl (H6.cells (i:=0) rfl rfl) Tryz.underlying75 rfl Fa.I75 rfl<|wo (op_callF Fa.C37 rfl ((exoNewL_ok pg _ he _ (H6.arr hH) (dT hb5) (by omega)).mono (fun e w7 hq=>?_))))
   obtain ⟨x7,k7,hx7,nv7,bv7,c7,yv7,mb7,rfl,hk7,hv7,hq7⟩:=hq
   refine ⟨_,rfl,?_⟩
   have H7:=H6.splice [] [] [.blk x7 (xoC k7 (List.replicate 9 Slt.zero)) 146,Ent.bo k7 [(vU32 pg),hx7,(ptr c7 0),nv7,bv7,(vU32 0)],.blk c7 [(vU32 pg),yv7,(.map (some mb7))] 196,Ent.ar yv7 1 he.length (List.map vU32 he),.obj mb7 (mP .i64 (List.map Gr.me []) 0),Ent.bs 199 Gr.cells Gr.b [],Ent.dp grD.list [],Ent.dp (sltD 211).list (List.replicate 9 Slt.zero)] rfl rfl hq7 (Fits.solid True.intro (Fits.fresh (fun b hb=>by cases List.mem_singleton.1 hb; exact hk7) (Fits.solid True.intro (Fits.fresh hv7 (Fits.solid True.intro (Fits.solid True.intro (Fits.fresh (fun b hb=>by cases hb) (Fits.fresh (fun b hb=>by cases slt_zero_ft b hb) Fits.nil))))))))
   refine wm rfl<|we rfl rfl<|we rfl rfl<|wa rfl<|wa rfl<|wn<|WC.seq<|ws<|wm rfl<|wo (op_neqN (b:=0) rfl rfl<|wm rfl<|WL.yes rfl rfl rfl (by decide) rfl (op_move rfl<|WL.yes rfl rfl rfl (by decide) rfl (op_neqN (b:=0) rfl rfl<|wo (op_pickF rfl (by decide) rfl<|wm rfl<|WL.yes rfl rfl rfl (by decide) rfl (op_move rfl<|WL.yes rfl rfl rfl (by decide) rfl (op_eqlPN Fa.PT47 rfl rfl<|wo (op_pickF rfl (by decide) rfl<|wm rfl<|wY rfl (op_move rfl<|wY rfl (op_eqlPN Fa.PT47 rfl rfl<|wo (op_pickF rfl rfl rfl<|wn<|WC.no rfl rfl<|WC.skip<|WQ.next<|ws<|wm rfl<|wo (op_callF Fa.C38 rfl ((look24_ok x6 k6 pg hx6 nv6 bv6 c6 pg yv6 he mb6 0 ([]) (List.replicate 9 Slt.zero) ([]) _ (H7.cellsAt (i:=1) rfl) (H7.cellsAtO (i:=2) rfl) (H7.cellsAt (i:=3) rfl) (H7.arrO (i:=4) rfl) (H7.mp (i:=5) rfl) (H7.bsG (i:=6) rfl) (H7.dpO (i:=7) rfl) (H7.dpO (i:=8) rfl) capRnil rfl).mono (fun e w8 hq=>?_)))))))))))))
   obtain ⟨rfl,hf8⟩:=hq
   refine ⟨_,rfl,?_⟩
   have H8:=H7.fr' hf8
   refine wo (op_alloc H8 Fa.I81 (fun b9 w9 H9=>(wo (op_storeBV (i:=17) H9 rfl rfl rfl (by rfl) (gndC_one _ _ _) rfl Fa.I81 (fun w10 H10=>(wn<|ws<|wm rfl<|wm rfl<|wm rfl ?_))))))
   have H12:=H10.nilRow 9 1
   refine wo (op_appendM (f:=str) (l:=[]) (l':=L) (i:=18) H12 Tryz.underlying59 Fa.I9 rfl rfl rfl rfl (Src.ofArr Tryz.underlying59 (H12.arr hA)) (one_mapM (fun _=>rfl)) (by omega) (by omega) (fun v11 w11 H11=>?_))
   have H13:Owl.Own [] w w11 [.blk b1 [(vU32 pg),hv] 75,.blk x6 (xoC k6 (List.replicate 9 Slt.zero)) 146,Ent.bo k6 [(vU32 pg),hx6,(ptr c6 0),nv6,bv6,(vU32 0)],.blk c6 [(vU32 pg),yv6,(.map (some mb6))] 196,Ent.ar yv6 1 he.length (List.map vU32 he),.obj mb6 (mP .i64 (List.map Gr.me []) 0),Ent.bs 199 Gr.cells Gr.b [],Ent.dp grD.list [],Ent.dp (sltD 211).list (List.replicate 9 Slt.zero),.blk x7 (xoC k7 (List.replicate 9 Slt.zero)) 146,Ent.bo k7 [(vU32 pg),hx7,(ptr c7 0),nv7,bv7,(vU32 0)],.blk c7 [(vU32 pg),yv7,(.map (some mb7))] 196,Ent.ar yv7 1 he.length (List.map vU32 he),.obj mb7 (mP .i64 (List.map Gr.me []) 0),Ent.bs 199 Gr.cells Gr.b [],Ent.dp grD.list [],Ent.dp (sltD 211).list (List.replicate 9 Slt.zero),.blk b9 (gndC (freeS pg ([])) ([]) 9) 81,.row v11 9 1 L.length (List.map str L)]:=Owl.Own.rowEqN (i:=18) (f:=str) H11 rfl (List.nil_append _) (Nat.zero_add _)
   have H14:=H13.freeze (i:=18) rfl
   refine wo (op_callF Fa.C39 rfl ((all_ok x6 k6 pg hx6 nv6 bv6 c6 pg yv6 he mb6 0 ([]) (List.replicate 9 Slt.zero) key _ L _ _ (H14.part [1,2,3,4,5,6,7,8,18] rfl rfl) capRnil upS.zero (by omega) (by omega) (by omega) (fun i hi=>Nat.lt_of_le_of_lt (hs17 i hi) (by decide))).mono (fun e w15 hq=>?_)))
   obtain ⟨v15,cn15,gs15,sl15,rfl,hi15,hu15,hd15,hs15,hq15⟩:=hq
   refine ⟨_,rfl,?_⟩
   have H15:=H14.splice [1,2,3,4,5,6,7,8,18] [.blk x6 (xoC k6 sl15) 146,Ent.bo k6 [(vU32 pg),hx6,(ptr c6 0),nv6,bv6,(vU32 0)],.blk c6 [(vU32 pg),yv6,(.map (some mb6))] 196,Ent.ar yv6 1 he.length (List.map vU32 he),.obj mb6 (mP .i64 (List.map Gr.me gs15) cn15),Ent.bs 199 Gr.cells Gr.b gs15,Ent.dp grD.list gs15,Ent.dp (sltD 211).list sl15,Ent.ar v11 1 L.length (List.map str L)] [.row v15 3 1 (allM pg he key L) (List.map vN (upto (allM pg he key L)))] rfl rfl hq15 (Fits.solid True.intro (Fits.same (j:=1) rfl (Fits.solid True.intro (Fits.same (j:=3) rfl (Fits.solid True.intro (Fits.solid True.intro (Fits.dpTo 6 rfl hd15 (Fits.dpTo 7 rfl hs15 (Fits.same (j:=8) rfl (Fits.solid True.intro Fits.nil))))))))))
   refine wm rfl<|we rfl rfl<|we rfl rfl<|we rfl rfl<|wa rfl<|wa rfl<|wa rfl<|wn<|ws<|wa rfl ?_
   have H16:=H15.nilRow 3 1
   refine wn<|WC.seq<|ws<|wa rfl<|wn<|WC.block<|WC.loop (α:=Nat × Nat × List Gr × List Slt × Value) (fun (i,cn1,gs1,sl1,v)=>[(1,(str key)),(2,lv),(7,(ptr x6 0)),(8,(vN (allE pg he key L))),(9,(ptr x7 0)),(11,(ptr b9 0)),(12,v15),(13,(vN (allN pg he key L))),(14,v),(15,(vN i))]) (fun (i,cn1,gs1,sl1,v) w'=>(i≤L.length∧i≤8∧(∀q,q<i→allC pg he key L q=0)∧CapR gs1 cn1 (allG pg he key L i)∧upS 0 i sl1)∧Owl.Own [] w w' [.blk b1 [(vU32 pg),hv] 75,.blk x6 (xoC k6 sl15) 146,Ent.bo k6 [(vU32 pg),hx6,(ptr c6 0),nv6,bv6,(vU32 0)],.blk c6 [(vU32 pg),yv6,(.map (some mb6))] 196,Ent.ar yv6 1 he.length (List.map vU32 he),.obj mb6 (mP .i64 (List.map Gr.me gs15) cn15),Ent.bs 199 Gr.cells Gr.b gs15,Ent.dp grD.list gs15,Ent.dp (sltD 211).list sl15,.blk x7 (xoC k7 sl1) 146,Ent.bo k7 [(vU32 pg),hx7,(ptr c7 0),nv7,bv7,(vU32 0)],.blk c7 [(vU32 pg),yv7,(.map (some mb7))] 196,Ent.ar yv7 1 he.length (List.map vU32 he),.obj mb7 (mP .i64 (List.map Gr.me gs1) cn1),Ent.bs 199 Gr.cells Gr.b gs1,Ent.dp grD.list gs1,Ent.dp (sltD 211).list sl1,.blk b9 (gndC (freeS pg ([])) ([]) 9) 81,Ent.ar v11 1 L.length (List.map str L),.row v15 3 1 (allM pg he key L) (List.map vN (upto (allM pg he key L))),.row v 3 1 i (List.map vN (upto i))]) (fun (i,cn1,gs1,sl1,v)=>L.length-i) (0,0,[],(List.replicate 9 Slt.zero),.slice none 0 0) ⟨⟨Nat.zero_le _,Nat.zero_le _,fun q hq=>absurd hq (Nat.not_lt_zero q),CapR.nil 0,upS.zero⟩,H16⟩ ⟨rfl,rfl,rfl,rfl,rfl,rfl,rfl,rfl,rfl,rfl,trivial⟩ ?_
   rintro ⟨i,cn1,gs1,sl1,v⟩ w17 ⟨⟨hi1,him8,hall,hR1,hU1⟩,H17⟩
   show WC _ _ _ _ _ [(1,(str key)),(2,lv),(7,(ptr x6 0)),(8,(vN (allE pg he key L))),(9,(ptr x7 0)),(11,(ptr b9 0)),(12,v15),(13,(vN (allN pg he key L))),(14,v),(15,(vN i))] _
   refine WC.seq<|ws<|wm rfl<|wm rfl<|wo (op_lenA Tryz.underlying59 rfl (H17.arr hA)<|wo (op_lssN rfl rfl<|wn (wC (decide (i<L.length)) (fun hb18=>?_) (fun hb18=>?_))))
   ·
    have hc18:=dT hb18
    refine WC.skip<|WQ.next<|WC.seq<|WC.block<|ws (wB (decide (allC pg he key L i=0)) (fun hb19=>?_) (fun hb19=>?_))
    ·
     refine wm rfl<|wm rfl<|wm rfl<|wm rfl<|wo (op_indexAddr1 Tryz.underlying59 Fa.I9 rfl (H17.arr hA) rfl (by omega)<|wo (op_load rfl ((H17.arr hA).at (get_map str [] (Arr.ltM (H17.arr hA) (by omega)))) Tryz.underlying9 rfl<|wo (op_callF Fa.C21 rfl ((lloadA_yes x7 k7 pg hx7 nv7 bv7 c7 pg yv7 he mb7 cn1 gs1 sl1 key L i _ _ (H17.part [9,10,11,12,13,14,15,16] rfl rfl) hR1 hU1 him8 (by omega) (by omega) (Nat.lt_of_le_of_lt (hs17 i (by omega)) (by decide)) (dT hb19)).mono (fun e w20 hq=>?_)))))
     obtain ⟨cn20,gs20,sl20,rfl,hi20,hq20⟩:=hq
     refine ⟨_,rfl,?_⟩
     have H20:=H17.splice [9,10,11,12,13,14,15,16] [.blk x7 (xoC k7 sl20) 146,Ent.bo k7 [(vU32 pg),hx7,(ptr c7 0),nv7,bv7,(vU32 0)],.blk c7 [(vU32 pg),yv7,(.map (some mb7))] 196,Ent.ar yv7 1 he.length (List.map vU32 he),.obj mb7 (mP .i64 (List.map Gr.me gs20) cn20),Ent.bs 199 Gr.cells Gr.b gs20,Ent.dp grD.list gs20,Ent.dp (sltD 211).list sl20] [] rfl rfl hq20 (Fits.solid True.intro (Fits.same (j:=1) rfl (Fits.solid True.intro (Fits.same (j:=3) rfl (Fits.solid True.intro (Fits.solid True.intro (Fits.dpTo 6 rfl hi20.2.2.1 (Fits.dpTo 7 rfl hi20.2.2.2 Fits.nil))))))))
     exact wm rfl<|we rfl rfl<|we rfl rfl<|wa rfl<|wa rfl<|wn<|WC.seq<|ws<|wm rfl<|wo (op_neqN (b:=0) rfl rfl<|wn<|WC.no rfl (decide_eq_false (fun h=>h rfl))<|WC.skip<|WQ.next<|WC.region<|wm rfl<|wm rfl<|wo (op_buildSlice (cs:=[_]) H20 Tryz.underlying83 Fa.I3 rfl rfl rfl rfl (by decide) (by decide) (fun b21 w21 H21=>(wo (op_appendM (f:=vN) (l:=(upto i)) (l':=[(i+1)]) (i:=20) H21 Tryz.underlying83 Fa.I3 rfl rfl rfl rfl (Src.ofArr Tryz.underlying83 (H21.arrR (i:=21) rfl)) (one_mapM (fun _=>rfl)) (by omega) (by omega) (fun v22 w22 H22=>(wa rfl<|WL.nil<|WQ.inNormal<|WQ.next<|WC.region<|wm rfl<|wo (op_addN (b:=1) rfl rfl (by omega)<|wa rfl<|WL.nil<|WQ.round (i+1,cn20,gs20,sl20,v22) ⟨⟨by omega,by have:=(allC_8 (dT hb19)).2; omega,fun q hq=>by rcases Nat.lt_or_ge q i with h3 | h3; exact hall q h3; rw [show q=i by omega]; exact dT hb19,hi20.1,hi20.2.1⟩,(by have h:=(show Owl.Own [] w w22 [.blk b1 [(vU32 pg),hv] 75,.blk x6 (xoC k6 sl15) 146,Ent.bo k6 [(vU32 pg),hx6,(ptr c6 0),nv6,bv6,(vU32 0)],.blk c6 [(vU32 pg),yv6,(.map (some mb6))] 196,Ent.ar yv6 1 he.length (List.map vU32 he),.obj mb6 (mP .i64 (List.map Gr.me gs15) cn15),Ent.bs 199 Gr.cells Gr.b gs15,Ent.dp grD.list gs15,Ent.dp (sltD 211).list sl15,.blk x7 (xoC k7 sl20) 146,Ent.bo k7 [(vU32 pg),hx7,(ptr c7 0),nv7,bv7,(vU32 0)],.blk c7 [(vU32 pg),yv7,(.map (some mb7))] 196,Ent.ar yv7 1 he.length (List.map vU32 he),.obj mb7 (mP .i64 (List.map Gr.me gs20) cn20),Ent.bs 199 Gr.cells Gr.b gs20,Ent.dp grD.list gs20,Ent.dp (sltD 211).list sl20,.blk b9 (gndC (freeS pg ([])) ([]) 9) 81,Ent.ar v11 1 L.length (List.map str L),.row v15 3 1 (allM pg he key L) (List.map vN (upto (allM pg he key L))),.row v22 3 1 (i+1) (List.map vN ((upto i)++[(i+1)])),.row (.slice (some ⟨b21,0,none⟩) 1 1) 3 1 1 (List.map vN [(i+1)])] from H22); rw [upto_succ] at h; exact h.take 21)⟩ ⟨rfl,rfl,rfl,rfl,rfl,rfl,rfl,rfl,rfl,rfl,trivial⟩ (by show L.length-(i+1)<L.length-i; omega)))))))))
    ·
     have hlt:i<L.length:=dT hb18
     have hN:=allN_eq (pg:=pg) (he:=he) (key:=key) hi1 hall (.inr (dF hb19))
     have hil:¬i=L.length:=by omega
     have hM:allM pg he key L=0:=by rw [allM,hN,if_neg hil]
     have hE:allE pg he key L=allC pg he key L i:=by rw [allE,hN,if_neg hil]
     refine wm rfl<|wm rfl<|wm rfl<|wm rfl<|wo (op_indexAddr1 Tryz.underlying59 Fa.I9 rfl (H17.arr hA) rfl (by omega)<|wo (op_load rfl ((H17.arr hA).at (get_map str [] (Arr.ltM (H17.arr hA) (by omega)))) Tryz.underlying9 rfl<|wo (op_callF Fa.C21 rfl ((lloadA_no x7 k7 pg hx7 nv7 bv7 c7 pg yv7 he mb7 cn1 gs1 sl1 key L i _ _ (H17.part [9,10,11,12,13,14,15,16] rfl rfl) hR1 hU1 him8 (by omega) (by omega) (Nat.lt_of_le_of_lt (hs17 i (by omega)) (by decide)) (dF hb19)).mono (fun e w23 hq=>?_)))))
     obtain ⟨cn23,gs23,rfl,hi23,hd23,hq23⟩:=hq
     refine ⟨_,rfl,?_⟩
     have H23:=H17.splice [9,10,11,12,13,14,15,16] [.blk x7 (xoC k7 sl1) 146,Ent.bo k7 [(vU32 pg),hx7,(ptr c7 0),nv7,bv7,(vU32 0)],.blk c7 [(vU32 pg),yv7,(.map (some mb7))] 196,Ent.ar yv7 1 he.length (List.map vU32 he),.obj mb7 (mP .i64 (List.map Gr.me gs23) cn23),Ent.bs 199 Gr.cells Gr.b gs23,Ent.dp grD.list gs23,Ent.dp (sltD 211).list sl1] [] rfl rfl hq23 (Fits.solid True.intro (Fits.same (j:=1) rfl (Fits.solid True.intro (Fits.same (j:=3) rfl (Fits.solid True.intro (Fits.solid True.intro (Fits.dpTo 6 rfl hd23 (Fits.same (j:=7) rfl Fits.nil))))))))
     refine wm rfl<|we rfl rfl<|we rfl rfl<|wa rfl<|wa rfl<|wn<|WC.seq<|ws<|wm rfl<|wo (op_neqN (b:=0) rfl rfl<|wn<|WC.yes rfl (decide_eq_true (dF hb19))<|WC.seq<|WC.draw 23 Fa.M H23 (mh rfl<|oh (fun w1 H1=>op_lenA Tryz.underlying83 rfl (H1.arrR (i:=19) rfl) zr)<|oh (fun w1 H1=>op_eqlN (b:=0) rfl rfl zr)<|mh rfl<|HW.yes rfl rfl rfl (decide_eq_true hM) (fun w1 H1=>op_move rfl zr)<|HW.yes rfl rfl rfl (decide_eq_true hM) (fun w1 H1=>op_move rfl zr)<|HW.yes rfl rfl rfl (decide_eq_true hM) (fun w1 H1=>op_eqlN rfl rfl zr)<|oh (fun w1 H1=>op_pickT rfl (decide_eq_true hM) rfl zr)<|mh rfl<|HW.yes rfl rfl rfl (decide_eq_true hN) (fun w1 H1=>op_move rfl zr)<|HW.yes rfl rfl rfl (decide_eq_true hN) (fun w1 H1=>op_move rfl zr)<|HW.yes rfl rfl rfl (decide_eq_true hN) (fun w1 H1=>op_eqlN rfl rfl zr)<|oh (fun w1 H1=>op_pickT rfl (decide_eq_true hN) rfl zr)<|mh rfl<|HW.yes rfl rfl rfl (decide_eq_true hE) (fun w1 H1=>op_move rfl zr)<|HW.yes rfl rfl rfl (decide_eq_true hE) (fun w1 H1=>op_callF Fa.C38 rfl ((look24_ok x6 k6 pg hx6 nv6 bv6 c6 pg yv6 he mb6 cn15 gs15 sl15 (allG pg he key L (allM pg he key L)) _ (H1.cellsAt (i:=1) rfl) (H1.cellsAtO (i:=2) rfl) (H1.cellsAt (i:=3) rfl) (H1.arrO (i:=4) rfl) (H1.mp (i:=5) rfl) (H1.bsG (i:=6) rfl) (H1.dpO (i:=7) rfl) (H1.dpO (i:=8) rfl) hi15 hu15.1).mono (fun e w2 hq=>⟨_,hq.1,rfl,hq.2⟩)))<|HW.yes rfl rfl rfl (decide_eq_true hE) (fun w1 H1=>op_loadS rfl (H1.cellsW (i:=17) rfl) Tryz.underlying81 rfl Fa.I81 (gndC_len _ _ _) zr)<|HW.yes rfl rfl rfl (decide_eq_true hE) (fun w1 H1=>op_eqlSame (by kernel_rfl) (gnd_key _ _ _) (by rw [hM]; rfl) rfl rfl zr)<|oh (fun w1 H1=>op_pickT rfl (decide_eq_true hE) rfl zr)<|mh rfl<|yh rfl (fun w1 H1=>op_callF Fa.C31 rfl ((alive24_ok _).mono (fun e w2 hq=>⟨_,hq.1,rfl,hq.2⟩)))<|oh (fun w1 H1=>op_pickT rfl rfl rfl zr)<|ah rfl  HW.nil) (by kernel_rfl) ?_)
     intro β26 w26 H26
     exact wn<|WC.ret<|WQ.thenRet<|WQ.inRet<|WQ.thenRet<|WQ.thenRet<|WQ.inRet<|WQ.thenRet<|WQ.out (.tmp rfl .nil) (⟨rfl,H26.fr⟩)
   ·
    have hc18:=dF hb18
    have hge:¬i<L.length:=dF hb18
    have hiL:i=L.length:=by omega
    have hN:=allN_eq (pg:=pg) (he:=he) (key:=key) (L:=L) (Nat.le_refl _) (fun q hq=>hall q (by omega)) (.inl rfl)
    have hM:allM pg he key L=L.length:=by rw [allM,hN,if_pos rfl]
    have hE:allE pg he key L=0:=by rw [allE,hN,if_pos rfl]
    refine WC.exit<|WQ.thenExit<|WQ.thenExit<|WQ.inHere<|WQ.next<|WC.seq<|ws<|wm rfl<|wo (op_lenA Tryz.underlying83 rfl (H17.arrR (i:=19) rfl)<|wm rfl<|wo (op_lenA Tryz.underlying83 rfl (H17.arrR (i:=20) rfl)<|wo (op_neqN rfl rfl<|wm rfl<|WL.yes rfl rfl rfl (decide_eq_false (fun h=>h (hM.trans hiL.symm))) rfl (op_move rfl<|WL.yes rfl rfl rfl (decide_eq_false (fun h=>h (hM.trans hiL.symm))) rfl (op_move rfl<|WL.yes rfl rfl rfl (decide_eq_false (fun h=>h (hM.trans hiL.symm))) rfl (op_lenA Tryz.underlying59 rfl (H17.arr hA)<|WL.yes rfl rfl rfl (decide_eq_false (fun h=>h (hM.trans hiL.symm))) rfl (op_neqN rfl rfl<|wo (op_pickF rfl (decide_eq_false (fun h=>h (hM.trans hiL.symm))) rfl<|wm rfl<|WL.yes rfl rfl rfl (decide_eq_false (fun h=>h hN)) rfl (op_move rfl<|WL.yes rfl rfl rfl (decide_eq_false (fun h=>h hN)) rfl (op_neqN (b:=0) rfl rfl<|wo (op_pickF rfl (decide_eq_false (fun h=>h hN)) rfl<|wm rfl<|WL.yes rfl rfl rfl (decide_eq_false (fun h=>h hE)) rfl (op_move rfl<|WL.yes rfl rfl rfl (decide_eq_false (fun h=>h hE)) rfl (op_callF Fa.C38 rfl ((look24_ok x6 k6 pg hx6 nv6 bv6 c6 pg yv6 he mb6 cn15 gs15 sl15 (allG pg he key L (allM pg he key L)) _ (H17.cellsAt (i:=1) rfl) (H17.cellsAtO (i:=2) rfl) (H17.cellsAt (i:=3) rfl) (H17.arrO (i:=4) rfl) (H17.mp (i:=5) rfl) (H17.bsG (i:=6) rfl) (H17.dpO (i:=7) rfl) (H17.dpO (i:=8) rfl) hi15 hu15.1).mono (fun e w27 hq=>?_)))))))))))))))
    obtain ⟨rfl,hf27⟩:=hq
    refine ⟨_,rfl,?_⟩
    have H27:=H17.fr' hf27
    refine WL.yes rfl rfl rfl (decide_eq_false (fun h=>h hE)) rfl (op_move rfl<|WL.yes rfl rfl rfl (decide_eq_false (fun h=>h hE)) rfl (op_callF Fa.C38 rfl ((look24_ok x7 k7 pg hx7 nv7 bv7 c7 pg yv7 he mb7 cn1 gs1 sl1 (allG pg he key L i) _ (H27.cellsAt (i:=9) rfl) (H27.cellsAtO (i:=10) rfl) (H27.cellsAt (i:=11) rfl) (H27.arrO (i:=12) rfl) (H27.mp (i:=13) rfl) (H27.bsG (i:=14) rfl) (H27.dpO (i:=15) rfl) (H27.dpO (i:=16) rfl) hR1 hU1.1).mono (fun e w28 hq=>?_))))
    obtain ⟨rfl,hf28⟩:=hq
    refine ⟨_,rfl,?_⟩
    have H28:=H27.fr' hf28
    refine WL.yes rfl rfl rfl (decide_eq_false (fun h=>h hE)) rfl (op_neqSame (by kernel_rfl) (gnd_key _ _ _) (by rw [hM,hiL]) rfl rfl<|wo (op_pickF rfl (decide_eq_false (fun h=>h hE)) rfl<|wn<|WC.no rfl rfl<|WC.skip<|WQ.next<|WC.seq<|ws<|wa rfl<|wn<|WC.block<|WC.loop (α:=Nat) (fun a=>[(12,v15),(14,v),(18,(vN a))]) (fun a w'=>(a≤L.length)∧Owl.Own [] w w' [.blk b1 [(vU32 pg),hv] 75,.blk x6 (xoC k6 sl15) 146,Ent.bo k6 [(vU32 pg),hx6,(ptr c6 0),nv6,bv6,(vU32 0)],.blk c6 [(vU32 pg),yv6,(.map (some mb6))] 196,Ent.ar yv6 1 he.length (List.map vU32 he),.obj mb6 (mP .i64 (List.map Gr.me gs15) cn15),Ent.bs 199 Gr.cells Gr.b gs15,Ent.dp grD.list gs15,Ent.dp (sltD 211).list sl15,.blk x7 (xoC k7 sl1) 146,Ent.bo k7 [(vU32 pg),hx7,(ptr c7 0),nv7,bv7,(vU32 0)],.blk c7 [(vU32 pg),yv7,(.map (some mb7))] 196,Ent.ar yv7 1 he.length (List.map vU32 he),.obj mb7 (mP .i64 (List.map Gr.me gs1) cn1),Ent.bs 199 Gr.cells Gr.b gs1,Ent.dp grD.list gs1,Ent.dp (sltD 211).list sl1,.blk b9 (gndC (freeS pg ([])) ([]) 9) 81,Ent.ar v11 1 L.length (List.map str L),.row v15 3 1 (allM pg he key L) (List.map vN (upto (allM pg he key L))),.row v 3 1 i (List.map vN (upto i))]) (fun a=>L.length-a) 0 ⟨(Nat.zero_le _),H28⟩ ⟨rfl,rfl,rfl,trivial⟩ ?_))
    rintro a w29 ⟨ha1,H29⟩
    show WC _ _ _ _ _ [(12,v15),(14,v),(18,(vN a))] _
    refine WC.seq<|ws<|wm rfl<|wm rfl<|wo (op_lenA Tryz.underlying83 rfl (H29.arrR (i:=19) rfl)<|wo (op_lssN rfl rfl<|wn (wC (decide (a<(allM pg he key L))) (fun hb30=>?_) (fun hb30=>?_))))
    ·
     have hc30:=dT hb30
     have ha2:a<allM pg he key L:=dT hb30
     refine WC.skip<|WQ.next<|WC.seq<|WC.block<|WC.seq<|WC.draw 9 Fa.M H29 (mh rfl<|mh rfl<|oh (fun w1 H1=>op_indexAddr1 Tryz.underlying83 Fa.I3 rfl (H1.arrR (i:=19) rfl) rfl (by omega) zr)<|oh (fun w1 H1=>op_load rfl ((H1.arrR (i:=19) rfl).at (get_map vN 0 (Arr.ltM (H1.arrR (i:=19) rfl) (by omega)))) Tryz.underlying3 rfl zr)<|mh rfl<|mh rfl<|oh (fun w1 H1=>op_indexAddr1 Tryz.underlying83 Fa.I3 rfl (H1.arrR (i:=20) rfl) rfl (by omega) zr)<|oh (fun w1 H1=>op_load rfl ((H1.arrR (i:=20) rfl).at (get_map vN 0 (Arr.ltM (H1.arrR (i:=20) rfl) (by omega)))) Tryz.underlying3 rfl zr)<|oh (fun w1 H1=>op_neqN rfl rfl zr)  HW.nil) (by kernel_rfl) ?_
     intro β31 w31 H31
     exact wn<|WC.no rfl (decide_eq_false (fun h=>h (by rw [hM,hiL])))<|WC.skip<|WQ.inNormal<|WQ.next<|WC.region<|wm rfl<|wo (op_addN (b:=1) rfl rfl (by omega)<|wa rfl<|WL.nil<|WQ.round (a+1) ⟨(by omega),H31⟩ ⟨rfl,rfl,rfl,trivial⟩ (by omega))
    ·
     have hc30:=dF hb30
     refine WC.exit<|WQ.thenExit<|WQ.thenExit<|WQ.inHere<|WQ.next<|ws<|wo (op_callF Fa.C31 rfl ((alive24_ok _).mono (fun e w32 hq=>?_)))
     obtain ⟨rfl,hf32⟩:=hq
     refine ⟨_,rfl,?_⟩
     have H32:=H29.fr' hf32
     exact wa rfl<|wn<|WC.ret<|WQ.out (.tmp rfl .nil) (⟨rfl,H32.fr⟩)
  ·
   refine wo (op_loadS (vs:=[_,_]) rfl (H2.cells (i:=0) rfl rfl) Tryz.underlying75 rfl Fa.I75 rfl<|wo (op_callF Fa.C37 rfl ((exoNewX_ok pg _ he _ (H2.arr hH) (dF hb5) (by omega)).mono (fun e w33 hq=>?_))))
   obtain ⟨rfl,hf33⟩:=hq
   refine ⟨_,rfl,?_⟩
   have H33:=H2.fr' hf33
   refine wm rfl<|we rfl rfl<|we rfl rfl<|wa rfl<|wa rfl<|wn<|ws<|wo (op_loadS (vs:=[_,_]) rfl (H33.cells (i:=0) rfl rfl) Tryz.underlying75 rfl Fa.I75 rfl<|wo (op_callF Fa.C37 rfl ((exoNewX_ok pg _ he _ (H33.arr hH) (dF hb5) (by omega)).mono (fun e w34 hq=>?_))))
   obtain ⟨rfl,hf34⟩:=hq
   refine ⟨_,rfl,?_⟩
   have H34:=H33.fr' hf34
   refine wm rfl<|we rfl rfl<|we rfl rfl<|wa rfl<|wa rfl<|wn<|WC.seq<|ws<|wm rfl<|wo (op_neqN (b:=0) rfl rfl<|wm rfl<|WL.no rfl rfl rfl (by decide) rfl<|WL.no rfl rfl rfl (by decide) rfl<|wo (op_pickT rfl (by decide) rfl<|wm rfl<|wN rfl<|wN rfl<|wo (op_pickT rfl rfl rfl<|wm rfl<|wN rfl<|wN rfl<|wo (op_pickT rfl rfl rfl<|wn<|WC.yes rfl rfl<|ws<|wo (op_callF Fa.C31 rfl ((alive24_ok _).mono (fun e w35 hq=>?_)))))))
   obtain ⟨rfl,hf35⟩:=hq
   refine ⟨_,rfl,?_⟩
   have H35:=H34.fr' hf35
   exact wa rfl<|wn<|WC.ret<|WQ.thenRet<|WQ.out (.tmp rfl .nil) (⟨rfl,H35.fr⟩)
end Go.Proofs.YtbjhccnffacbcaaGreat
