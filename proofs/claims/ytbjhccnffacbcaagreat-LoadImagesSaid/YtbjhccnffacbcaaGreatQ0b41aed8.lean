/- General lemmas and walks: USort2, USort3, USort4, WSeq3, WSpc6, WExo. No condition but what each theorem names. -/
import Derived.Test.YtbjhccnffacbcaaGreatQ9230fe84
import Derived.Test.YtbjhccnffacbcaaGreatQc4a3fdfa
import Derived.Test.YtbjhccnffacbcaaGreatQ949f1dd9
import Derived.Test.YtbjhccnffacbcaaGreatQcb9860f8
import Derived.Test.YtbjhccnffacbcaaGreatQ0a1db9bb
import Derived.Test.YtbjhccnffacbcaaGreatQ07fd6d5c
set_option maxRecDepth 100000
set_option maxHeartbeats 8000000
namespace Go.Proofs.YtbjhccnffacbcaaGreat
open Go.Owl Go.Spec
theorem sift_ok (v:Value) (n:Nat) (l:List UInt32) (lo hi f:Nat) (T:List Nat) (w:World) (H:Owl.Own T w w [.row v 22 1 n (List.map vU32 l)]) (hn:l.length=n) (hN:n<2^61) (hf:f+hi≤n) (hlo:lo≤n) (hh:HeapA ltU32 0 (lo+1) hi f l) :
  Calls Tryz.prog 236 #[v,(vN lo),(vN hi),(vN f)] w (fun e w'=> ∃(l':List UInt32),e=.returned undef∧(Sw 0 f (f+hi) l l'∧HeapA ltU32 0 lo hi f l')∧Owl.Own T w w' [.row v 22 1 n (List.map vU32 l')]):=by
 refine enter (args:=[v,(vN lo),(vN hi),(vN f)]) Tryz.func236 rfl rfl<|ws<|wm rfl<|wa rfl<|wn<|WC.block<|WC.loop (α:=Nat × List UInt32) (fun (x,l1)=>[(0,v),(1,(vN lo)),(2,(vN hi)),(3,(vN f)),(8,(vN x))]) (fun (x,l1) w'=>(lo≤x∧(x<hi∨x=lo)∧Sw 0 f (f+hi) l l1∧HeapX ltU32 0 lo hi f x l1∧HeapG ltU32 0 lo hi f x l1)∧Owl.Own T w w' [.row v 22 1 n (List.map vU32 l1)]) (fun (x,l1)=>hi-x) (lo,l) ⟨⟨Nat.le_refl _,.inr rfl,.refl _,(sift_init hh).1,(sift_init hh).2⟩,H⟩ ⟨rfl,rfl,rfl,rfl,rfl,trivial⟩ ?_
 rintro ⟨x,l1⟩ w1 ⟨⟨hi1,hi2,hs1,hx1,hg1⟩,H1⟩
 show WC _ _ _ _ _ [(0,v),(1,(vN lo)),(2,(vN hi)),(3,(vN f)),(8,(vN x))] _
 have hL1:=hs1.len
 refine WC.block<|ws<|wm rfl<|wo (op_mulN (a:=2) rfl rfl (by omega)<|wo (op_addN (b:=1) rfl rfl (by omega)<|wa rfl<|wn<|WC.seq<|ws<|wm rfl<|wm rfl<|wo (op_geqN rfl rfl<|wn (wC (decide (((2 * x)+1)≥hi)) (fun hb2=>?_) (fun hb2=>?_)))))
 ·
  have hc2:=dT hb2
  exact WC.exit<|WQ.thenExit<|WQ.inPass rfl<|WQ.thenExit<|WQ.inHere<|WQ.outEnd .nil (⟨_,rfl,⟨hs1,sift_leaf hx1 (by omega)⟩,H1⟩)
 ·
  have hc2:=dF hb2
  refine WC.skip<|WQ.next<|WC.seq<|WC.seq (wB (decide ((((2 * x)+1)+1)<hi)) (fun hb3=>?_) (fun hb3=>?_))
  ·
   have hc3:=dT hb3
   refine WC.draw 20 Fa.M H1 (mh rfl<|oh (fun w1 H1=>op_addN (b:=1) rfl rfl (by omega) zr)<|mh rfl<|oh (fun w1 H1=>op_lssN rfl rfl zr)<|mh rfl<|yh hb3 (fun w1 H1=>op_move rfl zr)<|yh hb3 (fun w1 H1=>op_move rfl zr)<|yh hb3 (fun w1 H1=>op_move rfl zr)<|yh hb3 (fun w1 H1=>op_addN rfl rfl (by omega) zr)<|yh hb3 (fun w1 H1=>op_indexAddr1 Tryz.underlying73 Fa.I22 rfl (H1.arrR (i:=0) rfl) rfl (by omega) zr)<|yh hb3 (fun w1 H1=>op_load rfl ((H1.arrR (i:=0) rfl).at (get_map vU32 0 (Arr.ltM (H1.arrR (i:=0) rfl) (by omega)))) Tryz.underlying22 rfl zr)<|yh hb3 (fun w1 H1=>op_move rfl zr)<|yh hb3 (fun w1 H1=>op_move rfl zr)<|yh hb3 (fun w1 H1=>op_move rfl zr)<|yh hb3 (fun w1 H1=>op_addN rfl rfl (by omega) zr)<|yh hb3 (fun w1 H1=>op_addN (b:=1) rfl rfl (by omega) zr)<|yh hb3 (fun w1 H1=>op_indexAddr1 Tryz.underlying73 Fa.I22 rfl (H1.arrR (i:=0) rfl) rfl (by omega) zr)<|yh hb3 (fun w1 H1=>op_load rfl ((H1.arrR (i:=0) rfl).at (get_map vU32 0 (Arr.ltM (H1.arrR (i:=0) rfl) (by omega)))) Tryz.underlying22 rfl zr)<|yh hb3 (fun w1 H1=>op_callF Fa.C217 rfl ((less_ok (l1.getD (f+((2 * x)+1)) 0) (l1.getD ((f+((2 * x)+1))+1) 0) _).mono (fun e w2 hq=>⟨_,hq.1,rfl,hq.2⟩)))<|oh (fun w1 H1=>op_pickT rfl hb3 rfl zr)  HW.nil) (by kernel_rfl) ?_
   intro β5 w5 H5
   refine wn (wC (ltU32 (l1.getD (f+((2 * x)+1)) 0) (l1.getD ((f+((2 * x)+1))+1) 0)) (fun hb6=>?_) (fun hb6=>?_))
   ·
    refine WC.region<|wm rfl<|wo (op_addN (b:=1) rfl rfl (by omega)<|wa rfl<|wn<|WC.seq<|WC.seq<|WC.draw 14 Fa.M H5 (mh rfl<|mh rfl<|mh rfl<|oh (fun w1 H1=>op_addN rfl rfl (by omega) zr)<|oh (fun w1 H1=>op_indexAddr1 Tryz.underlying73 Fa.I22 rfl (H1.arrR (i:=0) rfl) rfl (by omega) zr)<|oh (fun w1 H1=>op_load rfl ((H1.arrR (i:=0) rfl).at (get_map vU32 0 (Arr.ltM (H1.arrR (i:=0) rfl) (by omega)))) Tryz.underlying22 rfl zr)<|mh rfl<|mh rfl<|mh rfl<|oh (fun w1 H1=>op_addN rfl rfl (by omega) zr)<|oh (fun w1 H1=>op_indexAddr1 Tryz.underlying73 Fa.I22 rfl (H1.arrR (i:=0) rfl) rfl (by omega) zr)<|oh (fun w1 H1=>op_load rfl ((H1.arrR (i:=0) rfl).at (get_map vU32 0 (Arr.ltM (H1.arrR (i:=0) rfl) (by omega)))) Tryz.underlying22 rfl zr)<|oh (fun w1 H1=>op_callF Fa.C217 rfl ((less_ok (l1.getD (f+x) 0) (l1.getD (f+(((2 * x)+1)+1)) 0) _).mono (fun e w2 hq=>⟨_,hq.1,rfl,hq.2⟩)))<|oh (fun w1 H1=>op_not rfl zr)  HW.nil) (by kernel_rfl) ?_)
    intro β8 w8 H8
    refine wn (wC (!(ltU32 (l1.getD (f+x) 0) (l1.getD (f+(((2 * x)+1)+1)) 0))) (fun hb9=>?_) (fun hb9=>?_))
    ·
     have hn9:=(Bool.not_eq_true' _).mp hb9
     exact WC.ret<|WQ.thenRet<|WQ.inRet<|WQ.thenRet<|WQ.inRet<|WQ.out .nil (⟨_,rfl,⟨hs1,sift_stop ltU32OK hx1 (och_2 ltU32OK (by omega) hb6) hn9⟩,H8⟩)
    ·
     have hn9:=(Bool.not_eq_false' _).mp hb9
     refine WC.skip<|WQ.next<|WC.seq<|WC.held 24 rfl Fa.M H8 (fun w'=> ∃L',Owl.Own T w w' ([]++L')) ?_
     intro w10 H10
     refine xt 0 rfl v H10 (fun _ _ HX=>op_move rfl ⟨rfl,rfl⟩)<|xt 1 rfl (vN f) H10 (fun _ _ HX=>op_move rfl ⟨rfl,rfl⟩)<|xt 2 rfl (vN x) H10 (fun _ _ HX=>op_move rfl ⟨rfl,rfl⟩)<|xt 3 rfl (vN (f+x)) H10 (fun _ _ HX=>op_addN rfl rfl (by omega) ⟨rfl,rfl⟩)<|xt 4 rfl v H10 (fun _ _ HX=>op_move rfl ⟨rfl,rfl⟩)<|xt 5 rfl (vN f) H10 (fun _ _ HX=>op_move rfl ⟨rfl,rfl⟩)<|xt 6 rfl (vN (((2 * x)+1)+1)) H10 (fun _ _ HX=>op_move rfl ⟨rfl,rfl⟩)<|xt 7 rfl (vN (f+(((2 * x)+1)+1))) H10 (fun _ _ HX=>op_addN rfl rfl (by omega) ⟨rfl,rfl⟩)<|xt 8 rfl v H10 (fun _ _ HX=>op_move rfl ⟨rfl,rfl⟩)<|xt 9 rfl (vN f) H10 (fun _ _ HX=>op_move rfl ⟨rfl,rfl⟩)<|xt 10 rfl (vN (((2 * x)+1)+1)) H10 (fun _ _ HX=>op_move rfl ⟨rfl,rfl⟩)<|xt 11 rfl (vN (f+(((2 * x)+1)+1))) H10 (fun _ _ HX=>op_addN rfl rfl (by omega) ⟨rfl,rfl⟩)<|xt 12 rfl (.pointer (some (sp v (f+(((2 * x)+1)+1))))) H10 (fun _ _ HX=>op_indexAddr1W Tryz.underlying73 Fa.I22 rfl (H10.arrR (i:=0) rfl) rfl (by omega) ⟨rfl,rfl⟩)<|xt 14 rfl v H10 (fun _ _ HX=>op_move rfl ⟨rfl,rfl⟩)<|xt 15 rfl (vN f) H10 (fun _ _ HX=>op_move rfl ⟨rfl,rfl⟩)<|xt 16 rfl (vN x) H10 (fun _ _ HX=>op_move rfl ⟨rfl,rfl⟩)<|xt 17 rfl (vN (f+x)) H10 (fun _ _ HX=>op_addN rfl rfl (by omega) ⟨rfl,rfl⟩)<|xt 18 rfl (.pointer (some (sp v (f+x)))) H10 (fun _ _ HX=>op_indexAddr1W Tryz.underlying73 Fa.I22 rfl (H10.arrR (i:=0) rfl) rfl (by omega) ⟨rfl,rfl⟩)<|WH.named (fun W hW=>?_)
     let e6:List (Nat × Value)→List (Nat × Value):=fun r=>(0,v)::(1,(vN lo))::(2,(vN hi))::(3,(vN f))::(8,(vN x))::(9,(vN (((2 * x)+1)+1)))::(11,(vN x))::(12,(vN (2 * x)))::(13,(vN ((2 * x)+1)))::(14,(vN ((2 * x)+1)))::(15,(vN hi))::(16,(.bool (decide (((2 * x)+1)≥hi))))::(17,(vN ((2 * x)+1)))::(18,(vN (((2 * x)+1)+1)))::(19,(vN hi))::(20,(.bool (decide ((((2 * x)+1)+1)<hi))))::(21,(.bool (decide ((((2 * x)+1)+1)<hi))))::(22,v)::(23,(vN f))::(24,(vN ((2 * x)+1)))::(25,(vN (f+((2 * x)+1))))::(26,(.pointer (some (sp v (f+((2 * x)+1))))))::(27,(vU32 (l1.getD (f+((2 * x)+1)) 0)))::(28,v)::(29,(vN f))::(30,(vN ((2 * x)+1)))::(31,(vN (f+((2 * x)+1))))::(32,(vN ((f+((2 * x)+1))+1)))::(33,(.pointer (some (sp v ((f+((2 * x)+1))+1)))))::(34,(vU32 (l1.getD ((f+((2 * x)+1))+1) 0)))::(35,(.bool (ltU32 (l1.getD (f+((2 * x)+1)) 0) (l1.getD ((f+((2 * x)+1))+1) 0))))::(36,(.bool (ltU32 (l1.getD (f+((2 * x)+1)) 0) (l1.getD ((f+((2 * x)+1))+1) 0))))::(37,(vN ((2 * x)+1)))::(38,(vN (((2 * x)+1)+1)))::(39,v)::(40,(vN f))::(41,(vN x))::(42,(vN (f+x)))::(43,(.pointer (some (sp v (f+x)))))::(44,(vU32 (l1.getD (f+x) 0)))::(45,v)::(46,(vN f))::(47,(vN (((2 * x)+1)+1)))::(48,(vN (f+(((2 * x)+1)+1))))::(49,(.pointer (some (sp v (f+(((2 * x)+1)+1))))))::(50,(vU32 (l1.getD (f+(((2 * x)+1)+1)) 0)))::(51,(.bool (ltU32 (l1.getD (f+x) 0) (l1.getD (f+(((2 * x)+1)+1)) 0))))::(52,(.bool (!(ltU32 (l1.getD (f+x) 0) (l1.getD (f+(((2 * x)+1)+1)) 0)))))::r
     let a6_0:Ent:=.row v 22 1 n (List.map vU32 l1)
     have st6_5: ∀(wS:World),Owl.Own T w wS [.row v 22 1 n (List.map vU32 ((l1.set (f+x) (l1.getD (f+(((2 * x)+1)+1)) 0)).set (f+(((2 * x)+1)+1)) (l1.getD (f+x) 0)))]→W 0 (bz 24 16777215) (e6 []) wS:=by
      intro wS HS
      rw [hW]
      refine WH.done (by kernel_rfl)<|WQ.next<|WC.region<|wm rfl<|wa rfl<|WL.nil<|WQ.inNormal ?_
      have hst:=sift_step ltU32OK (by omega) hx1 hg1 (och_2 ltU32OK (by omega) hb6) (by omega) hn9
      exact WQ.round ((2 * x+1+1),swapL 0 l1 (f+x) (f+(2 * x+1+1))) ⟨⟨by omega,.inl (by omega),hs1.step (by omega) (by omega) (by omega) (by omega),hst.1,hst.2⟩,HS⟩ ⟨rfl,rfl,rfl,rfl,rfl,trivial⟩ (by show hi-(2 * x+1+1)<hi-x; omega)
     have st6_4: ∀(wS:World),Owl.Own T w wS [.row v 22 1 n (List.map vU32 (l1.set (f+x) (l1.getD (f+(((2 * x)+1)+1)) 0)))]→W 1 (bz 24 8388607) (e6 [(72,(vU32 (l1.getD (f+x) 0))),(74,(.pointer (some (sp v (f+(((2 * x)+1)+1))))))]) wS:=by
      intro wS HS
      rw [hW]
      refine wh1 23 ?_
      ·
       refine kH 23 rfl (op_storeRM (i:=0) (f:=vU32) (l:=(l1.set (f+x) (l1.getD (f+(((2 * x)+1)+1)) 0))) (c:=(l1.getD (f+x) 0)) HS rfl rfl rfl (by omega) rfl Fa.I22 (fun w21461 H21461=>(⟨⟨_,H21461⟩,?_⟩)))
       exact WH.cw hW (st6_5 w21461 H21461)
     have st6_3: ∀(wS:World),Owl.Own T w wS [a6_0]→W 3 (bz 24 2097151) (e6 [(57,v),(60,(vN (f+(((2 * x)+1)+1)))),(66,(vU32 (l1.getD (f+(((2 * x)+1)+1)) 0))),(72,(vU32 (l1.getD (f+x) 0))),(73,(.pointer (some (sp v (f+x)))))]) wS:=by
      intro wS HS
      rw [hW]
      refine wh1 21 ?_
      ·
       refine kH 21 rfl (op_storeRM (i:=0) (f:=vU32) (l:=l1) (c:=(l1.getD (f+(((2 * x)+1)+1)) 0)) HS rfl rfl rfl (by omega) rfl Fa.I22 (fun w21421 H21421=>(⟨⟨_,H21421⟩,?_⟩)))
       exact xt 22 rfl (.pointer (some (sp v (f+(((2 * x)+1)+1))))) H21421 (fun _ _ HX=>op_indexAddr1W Tryz.underlying73 Fa.I22 rfl (H21421.arrR (i:=0) rfl) rfl (by omega) ⟨rfl,rfl⟩)<|WH.cw hW (st6_4 w21421 H21421)
     have st6_1: ∀(wS:World),Owl.Own T w wS [a6_0]→W 5 (bz 24 524287) (e6 [(53,v),(56,(vN (f+x))),(57,v),(60,(vN (f+(((2 * x)+1)+1)))),(66,(vU32 (l1.getD (f+(((2 * x)+1)+1)) 0))),(71,(.pointer (some (sp v (f+x)))))]) wS:=by
      intro wS HS
      rw [hW]
      refine wh1 19 ?_
      ·
       refine kH 19 rfl (op_load rfl ((HS.arrR (i:=0) rfl).at (get_map vU32 0 (Arr.ltM (HS.arrR (i:=0) rfl) (by omega)))) Tryz.underlying22 rfl (⟨⟨_,HS⟩,?_⟩))
       exact xt 20 rfl (.pointer (some (sp v (f+x)))) HS (fun _ _ HX=>op_indexAddr1W Tryz.underlying73 Fa.I22 rfl (HS.arrR (i:=0) rfl) rfl (by omega) ⟨rfl,rfl⟩)<|WH.cw hW (st6_3 wS HS)
     have st6_2: ∀(wS:World),Owl.Own T w wS [a6_0]→W 5 (bz 24 1040383) (e6 [(53,v),(56,(vN (f+x))),(57,v),(60,(vN (f+(((2 * x)+1)+1)))),(65,(.pointer (some (sp v (f+(((2 * x)+1)+1)))))),(72,(vU32 (l1.getD (f+x) 0)))]) wS:=by
      intro wS HS
      rw [hW]
      refine wh1 13 ?_
      ·
       refine kH 13 rfl (op_load rfl ((HS.arrR (i:=0) rfl).at (get_map vU32 0 (Arr.ltM (HS.arrR (i:=0) rfl) (by omega)))) Tryz.underlying22 rfl (⟨⟨_,HS⟩,?_⟩))
       exact xt 20 rfl (.pointer (some (sp v (f+x)))) HS (fun _ _ HX=>op_indexAddr1W Tryz.underlying73 Fa.I22 rfl (HS.arrR (i:=0) rfl) rfl (by omega) ⟨rfl,rfl⟩)<|WH.cw hW (st6_3 wS HS)
     have st6_0: ∀(wS:World),Owl.Own T w wS [a6_0]→W 6 (bz 24 516095) (e6 [(53,v),(56,(vN (f+x))),(57,v),(60,(vN (f+(((2 * x)+1)+1)))),(65,(.pointer (some (sp v (f+(((2 * x)+1)+1)))))),(71,(.pointer (some (sp v (f+x)))))]) wS:=by
      intro wS HS
      rw [hW]
      refine wh2 13 19 ?_ ?_
      ·
       refine kH 13 rfl (op_load rfl ((HS.arrR (i:=0) rfl).at (get_map vU32 0 (Arr.ltM (HS.arrR (i:=0) rfl) (by omega)))) Tryz.underlying22 rfl (⟨⟨_,HS⟩,?_⟩))
       exact WH.cw hW (st6_1 wS HS)
      ·
       refine kH 19 rfl (op_load rfl ((HS.arrR (i:=0) rfl).at (get_map vU32 0 (Arr.ltM (HS.arrR (i:=0) rfl) (by omega)))) Tryz.underlying22 rfl (⟨⟨_,HS⟩,?_⟩))
       exact WH.cw hW (st6_2 wS HS)
     have hq:=st6_0 w10 H10
     rw [hW] at hq ⊢
     exact WH.cv hq
   ·
    refine WC.skip<|WQ.next<|WC.seq<|WC.seq<|WC.draw 14 Fa.M H5 (mh rfl<|mh rfl<|mh rfl<|oh (fun w1 H1=>op_addN rfl rfl (by omega) zr)<|oh (fun w1 H1=>op_indexAddr1 Tryz.underlying73 Fa.I22 rfl (H1.arrR (i:=0) rfl) rfl (by omega) zr)<|oh (fun w1 H1=>op_load rfl ((H1.arrR (i:=0) rfl).at (get_map vU32 0 (Arr.ltM (H1.arrR (i:=0) rfl) (by omega)))) Tryz.underlying22 rfl zr)<|mh rfl<|mh rfl<|mh rfl<|oh (fun w1 H1=>op_addN rfl rfl (by omega) zr)<|oh (fun w1 H1=>op_indexAddr1 Tryz.underlying73 Fa.I22 rfl (H1.arrR (i:=0) rfl) rfl (by omega) zr)<|oh (fun w1 H1=>op_load rfl ((H1.arrR (i:=0) rfl).at (get_map vU32 0 (Arr.ltM (H1.arrR (i:=0) rfl) (by omega)))) Tryz.underlying22 rfl zr)<|oh (fun w1 H1=>op_callF Fa.C217 rfl ((less_ok (l1.getD (f+x) 0) (l1.getD (f+((2 * x)+1)) 0) _).mono (fun e w2 hq=>⟨_,hq.1,rfl,hq.2⟩)))<|oh (fun w1 H1=>op_not rfl zr)  HW.nil) (by kernel_rfl) ?_
    intro β13 w13 H13
    refine wn (wC (!(ltU32 (l1.getD (f+x) 0) (l1.getD (f+((2 * x)+1)) 0))) (fun hb14=>?_) (fun hb14=>?_))
    ·
     have hn14:=(Bool.not_eq_true' _).mp hb14
     exact WC.ret<|WQ.thenRet<|WQ.inRet<|WQ.thenRet<|WQ.inRet<|WQ.out .nil (⟨_,rfl,⟨hs1,sift_stop ltU32OK hx1 (och_1 ltU32OK (by omega) (.inr hb6)) hn14⟩,H13⟩)
    ·
     have hn14:=(Bool.not_eq_false' _).mp hb14
     refine WC.skip<|WQ.next<|WC.seq<|WC.held 24 rfl Fa.M H13 (fun w'=> ∃L',Owl.Own T w w' ([]++L')) ?_
     intro w15 H15
     refine xt 0 rfl v H15 (fun _ _ HX=>op_move rfl ⟨rfl,rfl⟩)<|xt 1 rfl (vN f) H15 (fun _ _ HX=>op_move rfl ⟨rfl,rfl⟩)<|xt 2 rfl (vN x) H15 (fun _ _ HX=>op_move rfl ⟨rfl,rfl⟩)<|xt 3 rfl (vN (f+x)) H15 (fun _ _ HX=>op_addN rfl rfl (by omega) ⟨rfl,rfl⟩)<|xt 4 rfl v H15 (fun _ _ HX=>op_move rfl ⟨rfl,rfl⟩)<|xt 5 rfl (vN f) H15 (fun _ _ HX=>op_move rfl ⟨rfl,rfl⟩)<|xt 6 rfl (vN ((2 * x)+1)) H15 (fun _ _ HX=>op_move rfl ⟨rfl,rfl⟩)<|xt 7 rfl (vN (f+((2 * x)+1))) H15 (fun _ _ HX=>op_addN rfl rfl (by omega) ⟨rfl,rfl⟩)<|xt 8 rfl v H15 (fun _ _ HX=>op_move rfl ⟨rfl,rfl⟩)<|xt 9 rfl (vN f) H15 (fun _ _ HX=>op_move rfl ⟨rfl,rfl⟩)<|xt 10 rfl (vN ((2 * x)+1)) H15 (fun _ _ HX=>op_move rfl ⟨rfl,rfl⟩)<|xt 11 rfl (vN (f+((2 * x)+1))) H15 (fun _ _ HX=>op_addN rfl rfl (by omega) ⟨rfl,rfl⟩)<|xt 12 rfl (.pointer (some (sp v (f+((2 * x)+1))))) H15 (fun _ _ HX=>op_indexAddr1W Tryz.underlying73 Fa.I22 rfl (H15.arrR (i:=0) rfl) rfl (by omega) ⟨rfl,rfl⟩)<|xt 14 rfl v H15 (fun _ _ HX=>op_move rfl ⟨rfl,rfl⟩)<|xt 15 rfl (vN f) H15 (fun _ _ HX=>op_move rfl ⟨rfl,rfl⟩)<|xt 16 rfl (vN x) H15 (fun _ _ HX=>op_move rfl ⟨rfl,rfl⟩)<|xt 17 rfl (vN (f+x)) H15 (fun _ _ HX=>op_addN rfl rfl (by omega) ⟨rfl,rfl⟩)<|xt 18 rfl (.pointer (some (sp v (f+x)))) H15 (fun _ _ HX=>op_indexAddr1W Tryz.underlying73 Fa.I22 rfl (H15.arrR (i:=0) rfl) rfl (by omega) ⟨rfl,rfl⟩)<|WH.named (fun W hW=>?_)
     let e6:List (Nat × Value)→List (Nat × Value):=fun r=>(0,v)::(1,(vN lo))::(2,(vN hi))::(3,(vN f))::(8,(vN x))::(9,(vN ((2 * x)+1)))::(11,(vN x))::(12,(vN (2 * x)))::(13,(vN ((2 * x)+1)))::(14,(vN ((2 * x)+1)))::(15,(vN hi))::(16,(.bool (decide (((2 * x)+1)≥hi))))::(17,(vN ((2 * x)+1)))::(18,(vN (((2 * x)+1)+1)))::(19,(vN hi))::(20,(.bool (decide ((((2 * x)+1)+1)<hi))))::(21,(.bool (decide ((((2 * x)+1)+1)<hi))))::(22,v)::(23,(vN f))::(24,(vN ((2 * x)+1)))::(25,(vN (f+((2 * x)+1))))::(26,(.pointer (some (sp v (f+((2 * x)+1))))))::(27,(vU32 (l1.getD (f+((2 * x)+1)) 0)))::(28,v)::(29,(vN f))::(30,(vN ((2 * x)+1)))::(31,(vN (f+((2 * x)+1))))::(32,(vN ((f+((2 * x)+1))+1)))::(33,(.pointer (some (sp v ((f+((2 * x)+1))+1)))))::(34,(vU32 (l1.getD ((f+((2 * x)+1))+1) 0)))::(35,(.bool (ltU32 (l1.getD (f+((2 * x)+1)) 0) (l1.getD ((f+((2 * x)+1))+1) 0))))::(36,(.bool (ltU32 (l1.getD (f+((2 * x)+1)) 0) (l1.getD ((f+((2 * x)+1))+1) 0))))::(39,v)::(40,(vN f))::(41,(vN x))::(42,(vN (f+x)))::(43,(.pointer (some (sp v (f+x)))))::(44,(vU32 (l1.getD (f+x) 0)))::(45,v)::(46,(vN f))::(47,(vN ((2 * x)+1)))::(48,(vN (f+((2 * x)+1))))::(49,(.pointer (some (sp v (f+((2 * x)+1))))))::(50,(vU32 (l1.getD (f+((2 * x)+1)) 0)))::(51,(.bool (ltU32 (l1.getD (f+x) 0) (l1.getD (f+((2 * x)+1)) 0))))::(52,(.bool (!(ltU32 (l1.getD (f+x) 0) (l1.getD (f+((2 * x)+1)) 0)))))::r
     let a6_0:Ent:=.row v 22 1 n (List.map vU32 l1)
     have st6_5: ∀(wS:World),Owl.Own T w wS [.row v 22 1 n (List.map vU32 ((l1.set (f+x) (l1.getD (f+((2 * x)+1)) 0)).set (f+((2 * x)+1)) (l1.getD (f+x) 0)))]→W 0 (bz 24 16777215) (e6 []) wS:=by
      intro wS HS
      rw [hW]
      refine WH.done (by kernel_rfl)<|WQ.next<|WC.region<|wm rfl<|wa rfl<|WL.nil<|WQ.inNormal ?_
      have hst:=sift_step ltU32OK (by omega) hx1 hg1 (och_1 ltU32OK (by omega) (.inr hb6)) (by omega) hn14
      exact WQ.round ((2 * x+1),swapL 0 l1 (f+x) (f+(2 * x+1))) ⟨⟨by omega,.inl (by omega),hs1.step (by omega) (by omega) (by omega) (by omega),hst.1,hst.2⟩,HS⟩ ⟨rfl,rfl,rfl,rfl,rfl,trivial⟩ (by show hi-(2 * x+1)<hi-x; omega)
     have st6_4: ∀(wS:World),Owl.Own T w wS [.row v 22 1 n (List.map vU32 (l1.set (f+x) (l1.getD (f+((2 * x)+1)) 0)))]→W 1 (bz 24 8388607) (e6 [(72,(vU32 (l1.getD (f+x) 0))),(74,(.pointer (some (sp v (f+((2 * x)+1))))))]) wS:=by
      intro wS HS
      rw [hW]
      refine wh1 23 ?_
      ·
       refine kH 23 rfl (op_storeRM (i:=0) (f:=vU32) (l:=(l1.set (f+x) (l1.getD (f+((2 * x)+1)) 0))) (c:=(l1.getD (f+x) 0)) HS rfl rfl rfl (by omega) rfl Fa.I22 (fun w26461 H26461=>(⟨⟨_,H26461⟩,?_⟩)))
       exact WH.cw hW (st6_5 w26461 H26461)
     have st6_3: ∀(wS:World),Owl.Own T w wS [a6_0]→W 3 (bz 24 2097151) (e6 [(57,v),(60,(vN (f+((2 * x)+1)))),(66,(vU32 (l1.getD (f+((2 * x)+1)) 0))),(72,(vU32 (l1.getD (f+x) 0))),(73,(.pointer (some (sp v (f+x)))))]) wS:=by
      intro wS HS
      rw [hW]
      refine wh1 21 ?_
      ·
       refine kH 21 rfl (op_storeRM (i:=0) (f:=vU32) (l:=l1) (c:=(l1.getD (f+((2 * x)+1)) 0)) HS rfl rfl rfl (by omega) rfl Fa.I22 (fun w26421 H26421=>(⟨⟨_,H26421⟩,?_⟩)))
       exact xt 22 rfl (.pointer (some (sp v (f+((2 * x)+1))))) H26421 (fun _ _ HX=>op_indexAddr1W Tryz.underlying73 Fa.I22 rfl (H26421.arrR (i:=0) rfl) rfl (by omega) ⟨rfl,rfl⟩)<|WH.cw hW (st6_4 w26421 H26421)
     have st6_1: ∀(wS:World),Owl.Own T w wS [a6_0]→W 5 (bz 24 524287) (e6 [(53,v),(56,(vN (f+x))),(57,v),(60,(vN (f+((2 * x)+1)))),(66,(vU32 (l1.getD (f+((2 * x)+1)) 0))),(71,(.pointer (some (sp v (f+x)))))]) wS:=by
      intro wS HS
      rw [hW]
      refine wh1 19 ?_
      ·
       refine kH 19 rfl (op_load rfl ((HS.arrR (i:=0) rfl).at (get_map vU32 0 (Arr.ltM (HS.arrR (i:=0) rfl) (by omega)))) Tryz.underlying22 rfl (⟨⟨_,HS⟩,?_⟩))
       exact xt 20 rfl (.pointer (some (sp v (f+x)))) HS (fun _ _ HX=>op_indexAddr1W Tryz.underlying73 Fa.I22 rfl (HS.arrR (i:=0) rfl) rfl (by omega) ⟨rfl,rfl⟩)<|WH.cw hW (st6_3 wS HS)
     have st6_2: ∀(wS:World),Owl.Own T w wS [a6_0]→W 5 (bz 24 1040383) (e6 [(53,v),(56,(vN (f+x))),(57,v),(60,(vN (f+((2 * x)+1)))),(65,(.pointer (some (sp v (f+((2 * x)+1)))))),(72,(vU32 (l1.getD (f+x) 0)))]) wS:=by
      intro wS HS
      rw [hW]
      refine wh1 13 ?_
      ·
       refine kH 13 rfl (op_load rfl ((HS.arrR (i:=0) rfl).at (get_map vU32 0 (Arr.ltM (HS.arrR (i:=0) rfl) (by omega)))) Tryz.underlying22 rfl (⟨⟨_,HS⟩,?_⟩))
       exact xt 20 rfl (.pointer (some (sp v (f+x)))) HS (fun _ _ HX=>op_indexAddr1W Tryz.underlying73 Fa.I22 rfl (HS.arrR (i:=0) rfl) rfl (by omega) ⟨rfl,rfl⟩)<|WH.cw hW (st6_3 wS HS)
     have st6_0: ∀(wS:World),Owl.Own T w wS [a6_0]→W 6 (bz 24 516095) (e6 [(53,v),(56,(vN (f+x))),(57,v),(60,(vN (f+((2 * x)+1)))),(65,(.pointer (some (sp v (f+((2 * x)+1)))))),(71,(.pointer (some (sp v (f+x)))))]) wS:=by
      intro wS HS
      rw [hW]
      refine wh2 13 19 ?_ ?_
      ·
       refine kH 13 rfl (op_load rfl ((HS.arrR (i:=0) rfl).at (get_map vU32 0 (Arr.ltM (HS.arrR (i:=0) rfl) (by omega)))) Tryz.underlying22 rfl (⟨⟨_,HS⟩,?_⟩))
       exact WH.cw hW (st6_1 wS HS)
      ·
       refine kH 19 rfl (op_load rfl ((HS.arrR (i:=0) rfl).at (get_map vU32 0 (Arr.ltM (HS.arrR (i:=0) rfl) (by omega)))) Tryz.underlying22 rfl (⟨⟨_,HS⟩,?_⟩))
       exact WH.cw hW (st6_2 wS HS)
     have hq:=st6_0 w15 H15
     rw [hW] at hq ⊢
     exact WH.cv hq
  ·
   have hc3:=dF hb3
   refine WC.draw 20 Fa.M H1 (mh rfl<|oh (fun w1 H1=>op_addN (b:=1) rfl rfl (by omega) zr)<|mh rfl<|oh (fun w1 H1=>op_lssN rfl rfl zr)<|mh rfl<|nh hb3<|nh hb3<|nh hb3<|nh hb3<|nh hb3<|nh hb3<|nh hb3<|nh hb3<|nh hb3<|nh hb3<|nh hb3<|nh hb3<|nh hb3<|nh hb3<|oh (fun w1 H1=>op_pickF rfl hb3 rfl zr)  HW.nil) (by kernel_rfl) ?_
   intro β17 w17 H17
   refine wn<|WC.no rfl rfl<|WC.skip<|WQ.next<|WC.seq<|WC.seq<|WC.draw 14 Fa.M H17 (mh rfl<|mh rfl<|mh rfl<|oh (fun w1 H1=>op_addN rfl rfl (by omega) zr)<|oh (fun w1 H1=>op_indexAddr1 Tryz.underlying73 Fa.I22 rfl (H1.arrR (i:=0) rfl) rfl (by omega) zr)<|oh (fun w1 H1=>op_load rfl ((H1.arrR (i:=0) rfl).at (get_map vU32 0 (Arr.ltM (H1.arrR (i:=0) rfl) (by omega)))) Tryz.underlying22 rfl zr)<|mh rfl<|mh rfl<|mh rfl<|oh (fun w1 H1=>op_addN rfl rfl (by omega) zr)<|oh (fun w1 H1=>op_indexAddr1 Tryz.underlying73 Fa.I22 rfl (H1.arrR (i:=0) rfl) rfl (by omega) zr)<|oh (fun w1 H1=>op_load rfl ((H1.arrR (i:=0) rfl).at (get_map vU32 0 (Arr.ltM (H1.arrR (i:=0) rfl) (by omega)))) Tryz.underlying22 rfl zr)<|oh (fun w1 H1=>op_callF Fa.C217 rfl ((less_ok (l1.getD (f+x) 0) (l1.getD (f+((2 * x)+1)) 0) _).mono (fun e w2 hq=>⟨_,hq.1,rfl,hq.2⟩)))<|oh (fun w1 H1=>op_not rfl zr)  HW.nil) (by kernel_rfl) ?_
   intro β19 w19 H19
   refine wn (wC (!(ltU32 (l1.getD (f+x) 0) (l1.getD (f+((2 * x)+1)) 0))) (fun hb20=>?_) (fun hb20=>?_))
   ·
    have hn20:=(Bool.not_eq_true' _).mp hb20
    exact WC.ret<|WQ.thenRet<|WQ.inRet<|WQ.thenRet<|WQ.inRet<|WQ.out .nil (⟨_,rfl,⟨hs1,sift_stop ltU32OK hx1 (och_1 ltU32OK (by omega) (.inl (by omega))) hn20⟩,H19⟩)
   ·
    have hn20:=(Bool.not_eq_false' _).mp hb20
    refine WC.skip<|WQ.next<|WC.seq<|WC.held 24 rfl Fa.M H19 (fun w'=> ∃L',Owl.Own T w w' ([]++L')) ?_
    intro w21 H21
    refine xt 0 rfl v H21 (fun _ _ HX=>op_move rfl ⟨rfl,rfl⟩)<|xt 1 rfl (vN f) H21 (fun _ _ HX=>op_move rfl ⟨rfl,rfl⟩)<|xt 2 rfl (vN x) H21 (fun _ _ HX=>op_move rfl ⟨rfl,rfl⟩)<|xt 3 rfl (vN (f+x)) H21 (fun _ _ HX=>op_addN rfl rfl (by omega) ⟨rfl,rfl⟩)<|xt 4 rfl v H21 (fun _ _ HX=>op_move rfl ⟨rfl,rfl⟩)<|xt 5 rfl (vN f) H21 (fun _ _ HX=>op_move rfl ⟨rfl,rfl⟩)<|xt 6 rfl (vN ((2 * x)+1)) H21 (fun _ _ HX=>op_move rfl ⟨rfl,rfl⟩)<|xt 7 rfl (vN (f+((2 * x)+1))) H21 (fun _ _ HX=>op_addN rfl rfl (by omega) ⟨rfl,rfl⟩)<|xt 8 rfl v H21 (fun _ _ HX=>op_move rfl ⟨rfl,rfl⟩)<|xt 9 rfl (vN f) H21 (fun _ _ HX=>op_move rfl ⟨rfl,rfl⟩)<|xt 10 rfl (vN ((2 * x)+1)) H21 (fun _ _ HX=>op_move rfl ⟨rfl,rfl⟩)<|xt 11 rfl (vN (f+((2 * x)+1))) H21 (fun _ _ HX=>op_addN rfl rfl (by omega) ⟨rfl,rfl⟩)<|xt 12 rfl (.pointer (some (sp v (f+((2 * x)+1))))) H21 (fun _ _ HX=>op_indexAddr1W Tryz.underlying73 Fa.I22 rfl (H21.arrR (i:=0) rfl) rfl (by omega) ⟨rfl,rfl⟩)<|xt 14 rfl v H21 (fun _ _ HX=>op_move rfl ⟨rfl,rfl⟩)<|xt 15 rfl (vN f) H21 (fun _ _ HX=>op_move rfl ⟨rfl,rfl⟩)<|xt 16 rfl (vN x) H21 (fun _ _ HX=>op_move rfl ⟨rfl,rfl⟩)<|xt 17 rfl (vN (f+x)) H21 (fun _ _ HX=>op_addN rfl rfl (by omega) ⟨rfl,rfl⟩)<|xt 18 rfl (.pointer (some (sp v (f+x)))) H21 (fun _ _ HX=>op_indexAddr1W Tryz.underlying73 Fa.I22 rfl (H21.arrR (i:=0) rfl) rfl (by omega) ⟨rfl,rfl⟩)<|WH.named (fun W hW=>?_)
    let e6:List (Nat × Value)→List (Nat × Value):=fun r=>(0,v)::(1,(vN lo))::(2,(vN hi))::(3,(vN f))::(8,(vN x))::(9,(vN ((2 * x)+1)))::(11,(vN x))::(12,(vN (2 * x)))::(13,(vN ((2 * x)+1)))::(14,(vN ((2 * x)+1)))::(15,(vN hi))::(16,(.bool (decide (((2 * x)+1)≥hi))))::(17,(vN ((2 * x)+1)))::(18,(vN (((2 * x)+1)+1)))::(19,(vN hi))::(20,(.bool (decide ((((2 * x)+1)+1)<hi))))::(21,(.bool (decide ((((2 * x)+1)+1)<hi))))::(22,undef)::(23,undef)::(24,undef)::(25,undef)::(26,undef)::(27,undef)::(28,undef)::(29,undef)::(30,undef)::(31,undef)::(32,undef)::(33,undef)::(34,undef)::(35,undef)::(36,(.bool false))::(39,v)::(40,(vN f))::(41,(vN x))::(42,(vN (f+x)))::(43,(.pointer (some (sp v (f+x)))))::(44,(vU32 (l1.getD (f+x) 0)))::(45,v)::(46,(vN f))::(47,(vN ((2 * x)+1)))::(48,(vN (f+((2 * x)+1))))::(49,(.pointer (some (sp v (f+((2 * x)+1))))))::(50,(vU32 (l1.getD (f+((2 * x)+1)) 0)))::(51,(.bool (ltU32 (l1.getD (f+x) 0) (l1.getD (f+((2 * x)+1)) 0))))::(52,(.bool (!(ltU32 (l1.getD (f+x) 0) (l1.getD (f+((2 * x)+1)) 0)))))::r
    let a6_0:Ent:=.row v 22 1 n (List.map vU32 l1)
    have st6_5: ∀(wS:World),Owl.Own T w wS [.row v 22 1 n (List.map vU32 ((l1.set (f+x) (l1.getD (f+((2 * x)+1)) 0)).set (f+((2 * x)+1)) (l1.getD (f+x) 0)))]→W 0 (bz 24 16777215) (e6 []) wS:=by
     intro wS HS
     rw [hW]
     refine WH.done (by kernel_rfl)<|WQ.next<|WC.region<|wm rfl<|wa rfl<|WL.nil<|WQ.inNormal ?_
     have hst:=sift_step ltU32OK (by omega) hx1 hg1 (och_1 ltU32OK (by omega) (.inl (by omega))) (by omega) hn20
     exact WQ.round ((2 * x+1),swapL 0 l1 (f+x) (f+(2 * x+1))) ⟨⟨by omega,.inl (by omega),hs1.step (by omega) (by omega) (by omega) (by omega),hst.1,hst.2⟩,HS⟩ ⟨rfl,rfl,rfl,rfl,rfl,trivial⟩ (by show hi-(2 * x+1)<hi-x; omega)
    have st6_4: ∀(wS:World),Owl.Own T w wS [.row v 22 1 n (List.map vU32 (l1.set (f+x) (l1.getD (f+((2 * x)+1)) 0)))]→W 1 (bz 24 8388607) (e6 [(72,(vU32 (l1.getD (f+x) 0))),(74,(.pointer (some (sp v (f+((2 * x)+1))))))]) wS:=by
     intro wS HS
     rw [hW]
     refine wh1 23 ?_
     ·
      refine kH 23 rfl (op_storeRM (i:=0) (f:=vU32) (l:=(l1.set (f+x) (l1.getD (f+((2 * x)+1)) 0))) (c:=(l1.getD (f+x) 0)) HS rfl rfl rfl (by omega) rfl Fa.I22 (fun w32461 H32461=>(⟨⟨_,H32461⟩,?_⟩)))
      exact WH.cw hW (st6_5 w32461 H32461)
    have st6_3: ∀(wS:World),Owl.Own T w wS [a6_0]→W 3 (bz 24 2097151) (e6 [(57,v),(60,(vN (f+((2 * x)+1)))),(66,(vU32 (l1.getD (f+((2 * x)+1)) 0))),(72,(vU32 (l1.getD (f+x) 0))),(73,(.pointer (some (sp v (f+x)))))]) wS:=by
     intro wS HS
     rw [hW]
     refine wh1 21 ?_
     ·
      refine kH 21 rfl (op_storeRM (i:=0) (f:=vU32) (l:=l1) (c:=(l1.getD (f+((2 * x)+1)) 0)) HS rfl rfl rfl (by omega) rfl Fa.I22 (fun w32421 H32421=>(⟨⟨_,H32421⟩,?_⟩)))
      exact xt 22 rfl (.pointer (some (sp v (f+((2 * x)+1))))) H32421 (fun _ _ HX=>op_indexAddr1W Tryz.underlying73 Fa.I22 rfl (H32421.arrR (i:=0) rfl) rfl (by omega) ⟨rfl,rfl⟩)<|WH.cw hW (st6_4 w32421 H32421)
    have st6_1: ∀(wS:World),Owl.Own T w wS [a6_0]→W 5 (bz 24 524287) (e6 [(53,v),(56,(vN (f+x))),(57,v),(60,(vN (f+((2 * x)+1)))),(66,(vU32 (l1.getD (f+((2 * x)+1)) 0))),(71,(.pointer (some (sp v (f+x)))))]) wS:=by
     intro wS HS
     rw [hW]
     refine wh1 19 ?_
     ·
      refine kH 19 rfl (op_load rfl ((HS.arrR (i:=0) rfl).at (get_map vU32 0 (Arr.ltM (HS.arrR (i:=0) rfl) (by omega)))) Tryz.underlying22 rfl (⟨⟨_,HS⟩,?_⟩))
      exact xt 20 rfl (.pointer (some (sp v (f+x)))) HS (fun _ _ HX=>op_indexAddr1W Tryz.underlying73 Fa.I22 rfl (HS.arrR (i:=0) rfl) rfl (by omega) ⟨rfl,rfl⟩)<|WH.cw hW (st6_3 wS HS)
    have st6_2: ∀(wS:World),Owl.Own T w wS [a6_0]→W 5 (bz 24 1040383) (e6 [(53,v),(56,(vN (f+x))),(57,v),(60,(vN (f+((2 * x)+1)))),(65,(.pointer (some (sp v (f+((2 * x)+1)))))),(72,(vU32 (l1.getD (f+x) 0)))]) wS:=by
     intro wS HS
     rw [hW]
     refine wh1 13 ?_
     ·
      refine kH 13 rfl (op_load rfl ((HS.arrR (i:=0) rfl).at (get_map vU32 0 (Arr.ltM (HS.arrR (i:=0) rfl) (by omega)))) Tryz.underlying22 rfl (⟨⟨_,HS⟩,?_⟩))
      exact xt 20 rfl (.pointer (some (sp v (f+x)))) HS (fun _ _ HX=>op_indexAddr1W Tryz.underlying73 Fa.I22 rfl (HS.arrR (i:=0) rfl) rfl (by omega) ⟨rfl,rfl⟩)<|WH.cw hW (st6_3 wS HS)
    have st6_0: ∀(wS:World),Owl.Own T w wS [a6_0]→W 6 (bz 24 516095) (e6 [(53,v),(56,(vN (f+x))),(57,v),(60,(vN (f+((2 * x)+1)))),(65,(.pointer (some (sp v (f+((2 * x)+1)))))),(71,(.pointer (some (sp v (f+x)))))]) wS:=by
     intro wS HS
     rw [hW]
     refine wh2 13 19 ?_ ?_
     ·
      refine kH 13 rfl (op_load rfl ((HS.arrR (i:=0) rfl).at (get_map vU32 0 (Arr.ltM (HS.arrR (i:=0) rfl) (by omega)))) Tryz.underlying22 rfl (⟨⟨_,HS⟩,?_⟩))
      exact WH.cw hW (st6_1 wS HS)
     ·
      refine kH 19 rfl (op_load rfl ((HS.arrR (i:=0) rfl).at (get_map vU32 0 (Arr.ltM (HS.arrR (i:=0) rfl) (by omega)))) Tryz.underlying22 rfl (⟨⟨_,HS⟩,?_⟩))
      exact WH.cw hW (st6_2 wS HS)
    have hq:=st6_0 w21 H21
    rw [hW] at hq ⊢
    exact WH.cv hq
theorem heap_ok (v:Value) (n:Nat) (l:List UInt32) (a b:Nat) (T:List Nat) (w:World) (H:Owl.Own T w w [.row v 22 1 n (List.map vU32 l)]) (hn:l.length=n) (hN:n<2^61) (hab:a<b) (hb:b≤n) :
  Calls Tryz.prog 212 #[v,(vN a),(vN b)] w (fun e w'=> ∃(l':List UInt32),e=.returned undef∧(Sw 0 a b l l'∧SortS ltU32 0 a b l')∧Owl.Own T w w' [.row v 22 1 n (List.map vU32 l')]):=by
 refine enter (args:=[v,(vN a),(vN b)]) Tryz.func212 rfl rfl<|ws<|wm rfl<|wa rfl<|wn<|ws<|wa rfl<|wn<|ws<|wm rfl<|wm rfl<|wo (op_subN rfl rfl (by omega) (by omega)<|wa rfl<|wn<|WC.seq<|ws<|wm rfl<|wo (op_subN (b:=1) rfl rfl (by omega) (by omega)<|wo (op_quoN (b:=2) rfl rfl (by omega) (by omega)<|wa rfl<|wn<|WC.block<|WC.loop (α:=Nat × List UInt32) (fun (k,l1)=>[(0,v),(1,(vN a)),(2,(vN b)),(6,(vN a)),(7,(vN 0)),(8,(vN (b-a))),(9,(vI ((k:Int)-(1:Int))))]) (fun (k,l1) w'=>(k≤(b-a-1) / 2+1∧Sw 0 a b l l1∧HeapA ltU32 0 k (b-a) a l1)∧Owl.Own T w w' [.row v 22 1 n (List.map vU32 l1)]) (fun (k,l1)=>k) ((b-a-1) / 2+1,l) ⟨⟨Nat.le_refl _,.refl _,fun r c q1 q2 q3=>by omega⟩,H⟩ ⟨rfl,rfl,rfl,rfl,rfl,rfl,(congrArg some (vN_I (by omega))),trivial⟩ ?_)))
 rintro ⟨k,l1⟩ w1 ⟨⟨hk1,hs1,hh1⟩,H1⟩
 show WC _ _ _ _ _ [(0,v),(1,(vN a)),(2,(vN b)),(6,(vN a)),(7,(vN 0)),(8,(vN (b-a))),(9,(vI ((k:Int)-(1:Int))))] _
 have hL1:=hs1.len
 refine WC.cut (α:=Nat) (fun q=>[(0,v),(1,(vN a)),(2,(vN b)),(6,(vN a)),(7,(vN 0)),(8,(vN (b-a))),(9,(vN q))]) (fun q w'=>(q+1=k)∧Owl.Own T w w' [.row v 22 1 n (List.map vU32 l1)]) ?_ ?_
 ·
  refine ws<|wm rfl<|wo (op_geqI (b:=(0:Int)) rfl rfl<|wn (wC (decide (((k:Int)-(1:Int))≥(0:Int))) (fun hb2=>?_) (fun hb2=>?_)))
  ·
   have hc2:=dT hb2
   exact WC.skip<|WQ.here (k-1) ⟨(by omega),H1⟩ ⟨rfl,rfl,rfl,rfl,rfl,rfl,(congrArg some (vI_N (by omega))),trivial⟩
  ·
   have hc2:=dF hb2
   refine WC.exit<|WQ.thenExit<|WQ.thenExit<|WQ.inHere<|WQ.next<|ws<|wm rfl<|wo (op_subN (b:=1) rfl rfl (by omega) (by omega)<|wa rfl<|wn<|WC.block<|WC.loop (α:=Nat × List UInt32) (fun (k2,l2)=>[(0,v),(1,(vN a)),(2,(vN b)),(6,(vN a)),(7,(vN 0)),(8,(vN (b-a))),(10,(vI ((k2:Int)-(1:Int))))]) (fun (k2,l2) w'=>(k2≤b-a∧Sw 0 a b l l2∧HeapT ltU32 0 a (b-a) k2 l2)∧Owl.Own T w w' [.row v 22 1 n (List.map vU32 l2)]) (fun (k2,l2)=>k2) (b-a,l1) ⟨⟨Nat.le_refl _,hs1,heapT_init (by rw [show k=0 by omega] at hh1; exact hh1)⟩,H1⟩ ⟨rfl,rfl,rfl,rfl,rfl,rfl,(congrArg some (vN_I (by omega))),trivial⟩ ?_)
   rintro ⟨k2,l2⟩ w3 ⟨⟨hk2,hs2,hh2⟩,H3⟩
   show WC _ _ _ _ _ [(0,v),(1,(vN a)),(2,(vN b)),(6,(vN a)),(7,(vN 0)),(8,(vN (b-a))),(10,(vI ((k2:Int)-(1:Int))))] _
   have hL2:=hs2.len
   refine WC.cut (α:=Nat) (fun q2=>[(0,v),(1,(vN a)),(2,(vN b)),(6,(vN a)),(7,(vN 0)),(8,(vN (b-a))),(10,(vN q2))]) (fun q2 w'=>(q2+1=k2)∧Owl.Own T w w' [.row v 22 1 n (List.map vU32 l2)]) ?_ ?_
   ·
    refine ws<|wm rfl<|wo (op_geqI (b:=(0:Int)) rfl rfl<|wn (wC (decide (((k2:Int)-(1:Int))≥(0:Int))) (fun hb4=>?_) (fun hb4=>?_)))
    ·
     have hc4:=dT hb4
     exact WC.skip<|WQ.here (k2-1) ⟨(by omega),H3⟩ ⟨rfl,rfl,rfl,rfl,rfl,rfl,(congrArg some (vI_N (by omega))),trivial⟩
    ·
     have hc4:=dF hb4
     exact WC.exit<|WQ.thenExit<|WQ.thenExit<|WQ.inHere<|WQ.outEnd .nil (⟨_,rfl,⟨hs2,heapT_end (by rw [show k2=0 by omega] at hh2; exact hh2) (by omega)⟩,H3⟩)
   ·
    rintro q2 w5 ⟨hq2,H5⟩
    show WC _ _ _ _ _ [(0,v),(1,(vN a)),(2,(vN b)),(6,(vN a)),(7,(vN 0)),(8,(vN (b-a))),(10,(vN q2))] _
    subst hq2
    have hSL:(swapL 0 l2 a (a+q2)).length=n:=by rw [swapL_len]; omega
    refine WC.seq<|WC.block<|WC.seq<|WC.held 20 rfl Fa.M H5 (fun w'=> ∃L',Owl.Own T w w' ([]++L')) ?_
    intro w6 H6
    refine xt 0 rfl v H6 (fun _ _ HX=>op_move rfl ⟨rfl,rfl⟩)<|xt 1 rfl (vN a) H6 (fun _ _ HX=>op_move rfl ⟨rfl,rfl⟩)<|xt 2 rfl v H6 (fun _ _ HX=>op_move rfl ⟨rfl,rfl⟩)<|xt 3 rfl (vN a) H6 (fun _ _ HX=>op_move rfl ⟨rfl,rfl⟩)<|xt 4 rfl (vN q2) H6 (fun _ _ HX=>op_move rfl ⟨rfl,rfl⟩)<|xt 5 rfl (vN (a+q2)) H6 (fun _ _ HX=>op_addN rfl rfl (by omega) ⟨rfl,rfl⟩)<|xt 6 rfl v H6 (fun _ _ HX=>op_move rfl ⟨rfl,rfl⟩)<|xt 7 rfl (vN a) H6 (fun _ _ HX=>op_move rfl ⟨rfl,rfl⟩)<|xt 8 rfl (vN q2) H6 (fun _ _ HX=>op_move rfl ⟨rfl,rfl⟩)<|xt 9 rfl (vN (a+q2)) H6 (fun _ _ HX=>op_addN rfl rfl (by omega) ⟨rfl,rfl⟩)<|xt 10 rfl (.pointer (some (sp v (a+q2)))) H6 (fun _ _ HX=>op_indexAddr1W Tryz.underlying73 Fa.I22 rfl (H6.arrR (i:=0) rfl) rfl (by omega) ⟨rfl,rfl⟩)<|xt 12 rfl v H6 (fun _ _ HX=>op_move rfl ⟨rfl,rfl⟩)<|xt 13 rfl (vN a) H6 (fun _ _ HX=>op_move rfl ⟨rfl,rfl⟩)<|xt 14 rfl (.pointer (some (sp v a))) H6 (fun _ _ HX=>op_indexAddr1W Tryz.underlying73 Fa.I22 rfl (H6.arrR (i:=0) rfl) rfl (by omega) ⟨rfl,rfl⟩)<|WH.named (fun W hW=>?_)
    let e10:List (Nat × Value)→List (Nat × Value):=fun r=>(0,v)::(1,(vN a))::(2,(vN b))::(6,(vN a))::(7,(vN 0))::(8,(vN (b-a)))::(10,(vN q2))::r
    let a10_0:Ent:=.row v 22 1 n (List.map vU32 l2)
    have st10_5: ∀(wS:World),Owl.Own T w wS [.row v 22 1 n (List.map vU32 ((l2.set a (l2.getD (a+q2) 0)).set (a+q2) (l2.getD a 0)))]→W 0 (bz 20 1048575) (e10 []) wS:=by
     intro wS HS
     rw [hW]
     refine WH.done (by kernel_rfl)<|WQ.next<|WC.region<|wm rfl<|wm rfl<|wm rfl<|wm rfl<|wo (op_callF Fa.C236 rfl ((sift_ok v n ((l2.set a (l2.getD (a+q2) 0)).set (a+q2) (l2.getD a 0)) 0 q2 a _ _ (HS.part [0] rfl rfl) hSL (by omega) (by omega) (by omega) (heapT_pre (by omega) (by omega) hh2)).mono (fun e w8 hq=>?_)))
     obtain ⟨l8,rfl,hc8,hq8⟩:=hq
     refine ⟨_,rfl,?_⟩
     have H8:=HS.splice [0] [.row v 22 1 n (List.map vU32 l8)] [] rfl rfl hq8 (Fits.solid True.intro Fits.nil)
     exact WL.nil<|WQ.inNormal<|WQ.next<|WC.region<|wm rfl<|wo (op_subI (a:=((q2:Nat):Int)) (b:=((1:Nat):Int)) rfl rfl (by omega)<|wa rfl<|WL.nil<|WQ.round (q2,l8) ⟨⟨by omega,(hs2.step (by omega) (by omega) (by omega) (by omega)).trans (hc8.1.mono (by omega) (by omega)),heapT_step ltU32OK (by omega) (by omega) hh2 hc8.1 hc8.2⟩,H8⟩ ⟨rfl,rfl,rfl,rfl,rfl,rfl,rfl,trivial⟩ (by show q2<q2+1; omega))
    have st10_4: ∀(wS:World),Owl.Own T w wS [.row v 22 1 n (List.map vU32 (l2.set a (l2.getD (a+q2) 0)))]→W 1 (bz 20 524287) (e10 [(48,(vU32 (l2.getD a 0))),(50,(.pointer (some (sp v (a+q2)))))]) wS:=by
     intro wS HS
     rw [hW]
     refine wh1 19 ?_
     ·
      refine kH 19 rfl (op_storeRM (i:=0) (f:=vU32) (l:=(l2.set a (l2.getD (a+q2) 0))) (c:=(l2.getD a 0)) HS rfl rfl rfl (by omega) rfl Fa.I22 (fun w17381 H17381=>(⟨⟨_,H17381⟩,?_⟩)))
      exact WH.cw hW (st10_5 w17381 H17381)
    have st10_3: ∀(wS:World),Owl.Own T w wS [a10_0]→W 3 (bz 20 131071) (e10 [(35,v),(38,(vN (a+q2))),(44,(vU32 (l2.getD (a+q2) 0))),(48,(vU32 (l2.getD a 0))),(49,(.pointer (some (sp v a))))]) wS:=by
     intro wS HS
     rw [hW]
     refine wh1 17 ?_
     ·
      refine kH 17 rfl (op_storeRM (i:=0) (f:=vU32) (l:=l2) (c:=(l2.getD (a+q2) 0)) HS rfl rfl rfl (by omega) rfl Fa.I22 (fun w17341 H17341=>(⟨⟨_,H17341⟩,?_⟩)))
      exact xt 18 rfl (.pointer (some (sp v (a+q2)))) H17341 (fun _ _ HX=>op_indexAddr1W Tryz.underlying73 Fa.I22 rfl (H17341.arrR (i:=0) rfl) rfl (by omega) ⟨rfl,rfl⟩)<|WH.cw hW (st10_4 w17341 H17341)
    have st10_1: ∀(wS:World),Owl.Own T w wS [a10_0]→W 5 (bz 20 32767) (e10 [(33,v),(34,(vN a)),(35,v),(38,(vN (a+q2))),(44,(vU32 (l2.getD (a+q2) 0))),(47,(.pointer (some (sp v a))))]) wS:=by
     intro wS HS
     rw [hW]
     refine wh1 15 ?_
     ·
      refine kH 15 rfl (op_load rfl ((HS.arrR (i:=0) rfl).at (get_map vU32 0 (Arr.ltM (HS.arrR (i:=0) rfl) (by omega)))) Tryz.underlying22 rfl (⟨⟨_,HS⟩,?_⟩))
      exact xt 16 rfl (.pointer (some (sp v a))) HS (fun _ _ HX=>op_indexAddr1W Tryz.underlying73 Fa.I22 rfl (HS.arrR (i:=0) rfl) rfl (by omega) ⟨rfl,rfl⟩)<|WH.cw hW (st10_3 wS HS)
    have st10_2: ∀(wS:World),Owl.Own T w wS [a10_0]→W 5 (bz 20 63487) (e10 [(33,v),(34,(vN a)),(35,v),(38,(vN (a+q2))),(43,(.pointer (some (sp v (a+q2))))),(48,(vU32 (l2.getD a 0)))]) wS:=by
     intro wS HS
     rw [hW]
     refine wh1 11 ?_
     ·
      refine kH 11 rfl (op_load rfl ((HS.arrR (i:=0) rfl).at (get_map vU32 0 (Arr.ltM (HS.arrR (i:=0) rfl) (by omega)))) Tryz.underlying22 rfl (⟨⟨_,HS⟩,?_⟩))
      exact xt 16 rfl (.pointer (some (sp v a))) HS (fun _ _ HX=>op_indexAddr1W Tryz.underlying73 Fa.I22 rfl (HS.arrR (i:=0) rfl) rfl (by omega) ⟨rfl,rfl⟩)<|WH.cw hW (st10_3 wS HS)
    have st10_0: ∀(wS:World),Owl.Own T w wS [a10_0]→W 6 (bz 20 30719) (e10 [(33,v),(34,(vN a)),(35,v),(38,(vN (a+q2))),(43,(.pointer (some (sp v (a+q2))))),(47,(.pointer (some (sp v a))))]) wS:=by
     intro wS HS
     rw [hW]
     refine wh2 11 15 ?_ ?_
     ·
      refine kH 11 rfl (op_load rfl ((HS.arrR (i:=0) rfl).at (get_map vU32 0 (Arr.ltM (HS.arrR (i:=0) rfl) (by omega)))) Tryz.underlying22 rfl (⟨⟨_,HS⟩,?_⟩))
      exact WH.cw hW (st10_1 wS HS)
     ·
      refine kH 15 rfl (op_load rfl ((HS.arrR (i:=0) rfl).at (get_map vU32 0 (Arr.ltM (HS.arrR (i:=0) rfl) (by omega)))) Tryz.underlying22 rfl (⟨⟨_,HS⟩,?_⟩))
      exact WH.cw hW (st10_2 wS HS)
    have hq:=st10_0 w6 H6
    rw [hW] at hq ⊢
    exact WH.cv hq
 ·
  rintro q w9 ⟨hq,H9⟩
  show WC _ _ _ _ _ [(0,v),(1,(vN a)),(2,(vN b)),(6,(vN a)),(7,(vN 0)),(8,(vN (b-a))),(9,(vN q))] _
  subst hq
  refine WC.seq<|WC.block<|WC.region<|wm rfl<|wm rfl<|wm rfl<|wm rfl<|wo (op_callF Fa.C236 rfl ((sift_ok v n l1 q (b-a) a _ _ (H9.part [0] rfl rfl) (by omega) (by omega) (by omega) (by omega) hh1).mono (fun e w10 hq=>?_)))
  obtain ⟨l10,rfl,hc10,hq10⟩:=hq
  refine ⟨_,rfl,?_⟩
  have H10:=H9.splice [0] [.row v 22 1 n (List.map vU32 l10)] [] rfl rfl hq10 (Fits.solid True.intro Fits.nil)
  exact WL.nil<|WQ.inNormal<|WQ.next<|WC.region<|wm rfl<|wo (op_subI (a:=((q:Nat):Int)) (b:=((1:Nat):Int)) rfl rfl (by omega)<|wa rfl<|WL.nil<|WQ.round (q,l10) ⟨⟨by omega,hs1.trans (hc10.1.mono (by omega) (by omega)),hc10.2⟩,H10⟩ ⟨rfl,rfl,rfl,rfl,rfl,rfl,rfl,trivial⟩ (by show q<q+1; omega))
theorem rev_ok (v:Value) (n:Nat) (l:List UInt32) (a b:Nat) (T:List Nat) (w:World) (H:Owl.Own T w w [.row v 22 1 n (List.map vU32 l)]) (hn:l.length=n) (hN:n<2^61) (hab:a<b) (hb:b≤n) :
  Calls Tryz.prog 215 #[v,(vN a),(vN b)] w (fun e w'=> ∃(l':List UInt32),e=.returned undef∧(Sw 0 a b l l')∧Owl.Own T w w' [.row v 22 1 n (List.map vU32 l')]):=by
 refine enter (args:=[v,(vN a),(vN b)]) Tryz.func215 rfl rfl<|ws<|wm rfl<|wa rfl<|wn<|ws<|wm rfl<|wo (op_subN (b:=1) rfl rfl (by omega) (by omega)<|wa rfl<|wn<|WC.block<|WC.loop (α:=Nat × Nat × List UInt32) (fun (i,j,l1)=>[(0,v),(1,(vN a)),(2,(vN b)),(6,(vN i)),(7,(vN j))]) (fun (i,j,l1) w'=>(a≤i∧j<b∧Sw 0 a b l l1)∧Owl.Own T w w' [.row v 22 1 n (List.map vU32 l1)]) (fun (i,j,l1)=>j-i) (a,b-1,l) ⟨⟨Nat.le_refl _,by omega,.refl _⟩,H⟩ ⟨rfl,rfl,rfl,rfl,rfl,trivial⟩ ?_)
 rintro ⟨i,j,l1⟩ w1 ⟨⟨hi1,hj1,hs1⟩,H1⟩
 show WC _ _ _ _ _ [(0,v),(1,(vN a)),(2,(vN b)),(6,(vN i)),(7,(vN j))] _
 have hL1:=hs1.len
 refine WC.seq<|ws<|wm rfl<|wm rfl<|wo (op_lssN rfl rfl<|wn (wC (decide (i<j)) (fun hb2=>?_) (fun hb2=>?_)))
 ·
  have hc2:=dT hb2
  refine WC.skip<|WQ.next<|WC.block<|WC.seq<|WC.held 16 rfl Fa.M H1 (fun w'=> ∃L',Owl.Own T w w' ([]++L')) ?_
  intro w3 H3
  refine xt 0 rfl v H3 (fun _ _ HX=>op_move rfl ⟨rfl,rfl⟩)<|xt 1 rfl (vN i) H3 (fun _ _ HX=>op_move rfl ⟨rfl,rfl⟩)<|xt 2 rfl v H3 (fun _ _ HX=>op_move rfl ⟨rfl,rfl⟩)<|xt 3 rfl (vN j) H3 (fun _ _ HX=>op_move rfl ⟨rfl,rfl⟩)<|xt 4 rfl v H3 (fun _ _ HX=>op_move rfl ⟨rfl,rfl⟩)<|xt 5 rfl (vN j) H3 (fun _ _ HX=>op_move rfl ⟨rfl,rfl⟩)<|xt 6 rfl (.pointer (some (sp v j))) H3 (fun _ _ HX=>op_indexAddr1W Tryz.underlying73 Fa.I22 rfl (H3.arrR (i:=0) rfl) rfl (by omega) ⟨rfl,rfl⟩)<|xt 8 rfl v H3 (fun _ _ HX=>op_move rfl ⟨rfl,rfl⟩)<|xt 9 rfl (vN i) H3 (fun _ _ HX=>op_move rfl ⟨rfl,rfl⟩)<|xt 10 rfl (.pointer (some (sp v i))) H3 (fun _ _ HX=>op_indexAddr1W Tryz.underlying73 Fa.I22 rfl (H3.arrR (i:=0) rfl) rfl (by omega) ⟨rfl,rfl⟩)<|WH.named (fun W hW=>?_)
  let e3:List (Nat × Value)→List (Nat × Value):=fun r=>(0,v)::(1,(vN a))::(2,(vN b))::(6,(vN i))::(7,(vN j))::(11,(vN i))::(12,(vN j))::(13,(.bool (decide (i<j))))::r
  let a3_0:Ent:=.row v 22 1 n (List.map vU32 l1)
  have st3_5: ∀(wS:World),Owl.Own T w wS [.row v 22 1 n (List.map vU32 ((l1.set i (l1.getD j 0)).set j (l1.getD i 0)))]→W 0 (bz 16 65535) (e3 []) wS:=by
   intro wS HS
   rw [hW]
   exact WH.done (by kernel_rfl)<|WQ.next<|ws<|wm rfl<|wo (op_addN (b:=1) rfl rfl (by omega)<|wa rfl<|wn<|WC.region<|wm rfl<|wo (op_subN (b:=1) rfl rfl (by omega) (by omega)<|wa rfl<|WL.nil<|WQ.inNormal<|WQ.round (i+1,j-1,swapL 0 l1 i j) ⟨⟨by omega,by omega,hs1.step (by omega) (by omega) (by omega) (by omega)⟩,HS⟩ ⟨rfl,rfl,rfl,rfl,rfl,trivial⟩ (by show j-1-(i+1)<j-i; omega)))
  have st3_4: ∀(wS:World),Owl.Own T w wS [.row v 22 1 n (List.map vU32 (l1.set i (l1.getD j 0)))]→W 1 (bz 16 32767) (e3 [(25,(vU32 (l1.getD i 0))),(27,(.pointer (some (sp v j))))]) wS:=by
   intro wS HS
   rw [hW]
   refine wh1 15 ?_
   ·
    refine kH 15 rfl (op_storeRM (i:=0) (f:=vU32) (l:=(l1.set i (l1.getD j 0))) (c:=(l1.getD i 0)) HS rfl rfl rfl (by omega) rfl Fa.I22 (fun w14301 H14301=>(⟨⟨_,H14301⟩,?_⟩)))
    exact WH.cw hW (st3_5 w14301 H14301)
  have st3_3: ∀(wS:World),Owl.Own T w wS [a3_0]→W 3 (bz 16 8191) (e3 [(16,v),(17,(vN j)),(21,(vU32 (l1.getD j 0))),(25,(vU32 (l1.getD i 0))),(26,(.pointer (some (sp v i))))]) wS:=by
   intro wS HS
   rw [hW]
   refine wh1 13 ?_
   ·
    refine kH 13 rfl (op_storeRM (i:=0) (f:=vU32) (l:=l1) (c:=(l1.getD j 0)) HS rfl rfl rfl (by omega) rfl Fa.I22 (fun w14261 H14261=>(⟨⟨_,H14261⟩,?_⟩)))
    exact xt 14 rfl (.pointer (some (sp v j))) H14261 (fun _ _ HX=>op_indexAddr1W Tryz.underlying73 Fa.I22 rfl (H14261.arrR (i:=0) rfl) rfl (by omega) ⟨rfl,rfl⟩)<|WH.cw hW (st3_4 w14261 H14261)
  have st3_1: ∀(wS:World),Owl.Own T w wS [a3_0]→W 5 (bz 16 2047) (e3 [(14,v),(15,(vN i)),(16,v),(17,(vN j)),(21,(vU32 (l1.getD j 0))),(24,(.pointer (some (sp v i))))]) wS:=by
   intro wS HS
   rw [hW]
   refine wh1 11 ?_
   ·
    refine kH 11 rfl (op_load rfl ((HS.arrR (i:=0) rfl).at (get_map vU32 0 (Arr.ltM (HS.arrR (i:=0) rfl) (by omega)))) Tryz.underlying22 rfl (⟨⟨_,HS⟩,?_⟩))
    exact xt 12 rfl (.pointer (some (sp v i))) HS (fun _ _ HX=>op_indexAddr1W Tryz.underlying73 Fa.I22 rfl (HS.arrR (i:=0) rfl) rfl (by omega) ⟨rfl,rfl⟩)<|WH.cw hW (st3_3 wS HS)
  have st3_2: ∀(wS:World),Owl.Own T w wS [a3_0]→W 5 (bz 16 3967) (e3 [(14,v),(15,(vN i)),(16,v),(17,(vN j)),(20,(.pointer (some (sp v j)))),(25,(vU32 (l1.getD i 0)))]) wS:=by
   intro wS HS
   rw [hW]
   refine wh1 7 ?_
   ·
    refine kH 7 rfl (op_load rfl ((HS.arrR (i:=0) rfl).at (get_map vU32 0 (Arr.ltM (HS.arrR (i:=0) rfl) (by omega)))) Tryz.underlying22 rfl (⟨⟨_,HS⟩,?_⟩))
    exact xt 12 rfl (.pointer (some (sp v i))) HS (fun _ _ HX=>op_indexAddr1W Tryz.underlying73 Fa.I22 rfl (HS.arrR (i:=0) rfl) rfl (by omega) ⟨rfl,rfl⟩)<|WH.cw hW (st3_3 wS HS)
  have st3_0: ∀(wS:World),Owl.Own T w wS [a3_0]→W 6 (bz 16 1919) (e3 [(14,v),(15,(vN i)),(16,v),(17,(vN j)),(20,(.pointer (some (sp v j)))),(24,(.pointer (some (sp v i))))]) wS:=by
   intro wS HS
   rw [hW]
   refine wh2 7 11 ?_ ?_
   ·
    refine kH 7 rfl (op_load rfl ((HS.arrR (i:=0) rfl).at (get_map vU32 0 (Arr.ltM (HS.arrR (i:=0) rfl) (by omega)))) Tryz.underlying22 rfl (⟨⟨_,HS⟩,?_⟩))
    exact WH.cw hW (st3_1 wS HS)
   ·
    refine kH 11 rfl (op_load rfl ((HS.arrR (i:=0) rfl).at (get_map vU32 0 (Arr.ltM (HS.arrR (i:=0) rfl) (by omega)))) Tryz.underlying22 rfl (⟨⟨_,HS⟩,?_⟩))
    exact WH.cw hW (st3_2 wS HS)
  have hq:=st3_0 w3 H3
  rw [hW] at hq ⊢
  exact WH.cv hq
 ·
  have hc2:=dF hb2
  exact WC.exit<|WQ.thenExit<|WQ.thenExit<|WQ.inHere<|WQ.outEnd .nil (⟨_,rfl,hs1,H1⟩)
theorem ord2_ok (v:Value) (n:Nat) (l:List UInt32) (a b q s:Nat) (T:List Nat) (w:World) (H:Owl.Own T w w [.row v 22 1 n (List.map vU32 l),.blk q [(vN s)] 3]) (hn:l.length=n) (hN:n<2^61) (ha:a<n) (hb:b<n) (hs:s<2^60) :
  Calls Tryz.prog 249 #[v,(vN a),(vN b),(ptr q 0)] w (fun e w'=> ∃(s':Nat) (x y:Nat),e=.returned (.tuple #[vN x,vN y])∧(s≤s'∧s'≤s+1∧(x=a∧y=b∨x=b∧y=a))∧Owl.Own T w w' [.row v 22 1 n (List.map vU32 l),.blk q [vN s'] 3]):=by
 refine enter (args:=[v,(vN a),(vN b),(ptr q 0)]) Tryz.func249 rfl rfl<|ws<|wa rfl<|wa rfl<|wn<|WC.seq<|WC.seq<|WC.draw 9 Fa.M H (mh rfl<|mh rfl<|oh (fun w1 H1=>op_indexAddr1 Tryz.underlying73 Fa.I22 rfl (H1.arrR (i:=0) rfl) rfl (by omega) zr)<|oh (fun w1 H1=>op_load rfl ((H1.arrR (i:=0) rfl).at (get_map vU32 0 (Arr.ltM (H1.arrR (i:=0) rfl) (by omega)))) Tryz.underlying22 rfl zr)<|mh rfl<|mh rfl<|oh (fun w1 H1=>op_indexAddr1 Tryz.underlying73 Fa.I22 rfl (H1.arrR (i:=0) rfl) rfl (by omega) zr)<|oh (fun w1 H1=>op_load rfl ((H1.arrR (i:=0) rfl).at (get_map vU32 0 (Arr.ltM (H1.arrR (i:=0) rfl) (by omega)))) Tryz.underlying22 rfl zr)<|oh (fun w1 H1=>op_callF Fa.C217 rfl ((less_ok (l.getD b 0) (l.getD a 0) _).mono (fun e w2 hq=>⟨_,hq.1,rfl,hq.2⟩)))  HW.nil) (by kernel_rfl) ?_
 intro β2 w2 H2
 refine wn (wC (ltU32 (l.getD b 0) (l.getD a 0)) (fun hb3=>?_) (fun hb3=>?_))
 ·
  exact ws<|wm rfl<|wo (op_nilCheck rfl<|wo (op_load rfl (H2.cell (i:=1) rfl rfl) Tryz.underlying3 rfl<|wo (op_addN (b:=1) rfl rfl (by omega)<|wo (op_nilCheck rfl<|wo (op_storeB (i:=1) H2 rfl rfl rfl rfl rfl Fa.I3 (fun w4 H4=>(wn<|ws<|wm rfl<|wm rfl<|wa rfl<|wa rfl<|wn<|WC.ret<|WQ.thenRet<|WQ.out (.tmp rfl (.tmp rfl .nil)) (⟨_,_,_,rfl,⟨by omega,by omega,.inr ⟨rfl,rfl⟩⟩,H4⟩))))))))
 ·
  exact WC.skip<|WQ.next<|ws<|wm rfl<|wm rfl<|wa rfl<|wa rfl<|wn<|WC.ret<|WQ.out (.tmp rfl (.tmp rfl .nil)) (⟨_,_,_,rfl,⟨by omega,by omega,.inl ⟨rfl,rfl⟩⟩,H2⟩)
theorem med_ok (v:Value) (n:Nat) (l:List UInt32) (a b c q s:Nat) (T:List Nat) (w:World) (H:Owl.Own T w w [.row v 22 1 n (List.map vU32 l),.blk q [(vN s)] 3]) (hn:l.length=n) (hN:n<2^61) (ha:a<n) (hb:b<n) (hc:c<n) (hs:s<2^59) :
  Calls Tryz.prog 240 #[v,(vN a),(vN b),(vN c),(ptr q 0)] w (fun e w'=> ∃(s':Nat) (x:Nat),e=.returned (vN x)∧(s≤s'∧s'≤s+3∧(x=a∨x=b∨x=c))∧Owl.Own T w w' [.row v 22 1 n (List.map vU32 l),.blk q [vN s'] 3]):=by
 refine enter (args:=[v,(vN a),(vN b),(vN c),(ptr q 0)]) Tryz.func240 rfl rfl<|ws<|wa rfl<|wn<|ws<|wm rfl<|wm rfl<|wm rfl<|wm rfl<|wo (op_callF Fa.C249 rfl ((ord2_ok v n l a b q s _ _ (H.part [0,1] rfl rfl) (by omega) (by omega) (by omega) (by omega) (by omega)).mono (fun e w1 hq=>?_)))
 obtain ⟨s1,x1,y1,rfl,hc1,hq1⟩:=hq
 refine ⟨_,rfl,?_⟩
 have H1:=H.splice [0,1] [.row v 22 1 n (List.map vU32 l),.blk q [(vN s1)] 3] [] rfl rfl hq1 (Fits.solid True.intro (Fits.solid True.intro Fits.nil))
 refine wm rfl<|we rfl rfl<|we rfl rfl<|wa rfl<|wa rfl<|wn<|ws<|wm rfl<|wm rfl<|wm rfl<|wm rfl<|wo (op_callF Fa.C249 rfl ((ord2_ok v n l y1 c q s1 _ _ (H1.part [0,1] rfl rfl) (by omega) (by omega) (by omega) (by omega) (by omega)).mono (fun e w2 hq=>?_)))
 obtain ⟨s2,x2,y2,rfl,hc2,hq2⟩:=hq
 refine ⟨_,rfl,?_⟩
 have H2:=H1.splice [0,1] [.row v 22 1 n (List.map vU32 l),.blk q [(vN s2)] 3] [] rfl rfl hq2 (Fits.solid True.intro (Fits.solid True.intro Fits.nil))
 refine wm rfl<|we rfl rfl<|we rfl rfl<|wa rfl<|wa rfl<|wn<|ws<|wm rfl<|wm rfl<|wm rfl<|wm rfl<|wo (op_callF Fa.C249 rfl ((ord2_ok v n l x1 x2 q s2 _ _ (H2.part [0,1] rfl rfl) (by omega) (by omega) (by omega) (by omega) (by omega)).mono (fun e w3 hq=>?_)))
 obtain ⟨s3,x3,y3,rfl,hc3,hq3⟩:=hq
 refine ⟨_,rfl,?_⟩
 have H3:=H2.splice [0,1] [.row v 22 1 n (List.map vU32 l),.blk q [(vN s3)] 3] [] rfl rfl hq3 (Fits.solid True.intro (Fits.solid True.intro Fits.nil))
 exact wm rfl<|we rfl rfl<|we rfl rfl<|wa rfl<|wa rfl<|wn<|ws<|wm rfl<|wa rfl<|wn<|WC.ret<|WQ.out (.tmp rfl .nil) (⟨_,_,rfl,⟨by omega,by omega,by omega⟩,H3⟩)
theorem medadj_ok (v:Value) (n:Nat) (l:List UInt32) (a q s:Nat) (T:List Nat) (w:World) (H:Owl.Own T w w [.row v 22 1 n (List.map vU32 l),.blk q [(vN s)] 3]) (hn:l.length=n) (hN:n<2^61) (ha:a+1<n) (ha1:1≤a) (hs:s<2^58) :
  Calls Tryz.prog 239 #[v,(vN a),(ptr q 0)] w (fun e w'=> ∃(s':Nat) (x:Nat),e=.returned (vN x)∧(s≤s'∧s'≤s+3∧(x=a-1∨x=a∨x=a+1))∧Owl.Own T w w' [.row v 22 1 n (List.map vU32 l),.blk q [vN s'] 3]):=by
 refine enter (args:=[v,(vN a),(ptr q 0)]) Tryz.func239 rfl rfl<|ws<|wa rfl<|wn<|ws<|wm rfl<|wm rfl<|wo (op_subN (b:=1) rfl rfl (by omega) (by omega)<|wm rfl<|wm rfl<|wo (op_addN (b:=1) rfl rfl (by omega)<|wm rfl<|wo (op_callF Fa.C240 rfl ((med_ok v n l (a-1) a (a+1) q s _ _ (H.part [0,1] rfl rfl) (by omega) (by omega) (by omega) (by omega) (by omega) (by omega)).mono (fun e w1 hq=>?_)))))
 obtain ⟨s1,x1,rfl,hc1,hq1⟩:=hq
 refine ⟨_,rfl,?_⟩
 have H1:=H.splice [0,1] [.row v 22 1 n (List.map vU32 l),.blk q [(vN s1)] 3] [] rfl rfl hq1 (Fits.solid True.intro (Fits.solid True.intro Fits.nil))
 exact wa rfl<|wn<|WC.ret<|WQ.out (.tmp rfl .nil) (⟨_,_,rfl,⟨by omega,by omega,by omega⟩,H1⟩)
theorem piv_ok (v:Value) (n:Nat) (l:List UInt32) (a b:Nat) (T:List Nat) (w:World) (H:Owl.Own T w w [.row v 22 1 n (List.map vU32 l)]) (hn:l.length=n) (hN:n<2^61) (hab:12<b-a) (hb:b≤n) :
  Calls Tryz.prog 214 #[v,(vN a),(vN b)] w (fun e w'=> ∃(p h:Nat),e=.returned (.tuple #[vN p,vN h])∧(a≤p∧p<b)∧Owl.Own T w w' [.row v 22 1 n (List.map vU32 l)]):=by
 refine enter (args:=[v,(vN a),(vN b)]) Tryz.func214 rfl rfl<|ws<|wa rfl<|wa rfl<|wn<|ws<|wm rfl<|wm rfl<|wo (op_subN rfl rfl (by omega) (by omega)<|wa rfl<|wn<|ws<|wo (op_alloc H Fa.I3 (fun b1 w1 H1=>(wn<|ws<|wm rfl<|wm rfl<|wo (op_quoN (b:=4) rfl rfl (by omega) (by omega)<|wo (op_mulN (b:=1) rfl rfl (by omega)<|wo (op_addN rfl rfl (by omega)<|wa rfl<|wn<|ws<|wm rfl<|wm rfl<|wo (op_quoN (b:=4) rfl rfl (by omega) (by omega)<|wo (op_mulN (b:=2) rfl rfl (by omega)<|wo (op_addN rfl rfl (by omega)<|wa rfl<|wn<|ws<|wm rfl<|wm rfl<|wo (op_quoN (b:=4) rfl rfl (by omega) (by omega)<|wo (op_mulN (b:=3) rfl rfl (by omega)<|wo (op_addN rfl rfl (by omega)<|wa rfl<|wn<|WC.seq<|ws<|wm rfl<|wo (op_geqN (b:=8) rfl rfl<|wn (wC (decide ((b-a)≥8)) (fun hb2=>?_) (fun hb2=>?_))))))))))))))))
 ·
  have hc2:=dT hb2
  refine WC.seq<|ws<|wm rfl<|wo (op_geqN (b:=50) rfl rfl<|wn (wC (decide ((b-a)≥50)) (fun hb3=>?_) (fun hb3=>?_)))
  ·
   have hc3:=dT hb3
   refine ws<|wm rfl<|wm rfl<|wo (op_callF Fa.C239 rfl ((medadj_ok v n l (a+(((b-a) / 4) * 1)) b1 0 _ _ (H1.part [0,1] rfl rfl) (by omega) (by omega) (by omega) (by omega) (by omega)).mono (fun e w4 hq=>?_)))
   obtain ⟨s4,x4,rfl,hc4,hq4⟩:=hq
   refine ⟨_,rfl,?_⟩
   have H4:=H1.splice [0,1] [.row v 22 1 n (List.map vU32 l),.blk b1 [(vN s4)] 3] [] rfl rfl hq4 (Fits.solid True.intro (Fits.solid True.intro Fits.nil))
   refine wa rfl<|wn<|ws<|wm rfl<|wm rfl<|wo (op_callF Fa.C239 rfl ((medadj_ok v n l (a+(((b-a) / 4) * 2)) b1 s4 _ _ (H4.part [0,1] rfl rfl) (by omega) (by omega) (by omega) (by omega) (by omega)).mono (fun e w5 hq=>?_)))
   obtain ⟨s5,x5,rfl,hc5,hq5⟩:=hq
   refine ⟨_,rfl,?_⟩
   have H5:=H4.splice [0,1] [.row v 22 1 n (List.map vU32 l),.blk b1 [(vN s5)] 3] [] rfl rfl hq5 (Fits.solid True.intro (Fits.solid True.intro Fits.nil))
   refine wa rfl<|wn<|WC.region<|wm rfl<|wm rfl<|wo (op_callF Fa.C239 rfl ((medadj_ok v n l (a+(((b-a) / 4) * 3)) b1 s5 _ _ (H5.part [0,1] rfl rfl) (by omega) (by omega) (by omega) (by omega) (by omega)).mono (fun e w6 hq=>?_)))
   obtain ⟨s6,x6,rfl,hc6,hq6⟩:=hq
   refine ⟨_,rfl,?_⟩
   have H6:=H5.splice [0,1] [.row v 22 1 n (List.map vU32 l),.blk b1 [(vN s6)] 3] [] rfl rfl hq6 (Fits.solid True.intro (Fits.solid True.intro Fits.nil))
   refine wa rfl<|wn<|WC.region<|wm rfl<|wm rfl<|wm rfl<|wm rfl<|wo (op_callF Fa.C240 rfl ((med_ok v n l x4 x5 x6 b1 s6 _ _ (H6.part [0,1] rfl rfl) (by omega) (by omega) (by omega) (by omega) (by omega) (by omega)).mono (fun e w7 hq=>?_)))
   obtain ⟨s7,x7,rfl,hc7,hq7⟩:=hq
   refine ⟨_,rfl,?_⟩
   have H7:=H6.splice [0,1] [.row v 22 1 n (List.map vU32 l),.blk b1 [(vN s7)] 3] [] rfl rfl hq7 (Fits.solid True.intro (Fits.solid True.intro Fits.nil))
   refine wa rfl<|wn<|ws<|wo (op_load rfl (H7.cell (i:=1) rfl rfl) Tryz.underlying3 rfl<|wn<|WC.block<|ws<|wo (op_eqlN (b:=0) rfl rfl<|wa rfl<|wn (wC (decide (s7=0)) (fun hb8=>?_) (fun hb8=>?_))))
   ·
    have hc8:=dT hb8
    exact ws<|wm rfl<|wa rfl<|wa rfl<|wn<|WC.ret<|WQ.inRet<|WQ.out (.tmp rfl (.tmp rfl .nil)) (⟨_,_,rfl,⟨by omega,by omega⟩,H7.sel [0] rfl rfl⟩)
   ·
    have hc8:=dF hb8
    refine ws<|wo (op_eqlN (b:=12) rfl rfl<|wa rfl<|wn (wC (decide (s7=12)) (fun hb9=>?_) (fun hb9=>?_)))
    ·
     have hc9:=dT hb9
     exact ws<|wm rfl<|wa rfl<|wa rfl<|wn<|WC.ret<|WQ.inRet<|WQ.out (.tmp rfl (.tmp rfl .nil)) (⟨_,_,rfl,⟨by omega,by omega⟩,H7.sel [0] rfl rfl⟩)
    ·
     have hc9:=dF hb9
     exact ws<|wm rfl<|wa rfl<|wa rfl<|wn<|WC.ret<|WQ.inRet<|WQ.out (.tmp rfl (.tmp rfl .nil)) (⟨_,_,rfl,⟨by omega,by omega⟩,H7.sel [0] rfl rfl⟩)
  ·
   have hc3:=dF hb3
   refine WC.skip<|WQ.next<|WC.region<|wm rfl<|wm rfl<|wm rfl<|wm rfl<|wo (op_callF Fa.C240 rfl ((med_ok v n l (a+(((b-a) / 4) * 1)) (a+(((b-a) / 4) * 2)) (a+(((b-a) / 4) * 3)) b1 0 _ _ (H1.part [0,1] rfl rfl) (by omega) (by omega) (by omega) (by omega) (by omega) (by omega)).mono (fun e w10 hq=>?_)))
   obtain ⟨s10,x10,rfl,hc10,hq10⟩:=hq
   refine ⟨_,rfl,?_⟩
   have H10:=H1.splice [0,1] [.row v 22 1 n (List.map vU32 l),.blk b1 [(vN s10)] 3] [] rfl rfl hq10 (Fits.solid True.intro (Fits.solid True.intro Fits.nil))
   refine wa rfl<|wn<|ws<|wo (op_load rfl (H10.cell (i:=1) rfl rfl) Tryz.underlying3 rfl<|wn<|WC.block<|ws<|wo (op_eqlN (b:=0) rfl rfl<|wa rfl<|wn (wC (decide (s10=0)) (fun hb11=>?_) (fun hb11=>?_))))
   ·
    have hc11:=dT hb11
    exact ws<|wm rfl<|wa rfl<|wa rfl<|wn<|WC.ret<|WQ.inRet<|WQ.out (.tmp rfl (.tmp rfl .nil)) (⟨_,_,rfl,⟨by omega,by omega⟩,H10.sel [0] rfl rfl⟩)
   ·
    have hc11:=dF hb11
    refine ws<|wo (op_eqlN (b:=12) rfl rfl<|wa rfl<|wn (wC (decide (s10=12)) (fun hb12=>?_) (fun hb12=>?_)))
    ·
     have hc12:=dT hb12
     exact ws<|wm rfl<|wa rfl<|wa rfl<|wn<|WC.ret<|WQ.inRet<|WQ.out (.tmp rfl (.tmp rfl .nil)) (⟨_,_,rfl,⟨by omega,by omega⟩,H10.sel [0] rfl rfl⟩)
    ·
     have hc12:=dF hb12
     exact ws<|wm rfl<|wa rfl<|wa rfl<|wn<|WC.ret<|WQ.inRet<|WQ.out (.tmp rfl (.tmp rfl .nil)) (⟨_,_,rfl,⟨by omega,by omega⟩,H10.sel [0] rfl rfl⟩)
 ·
  have hc2:=dF hb2
  exact WC.skip<|WQ.next<|ws<|wo (op_load rfl (H1.cell (i:=1) rfl rfl) Tryz.underlying3 rfl<|wn<|WC.block<|ws<|wo (op_eqlN (b:=0) rfl rfl<|wa rfl<|wn<|WC.yes rfl (by decide)<|ws<|wm rfl<|wa rfl<|wa rfl<|wn<|WC.ret<|WQ.inRet<|WQ.out (.tmp rfl (.tmp rfl .nil)) (⟨_,_,rfl,⟨by omega,by omega⟩,H1.sel [0] rfl rfl⟩)))
theorem next_ok (q:Nat) (x:UInt64) (T:List Nat) (w:World) (H:Owl.Own T w w [.blk q [(vU64 x)] 337]) :
  Calls Tryz.prog 238 #[(ptr q 0)] w (fun e w'=> ∃y:UInt64,e=.returned (vU64 y)∧Owl.Own T w w' [.blk q [vU64 y] 337]):=by
 refine enter (args:=[(ptr q 0)]) Tryz.func238 rfl rfl<|ws<|wa rfl<|wn<|WC.seq<|WC.draw 9 Fa.M H (mh rfl<|oh (fun w1 H1=>op_nilCheck rfl zr)<|oh (fun w1 H1=>op_load rfl (H1.cell (i:=0) rfl rfl) Tryz.underlying337 rfl zr)<|mh rfl<|oh (fun w1 H1=>op_nilCheck rfl zr)<|oh (fun w1 H1=>op_load rfl (H1.cell (i:=0) rfl rfl) Tryz.underlying337 rfl zr)<|oh (fun w1 H1=>op_shlU64 (s:=13) rfl rfl zr)<|oh (fun w1 H1=>op_xorU64 rfl rfl zr)<|oh (fun w1 H1=>op_nilCheck rfl zr)  HW.nil) (by kernel_rfl) ?_
 intro β1 w1 H1
 refine wo (op_storeB (i:=0) H1 rfl rfl rfl rfl rfl Fa.I337 (fun w2 H2=>(wn<|WC.seq<|WC.draw 9 Fa.M H2 (mh rfl<|oh (fun w1 H1=>op_nilCheck rfl zr)<|oh (fun w1 H1=>op_load rfl (H1.cell (i:=0) rfl rfl) Tryz.underlying337 rfl zr)<|mh rfl<|oh (fun w1 H1=>op_nilCheck rfl zr)<|oh (fun w1 H1=>op_load rfl (H1.cell (i:=0) rfl rfl) Tryz.underlying337 rfl zr)<|oh (fun w1 H1=>op_shrU64 (s:=7) rfl rfl zr)<|oh (fun w1 H1=>op_xorU64 rfl rfl zr)<|oh (fun w1 H1=>op_nilCheck rfl zr)  HW.nil) (by kernel_rfl) ?_)))
 intro β3 w3 H3
 refine wo (op_storeB (i:=0) H3 rfl rfl rfl rfl rfl Fa.I337 (fun w4 H4=>(wn<|WC.seq<|WC.draw 9 Fa.M H4 (mh rfl<|oh (fun w1 H1=>op_nilCheck rfl zr)<|oh (fun w1 H1=>op_load rfl (H1.cell (i:=0) rfl rfl) Tryz.underlying337 rfl zr)<|mh rfl<|oh (fun w1 H1=>op_nilCheck rfl zr)<|oh (fun w1 H1=>op_load rfl (H1.cell (i:=0) rfl rfl) Tryz.underlying337 rfl zr)<|oh (fun w1 H1=>op_shlU64 (s:=17) rfl rfl zr)<|oh (fun w1 H1=>op_xorU64 rfl rfl zr)<|oh (fun w1 H1=>op_nilCheck rfl zr)  HW.nil) (by kernel_rfl) ?_)))
 intro β5 w5 H5
 exact wo (op_storeB (i:=0) H5 rfl rfl rfl rfl rfl Fa.I337 (fun w6 H6=>(wn<|ws<|wm rfl<|wo (op_nilCheck rfl<|wo (op_load rfl (H6.cell (i:=0) rfl rfl) Tryz.underlying337 rfl<|wa rfl<|wn<|WC.ret<|WQ.out (.tmp rfl .nil) (⟨_,rfl,H6⟩))))))
theorem blen64_ok (x:UInt64) (w:World) :
  Calls Tryz.prog 221 #[(vU64 x)] w (fun e w'=>e=.returned (vN (lenN x.toNat))∧Fr [] w w'):=by
 refine enter (args:=[(vU64 x)]) Tryz.func221 rfl rfl ?_
 have H0:Owl.Own [] w w []:=Own.start w []
 refine ws<|wa rfl<|wn<|WC.seq<|ws<|wm rfl<|wo (op_geqU64 (b:=4294967296) rfl rfl<|wn (wC (decide (x≥(4294967296:UInt64))) (fun hb1=>?_) (fun hb1=>?_)))
 ·
  have hc1:=dT hb1
  refine ws<|wm rfl<|wo (op_shrU64 (s:=32) rfl rfl<|wa rfl<|wn<|WC.region<|wa rfl<|wn<|WC.seq<|ws<|wm rfl<|wo (op_geqU64 (b:=65536) rfl rfl<|wn (wC (decide ((shrU64 x 32)≥(65536:UInt64))) (fun hb2=>?_) (fun hb2=>?_))))
  ·
   have hc2:=dT hb2
   refine ws<|wm rfl<|wo (op_shrU64 (s:=16) rfl rfl<|wa rfl<|wn<|WC.region<|wm rfl<|wo (op_addN (b:=16) rfl rfl (by decide)<|wa rfl<|wn<|WC.seq<|ws<|wm rfl<|wo (op_geqU64 (b:=256) rfl rfl<|wn (wC (decide ((shrU64 (shrU64 x 32) 16)≥(256:UInt64))) (fun hb3=>?_) (fun hb3=>?_)))))
   ·
    have hc3:=dT hb3
    exact ws<|wm rfl<|wo (op_shrU64 (s:=8) rfl rfl<|wa rfl<|wn<|WC.region<|wm rfl<|wo (op_addN (b:=8) rfl rfl (by decide)<|wa rfl<|wn<|ws<|wm rfl<|wm rfl<|wo (op_convU64U8 (hs:=Tryz.underlying154) (hd:=Tryz.underlying5) rfl<|wo (op_indexStrD (l:=tab8) Tryz.underlying9 (by kernel_rfl) rfl (tab8_in _)<|wo (op_convU8N (hs:=Tryz.underlying5) (hd:=Tryz.underlying3) rfl<|wo (op_addN rfl rfl (tab8_add _ (by decide))<|wa rfl<|wn<|WC.ret<|WQ.out (.tmp rfl .nil) (⟨by have h:=blen_all (x:=x) (.inl ⟨UInt64.le_iff_toNat_le.1 (dT hb1),rfl,rfl⟩) (.inl ⟨UInt64.le_iff_toNat_le.1 (dT hb2),rfl,rfl⟩) (.inl ⟨UInt64.le_iff_toNat_le.1 (dT hb3),rfl,rfl⟩); rw [←h]; rfl,H0.fr⟩)))))))
   ·
    have hc3:=dF hb3
    exact WC.skip<|WQ.next<|ws<|wm rfl<|wm rfl<|wo (op_convU64U8 (hs:=Tryz.underlying154) (hd:=Tryz.underlying5) rfl<|wo (op_indexStrD (l:=tab8) Tryz.underlying9 (by kernel_rfl) rfl (tab8_in _)<|wo (op_convU8N (hs:=Tryz.underlying5) (hd:=Tryz.underlying3) rfl<|wo (op_addN rfl rfl (tab8_add _ (by decide))<|wa rfl<|wn<|WC.ret<|WQ.out (.tmp rfl .nil) (⟨by have h:=blen_all (x:=x) (.inl ⟨UInt64.le_iff_toNat_le.1 (dT hb1),rfl,rfl⟩) (.inl ⟨UInt64.le_iff_toNat_le.1 (dT hb2),rfl,rfl⟩) (.inr ⟨Nat.lt_of_not_le (fun q=>dF hb3 (UInt64.le_iff_toNat_le.2 q)),rfl,rfl⟩); rw [←h]; rfl,H0.fr⟩)))))
  ·
   have hc2:=dF hb2
   refine WC.skip<|WQ.next<|WC.seq<|ws<|wm rfl<|wo (op_geqU64 (b:=256) rfl rfl<|wn (wC (decide ((shrU64 x 32)≥(256:UInt64))) (fun hb4=>?_) (fun hb4=>?_)))
   ·
    have hc4:=dT hb4
    exact ws<|wm rfl<|wo (op_shrU64 (s:=8) rfl rfl<|wa rfl<|wn<|WC.region<|wm rfl<|wo (op_addN (b:=8) rfl rfl (by decide)<|wa rfl<|wn<|ws<|wm rfl<|wm rfl<|wo (op_convU64U8 (hs:=Tryz.underlying154) (hd:=Tryz.underlying5) rfl<|wo (op_indexStrD (l:=tab8) Tryz.underlying9 (by kernel_rfl) rfl (tab8_in _)<|wo (op_convU8N (hs:=Tryz.underlying5) (hd:=Tryz.underlying3) rfl<|wo (op_addN rfl rfl (tab8_add _ (by decide))<|wa rfl<|wn<|WC.ret<|WQ.out (.tmp rfl .nil) (⟨by have h:=blen_all (x:=x) (.inl ⟨UInt64.le_iff_toNat_le.1 (dT hb1),rfl,rfl⟩) (.inr ⟨Nat.lt_of_not_le (fun q=>dF hb2 (UInt64.le_iff_toNat_le.2 q)),rfl,rfl⟩) (.inl ⟨UInt64.le_iff_toNat_le.1 (dT hb4),rfl,rfl⟩); rw [←h]; rfl,H0.fr⟩)))))))
   ·
    have hc4:=dF hb4
    exact WC.skip<|WQ.next<|ws<|wm rfl<|wm rfl<|wo (op_convU64U8 (hs:=Tryz.underlying154) (hd:=Tryz.underlying5) rfl<|wo (op_indexStrD (l:=tab8) Tryz.underlying9 (by kernel_rfl) rfl (tab8_in _)<|wo (op_convU8N (hs:=Tryz.underlying5) (hd:=Tryz.underlying3) rfl<|wo (op_addN rfl rfl (tab8_add _ (by decide))<|wa rfl<|wn<|WC.ret<|WQ.out (.tmp rfl .nil) (⟨by have h:=blen_all (x:=x) (.inl ⟨UInt64.le_iff_toNat_le.1 (dT hb1),rfl,rfl⟩) (.inr ⟨Nat.lt_of_not_le (fun q=>dF hb2 (UInt64.le_iff_toNat_le.2 q)),rfl,rfl⟩) (.inr ⟨Nat.lt_of_not_le (fun q=>dF hb4 (UInt64.le_iff_toNat_le.2 q)),rfl,rfl⟩); rw [←h]; rfl,H0.fr⟩)))))
 ·
  have hc1:=dF hb1
  refine WC.skip<|WQ.next<|WC.seq<|ws<|wm rfl<|wo (op_geqU64 (b:=65536) rfl rfl<|wn (wC (decide (x≥(65536:UInt64))) (fun hb5=>?_) (fun hb5=>?_)))
  ·
   have hc5:=dT hb5
   refine ws<|wm rfl<|wo (op_shrU64 (s:=16) rfl rfl<|wa rfl<|wn<|WC.region<|wm rfl<|wo (op_addN (b:=16) rfl rfl (by decide)<|wa rfl<|wn<|WC.seq<|ws<|wm rfl<|wo (op_geqU64 (b:=256) rfl rfl<|wn (wC (decide ((shrU64 x 16)≥(256:UInt64))) (fun hb6=>?_) (fun hb6=>?_)))))
   ·
    have hc6:=dT hb6
    exact ws<|wm rfl<|wo (op_shrU64 (s:=8) rfl rfl<|wa rfl<|wn<|WC.region<|wm rfl<|wo (op_addN (b:=8) rfl rfl (by decide)<|wa rfl<|wn<|ws<|wm rfl<|wm rfl<|wo (op_convU64U8 (hs:=Tryz.underlying154) (hd:=Tryz.underlying5) rfl<|wo (op_indexStrD (l:=tab8) Tryz.underlying9 (by kernel_rfl) rfl (tab8_in _)<|wo (op_convU8N (hs:=Tryz.underlying5) (hd:=Tryz.underlying3) rfl<|wo (op_addN rfl rfl (tab8_add _ (by decide))<|wa rfl<|wn<|WC.ret<|WQ.out (.tmp rfl .nil) (⟨by have h:=blen_all (x:=x) (.inr ⟨Nat.lt_of_not_le (fun q=>dF hb1 (UInt64.le_iff_toNat_le.2 q)),rfl,rfl⟩) (.inl ⟨UInt64.le_iff_toNat_le.1 (dT hb5),rfl,rfl⟩) (.inl ⟨UInt64.le_iff_toNat_le.1 (dT hb6),rfl,rfl⟩); rw [←h]; rfl,H0.fr⟩)))))))
   ·
    have hc6:=dF hb6
    exact WC.skip<|WQ.next<|ws<|wm rfl<|wm rfl<|wo (op_convU64U8 (hs:=Tryz.underlying154) (hd:=Tryz.underlying5) rfl<|wo (op_indexStrD (l:=tab8) Tryz.underlying9 (by kernel_rfl) rfl (tab8_in _)<|wo (op_convU8N (hs:=Tryz.underlying5) (hd:=Tryz.underlying3) rfl<|wo (op_addN rfl rfl (tab8_add _ (by decide))<|wa rfl<|wn<|WC.ret<|WQ.out (.tmp rfl .nil) (⟨by have h:=blen_all (x:=x) (.inr ⟨Nat.lt_of_not_le (fun q=>dF hb1 (UInt64.le_iff_toNat_le.2 q)),rfl,rfl⟩) (.inl ⟨UInt64.le_iff_toNat_le.1 (dT hb5),rfl,rfl⟩) (.inr ⟨Nat.lt_of_not_le (fun q=>dF hb6 (UInt64.le_iff_toNat_le.2 q)),rfl,rfl⟩); rw [←h]; rfl,H0.fr⟩)))))
  ·
   have hc5:=dF hb5
   refine WC.skip<|WQ.next<|WC.seq<|ws<|wm rfl<|wo (op_geqU64 (b:=256) rfl rfl<|wn (wC (decide (x≥(256:UInt64))) (fun hb7=>?_) (fun hb7=>?_)))
   ·
    have hc7:=dT hb7
    exact ws<|wm rfl<|wo (op_shrU64 (s:=8) rfl rfl<|wa rfl<|wn<|WC.region<|wm rfl<|wo (op_addN (b:=8) rfl rfl (by decide)<|wa rfl<|wn<|ws<|wm rfl<|wm rfl<|wo (op_convU64U8 (hs:=Tryz.underlying154) (hd:=Tryz.underlying5) rfl<|wo (op_indexStrD (l:=tab8) Tryz.underlying9 (by kernel_rfl) rfl (tab8_in _)<|wo (op_convU8N (hs:=Tryz.underlying5) (hd:=Tryz.underlying3) rfl<|wo (op_addN rfl rfl (tab8_add _ (by decide))<|wa rfl<|wn<|WC.ret<|WQ.out (.tmp rfl .nil) (⟨by have h:=blen_all (x:=x) (.inr ⟨Nat.lt_of_not_le (fun q=>dF hb1 (UInt64.le_iff_toNat_le.2 q)),rfl,rfl⟩) (.inr ⟨Nat.lt_of_not_le (fun q=>dF hb5 (UInt64.le_iff_toNat_le.2 q)),rfl,rfl⟩) (.inl ⟨UInt64.le_iff_toNat_le.1 (dT hb7),rfl,rfl⟩); rw [←h]; rfl,H0.fr⟩)))))))
   ·
    have hc7:=dF hb7
    exact WC.skip<|WQ.next<|ws<|wm rfl<|wm rfl<|wo (op_convU64U8 (hs:=Tryz.underlying154) (hd:=Tryz.underlying5) rfl<|wo (op_indexStrD (l:=tab8) Tryz.underlying9 (by kernel_rfl) rfl (tab8_in _)<|wo (op_convU8N (hs:=Tryz.underlying5) (hd:=Tryz.underlying3) rfl<|wo (op_addN rfl rfl (tab8_add _ (by decide))<|wa rfl<|wn<|WC.ret<|WQ.out (.tmp rfl .nil) (⟨by have h:=blen_all (x:=x) (.inr ⟨Nat.lt_of_not_le (fun q=>dF hb1 (UInt64.le_iff_toNat_le.2 q)),rfl,rfl⟩) (.inr ⟨Nat.lt_of_not_le (fun q=>dF hb5 (UInt64.le_iff_toNat_le.2 q)),rfl,rfl⟩) (.inr ⟨Nat.lt_of_not_le (fun q=>dF hb7 (UInt64.le_iff_toNat_le.2 q)),rfl,rfl⟩); rw [←h]; rfl,H0.fr⟩)))))
theorem blen_ok (x:UInt64) (w:World) :
  Calls Tryz.prog 182 #[(vU64 x)] w (fun e w'=>e=.returned (vN (lenN x.toNat))∧Fr [] w w'):=by
 refine enter (args:=[(vU64 x)]) Tryz.func182 rfl rfl ?_
 have H0:Owl.Own [] w w []:=Own.start w []
 refine ws<|wa rfl<|wn<|WC.seq<|WC.no rfl rfl<|WC.skip<|WQ.next<|ws<|wm rfl<|wo (op_callF Fa.C221 rfl ((blen64_ok x _).mono (fun e w1 hq=>?_)))
 obtain ⟨rfl,hf1⟩:=hq
 refine ⟨_,rfl,?_⟩
 have H1:=H0.fr' hf1
 exact wa rfl<|wn<|WC.ret<|WQ.out (.tmp rfl .nil) (⟨rfl,H1.fr⟩)
theorem npt_ok (n:Nat) (w:World) (hn:n<2^62) :
  Calls Tryz.prog 237 #[(vN n)] w (fun e w'=>e=.returned (vU64 (shlU64 1 (lenN (UInt64.ofNat n).toNat)))∧Fr [] w w'):=by
 refine enter (args:=[(vN n)]) Tryz.func237 rfl rfl ?_
 have H0:Owl.Own [] w w []:=Own.start w []
 refine ws<|wa rfl<|wn<|ws<|wm rfl<|wo (op_convNU64 (hs:=Tryz.underlying3) (hd:=Tryz.underlying265) rfl<|wo (op_callF Fa.C182 rfl ((blen_ok (UInt64.ofNat n) _).mono (fun e w1 hq=>?_))))
 obtain ⟨rfl,hf1⟩:=hq
 refine ⟨_,rfl,?_⟩
 have H1:=H0.fr' hf1
 exact wo (op_shlU64 (a:=1) rfl rfl<|wa rfl<|wn<|WC.ret<|WQ.out (.tmp rfl .nil) (⟨rfl,H1.fr⟩))
theorem brk_ok (v:Value) (n:Nat) (l:List UInt32) (a b:Nat) (T:List Nat) (w:World) (H:Owl.Own T w w [.row v 22 1 n (List.map vU32 l)]) (hn:l.length=n) (hN:n<2^61) (hab:a<b) (hb:b≤n) :
  Calls Tryz.prog 213 #[v,(vN a),(vN b)] w (fun e w'=> ∃(l':List UInt32),e=.returned undef∧(Sw 0 a b l l')∧Owl.Own T w w' [.row v 22 1 n (List.map vU32 l')]):=by
 refine enter (args:=[v,(vN a),(vN b)]) Tryz.func213 rfl rfl<|ws<|wm rfl<|wm rfl<|wo (op_subN rfl rfl (by omega) (by omega)<|wa rfl<|wn<|ws<|wm rfl<|wo (op_geqN (b:=8) rfl rfl<|wn (wC (decide ((b-a)≥8)) (fun hb1=>?_) (fun hb1=>?_))))
 ·
  have hc1:=dT hb1
  refine ws<|wm rfl<|wo (op_convNU64 (hs:=Tryz.underlying3) (hd:=Tryz.underlying337) rfl<|wo (op_alloc H Fa.I337 (fun b2 w2 H2=>(wo (op_storeB (i:=1) H2 rfl rfl rfl rfl rfl Fa.I337 (fun w3 H3=>(wn<|ws<|wm rfl<|wo (op_callF Fa.C237 rfl ((npt_ok (b-a) _ (by omega)).mono (fun e w4 hq=>?_))))))))))
  obtain ⟨rfl,hf4⟩:=hq
  refine ⟨_,rfl,?_⟩
  have H4:=H3.fr' hf4
  refine wa rfl<|wn<|ws<|wm rfl<|wm rfl<|wo (op_quoN (b:=4) rfl rfl (by omega) (by omega)<|wo (op_mulN (b:=2) rfl rfl (by omega)<|wo (op_addN rfl rfl (by omega)<|wo (op_subN (b:=1) rfl rfl (by omega) (by omega)<|wa rfl<|wn<|WC.block<|WC.loop (α:=Nat × UInt64 × List UInt32) (fun (x,r,l1)=>[(0,v),(1,(vN a)),(2,(vN b)),(6,(vN (b-a))),(7,(ptr b2 0)),(8,(vU64 (shlU64 1 (lenN (UInt64.ofNat (b-a)).toNat)))),(9,(vN x))]) (fun (x,r,l1) w'=>(a+(b-a) / 4 * 2-1≤x∧x≤a+(b-a) / 4 * 2+2∧Sw 0 a b l l1)∧Owl.Own T w w' [.row v 22 1 n (List.map vU32 l1),.blk b2 [(vU64 r)] 337]) (fun (x,r,l1)=>a+(b-a) / 4 * 2+3-x) (a+(b-a) / 4 * 2-1,UInt64.ofNat (b-a),l) ⟨⟨Nat.le_refl _,by omega,.refl _⟩,H4⟩ ⟨rfl,rfl,rfl,rfl,rfl,rfl,rfl,trivial⟩ ?_))))
  rintro ⟨x,r,l1⟩ w5 ⟨⟨hx1,hx2,hs1⟩,H5⟩
  show WC _ _ _ _ _ [(0,v),(1,(vN a)),(2,(vN b)),(6,(vN (b-a))),(7,(ptr b2 0)),(8,(vU64 (shlU64 1 (lenN (UInt64.ofNat (b-a)).toNat)))),(9,(vN x))] _
  have hL1:=hs1.len
  refine WC.seq<|ws<|wm rfl<|wm rfl<|wm rfl<|wo (op_quoN (b:=4) rfl rfl (by omega) (by omega)<|wo (op_mulN (b:=2) rfl rfl (by omega)<|wo (op_addN rfl rfl (by omega)<|wo (op_addN (b:=1) rfl rfl (by omega)<|wo (op_leqN rfl rfl<|wn (wC (decide (x≤((a+(((b-a) / 4) * 2))+1))) (fun hb6=>?_) (fun hb6=>?_)))))))
  ·
   have hc6:=dT hb6
   refine WC.skip<|WQ.next<|WC.seq<|WC.block<|ws<|wo (op_callF Fa.C238 rfl ((next_ok b2 r _ _ (H5.part [1] rfl rfl)).mono (fun e w7 hq=>?_)))
   obtain ⟨y7,rfl,hq7⟩:=hq
   refine ⟨_,rfl,?_⟩
   have H7:=H5.splice [1] [.blk b2 [(vU64 y7)] 337] [] rfl rfl hq7 (Fits.solid True.intro Fits.nil)
   have hbr:=brk_lt (y:=y7) (n:=b-a) (by omega) (by omega)
   refine wm rfl<|wo (op_subU64 (b:=1) rfl rfl<|wo (op_andU64 rfl rfl<|wo (op_convU64N (hs:=Tryz.underlying265) (hd:=Tryz.underlying3) rfl (by omega)<|wa rfl<|wn<|WC.cut (α:=Nat) (fun o=>[(0,v),(1,(vN a)),(2,(vN b)),(6,(vN (b-a))),(7,(ptr b2 0)),(8,(vU64 (shlU64 1 (lenN (UInt64.ofNat (b-a)).toNat)))),(9,(vN x)),(10,(vN o))]) (fun o w'=>(o<b-a)∧Owl.Own T w w' [.row v 22 1 n (List.map vU32 l1),.blk b2 [(vU64 y7)] 337]) ?_ ?_)))
   ·
    refine ws<|wm rfl<|wm rfl<|wo (op_geqN rfl rfl<|wn (wC (decide ((y7 &&& ((shlU64 1 (lenN (UInt64.ofNat (b-a)).toNat))-(1:UInt64))).toNat≥(b-a))) (fun hb8=>?_) (fun hb8=>?_)))
    ·
     have hc8:=dT hb8
     exact WC.region<|wm rfl<|wm rfl<|wo (op_subN rfl rfl (by omega) (by omega)<|wa rfl<|WL.nil<|WQ.here ((y7 &&& ((shlU64 1 (lenN (UInt64.ofNat (b-a)).toNat))-(1:UInt64))).toNat-(b-a)) ⟨(by omega),H7⟩ ⟨rfl,rfl,rfl,rfl,rfl,rfl,rfl,rfl,trivial⟩)
    ·
     have hc8:=dF hb8
     exact WC.skip<|WQ.here (y7 &&& ((shlU64 1 (lenN (UInt64.ofNat (b-a)).toNat))-(1:UInt64))).toNat ⟨(by omega),H7⟩ ⟨rfl,rfl,rfl,rfl,rfl,rfl,rfl,rfl,trivial⟩
   ·
    rintro o w9 ⟨ho,H9⟩
    show WC _ _ _ _ _ [(0,v),(1,(vN a)),(2,(vN b)),(6,(vN (b-a))),(7,(ptr b2 0)),(8,(vU64 (shlU64 1 (lenN (UInt64.ofNat (b-a)).toNat)))),(9,(vN x)),(10,(vN o))] _
    refine WC.held 20 rfl Fa.M H9 (fun w'=> ∃L',Owl.Own T w w' ([]++L')) ?_
    intro w10 H10
    refine xt 0 rfl v H10 (fun _ _ HX=>op_move rfl ⟨rfl,rfl⟩)<|xt 1 rfl (vN x) H10 (fun _ _ HX=>op_move rfl ⟨rfl,rfl⟩)<|xt 2 rfl v H10 (fun _ _ HX=>op_move rfl ⟨rfl,rfl⟩)<|xt 3 rfl (vN a) H10 (fun _ _ HX=>op_move rfl ⟨rfl,rfl⟩)<|xt 4 rfl (vN o) H10 (fun _ _ HX=>op_move rfl ⟨rfl,rfl⟩)<|xt 5 rfl (vN (a+o)) H10 (fun _ _ HX=>op_addN rfl rfl (by omega) ⟨rfl,rfl⟩)<|xt 6 rfl v H10 (fun _ _ HX=>op_move rfl ⟨rfl,rfl⟩)<|xt 7 rfl (vN a) H10 (fun _ _ HX=>op_move rfl ⟨rfl,rfl⟩)<|xt 8 rfl (vN o) H10 (fun _ _ HX=>op_move rfl ⟨rfl,rfl⟩)<|xt 9 rfl (vN (a+o)) H10 (fun _ _ HX=>op_addN rfl rfl (by omega) ⟨rfl,rfl⟩)<|xt 10 rfl (.pointer (some (sp v (a+o)))) H10 (fun _ _ HX=>op_indexAddr1W Tryz.underlying73 Fa.I22 rfl (H10.arrR (i:=0) rfl) rfl (by omega) ⟨rfl,rfl⟩)<|xt 12 rfl v H10 (fun _ _ HX=>op_move rfl ⟨rfl,rfl⟩)<|xt 13 rfl (vN x) H10 (fun _ _ HX=>op_move rfl ⟨rfl,rfl⟩)<|xt 14 rfl (.pointer (some (sp v x))) H10 (fun _ _ HX=>op_indexAddr1W Tryz.underlying73 Fa.I22 rfl (H10.arrR (i:=0) rfl) rfl (by omega) ⟨rfl,rfl⟩)<|WH.named (fun W hW=>?_)
    let e10:List (Nat × Value)→List (Nat × Value):=fun r=>(0,v)::(1,(vN a))::(2,(vN b))::(6,(vN (b-a)))::(7,(ptr b2 0))::(8,(vU64 (shlU64 1 (lenN (UInt64.ofNat (b-a)).toNat))))::(9,(vN x))::(10,(vN o))::r
    let a10_0:Ent:=.row v 22 1 n (List.map vU32 l1)
    let a10_1:Ent:=.blk b2 [(vU64 y7)] 337
    have st10_5: ∀(wS:World),Owl.Own T w wS [.row v 22 1 n (List.map vU32 ((l1.set x (l1.getD (a+o) 0)).set (a+o) (l1.getD x 0))),a10_1]→W 0 (bz 20 1048575) (e10 []) wS:=by
     intro wS HS
     rw [hW]
     exact WH.done (by kernel_rfl)<|WQ.inNormal<|WQ.next<|WC.region<|wm rfl<|wo (op_addN (b:=1) rfl rfl (by omega)<|wa rfl<|WL.nil<|WQ.round (x+1,y7,swapL 0 l1 x (a+o)) ⟨⟨by omega,by omega,hs1.step (by omega) (by omega) (by omega) (by omega)⟩,HS⟩ ⟨rfl,rfl,rfl,rfl,rfl,rfl,rfl,trivial⟩ (by show a+(b-a) / 4 * 2+3-(x+1)<a+(b-a) / 4 * 2+3-x; omega))
    have st10_4: ∀(wS:World),Owl.Own T w wS [.row v 22 1 n (List.map vU32 (l1.set x (l1.getD (a+o) 0))),a10_1]→W 1 (bz 20 524287) (e10 [(62,(vU32 (l1.getD x 0))),(64,(.pointer (some (sp v (a+o)))))]) wS:=by
     intro wS HS
     rw [hW]
     refine wh1 19 ?_
     ·
      refine kH 19 rfl (op_storeRM (i:=0) (f:=vU32) (l:=(l1.set x (l1.getD (a+o) 0))) (c:=(l1.getD x 0)) HS rfl rfl rfl (by omega) rfl Fa.I22 (fun w21381 H21381=>(⟨⟨_,H21381⟩,?_⟩)))
      exact WH.cw hW (st10_5 w21381 H21381)
    have st10_3: ∀(wS:World),Owl.Own T w wS [a10_0,a10_1]→W 3 (bz 20 131071) (e10 [(49,v),(52,(vN (a+o))),(58,(vU32 (l1.getD (a+o) 0))),(62,(vU32 (l1.getD x 0))),(63,(.pointer (some (sp v x))))]) wS:=by
     intro wS HS
     rw [hW]
     refine wh1 17 ?_
     ·
      refine kH 17 rfl (op_storeRM (i:=0) (f:=vU32) (l:=l1) (c:=(l1.getD (a+o) 0)) HS rfl rfl rfl (by omega) rfl Fa.I22 (fun w21341 H21341=>(⟨⟨_,H21341⟩,?_⟩)))
      exact xt 18 rfl (.pointer (some (sp v (a+o)))) H21341 (fun _ _ HX=>op_indexAddr1W Tryz.underlying73 Fa.I22 rfl (H21341.arrR (i:=0) rfl) rfl (by omega) ⟨rfl,rfl⟩)<|WH.cw hW (st10_4 w21341 H21341)
    have st10_1: ∀(wS:World),Owl.Own T w wS [a10_0,a10_1]→W 5 (bz 20 32767) (e10 [(47,v),(48,(vN x)),(49,v),(52,(vN (a+o))),(58,(vU32 (l1.getD (a+o) 0))),(61,(.pointer (some (sp v x))))]) wS:=by
     intro wS HS
     rw [hW]
     refine wh1 15 ?_
     ·
      refine kH 15 rfl (op_load rfl ((HS.arrR (i:=0) rfl).at (get_map vU32 0 (Arr.ltM (HS.arrR (i:=0) rfl) (by omega)))) Tryz.underlying22 rfl (⟨⟨_,HS⟩,?_⟩))
      exact xt 16 rfl (.pointer (some (sp v x))) HS (fun _ _ HX=>op_indexAddr1W Tryz.underlying73 Fa.I22 rfl (HS.arrR (i:=0) rfl) rfl (by omega) ⟨rfl,rfl⟩)<|WH.cw hW (st10_3 wS HS)
    have st10_2: ∀(wS:World),Owl.Own T w wS [a10_0,a10_1]→W 5 (bz 20 63487) (e10 [(47,v),(48,(vN x)),(49,v),(52,(vN (a+o))),(57,(.pointer (some (sp v (a+o))))),(62,(vU32 (l1.getD x 0)))]) wS:=by
     intro wS HS
     rw [hW]
     refine wh1 11 ?_
     ·
      refine kH 11 rfl (op_load rfl ((HS.arrR (i:=0) rfl).at (get_map vU32 0 (Arr.ltM (HS.arrR (i:=0) rfl) (by omega)))) Tryz.underlying22 rfl (⟨⟨_,HS⟩,?_⟩))
      exact xt 16 rfl (.pointer (some (sp v x))) HS (fun _ _ HX=>op_indexAddr1W Tryz.underlying73 Fa.I22 rfl (HS.arrR (i:=0) rfl) rfl (by omega) ⟨rfl,rfl⟩)<|WH.cw hW (st10_3 wS HS)
    have st10_0: ∀(wS:World),Owl.Own T w wS [a10_0,a10_1]→W 6 (bz 20 30719) (e10 [(47,v),(48,(vN x)),(49,v),(52,(vN (a+o))),(57,(.pointer (some (sp v (a+o))))),(61,(.pointer (some (sp v x))))]) wS:=by
     intro wS HS
     rw [hW]
     refine wh2 11 15 ?_ ?_
     ·
      refine kH 11 rfl (op_load rfl ((HS.arrR (i:=0) rfl).at (get_map vU32 0 (Arr.ltM (HS.arrR (i:=0) rfl) (by omega)))) Tryz.underlying22 rfl (⟨⟨_,HS⟩,?_⟩))
      exact WH.cw hW (st10_1 wS HS)
     ·
      refine kH 15 rfl (op_load rfl ((HS.arrR (i:=0) rfl).at (get_map vU32 0 (Arr.ltM (HS.arrR (i:=0) rfl) (by omega)))) Tryz.underlying22 rfl (⟨⟨_,HS⟩,?_⟩))
      exact WH.cw hW (st10_2 wS HS)
    have hq:=st10_0 w10 H10
    rw [hW] at hq ⊢
    exact WH.cv hq
  ·
   have hc6:=dF hb6
   exact WC.exit<|WQ.thenExit<|WQ.thenExit<|WQ.inHere<|WQ.outEnd .nil (⟨_,rfl,hs1,H5.sel [0] rfl rfl⟩)
 ·
  have hc1:=dF hb1
  exact WC.skip<|WQ.outEnd .nil (⟨_,rfl,.refl _,H.sel [0] rfl rfl⟩)
theorem part_ok (v:Value) (n:Nat) (l:List UInt32) (a b:Nat) (p:Nat) (T:List Nat) (w:World) (H:Owl.Own T w w [.row v 22 1 n (List.map vU32 l)]) (hn:l.length=n) (hN:n<2^61) (hap:a≤p) (hpb:p<b) (hb:b≤n) :
  Calls Tryz.prog 219 #[v,(vN a),(vN b),(vN p)] w (fun e w'=> ∃(l':List UInt32) (m:Nat) (f:Bool),e=.returned (.tuple #[vN m,.bool f])∧(Sw 0 a b l l'∧PartP ltU32 0 a b m l')∧Owl.Own T w w' [.row v 22 1 n (List.map vU32 l')]):=by
 refine enter (args:=[v,(vN a),(vN b),(vN p)]) Tryz.func219 rfl rfl<|ws<|wa rfl<|wa rfl<|wn<|WC.cut (α:=List UInt32) (fun l1=>[(0,v),(1,(vN a)),(2,(vN b))]) (fun l1 w'=>(Sw 0 a b l l1∧l1.getD a 0=(l.getD p 0))∧Owl.Own T w w' [.row v 22 1 n (List.map vU32 l1)]) ?_ ?_
 ·
  refine WC.held 16 rfl Fa.M H (fun w'=> ∃L',Owl.Own T w w' ([]++L')) ?_
  intro w1 H1
  refine xt 0 rfl v H1 (fun _ _ HX=>op_move rfl ⟨rfl,rfl⟩)<|xt 1 rfl (vN a) H1 (fun _ _ HX=>op_move rfl ⟨rfl,rfl⟩)<|xt 2 rfl v H1 (fun _ _ HX=>op_move rfl ⟨rfl,rfl⟩)<|xt 3 rfl (vN p) H1 (fun _ _ HX=>op_move rfl ⟨rfl,rfl⟩)<|xt 4 rfl v H1 (fun _ _ HX=>op_move rfl ⟨rfl,rfl⟩)<|xt 5 rfl (vN p) H1 (fun _ _ HX=>op_move rfl ⟨rfl,rfl⟩)<|xt 6 rfl (.pointer (some (sp v p))) H1 (fun _ _ HX=>op_indexAddr1W Tryz.underlying73 Fa.I22 rfl (H1.arrR (i:=0) rfl) rfl (by omega) ⟨rfl,rfl⟩)<|xt 8 rfl v H1 (fun _ _ HX=>op_move rfl ⟨rfl,rfl⟩)<|xt 9 rfl (vN a) H1 (fun _ _ HX=>op_move rfl ⟨rfl,rfl⟩)<|xt 10 rfl (.pointer (some (sp v a))) H1 (fun _ _ HX=>op_indexAddr1W Tryz.underlying73 Fa.I22 rfl (H1.arrR (i:=0) rfl) rfl (by omega) ⟨rfl,rfl⟩)<|WH.named (fun W hW=>?_)
  let e1:List (Nat × Value)→List (Nat × Value):=fun r=>(0,v)::(1,(vN a))::(2,(vN b))::(3,(vN p))::(8,(vN 0))::(9,(.bool false))::r
  let a1_0:Ent:=.row v 22 1 n (List.map vU32 l)
  have st1_5: ∀(wS:World),Owl.Own T w wS [.row v 22 1 n (List.map vU32 ((l.set a (l.getD p 0)).set p (l.getD a 0)))]→W 0 (bz 16 65535) (e1 []) wS:=by
   intro wS HS
   rw [hW]
   exact WH.done (by kernel_rfl)<|WQ.here (swapL 0 l a p) ⟨⟨Sw.one (by omega) (by omega) (by omega) (by omega),swap_fst (by omega) (by omega)⟩,HS⟩ ⟨rfl,rfl,rfl,trivial⟩
  have st1_4: ∀(wS:World),Owl.Own T w wS [.row v 22 1 n (List.map vU32 (l.set a (l.getD p 0)))]→W 1 (bz 16 32767) (e1 [(23,(vU32 (l.getD a 0))),(25,(.pointer (some (sp v p))))]) wS:=by
   intro wS HS
   rw [hW]
   refine wh1 15 ?_
   ·
    refine kH 15 rfl (op_storeRM (i:=0) (f:=vU32) (l:=(l.set a (l.getD p 0))) (c:=(l.getD a 0)) HS rfl rfl rfl (by omega) rfl Fa.I22 (fun w12301 H12301=>(⟨⟨_,H12301⟩,?_⟩)))
    exact WH.cw hW (st1_5 w12301 H12301)
  have st1_3: ∀(wS:World),Owl.Own T w wS [a1_0]→W 3 (bz 16 8191) (e1 [(14,v),(15,(vN p)),(19,(vU32 (l.getD p 0))),(23,(vU32 (l.getD a 0))),(24,(.pointer (some (sp v a))))]) wS:=by
   intro wS HS
   rw [hW]
   refine wh1 13 ?_
   ·
    refine kH 13 rfl (op_storeRM (i:=0) (f:=vU32) (l:=l) (c:=(l.getD p 0)) HS rfl rfl rfl (by omega) rfl Fa.I22 (fun w12261 H12261=>(⟨⟨_,H12261⟩,?_⟩)))
    exact xt 14 rfl (.pointer (some (sp v p))) H12261 (fun _ _ HX=>op_indexAddr1W Tryz.underlying73 Fa.I22 rfl (H12261.arrR (i:=0) rfl) rfl (by omega) ⟨rfl,rfl⟩)<|WH.cw hW (st1_4 w12261 H12261)
  have st1_1: ∀(wS:World),Owl.Own T w wS [a1_0]→W 5 (bz 16 2047) (e1 [(12,v),(13,(vN a)),(14,v),(15,(vN p)),(19,(vU32 (l.getD p 0))),(22,(.pointer (some (sp v a))))]) wS:=by
   intro wS HS
   rw [hW]
   refine wh1 11 ?_
   ·
    refine kH 11 rfl (op_load rfl ((HS.arrR (i:=0) rfl).at (get_map vU32 0 (Arr.ltM (HS.arrR (i:=0) rfl) (by omega)))) Tryz.underlying22 rfl (⟨⟨_,HS⟩,?_⟩))
    exact xt 12 rfl (.pointer (some (sp v a))) HS (fun _ _ HX=>op_indexAddr1W Tryz.underlying73 Fa.I22 rfl (HS.arrR (i:=0) rfl) rfl (by omega) ⟨rfl,rfl⟩)<|WH.cw hW (st1_3 wS HS)
  have st1_2: ∀(wS:World),Owl.Own T w wS [a1_0]→W 5 (bz 16 3967) (e1 [(12,v),(13,(vN a)),(14,v),(15,(vN p)),(18,(.pointer (some (sp v p)))),(23,(vU32 (l.getD a 0)))]) wS:=by
   intro wS HS
   rw [hW]
   refine wh1 7 ?_
   ·
    refine kH 7 rfl (op_load rfl ((HS.arrR (i:=0) rfl).at (get_map vU32 0 (Arr.ltM (HS.arrR (i:=0) rfl) (by omega)))) Tryz.underlying22 rfl (⟨⟨_,HS⟩,?_⟩))
    exact xt 12 rfl (.pointer (some (sp v a))) HS (fun _ _ HX=>op_indexAddr1W Tryz.underlying73 Fa.I22 rfl (HS.arrR (i:=0) rfl) rfl (by omega) ⟨rfl,rfl⟩)<|WH.cw hW (st1_3 wS HS)
  have st1_0: ∀(wS:World),Owl.Own T w wS [a1_0]→W 6 (bz 16 1919) (e1 [(12,v),(13,(vN a)),(14,v),(15,(vN p)),(18,(.pointer (some (sp v p)))),(22,(.pointer (some (sp v a))))]) wS:=by
   intro wS HS
   rw [hW]
   refine wh2 7 11 ?_ ?_
   ·
    refine kH 7 rfl (op_load rfl ((HS.arrR (i:=0) rfl).at (get_map vU32 0 (Arr.ltM (HS.arrR (i:=0) rfl) (by omega)))) Tryz.underlying22 rfl (⟨⟨_,HS⟩,?_⟩))
    exact WH.cw hW (st1_1 wS HS)
   ·
    refine kH 11 rfl (op_load rfl ((HS.arrR (i:=0) rfl).at (get_map vU32 0 (Arr.ltM (HS.arrR (i:=0) rfl) (by omega)))) Tryz.underlying22 rfl (⟨⟨_,HS⟩,?_⟩))
    exact WH.cw hW (st1_2 wS HS)
  have hq:=st1_0 w1 H1
  rw [hW] at hq ⊢
  exact WH.cv hq
 ·
  rintro l1 w3 ⟨⟨hs1,hv1⟩,H3⟩
  show WC _ _ _ _ _ [(0,v),(1,(vN a)),(2,(vN b))] _
  have hL1:=hs1.len
  refine ws<|wm rfl<|wo (op_addN (b:=1) rfl rfl (by omega)<|wm rfl<|wo (op_subN (b:=1) rfl rfl (by omega) (by omega)<|wa rfl<|wa rfl<|wn<|WC.cut (α:=Nat) (fun i5=>[(0,v),(1,(vN a)),(2,(vN b)),(10,(vN i5)),(11,(vN (b-1)))]) (fun i5 w'=>(PartI ltU32 0 a b i5 (b-1) l1 (l.getD p 0)∧(b-1<i5∨ltU32 (l1.getD i5 0) (l1.getD a 0)=false))∧Owl.Own T w w' [.row v 22 1 n (List.map vU32 l1)]) ?_ ?_))
  ·
   refine WC.block<|WC.loop (α:=Nat) (fun i=>[(0,v),(1,(vN a)),(2,(vN b)),(10,(vN i)),(11,(vN (b-1)))]) (fun i w'=>(PartI ltU32 0 a b i (b-1) l1 (l.getD p 0))∧Owl.Own T w w' [.row v 22 1 n (List.map vU32 l1)]) (fun i=>b-i) (a+1) ⟨(part_init (by omega) hv1),H3⟩ ⟨rfl,rfl,rfl,rfl,rfl,trivial⟩ ?_
   rintro i w4 ⟨hp3,H4⟩
   show WC _ _ _ _ _ [(0,v),(1,(vN a)),(2,(vN b)),(10,(vN i)),(11,(vN (b-1)))] _
   have hp3a:=hp3.1
   have hp3b:=hp3.2.1
   have hp3c:=hp3.2.2.1
   refine WC.seq<|WC.seq (wB (decide (i≤(b-1))) (fun hb5=>?_) (fun hb5=>?_))
   ·
    have hc5:=dT hb5
    refine WC.draw 14 Fa.M H4 (mh rfl<|mh rfl<|oh (fun w1 H1=>op_leqN rfl rfl zr)<|mh rfl<|yh hb5 (fun w1 H1=>op_move rfl zr)<|yh hb5 (fun w1 H1=>op_move rfl zr)<|yh hb5 (fun w1 H1=>op_indexAddr1 Tryz.underlying73 Fa.I22 rfl (H1.arrR (i:=0) rfl) rfl (by omega) zr)<|yh hb5 (fun w1 H1=>op_load rfl ((H1.arrR (i:=0) rfl).at (get_map vU32 0 (Arr.ltM (H1.arrR (i:=0) rfl) (by omega)))) Tryz.underlying22 rfl zr)<|yh hb5 (fun w1 H1=>op_move rfl zr)<|yh hb5 (fun w1 H1=>op_move rfl zr)<|yh hb5 (fun w1 H1=>op_indexAddr1 Tryz.underlying73 Fa.I22 rfl (H1.arrR (i:=0) rfl) rfl (by omega) zr)<|yh hb5 (fun w1 H1=>op_load rfl ((H1.arrR (i:=0) rfl).at (get_map vU32 0 (Arr.ltM (H1.arrR (i:=0) rfl) (by omega)))) Tryz.underlying22 rfl zr)<|yh hb5 (fun w1 H1=>op_callF Fa.C217 rfl ((less_ok (l1.getD i 0) (l1.getD a 0) _).mono (fun e w2 hq=>⟨_,hq.1,rfl,hq.2⟩)))<|oh (fun w1 H1=>op_pickT rfl hb5 rfl zr)  HW.nil) (by kernel_rfl) ?_
    intro β7 w7 H7
    refine wn (wC (ltU32 (l1.getD i 0) (l1.getD a 0)) (fun hb8=>?_) (fun hb8=>?_))
    ·
     exact WC.skip<|WQ.next<|WC.block<|WC.region<|wm rfl<|wo (op_addN (b:=1) rfl rfl (by omega)<|wa rfl<|WL.nil<|WQ.inNormal<|WQ.round (i+1) ⟨(part_i hp3 (by omega) hb8),H7⟩ ⟨rfl,rfl,rfl,rfl,rfl,trivial⟩ (by omega))
    ·
     exact WC.exit<|WQ.thenExit<|WQ.thenExit<|WQ.inHere<|WQ.here i ⟨⟨hp3,.inr hb8⟩,H7⟩ ⟨rfl,rfl,rfl,rfl,rfl,trivial⟩
   ·
    have hc5:=dF hb5
    refine WC.draw 14 Fa.M H4 (mh rfl<|mh rfl<|oh (fun w1 H1=>op_leqN rfl rfl zr)<|mh rfl<|nh hb5<|nh hb5<|nh hb5<|nh hb5<|nh hb5<|nh hb5<|nh hb5<|nh hb5<|nh hb5<|oh (fun w1 H1=>op_pickF rfl hb5 rfl zr)  HW.nil) (by kernel_rfl) ?_
    intro β9 w9 H9
    exact wn<|WC.no rfl rfl<|WC.exit<|WQ.thenExit<|WQ.thenExit<|WQ.inHere<|WQ.here i ⟨⟨hp3,.inl (by omega)⟩,H9⟩ ⟨rfl,rfl,rfl,rfl,rfl,trivial⟩
  ·
   rintro i5 w10 ⟨⟨hp5,hx5⟩,H10⟩
   show WC _ _ _ _ _ [(0,v),(1,(vN a)),(2,(vN b)),(10,(vN i5)),(11,(vN (b-1)))] _
   have hp5a:=hp5.1
   have hp5b:=hp5.2.1
   have hp5c:=hp5.2.2.1
   refine WC.cut (α:=Nat) (fun j7=>[(0,v),(1,(vN a)),(2,(vN b)),(10,(vN i5)),(11,(vN j7))]) (fun j7 w'=>(PartI ltU32 0 a b i5 j7 l1 (l.getD p 0)∧(j7<i5∨ltU32 (l1.getD i5 0) (l1.getD a 0)=false)∧(j7<i5∨ltU32 (l1.getD j7 0) (l1.getD a 0)=true))∧Owl.Own T w w' [.row v 22 1 n (List.map vU32 l1)]) ?_ ?_
   ·
    refine WC.block<|WC.loop (α:=Nat) (fun j=>[(0,v),(1,(vN a)),(2,(vN b)),(10,(vN i5)),(11,(vN j))]) (fun j w'=>(PartI ltU32 0 a b i5 j l1 (l.getD p 0)∧(j<i5∨ltU32 (l1.getD i5 0) (l1.getD a 0)=false))∧Owl.Own T w w' [.row v 22 1 n (List.map vU32 l1)]) (fun j=>j) (b-1) ⟨⟨hp5,hx5⟩,H10⟩ ⟨rfl,rfl,rfl,rfl,rfl,trivial⟩ ?_
    rintro j w11 ⟨⟨hp6,hx6⟩,H11⟩
    show WC _ _ _ _ _ [(0,v),(1,(vN a)),(2,(vN b)),(10,(vN i5)),(11,(vN j))] _
    have hp6a:=hp6.1
    have hp6b:=hp6.2.1
    have hp6c:=hp6.2.2.1
    refine WC.seq<|WC.seq (wB (decide (i5≤j)) (fun hb12=>?_) (fun hb12=>?_))
    ·
     have hc12:=dT hb12
     refine WC.draw 15 Fa.M H11 (mh rfl<|mh rfl<|oh (fun w1 H1=>op_leqN rfl rfl zr)<|mh rfl<|yh hb12 (fun w1 H1=>op_move rfl zr)<|yh hb12 (fun w1 H1=>op_move rfl zr)<|yh hb12 (fun w1 H1=>op_indexAddr1 Tryz.underlying73 Fa.I22 rfl (H1.arrR (i:=0) rfl) rfl (by omega) zr)<|yh hb12 (fun w1 H1=>op_load rfl ((H1.arrR (i:=0) rfl).at (get_map vU32 0 (Arr.ltM (H1.arrR (i:=0) rfl) (by omega)))) Tryz.underlying22 rfl zr)<|yh hb12 (fun w1 H1=>op_move rfl zr)<|yh hb12 (fun w1 H1=>op_move rfl zr)<|yh hb12 (fun w1 H1=>op_indexAddr1 Tryz.underlying73 Fa.I22 rfl (H1.arrR (i:=0) rfl) rfl (by omega) zr)<|yh hb12 (fun w1 H1=>op_load rfl ((H1.arrR (i:=0) rfl).at (get_map vU32 0 (Arr.ltM (H1.arrR (i:=0) rfl) (by omega)))) Tryz.underlying22 rfl zr)<|yh hb12 (fun w1 H1=>op_callF Fa.C217 rfl ((less_ok (l1.getD j 0) (l1.getD a 0) _).mono (fun e w2 hq=>⟨_,hq.1,rfl,hq.2⟩)))<|yh hb12 (fun w1 H1=>op_not rfl zr)<|oh (fun w1 H1=>op_pickT rfl hb12 rfl zr)  HW.nil) (by kernel_rfl) ?_
     intro β14 w14 H14
     refine wn (wC (!(ltU32 (l1.getD j 0) (l1.getD a 0))) (fun hb15=>?_) (fun hb15=>?_))
     ·
      have hn15:=(Bool.not_eq_true' _).mp hb15
      exact WC.skip<|WQ.next<|WC.block<|WC.region<|wm rfl<|wo (op_subN (b:=1) rfl rfl (by omega) (by omega)<|wa rfl<|WL.nil<|WQ.inNormal<|WQ.round (j-1) ⟨⟨part_j hp6 (by omega) hn15,hx6.imp (fun h=>by omega) id⟩,H14⟩ ⟨rfl,rfl,rfl,rfl,rfl,trivial⟩ (by omega))
     ·
      have hn15:=(Bool.not_eq_false' _).mp hb15
      exact WC.exit<|WQ.thenExit<|WQ.thenExit<|WQ.inHere<|WQ.here j ⟨⟨hp6,hx6,.inr hn15⟩,H14⟩ ⟨rfl,rfl,rfl,rfl,rfl,trivial⟩
    ·
     have hc12:=dF hb12
     refine WC.draw 15 Fa.M H11 (mh rfl<|mh rfl<|oh (fun w1 H1=>op_leqN rfl rfl zr)<|mh rfl<|nh hb12<|nh hb12<|nh hb12<|nh hb12<|nh hb12<|nh hb12<|nh hb12<|nh hb12<|nh hb12<|nh hb12<|oh (fun w1 H1=>op_pickF rfl hb12 rfl zr)  HW.nil) (by kernel_rfl) ?_
     intro β16 w16 H16
     exact wn<|WC.no rfl rfl<|WC.exit<|WQ.thenExit<|WQ.thenExit<|WQ.inHere<|WQ.here j ⟨⟨hp6,hx6,.inl (by omega)⟩,H16⟩ ⟨rfl,rfl,rfl,rfl,rfl,trivial⟩
   ·
    rintro j7 w17 ⟨⟨hp7,hx7,hy7⟩,H17⟩
    show WC _ _ _ _ _ [(0,v),(1,(vN a)),(2,(vN b)),(10,(vN i5)),(11,(vN j7))] _
    have hp7a:=hp7.1
    have hp7b:=hp7.2.1
    have hp7c:=hp7.2.2.1
    refine WC.seq<|ws<|wm rfl<|wm rfl<|wo (op_gtrN rfl rfl<|wn (wC (decide (i5>j7)) (fun hb18=>?_) (fun hb18=>?_)))
    ·
     have hc18:=dT hb18
     refine WC.seq<|WC.held 16 rfl Fa.M H17 (fun w'=> ∃L',Owl.Own T w w' ([]++L')) ?_
     intro w19 H19
     refine xt 0 rfl v H19 (fun _ _ HX=>op_move rfl ⟨rfl,rfl⟩)<|xt 1 rfl (vN j7) H19 (fun _ _ HX=>op_move rfl ⟨rfl,rfl⟩)<|xt 2 rfl v H19 (fun _ _ HX=>op_move rfl ⟨rfl,rfl⟩)<|xt 3 rfl (vN a) H19 (fun _ _ HX=>op_move rfl ⟨rfl,rfl⟩)<|xt 4 rfl v H19 (fun _ _ HX=>op_move rfl ⟨rfl,rfl⟩)<|xt 5 rfl (vN a) H19 (fun _ _ HX=>op_move rfl ⟨rfl,rfl⟩)<|xt 6 rfl (.pointer (some (sp v a))) H19 (fun _ _ HX=>op_indexAddr1W Tryz.underlying73 Fa.I22 rfl (H19.arrR (i:=0) rfl) rfl (by omega) ⟨rfl,rfl⟩)<|xt 8 rfl v H19 (fun _ _ HX=>op_move rfl ⟨rfl,rfl⟩)<|xt 9 rfl (vN j7) H19 (fun _ _ HX=>op_move rfl ⟨rfl,rfl⟩)<|xt 10 rfl (.pointer (some (sp v j7))) H19 (fun _ _ HX=>op_indexAddr1W Tryz.underlying73 Fa.I22 rfl (H19.arrR (i:=0) rfl) rfl (by omega) ⟨rfl,rfl⟩)<|WH.named (fun W hW=>?_)
     let e8:List (Nat × Value)→List (Nat × Value):=fun r=>(0,v)::(1,(vN a))::(2,(vN b))::(10,(vN i5))::(11,(vN j7))::(63,(vN i5))::(64,(vN j7))::(65,(.bool (decide (i5>j7))))::r
     let a8_0:Ent:=.row v 22 1 n (List.map vU32 l1)
     have st8_5: ∀(wS:World),Owl.Own T w wS [.row v 22 1 n (List.map vU32 ((l1.set j7 (l1.getD a 0)).set a (l1.getD j7 0)))]→W 0 (bz 16 65535) (e8 []) wS:=by
      intro wS HS
      rw [hW]
      exact WH.done (by kernel_rfl)<|WQ.next<|ws<|wm rfl<|wa rfl<|wa rfl<|wn<|WC.ret<|WQ.thenRet<|WQ.out (.tmp rfl (.tmp rfl .nil)) (⟨_,_,_,rfl,⟨hs1.step (by omega) (by omega) (by omega) (by omega),part_done (by omega) hp7 (by omega)⟩,HS⟩)
     have st8_4: ∀(wS:World),Owl.Own T w wS [.row v 22 1 n (List.map vU32 (l1.set j7 (l1.getD a 0)))]→W 1 (bz 16 32767) (e8 [(77,(vU32 (l1.getD j7 0))),(79,(.pointer (some (sp v a))))]) wS:=by
      intro wS HS
      rw [hW]
      refine wh1 15 ?_
      ·
       refine kH 15 rfl (op_storeRM (i:=0) (f:=vU32) (l:=(l1.set j7 (l1.getD a 0))) (c:=(l1.getD j7 0)) HS rfl rfl rfl (by omega) rfl Fa.I22 (fun w30301 H30301=>(⟨⟨_,H30301⟩,?_⟩)))
       exact WH.cw hW (st8_5 w30301 H30301)
     have st8_3: ∀(wS:World),Owl.Own T w wS [a8_0]→W 3 (bz 16 8191) (e8 [(68,v),(69,(vN a)),(73,(vU32 (l1.getD a 0))),(77,(vU32 (l1.getD j7 0))),(78,(.pointer (some (sp v j7))))]) wS:=by
      intro wS HS
      rw [hW]
      refine wh1 13 ?_
      ·
       refine kH 13 rfl (op_storeRM (i:=0) (f:=vU32) (l:=l1) (c:=(l1.getD a 0)) HS rfl rfl rfl (by omega) rfl Fa.I22 (fun w30261 H30261=>(⟨⟨_,H30261⟩,?_⟩)))
       exact xt 14 rfl (.pointer (some (sp v a))) H30261 (fun _ _ HX=>op_indexAddr1W Tryz.underlying73 Fa.I22 rfl (H30261.arrR (i:=0) rfl) rfl (by omega) ⟨rfl,rfl⟩)<|WH.cw hW (st8_4 w30261 H30261)
     have st8_1: ∀(wS:World),Owl.Own T w wS [a8_0]→W 5 (bz 16 2047) (e8 [(66,v),(67,(vN j7)),(68,v),(69,(vN a)),(73,(vU32 (l1.getD a 0))),(76,(.pointer (some (sp v j7))))]) wS:=by
      intro wS HS
      rw [hW]
      refine wh1 11 ?_
      ·
       refine kH 11 rfl (op_load rfl ((HS.arrR (i:=0) rfl).at (get_map vU32 0 (Arr.ltM (HS.arrR (i:=0) rfl) (by omega)))) Tryz.underlying22 rfl (⟨⟨_,HS⟩,?_⟩))
       exact xt 12 rfl (.pointer (some (sp v j7))) HS (fun _ _ HX=>op_indexAddr1W Tryz.underlying73 Fa.I22 rfl (HS.arrR (i:=0) rfl) rfl (by omega) ⟨rfl,rfl⟩)<|WH.cw hW (st8_3 wS HS)
     have st8_2: ∀(wS:World),Owl.Own T w wS [a8_0]→W 5 (bz 16 3967) (e8 [(66,v),(67,(vN j7)),(68,v),(69,(vN a)),(72,(.pointer (some (sp v a)))),(77,(vU32 (l1.getD j7 0)))]) wS:=by
      intro wS HS
      rw [hW]
      refine wh1 7 ?_
      ·
       refine kH 7 rfl (op_load rfl ((HS.arrR (i:=0) rfl).at (get_map vU32 0 (Arr.ltM (HS.arrR (i:=0) rfl) (by omega)))) Tryz.underlying22 rfl (⟨⟨_,HS⟩,?_⟩))
       exact xt 12 rfl (.pointer (some (sp v j7))) HS (fun _ _ HX=>op_indexAddr1W Tryz.underlying73 Fa.I22 rfl (HS.arrR (i:=0) rfl) rfl (by omega) ⟨rfl,rfl⟩)<|WH.cw hW (st8_3 wS HS)
     have st8_0: ∀(wS:World),Owl.Own T w wS [a8_0]→W 6 (bz 16 1919) (e8 [(66,v),(67,(vN j7)),(68,v),(69,(vN a)),(72,(.pointer (some (sp v a)))),(76,(.pointer (some (sp v j7))))]) wS:=by
      intro wS HS
      rw [hW]
      refine wh2 7 11 ?_ ?_
      ·
       refine kH 7 rfl (op_load rfl ((HS.arrR (i:=0) rfl).at (get_map vU32 0 (Arr.ltM (HS.arrR (i:=0) rfl) (by omega)))) Tryz.underlying22 rfl (⟨⟨_,HS⟩,?_⟩))
       exact WH.cw hW (st8_1 wS HS)
      ·
       refine kH 11 rfl (op_load rfl ((HS.arrR (i:=0) rfl).at (get_map vU32 0 (Arr.ltM (HS.arrR (i:=0) rfl) (by omega)))) Tryz.underlying22 rfl (⟨⟨_,HS⟩,?_⟩))
       exact WH.cw hW (st8_2 wS HS)
     have hq:=st8_0 w19 H19
     rw [hW] at hq ⊢
     exact WH.cv hq
    ·
     have hc18:=dF hb18
     refine WC.skip<|WQ.next<|WC.seq<|WC.held 16 rfl Fa.M H17 (fun w'=> ∃L',Owl.Own T w w' ([]++L')) ?_
     intro w21 H21
     refine xt 0 rfl v H21 (fun _ _ HX=>op_move rfl ⟨rfl,rfl⟩)<|xt 1 rfl (vN i5) H21 (fun _ _ HX=>op_move rfl ⟨rfl,rfl⟩)<|xt 2 rfl v H21 (fun _ _ HX=>op_move rfl ⟨rfl,rfl⟩)<|xt 3 rfl (vN j7) H21 (fun _ _ HX=>op_move rfl ⟨rfl,rfl⟩)<|xt 4 rfl v H21 (fun _ _ HX=>op_move rfl ⟨rfl,rfl⟩)<|xt 5 rfl (vN j7) H21 (fun _ _ HX=>op_move rfl ⟨rfl,rfl⟩)<|xt 6 rfl (.pointer (some (sp v j7))) H21 (fun _ _ HX=>op_indexAddr1W Tryz.underlying73 Fa.I22 rfl (H21.arrR (i:=0) rfl) rfl (by omega) ⟨rfl,rfl⟩)<|xt 8 rfl v H21 (fun _ _ HX=>op_move rfl ⟨rfl,rfl⟩)<|xt 9 rfl (vN i5) H21 (fun _ _ HX=>op_move rfl ⟨rfl,rfl⟩)<|xt 10 rfl (.pointer (some (sp v i5))) H21 (fun _ _ HX=>op_indexAddr1W Tryz.underlying73 Fa.I22 rfl (H21.arrR (i:=0) rfl) rfl (by omega) ⟨rfl,rfl⟩)<|WH.named (fun W hW=>?_)
     let e10:List (Nat × Value)→List (Nat × Value):=fun r=>(0,v)::(1,(vN a))::(2,(vN b))::(10,(vN i5))::(11,(vN j7))::(63,(vN i5))::(64,(vN j7))::(65,(.bool (decide (i5>j7))))::r
     let a10_0:Ent:=.row v 22 1 n (List.map vU32 l1)
     have st10_5: ∀(wS:World),Owl.Own T w wS [.row v 22 1 n (List.map vU32 ((l1.set i5 (l1.getD j7 0)).set j7 (l1.getD i5 0)))]→W 0 (bz 16 65535) (e10 []) wS:=by
      intro wS HS
      rw [hW]
      refine WH.done (by kernel_rfl)<|WQ.next<|ws<|wm rfl<|wo (op_addN (b:=1) rfl rfl (by omega)<|wa rfl<|wn<|ws<|wm rfl<|wo (op_subN (b:=1) rfl rfl (by omega) (by omega)<|wa rfl<|wn<|WC.seq<|WC.block<|WC.loop (α:=Nat × Nat × List UInt32) (fun (u,z,l2)=>[(0,v),(1,(vN a)),(2,(vN b)),(10,(vN u)),(11,(vN z))]) (fun (u,z,l2) w'=>(Sw 0 a b l l2∧PartI ltU32 0 a b u z l2 (l.getD p 0))∧Owl.Own T w w' [.row v 22 1 n (List.map vU32 l2)]) (fun (u,z,l2)=>z+1-u) (i5+1,j7-1,swapL 0 l1 i5 j7) ⟨⟨hs1.step (by omega) (by omega) (by omega) (by omega),part_swap (by omega) hp7 (by omega) (hx7.resolve_left (by omega)) (hy7.resolve_left (by omega))⟩,HS⟩ ⟨rfl,rfl,rfl,rfl,rfl,trivial⟩ ?_))
      rintro ⟨u,z,l2⟩ w23 ⟨⟨hs2,hp8⟩,H23⟩
      show WC _ _ _ _ _ [(0,v),(1,(vN a)),(2,(vN b)),(10,(vN u)),(11,(vN z))] _
      have hL2:=hs2.len
      have hp8a:=hp8.1
      have hp8b:=hp8.2.1
      have hp8c:=hp8.2.2.1
      refine WC.block<|WC.cut (α:=Nat) (fun u4=>[(0,v),(1,(vN a)),(2,(vN b)),(10,(vN u4)),(11,(vN z))]) (fun u4 w'=>(u≤u4∧PartI ltU32 0 a b u4 z l2 (l.getD p 0)∧(z<u4∨ltU32 (l2.getD u4 0) (l2.getD a 0)=false))∧Owl.Own T w w' [.row v 22 1 n (List.map vU32 l2)]) ?_ ?_
      ·
       refine WC.block<|WC.loop (α:=Nat) (fun u3=>[(0,v),(1,(vN a)),(2,(vN b)),(10,(vN u3)),(11,(vN z))]) (fun u3 w'=>(u≤u3∧PartI ltU32 0 a b u3 z l2 (l.getD p 0))∧Owl.Own T w w' [.row v 22 1 n (List.map vU32 l2)]) (fun u3=>b-u3) u ⟨⟨Nat.le_refl _,hp8⟩,H23⟩ ⟨rfl,rfl,rfl,rfl,rfl,trivial⟩ ?_
       rintro u3 w24 ⟨⟨hu3,hp9⟩,H24⟩
       show WC _ _ _ _ _ [(0,v),(1,(vN a)),(2,(vN b)),(10,(vN u3)),(11,(vN z))] _
       have hp9a:=hp9.1
       have hp9b:=hp9.2.1
       have hp9c:=hp9.2.2.1
       refine WC.seq<|WC.seq (wB (decide (u3≤z)) (fun hb25=>?_) (fun hb25=>?_))
       ·
        have hc25:=dT hb25
        refine WC.draw 14 Fa.M H24 (mh rfl<|mh rfl<|oh (fun w1 H1=>op_leqN rfl rfl zr)<|mh rfl<|yh hb25 (fun w1 H1=>op_move rfl zr)<|yh hb25 (fun w1 H1=>op_move rfl zr)<|yh hb25 (fun w1 H1=>op_indexAddr1 Tryz.underlying73 Fa.I22 rfl (H1.arrR (i:=0) rfl) rfl (by omega) zr)<|yh hb25 (fun w1 H1=>op_load rfl ((H1.arrR (i:=0) rfl).at (get_map vU32 0 (Arr.ltM (H1.arrR (i:=0) rfl) (by omega)))) Tryz.underlying22 rfl zr)<|yh hb25 (fun w1 H1=>op_move rfl zr)<|yh hb25 (fun w1 H1=>op_move rfl zr)<|yh hb25 (fun w1 H1=>op_indexAddr1 Tryz.underlying73 Fa.I22 rfl (H1.arrR (i:=0) rfl) rfl (by omega) zr)<|yh hb25 (fun w1 H1=>op_load rfl ((H1.arrR (i:=0) rfl).at (get_map vU32 0 (Arr.ltM (H1.arrR (i:=0) rfl) (by omega)))) Tryz.underlying22 rfl zr)<|yh hb25 (fun w1 H1=>op_callF Fa.C217 rfl ((less_ok (l2.getD u3 0) (l2.getD a 0) _).mono (fun e w2 hq=>⟨_,hq.1,rfl,hq.2⟩)))<|oh (fun w1 H1=>op_pickT rfl hb25 rfl zr)  HW.nil) (by kernel_rfl) ?_
        intro β27 w27 H27
        refine wn (wC (ltU32 (l2.getD u3 0) (l2.getD a 0)) (fun hb28=>?_) (fun hb28=>?_))
        ·
         exact WC.skip<|WQ.next<|WC.block<|WC.region<|wm rfl<|wo (op_addN (b:=1) rfl rfl (by omega)<|wa rfl<|WL.nil<|WQ.inNormal<|WQ.round (u3+1) ⟨⟨by omega,part_i hp9 (by omega) hb28⟩,H27⟩ ⟨rfl,rfl,rfl,rfl,rfl,trivial⟩ (by omega))
        ·
         exact WC.exit<|WQ.thenExit<|WQ.thenExit<|WQ.inHere<|WQ.here u3 ⟨⟨hu3,hp9,.inr hb28⟩,H27⟩ ⟨rfl,rfl,rfl,rfl,rfl,trivial⟩
       ·
        have hc25:=dF hb25
        refine WC.draw 14 Fa.M H24 (mh rfl<|mh rfl<|oh (fun w1 H1=>op_leqN rfl rfl zr)<|mh rfl<|nh hb25<|nh hb25<|nh hb25<|nh hb25<|nh hb25<|nh hb25<|nh hb25<|nh hb25<|nh hb25<|oh (fun w1 H1=>op_pickF rfl hb25 rfl zr)  HW.nil) (by kernel_rfl) ?_
        intro β29 w29 H29
        exact wn<|WC.no rfl rfl<|WC.exit<|WQ.thenExit<|WQ.thenExit<|WQ.inHere<|WQ.here u3 ⟨⟨hu3,hp9,.inl (by omega)⟩,H29⟩ ⟨rfl,rfl,rfl,rfl,rfl,trivial⟩
      ·
       rintro u4 w30 ⟨⟨hu4,hpa,hxa⟩,H30⟩
       show WC _ _ _ _ _ [(0,v),(1,(vN a)),(2,(vN b)),(10,(vN u4)),(11,(vN z))] _
       have hpaa:=hpa.1
       have hpab:=hpa.2.1
       have hpac:=hpa.2.2.1
       refine WC.cut (α:=Nat) (fun z4=>[(0,v),(1,(vN a)),(2,(vN b)),(10,(vN u4)),(11,(vN z4))]) (fun z4 w'=>(z4≤z∧PartI ltU32 0 a b u4 z4 l2 (l.getD p 0)∧(z4<u4∨ltU32 (l2.getD u4 0) (l2.getD a 0)=false)∧(z4<u4∨ltU32 (l2.getD z4 0) (l2.getD a 0)=true))∧Owl.Own T w w' [.row v 22 1 n (List.map vU32 l2)]) ?_ ?_
       ·
        refine WC.block<|WC.loop (α:=Nat) (fun z3=>[(0,v),(1,(vN a)),(2,(vN b)),(10,(vN u4)),(11,(vN z3))]) (fun z3 w'=>(z3≤z∧PartI ltU32 0 a b u4 z3 l2 (l.getD p 0)∧(z3<u4∨ltU32 (l2.getD u4 0) (l2.getD a 0)=false))∧Owl.Own T w w' [.row v 22 1 n (List.map vU32 l2)]) (fun z3=>z3) z ⟨⟨Nat.le_refl _,hpa,hxa⟩,H30⟩ ⟨rfl,rfl,rfl,rfl,rfl,trivial⟩ ?_
        rintro z3 w31 ⟨⟨hz3,hpb,hxb⟩,H31⟩
        show WC _ _ _ _ _ [(0,v),(1,(vN a)),(2,(vN b)),(10,(vN u4)),(11,(vN z3))] _
        have hpba:=hpb.1
        have hpbb:=hpb.2.1
        have hpbc:=hpb.2.2.1
        refine WC.seq<|WC.seq (wB (decide (u4≤z3)) (fun hb32=>?_) (fun hb32=>?_))
        ·
         have hc32:=dT hb32
         refine WC.draw 15 Fa.M H31 (mh rfl<|mh rfl<|oh (fun w1 H1=>op_leqN rfl rfl zr)<|mh rfl<|yh hb32 (fun w1 H1=>op_move rfl zr)<|yh hb32 (fun w1 H1=>op_move rfl zr)<|yh hb32 (fun w1 H1=>op_indexAddr1 Tryz.underlying73 Fa.I22 rfl (H1.arrR (i:=0) rfl) rfl (by omega) zr)<|yh hb32 (fun w1 H1=>op_load rfl ((H1.arrR (i:=0) rfl).at (get_map vU32 0 (Arr.ltM (H1.arrR (i:=0) rfl) (by omega)))) Tryz.underlying22 rfl zr)<|yh hb32 (fun w1 H1=>op_move rfl zr)<|yh hb32 (fun w1 H1=>op_move rfl zr)<|yh hb32 (fun w1 H1=>op_indexAddr1 Tryz.underlying73 Fa.I22 rfl (H1.arrR (i:=0) rfl) rfl (by omega) zr)<|yh hb32 (fun w1 H1=>op_load rfl ((H1.arrR (i:=0) rfl).at (get_map vU32 0 (Arr.ltM (H1.arrR (i:=0) rfl) (by omega)))) Tryz.underlying22 rfl zr)<|yh hb32 (fun w1 H1=>op_callF Fa.C217 rfl ((less_ok (l2.getD z3 0) (l2.getD a 0) _).mono (fun e w2 hq=>⟨_,hq.1,rfl,hq.2⟩)))<|yh hb32 (fun w1 H1=>op_not rfl zr)<|oh (fun w1 H1=>op_pickT rfl hb32 rfl zr)  HW.nil) (by kernel_rfl) ?_
         intro β34 w34 H34
         refine wn (wC (!(ltU32 (l2.getD z3 0) (l2.getD a 0))) (fun hb35=>?_) (fun hb35=>?_))
         ·
          have hn35:=(Bool.not_eq_true' _).mp hb35
          exact WC.skip<|WQ.next<|WC.block<|WC.region<|wm rfl<|wo (op_subN (b:=1) rfl rfl (by omega) (by omega)<|wa rfl<|WL.nil<|WQ.inNormal<|WQ.round (z3-1) ⟨⟨by omega,part_j hpb (by omega) hn35,hxb.imp (fun h=>by omega) id⟩,H34⟩ ⟨rfl,rfl,rfl,rfl,rfl,trivial⟩ (by omega))
         ·
          have hn35:=(Bool.not_eq_false' _).mp hb35
          exact WC.exit<|WQ.thenExit<|WQ.thenExit<|WQ.inHere<|WQ.here z3 ⟨⟨hz3,hpb,hxb,.inr hn35⟩,H34⟩ ⟨rfl,rfl,rfl,rfl,rfl,trivial⟩
        ·
         have hc32:=dF hb32
         refine WC.draw 15 Fa.M H31 (mh rfl<|mh rfl<|oh (fun w1 H1=>op_leqN rfl rfl zr)<|mh rfl<|nh hb32<|nh hb32<|nh hb32<|nh hb32<|nh hb32<|nh hb32<|nh hb32<|nh hb32<|nh hb32<|nh hb32<|oh (fun w1 H1=>op_pickF rfl hb32 rfl zr)  HW.nil) (by kernel_rfl) ?_
         intro β36 w36 H36
         exact wn<|WC.no rfl rfl<|WC.exit<|WQ.thenExit<|WQ.thenExit<|WQ.inHere<|WQ.here z3 ⟨⟨hz3,hpb,hxb,.inl (by omega)⟩,H36⟩ ⟨rfl,rfl,rfl,rfl,rfl,trivial⟩
       ·
        rintro z4 w37 ⟨⟨hz4,hpb4,hxb4,hyb4⟩,H37⟩
        show WC _ _ _ _ _ [(0,v),(1,(vN a)),(2,(vN b)),(10,(vN u4)),(11,(vN z4))] _
        have hpb4a:=hpb4.1
        have hpb4b:=hpb4.2.1
        have hpb4c:=hpb4.2.2.1
        refine WC.seq<|ws<|wm rfl<|wm rfl<|wo (op_gtrN rfl rfl<|wn (wC (decide (u4>z4)) (fun hb38=>?_) (fun hb38=>?_)))
        ·
         have hc38:=dT hb38
         refine WC.exit<|WQ.thenExit<|WQ.inPass rfl<|WQ.thenExit<|WQ.inHere<|WQ.next<|WC.seq<|WC.held 16 rfl Fa.M H37 (fun w'=> ∃L',Owl.Own T w w' ([]++L')) ?_
         intro w39 H39
         refine xt 0 rfl v H39 (fun _ _ HX=>op_move rfl ⟨rfl,rfl⟩)<|xt 1 rfl (vN z4) H39 (fun _ _ HX=>op_move rfl ⟨rfl,rfl⟩)<|xt 2 rfl v H39 (fun _ _ HX=>op_move rfl ⟨rfl,rfl⟩)<|xt 3 rfl (vN a) H39 (fun _ _ HX=>op_move rfl ⟨rfl,rfl⟩)<|xt 4 rfl v H39 (fun _ _ HX=>op_move rfl ⟨rfl,rfl⟩)<|xt 5 rfl (vN a) H39 (fun _ _ HX=>op_move rfl ⟨rfl,rfl⟩)<|xt 6 rfl (.pointer (some (sp v a))) H39 (fun _ _ HX=>op_indexAddr1W Tryz.underlying73 Fa.I22 rfl (H39.arrR (i:=0) rfl) rfl (by omega) ⟨rfl,rfl⟩)<|xt 8 rfl v H39 (fun _ _ HX=>op_move rfl ⟨rfl,rfl⟩)<|xt 9 rfl (vN z4) H39 (fun _ _ HX=>op_move rfl ⟨rfl,rfl⟩)<|xt 10 rfl (.pointer (some (sp v z4))) H39 (fun _ _ HX=>op_indexAddr1W Tryz.underlying73 Fa.I22 rfl (H39.arrR (i:=0) rfl) rfl (by omega) ⟨rfl,rfl⟩)<|WH.named (fun W hW=>?_)
         let e21:List (Nat × Value)→List (Nat × Value):=fun r=>(0,v)::(1,(vN a))::(2,(vN b))::(10,(vN u4))::(11,(vN z4))::(132,(vN u4))::(133,(vN z4))::(134,(.bool (decide (u4>z4))))::r
         let a21_0:Ent:=.row v 22 1 n (List.map vU32 l2)
         have st21_5: ∀(wS:World),Owl.Own T w wS [.row v 22 1 n (List.map vU32 ((l2.set z4 (l2.getD a 0)).set a (l2.getD z4 0)))]→W 0 (bz 16 65535) (e21 []) wS:=by
          intro wS HS
          rw [hW]
          exact WH.done (by kernel_rfl)<|WQ.next<|ws<|wm rfl<|wa rfl<|wa rfl<|wn<|WC.ret<|WQ.out (.tmp rfl (.tmp rfl .nil)) (⟨_,_,_,rfl,⟨hs2.step (by omega) (by omega) (by omega) (by omega),part_done (by omega) hpb4 (by omega)⟩,HS⟩)
         have st21_4: ∀(wS:World),Owl.Own T w wS [.row v 22 1 n (List.map vU32 (l2.set z4 (l2.getD a 0)))]→W 1 (bz 16 32767) (e21 [(164,(vU32 (l2.getD z4 0))),(166,(.pointer (some (sp v a))))]) wS:=by
          intro wS HS
          rw [hW]
          refine wh1 15 ?_
          ·
           refine kH 15 rfl (op_storeRM (i:=0) (f:=vU32) (l:=(l2.set z4 (l2.getD a 0))) (c:=(l2.getD z4 0)) HS rfl rfl rfl (by omega) rfl Fa.I22 (fun w50301 H50301=>(⟨⟨_,H50301⟩,?_⟩)))
           exact WH.cw hW (st21_5 w50301 H50301)
         have st21_3: ∀(wS:World),Owl.Own T w wS [a21_0]→W 3 (bz 16 8191) (e21 [(155,v),(156,(vN a)),(160,(vU32 (l2.getD a 0))),(164,(vU32 (l2.getD z4 0))),(165,(.pointer (some (sp v z4))))]) wS:=by
          intro wS HS
          rw [hW]
          refine wh1 13 ?_
          ·
           refine kH 13 rfl (op_storeRM (i:=0) (f:=vU32) (l:=l2) (c:=(l2.getD a 0)) HS rfl rfl rfl (by omega) rfl Fa.I22 (fun w50261 H50261=>(⟨⟨_,H50261⟩,?_⟩)))
           exact xt 14 rfl (.pointer (some (sp v a))) H50261 (fun _ _ HX=>op_indexAddr1W Tryz.underlying73 Fa.I22 rfl (H50261.arrR (i:=0) rfl) rfl (by omega) ⟨rfl,rfl⟩)<|WH.cw hW (st21_4 w50261 H50261)
         have st21_1: ∀(wS:World),Owl.Own T w wS [a21_0]→W 5 (bz 16 2047) (e21 [(153,v),(154,(vN z4)),(155,v),(156,(vN a)),(160,(vU32 (l2.getD a 0))),(163,(.pointer (some (sp v z4))))]) wS:=by
          intro wS HS
          rw [hW]
          refine wh1 11 ?_
          ·
           refine kH 11 rfl (op_load rfl ((HS.arrR (i:=0) rfl).at (get_map vU32 0 (Arr.ltM (HS.arrR (i:=0) rfl) (by omega)))) Tryz.underlying22 rfl (⟨⟨_,HS⟩,?_⟩))
           exact xt 12 rfl (.pointer (some (sp v z4))) HS (fun _ _ HX=>op_indexAddr1W Tryz.underlying73 Fa.I22 rfl (HS.arrR (i:=0) rfl) rfl (by omega) ⟨rfl,rfl⟩)<|WH.cw hW (st21_3 wS HS)
         have st21_2: ∀(wS:World),Owl.Own T w wS [a21_0]→W 5 (bz 16 3967) (e21 [(153,v),(154,(vN z4)),(155,v),(156,(vN a)),(159,(.pointer (some (sp v a)))),(164,(vU32 (l2.getD z4 0)))]) wS:=by
          intro wS HS
          rw [hW]
          refine wh1 7 ?_
          ·
           refine kH 7 rfl (op_load rfl ((HS.arrR (i:=0) rfl).at (get_map vU32 0 (Arr.ltM (HS.arrR (i:=0) rfl) (by omega)))) Tryz.underlying22 rfl (⟨⟨_,HS⟩,?_⟩))
           exact xt 12 rfl (.pointer (some (sp v z4))) HS (fun _ _ HX=>op_indexAddr1W Tryz.underlying73 Fa.I22 rfl (HS.arrR (i:=0) rfl) rfl (by omega) ⟨rfl,rfl⟩)<|WH.cw hW (st21_3 wS HS)
         have st21_0: ∀(wS:World),Owl.Own T w wS [a21_0]→W 6 (bz 16 1919) (e21 [(153,v),(154,(vN z4)),(155,v),(156,(vN a)),(159,(.pointer (some (sp v a)))),(163,(.pointer (some (sp v z4))))]) wS:=by
          intro wS HS
          rw [hW]
          refine wh2 7 11 ?_ ?_
          ·
           refine kH 7 rfl (op_load rfl ((HS.arrR (i:=0) rfl).at (get_map vU32 0 (Arr.ltM (HS.arrR (i:=0) rfl) (by omega)))) Tryz.underlying22 rfl (⟨⟨_,HS⟩,?_⟩))
           exact WH.cw hW (st21_1 wS HS)
          ·
           refine kH 11 rfl (op_load rfl ((HS.arrR (i:=0) rfl).at (get_map vU32 0 (Arr.ltM (HS.arrR (i:=0) rfl) (by omega)))) Tryz.underlying22 rfl (⟨⟨_,HS⟩,?_⟩))
           exact WH.cw hW (st21_2 wS HS)
         have hq:=st21_0 w39 H39
         rw [hW] at hq ⊢
         exact WH.cv hq
        ·
         have hc38:=dF hb38
         refine WC.skip<|WQ.next<|WC.seq<|WC.held 16 rfl Fa.M H37 (fun w'=> ∃L',Owl.Own T w w' ([]++L')) ?_
         intro w41 H41
         refine xt 0 rfl v H41 (fun _ _ HX=>op_move rfl ⟨rfl,rfl⟩)<|xt 1 rfl (vN u4) H41 (fun _ _ HX=>op_move rfl ⟨rfl,rfl⟩)<|xt 2 rfl v H41 (fun _ _ HX=>op_move rfl ⟨rfl,rfl⟩)<|xt 3 rfl (vN z4) H41 (fun _ _ HX=>op_move rfl ⟨rfl,rfl⟩)<|xt 4 rfl v H41 (fun _ _ HX=>op_move rfl ⟨rfl,rfl⟩)<|xt 5 rfl (vN z4) H41 (fun _ _ HX=>op_move rfl ⟨rfl,rfl⟩)<|xt 6 rfl (.pointer (some (sp v z4))) H41 (fun _ _ HX=>op_indexAddr1W Tryz.underlying73 Fa.I22 rfl (H41.arrR (i:=0) rfl) rfl (by omega) ⟨rfl,rfl⟩)<|xt 8 rfl v H41 (fun _ _ HX=>op_move rfl ⟨rfl,rfl⟩)<|xt 9 rfl (vN u4) H41 (fun _ _ HX=>op_move rfl ⟨rfl,rfl⟩)<|xt 10 rfl (.pointer (some (sp v u4))) H41 (fun _ _ HX=>op_indexAddr1W Tryz.underlying73 Fa.I22 rfl (H41.arrR (i:=0) rfl) rfl (by omega) ⟨rfl,rfl⟩)<|WH.named (fun W hW=>?_)
         let e18:List (Nat × Value)→List (Nat × Value):=fun r=>(0,v)::(1,(vN a))::(2,(vN b))::(10,(vN u4))::(11,(vN z4))::(132,(vN u4))::(133,(vN z4))::(134,(.bool (decide (u4>z4))))::r
         let a18_0:Ent:=.row v 22 1 n (List.map vU32 l2)
         have st18_5: ∀(wS:World),Owl.Own T w wS [.row v 22 1 n (List.map vU32 ((l2.set u4 (l2.getD z4 0)).set z4 (l2.getD u4 0)))]→W 0 (bz 16 65535) (e18 []) wS:=by
          intro wS HS
          rw [hW]
          exact WH.done (by kernel_rfl)<|WQ.next<|ws<|wm rfl<|wo (op_addN (b:=1) rfl rfl (by omega)<|wa rfl<|wn<|WC.region<|wm rfl<|wo (op_subN (b:=1) rfl rfl (by omega) (by omega)<|wa rfl<|WL.nil<|WQ.inNormal<|WQ.round (u4+1,z4-1,swapL 0 l2 u4 z4) ⟨⟨hs2.step (by omega) (by omega) (by omega) (by omega),part_swap (by omega) hpb4 (by omega) (hxb4.resolve_left (by omega)) (hyb4.resolve_left (by omega))⟩,HS⟩ ⟨rfl,rfl,rfl,rfl,rfl,trivial⟩ (by show z4-1+1-(u4+1)<z+1-u; omega)))
         have st18_4: ∀(wS:World),Owl.Own T w wS [.row v 22 1 n (List.map vU32 (l2.set u4 (l2.getD z4 0)))]→W 1 (bz 16 32767) (e18 [(146,(vU32 (l2.getD u4 0))),(148,(.pointer (some (sp v z4))))]) wS:=by
          intro wS HS
          rw [hW]
          refine wh1 15 ?_
          ·
           refine kH 15 rfl (op_storeRM (i:=0) (f:=vU32) (l:=(l2.set u4 (l2.getD z4 0))) (c:=(l2.getD u4 0)) HS rfl rfl rfl (by omega) rfl Fa.I22 (fun w52301 H52301=>(⟨⟨_,H52301⟩,?_⟩)))
           exact WH.cw hW (st18_5 w52301 H52301)
         have st18_3: ∀(wS:World),Owl.Own T w wS [a18_0]→W 3 (bz 16 8191) (e18 [(137,v),(138,(vN z4)),(142,(vU32 (l2.getD z4 0))),(146,(vU32 (l2.getD u4 0))),(147,(.pointer (some (sp v u4))))]) wS:=by
          intro wS HS
          rw [hW]
          refine wh1 13 ?_
          ·
           refine kH 13 rfl (op_storeRM (i:=0) (f:=vU32) (l:=l2) (c:=(l2.getD z4 0)) HS rfl rfl rfl (by omega) rfl Fa.I22 (fun w52261 H52261=>(⟨⟨_,H52261⟩,?_⟩)))
           exact xt 14 rfl (.pointer (some (sp v z4))) H52261 (fun _ _ HX=>op_indexAddr1W Tryz.underlying73 Fa.I22 rfl (H52261.arrR (i:=0) rfl) rfl (by omega) ⟨rfl,rfl⟩)<|WH.cw hW (st18_4 w52261 H52261)
         have st18_1: ∀(wS:World),Owl.Own T w wS [a18_0]→W 5 (bz 16 2047) (e18 [(135,v),(136,(vN u4)),(137,v),(138,(vN z4)),(142,(vU32 (l2.getD z4 0))),(145,(.pointer (some (sp v u4))))]) wS:=by
          intro wS HS
          rw [hW]
          refine wh1 11 ?_
          ·
           refine kH 11 rfl (op_load rfl ((HS.arrR (i:=0) rfl).at (get_map vU32 0 (Arr.ltM (HS.arrR (i:=0) rfl) (by omega)))) Tryz.underlying22 rfl (⟨⟨_,HS⟩,?_⟩))
           exact xt 12 rfl (.pointer (some (sp v u4))) HS (fun _ _ HX=>op_indexAddr1W Tryz.underlying73 Fa.I22 rfl (HS.arrR (i:=0) rfl) rfl (by omega) ⟨rfl,rfl⟩)<|WH.cw hW (st18_3 wS HS)
         have st18_2: ∀(wS:World),Owl.Own T w wS [a18_0]→W 5 (bz 16 3967) (e18 [(135,v),(136,(vN u4)),(137,v),(138,(vN z4)),(141,(.pointer (some (sp v z4)))),(146,(vU32 (l2.getD u4 0)))]) wS:=by
          intro wS HS
          rw [hW]
          refine wh1 7 ?_
          ·
           refine kH 7 rfl (op_load rfl ((HS.arrR (i:=0) rfl).at (get_map vU32 0 (Arr.ltM (HS.arrR (i:=0) rfl) (by omega)))) Tryz.underlying22 rfl (⟨⟨_,HS⟩,?_⟩))
           exact xt 12 rfl (.pointer (some (sp v u4))) HS (fun _ _ HX=>op_indexAddr1W Tryz.underlying73 Fa.I22 rfl (HS.arrR (i:=0) rfl) rfl (by omega) ⟨rfl,rfl⟩)<|WH.cw hW (st18_3 wS HS)
         have st18_0: ∀(wS:World),Owl.Own T w wS [a18_0]→W 6 (bz 16 1919) (e18 [(135,v),(136,(vN u4)),(137,v),(138,(vN z4)),(141,(.pointer (some (sp v z4)))),(145,(.pointer (some (sp v u4))))]) wS:=by
          intro wS HS
          rw [hW]
          refine wh2 7 11 ?_ ?_
          ·
           refine kH 7 rfl (op_load rfl ((HS.arrR (i:=0) rfl).at (get_map vU32 0 (Arr.ltM (HS.arrR (i:=0) rfl) (by omega)))) Tryz.underlying22 rfl (⟨⟨_,HS⟩,?_⟩))
           exact WH.cw hW (st18_1 wS HS)
          ·
           refine kH 11 rfl (op_load rfl ((HS.arrR (i:=0) rfl).at (get_map vU32 0 (Arr.ltM (HS.arrR (i:=0) rfl) (by omega)))) Tryz.underlying22 rfl (⟨⟨_,HS⟩,?_⟩))
           exact WH.cw hW (st18_2 wS HS)
         have hq:=st18_0 w41 H41
         rw [hW] at hq ⊢
         exact WH.cv hq
     have st10_4: ∀(wS:World),Owl.Own T w wS [.row v 22 1 n (List.map vU32 (l1.set i5 (l1.getD j7 0)))]→W 1 (bz 16 32767) (e10 [(92,(vU32 (l1.getD i5 0))),(94,(.pointer (some (sp v j7))))]) wS:=by
      intro wS HS
      rw [hW]
      refine wh1 15 ?_
      ·
       refine kH 15 rfl (op_storeRM (i:=0) (f:=vU32) (l:=(l1.set i5 (l1.getD j7 0))) (c:=(l1.getD i5 0)) HS rfl rfl rfl (by omega) rfl Fa.I22 (fun w32301 H32301=>(⟨⟨_,H32301⟩,?_⟩)))
       exact WH.cw hW (st10_5 w32301 H32301)
     have st10_3: ∀(wS:World),Owl.Own T w wS [a10_0]→W 3 (bz 16 8191) (e10 [(83,v),(84,(vN j7)),(88,(vU32 (l1.getD j7 0))),(92,(vU32 (l1.getD i5 0))),(93,(.pointer (some (sp v i5))))]) wS:=by
      intro wS HS
      rw [hW]
      refine wh1 13 ?_
      ·
       refine kH 13 rfl (op_storeRM (i:=0) (f:=vU32) (l:=l1) (c:=(l1.getD j7 0)) HS rfl rfl rfl (by omega) rfl Fa.I22 (fun w32261 H32261=>(⟨⟨_,H32261⟩,?_⟩)))
       exact xt 14 rfl (.pointer (some (sp v j7))) H32261 (fun _ _ HX=>op_indexAddr1W Tryz.underlying73 Fa.I22 rfl (H32261.arrR (i:=0) rfl) rfl (by omega) ⟨rfl,rfl⟩)<|WH.cw hW (st10_4 w32261 H32261)
     have st10_1: ∀(wS:World),Owl.Own T w wS [a10_0]→W 5 (bz 16 2047) (e10 [(81,v),(82,(vN i5)),(83,v),(84,(vN j7)),(88,(vU32 (l1.getD j7 0))),(91,(.pointer (some (sp v i5))))]) wS:=by
      intro wS HS
      rw [hW]
      refine wh1 11 ?_
      ·
       refine kH 11 rfl (op_load rfl ((HS.arrR (i:=0) rfl).at (get_map vU32 0 (Arr.ltM (HS.arrR (i:=0) rfl) (by omega)))) Tryz.underlying22 rfl (⟨⟨_,HS⟩,?_⟩))
       exact xt 12 rfl (.pointer (some (sp v i5))) HS (fun _ _ HX=>op_indexAddr1W Tryz.underlying73 Fa.I22 rfl (HS.arrR (i:=0) rfl) rfl (by omega) ⟨rfl,rfl⟩)<|WH.cw hW (st10_3 wS HS)
     have st10_2: ∀(wS:World),Owl.Own T w wS [a10_0]→W 5 (bz 16 3967) (e10 [(81,v),(82,(vN i5)),(83,v),(84,(vN j7)),(87,(.pointer (some (sp v j7)))),(92,(vU32 (l1.getD i5 0)))]) wS:=by
      intro wS HS
      rw [hW]
      refine wh1 7 ?_
      ·
       refine kH 7 rfl (op_load rfl ((HS.arrR (i:=0) rfl).at (get_map vU32 0 (Arr.ltM (HS.arrR (i:=0) rfl) (by omega)))) Tryz.underlying22 rfl (⟨⟨_,HS⟩,?_⟩))
       exact xt 12 rfl (.pointer (some (sp v i5))) HS (fun _ _ HX=>op_indexAddr1W Tryz.underlying73 Fa.I22 rfl (HS.arrR (i:=0) rfl) rfl (by omega) ⟨rfl,rfl⟩)<|WH.cw hW (st10_3 wS HS)
     have st10_0: ∀(wS:World),Owl.Own T w wS [a10_0]→W 6 (bz 16 1919) (e10 [(81,v),(82,(vN i5)),(83,v),(84,(vN j7)),(87,(.pointer (some (sp v j7)))),(91,(.pointer (some (sp v i5))))]) wS:=by
      intro wS HS
      rw [hW]
      refine wh2 7 11 ?_ ?_
      ·
       refine kH 7 rfl (op_load rfl ((HS.arrR (i:=0) rfl).at (get_map vU32 0 (Arr.ltM (HS.arrR (i:=0) rfl) (by omega)))) Tryz.underlying22 rfl (⟨⟨_,HS⟩,?_⟩))
       exact WH.cw hW (st10_1 wS HS)
      ·
       refine kH 11 rfl (op_load rfl ((HS.arrR (i:=0) rfl).at (get_map vU32 0 (Arr.ltM (HS.arrR (i:=0) rfl) (by omega)))) Tryz.underlying22 rfl (⟨⟨_,HS⟩,?_⟩))
       exact WH.cw hW (st10_2 wS HS)
     have hq:=st10_0 w21 H21
     rw [hW] at hq ⊢
     exact WH.cv hq
theorem parteq_ok (v:Value) (n:Nat) (l:List UInt32) (a b:Nat) (p:Nat) (T:List Nat) (w:World) (H:Owl.Own T w w [.row v 22 1 n (List.map vU32 l)]) (hn:l.length=n) (hN:n<2^61) (hap:a≤p) (hpb:p<b) (hb:b≤n) :
  Calls Tryz.prog 218 #[v,(vN a),(vN b),(vN p)] w (fun e w'=> ∃(l':List UInt32) (m:Nat),e=.returned (vN m)∧(Sw 0 a b l l'∧EqP ltU32 0 a b m l' (l.getD p 0))∧Owl.Own T w w' [.row v 22 1 n (List.map vU32 l')]):=by
 refine enter (args:=[v,(vN a),(vN b),(vN p)]) Tryz.func218 rfl rfl<|ws<|wa rfl<|wn<|WC.cut (α:=List UInt32) (fun l1=>[(0,v),(1,(vN a)),(2,(vN b))]) (fun l1 w'=>(Sw 0 a b l l1∧l1.getD a 0=(l.getD p 0))∧Owl.Own T w w' [.row v 22 1 n (List.map vU32 l1)]) ?_ ?_
 ·
  refine WC.held 16 rfl Fa.M H (fun w'=> ∃L',Owl.Own T w w' ([]++L')) ?_
  intro w1 H1
  refine xt 0 rfl v H1 (fun _ _ HX=>op_move rfl ⟨rfl,rfl⟩)<|xt 1 rfl (vN a) H1 (fun _ _ HX=>op_move rfl ⟨rfl,rfl⟩)<|xt 2 rfl v H1 (fun _ _ HX=>op_move rfl ⟨rfl,rfl⟩)<|xt 3 rfl (vN p) H1 (fun _ _ HX=>op_move rfl ⟨rfl,rfl⟩)<|xt 4 rfl v H1 (fun _ _ HX=>op_move rfl ⟨rfl,rfl⟩)<|xt 5 rfl (vN p) H1 (fun _ _ HX=>op_move rfl ⟨rfl,rfl⟩)<|xt 6 rfl (.pointer (some (sp v p))) H1 (fun _ _ HX=>op_indexAddr1W Tryz.underlying73 Fa.I22 rfl (H1.arrR (i:=0) rfl) rfl (by omega) ⟨rfl,rfl⟩)<|xt 8 rfl v H1 (fun _ _ HX=>op_move rfl ⟨rfl,rfl⟩)<|xt 9 rfl (vN a) H1 (fun _ _ HX=>op_move rfl ⟨rfl,rfl⟩)<|xt 10 rfl (.pointer (some (sp v a))) H1 (fun _ _ HX=>op_indexAddr1W Tryz.underlying73 Fa.I22 rfl (H1.arrR (i:=0) rfl) rfl (by omega) ⟨rfl,rfl⟩)<|WH.named (fun W hW=>?_)
  let a1_0:Ent:=.row v 22 1 n (List.map vU32 l)
  have st1_5: ∀(wS:World),Owl.Own T w wS [.row v 22 1 n (List.map vU32 ((l.set a (l.getD p 0)).set p (l.getD a 0)))]→W 0 (bz 16 65535) [(0,v),(1,(vN a)),(2,(vN b)),(3,(vN p)),(8,(vN 0))] wS:=by
   intro wS HS
   rw [hW]
   exact WH.done (by kernel_rfl)<|WQ.here (swapL 0 l a p) ⟨⟨Sw.one (by omega) (by omega) (by omega) (by omega),swap_fst (by omega) (by omega)⟩,HS⟩ ⟨rfl,rfl,rfl,trivial⟩
  have st1_4: ∀(wS:World),Owl.Own T w wS [.row v 22 1 n (List.map vU32 (l.set a (l.getD p 0)))]→W 1 (bz 16 32767) [(0,v),(1,(vN a)),(2,(vN b)),(3,(vN p)),(8,(vN 0)),(22,(vU32 (l.getD a 0))),(24,(.pointer (some (sp v p))))] wS:=by
   intro wS HS
   rw [hW]
   refine wh1 15 ?_
   ·
    refine kH 15 rfl (op_storeRM (i:=0) (f:=vU32) (l:=(l.set a (l.getD p 0))) (c:=(l.getD a 0)) HS rfl rfl rfl (by omega) rfl Fa.I22 (fun w12301 H12301=>(⟨⟨_,H12301⟩,?_⟩)))
    exact WH.cw hW (st1_5 w12301 H12301)
  have st1_3: ∀(wS:World),Owl.Own T w wS [a1_0]→W 3 (bz 16 8191) [(0,v),(1,(vN a)),(2,(vN b)),(3,(vN p)),(8,(vN 0)),(13,v),(14,(vN p)),(18,(vU32 (l.getD p 0))),(22,(vU32 (l.getD a 0))),(23,(.pointer (some (sp v a))))] wS:=by
   intro wS HS
   rw [hW]
   refine wh1 13 ?_
   ·
    refine kH 13 rfl (op_storeRM (i:=0) (f:=vU32) (l:=l) (c:=(l.getD p 0)) HS rfl rfl rfl (by omega) rfl Fa.I22 (fun w12261 H12261=>(⟨⟨_,H12261⟩,?_⟩)))
    exact xt 14 rfl (.pointer (some (sp v p))) H12261 (fun _ _ HX=>op_indexAddr1W Tryz.underlying73 Fa.I22 rfl (H12261.arrR (i:=0) rfl) rfl (by omega) ⟨rfl,rfl⟩)<|WH.cw hW (st1_4 w12261 H12261)
  have st1_1: ∀(wS:World),Owl.Own T w wS [a1_0]→W 5 (bz 16 2047) [(0,v),(1,(vN a)),(2,(vN b)),(3,(vN p)),(8,(vN 0)),(11,v),(12,(vN a)),(13,v),(14,(vN p)),(18,(vU32 (l.getD p 0))),(21,(.pointer (some (sp v a))))] wS:=by
   intro wS HS
   rw [hW]
   refine wh1 11 ?_
   ·
    refine kH 11 rfl (op_load rfl ((HS.arrR (i:=0) rfl).at (get_map vU32 0 (Arr.ltM (HS.arrR (i:=0) rfl) (by omega)))) Tryz.underlying22 rfl (⟨⟨_,HS⟩,?_⟩))
    exact xt 12 rfl (.pointer (some (sp v a))) HS (fun _ _ HX=>op_indexAddr1W Tryz.underlying73 Fa.I22 rfl (HS.arrR (i:=0) rfl) rfl (by omega) ⟨rfl,rfl⟩)<|WH.cw hW (st1_3 wS HS)
  have st1_2: ∀(wS:World),Owl.Own T w wS [a1_0]→W 5 (bz 16 3967) [(0,v),(1,(vN a)),(2,(vN b)),(3,(vN p)),(8,(vN 0)),(11,v),(12,(vN a)),(13,v),(14,(vN p)),(17,(.pointer (some (sp v p)))),(22,(vU32 (l.getD a 0)))] wS:=by
   intro wS HS
   rw [hW]
   refine wh1 7 ?_
   ·
    refine kH 7 rfl (op_load rfl ((HS.arrR (i:=0) rfl).at (get_map vU32 0 (Arr.ltM (HS.arrR (i:=0) rfl) (by omega)))) Tryz.underlying22 rfl (⟨⟨_,HS⟩,?_⟩))
    exact xt 12 rfl (.pointer (some (sp v a))) HS (fun _ _ HX=>op_indexAddr1W Tryz.underlying73 Fa.I22 rfl (HS.arrR (i:=0) rfl) rfl (by omega) ⟨rfl,rfl⟩)<|WH.cw hW (st1_3 wS HS)
  have st1_0: ∀(wS:World),Owl.Own T w wS [a1_0]→W 6 (bz 16 1919) [(0,v),(1,(vN a)),(2,(vN b)),(3,(vN p)),(8,(vN 0)),(11,v),(12,(vN a)),(13,v),(14,(vN p)),(17,(.pointer (some (sp v p)))),(21,(.pointer (some (sp v a))))] wS:=by
   intro wS HS
   rw [hW]
   refine wh2 7 11 ?_ ?_
   ·
    refine kH 7 rfl (op_load rfl ((HS.arrR (i:=0) rfl).at (get_map vU32 0 (Arr.ltM (HS.arrR (i:=0) rfl) (by omega)))) Tryz.underlying22 rfl (⟨⟨_,HS⟩,?_⟩))
    exact WH.cw hW (st1_1 wS HS)
   ·
    refine kH 11 rfl (op_load rfl ((HS.arrR (i:=0) rfl).at (get_map vU32 0 (Arr.ltM (HS.arrR (i:=0) rfl) (by omega)))) Tryz.underlying22 rfl (⟨⟨_,HS⟩,?_⟩))
    exact WH.cw hW (st1_2 wS HS)
  have hq:=st1_0 w1 H1
  rw [hW] at hq ⊢
  exact WH.cv hq
 ·
  rintro l1 w3 ⟨⟨hs1,hv1⟩,H3⟩
  show WC _ _ _ _ _ [(0,v),(1,(vN a)),(2,(vN b))] _
  have hL1:=hs1.len
  refine ws<|wm rfl<|wo (op_addN (b:=1) rfl rfl (by omega)<|wm rfl<|wo (op_subN (b:=1) rfl rfl (by omega) (by omega)<|wa rfl<|wa rfl<|wn<|WC.seq<|WC.block<|WC.loop (α:=Nat × Nat × List UInt32) (fun (u,z,l2)=>[(0,v),(1,(vN a)),(2,(vN b)),(9,(vN u)),(10,(vN z))]) (fun (u,z,l2) w'=>(Sw 0 a b l l2∧EqI ltU32 0 a b u z l2 (l.getD p 0))∧Owl.Own T w w' [.row v 22 1 n (List.map vU32 l2)]) (fun (u,z,l2)=>z+1-u) (a+1,b-1,l1) ⟨⟨hs1,eq_init (by omega) hv1⟩,H3⟩ ⟨rfl,rfl,rfl,rfl,rfl,trivial⟩ ?_))
  rintro ⟨u,z,l2⟩ w4 ⟨⟨hs2,hp8⟩,H4⟩
  show WC _ _ _ _ _ [(0,v),(1,(vN a)),(2,(vN b)),(9,(vN u)),(10,(vN z))] _
  have hL2:=hs2.len
  have hp8a:=hp8.1
  have hp8b:=hp8.2.1
  have hp8c:=hp8.2.2.1
  refine WC.block<|WC.cut (α:=Nat) (fun u4=>[(0,v),(1,(vN a)),(2,(vN b)),(9,(vN u4)),(10,(vN z))]) (fun u4 w'=>(u≤u4∧EqI ltU32 0 a b u4 z l2 (l.getD p 0)∧(z<u4∨ltU32 (l2.getD a 0) (l2.getD u4 0)=true))∧Owl.Own T w w' [.row v 22 1 n (List.map vU32 l2)]) ?_ ?_
  ·
   refine WC.block<|WC.loop (α:=Nat) (fun u3=>[(0,v),(1,(vN a)),(2,(vN b)),(9,(vN u3)),(10,(vN z))]) (fun u3 w'=>(u≤u3∧EqI ltU32 0 a b u3 z l2 (l.getD p 0))∧Owl.Own T w w' [.row v 22 1 n (List.map vU32 l2)]) (fun u3=>b-u3) u ⟨⟨Nat.le_refl _,hp8⟩,H4⟩ ⟨rfl,rfl,rfl,rfl,rfl,trivial⟩ ?_
   rintro u3 w5 ⟨⟨hu3,hp9⟩,H5⟩
   show WC _ _ _ _ _ [(0,v),(1,(vN a)),(2,(vN b)),(9,(vN u3)),(10,(vN z))] _
   have hp9a:=hp9.1
   have hp9b:=hp9.2.1
   have hp9c:=hp9.2.2.1
   refine WC.seq<|WC.seq (wB (decide (u3≤z)) (fun hb6=>?_) (fun hb6=>?_))
   ·
    have hc6:=dT hb6
    refine WC.draw 15 Fa.M H5 (mh rfl<|mh rfl<|oh (fun w1 H1=>op_leqN rfl rfl zr)<|mh rfl<|yh hb6 (fun w1 H1=>op_move rfl zr)<|yh hb6 (fun w1 H1=>op_move rfl zr)<|yh hb6 (fun w1 H1=>op_indexAddr1 Tryz.underlying73 Fa.I22 rfl (H1.arrR (i:=0) rfl) rfl (by omega) zr)<|yh hb6 (fun w1 H1=>op_load rfl ((H1.arrR (i:=0) rfl).at (get_map vU32 0 (Arr.ltM (H1.arrR (i:=0) rfl) (by omega)))) Tryz.underlying22 rfl zr)<|yh hb6 (fun w1 H1=>op_move rfl zr)<|yh hb6 (fun w1 H1=>op_move rfl zr)<|yh hb6 (fun w1 H1=>op_indexAddr1 Tryz.underlying73 Fa.I22 rfl (H1.arrR (i:=0) rfl) rfl (by omega) zr)<|yh hb6 (fun w1 H1=>op_load rfl ((H1.arrR (i:=0) rfl).at (get_map vU32 0 (Arr.ltM (H1.arrR (i:=0) rfl) (by omega)))) Tryz.underlying22 rfl zr)<|yh hb6 (fun w1 H1=>op_callF Fa.C217 rfl ((less_ok (l2.getD a 0) (l2.getD u3 0) _).mono (fun e w2 hq=>⟨_,hq.1,rfl,hq.2⟩)))<|yh hb6 (fun w1 H1=>op_not rfl zr)<|oh (fun w1 H1=>op_pickT rfl hb6 rfl zr)  HW.nil) (by kernel_rfl) ?_
    intro β8 w8 H8
    refine wn (wC (!(ltU32 (l2.getD a 0) (l2.getD u3 0))) (fun hb9=>?_) (fun hb9=>?_))
    ·
     have hn9:=(Bool.not_eq_true' _).mp hb9
     exact WC.skip<|WQ.next<|WC.block<|WC.region<|wm rfl<|wo (op_addN (b:=1) rfl rfl (by omega)<|wa rfl<|WL.nil<|WQ.inNormal<|WQ.round (u3+1) ⟨⟨by omega,eq_i hp9 (by omega) hn9⟩,H8⟩ ⟨rfl,rfl,rfl,rfl,rfl,trivial⟩ (by omega))
    ·
     have hn9:=(Bool.not_eq_false' _).mp hb9
     exact WC.exit<|WQ.thenExit<|WQ.thenExit<|WQ.inHere<|WQ.here u3 ⟨⟨hu3,hp9,.inr hn9⟩,H8⟩ ⟨rfl,rfl,rfl,rfl,rfl,trivial⟩
   ·
    have hc6:=dF hb6
    refine WC.draw 15 Fa.M H5 (mh rfl<|mh rfl<|oh (fun w1 H1=>op_leqN rfl rfl zr)<|mh rfl<|nh hb6<|nh hb6<|nh hb6<|nh hb6<|nh hb6<|nh hb6<|nh hb6<|nh hb6<|nh hb6<|nh hb6<|oh (fun w1 H1=>op_pickF rfl hb6 rfl zr)  HW.nil) (by kernel_rfl) ?_
    intro β10 w10 H10
    exact wn<|WC.no rfl rfl<|WC.exit<|WQ.thenExit<|WQ.thenExit<|WQ.inHere<|WQ.here u3 ⟨⟨hu3,hp9,.inl (by omega)⟩,H10⟩ ⟨rfl,rfl,rfl,rfl,rfl,trivial⟩
  ·
   rintro u4 w11 ⟨⟨hu4,hpa,hxa⟩,H11⟩
   show WC _ _ _ _ _ [(0,v),(1,(vN a)),(2,(vN b)),(9,(vN u4)),(10,(vN z))] _
   have hpaa:=hpa.1
   have hpab:=hpa.2.1
   have hpac:=hpa.2.2.1
   refine WC.cut (α:=Nat) (fun z4=>[(0,v),(1,(vN a)),(2,(vN b)),(9,(vN u4)),(10,(vN z4))]) (fun z4 w'=>(z4≤z∧EqI ltU32 0 a b u4 z4 l2 (l.getD p 0)∧(z4<u4∨ltU32 (l2.getD a 0) (l2.getD u4 0)=true)∧(z4<u4∨ltU32 (l2.getD a 0) (l2.getD z4 0)=false))∧Owl.Own T w w' [.row v 22 1 n (List.map vU32 l2)]) ?_ ?_
   ·
    refine WC.block<|WC.loop (α:=Nat) (fun z3=>[(0,v),(1,(vN a)),(2,(vN b)),(9,(vN u4)),(10,(vN z3))]) (fun z3 w'=>(z3≤z∧EqI ltU32 0 a b u4 z3 l2 (l.getD p 0)∧(z3<u4∨ltU32 (l2.getD a 0) (l2.getD u4 0)=true))∧Owl.Own T w w' [.row v 22 1 n (List.map vU32 l2)]) (fun z3=>z3) z ⟨⟨Nat.le_refl _,hpa,hxa⟩,H11⟩ ⟨rfl,rfl,rfl,rfl,rfl,trivial⟩ ?_
    rintro z3 w12 ⟨⟨hz3,hpb2,hxb⟩,H12⟩
    show WC _ _ _ _ _ [(0,v),(1,(vN a)),(2,(vN b)),(9,(vN u4)),(10,(vN z3))] _
    have hpb2a:=hpb2.1
    have hpb2b:=hpb2.2.1
    have hpb2c:=hpb2.2.2.1
    refine WC.seq<|WC.seq (wB (decide (u4≤z3)) (fun hb13=>?_) (fun hb13=>?_))
    ·
     have hc13:=dT hb13
     refine WC.draw 14 Fa.M H12 (mh rfl<|mh rfl<|oh (fun w1 H1=>op_leqN rfl rfl zr)<|mh rfl<|yh hb13 (fun w1 H1=>op_move rfl zr)<|yh hb13 (fun w1 H1=>op_move rfl zr)<|yh hb13 (fun w1 H1=>op_indexAddr1 Tryz.underlying73 Fa.I22 rfl (H1.arrR (i:=0) rfl) rfl (by omega) zr)<|yh hb13 (fun w1 H1=>op_load rfl ((H1.arrR (i:=0) rfl).at (get_map vU32 0 (Arr.ltM (H1.arrR (i:=0) rfl) (by omega)))) Tryz.underlying22 rfl zr)<|yh hb13 (fun w1 H1=>op_move rfl zr)<|yh hb13 (fun w1 H1=>op_move rfl zr)<|yh hb13 (fun w1 H1=>op_indexAddr1 Tryz.underlying73 Fa.I22 rfl (H1.arrR (i:=0) rfl) rfl (by omega) zr)<|yh hb13 (fun w1 H1=>op_load rfl ((H1.arrR (i:=0) rfl).at (get_map vU32 0 (Arr.ltM (H1.arrR (i:=0) rfl) (by omega)))) Tryz.underlying22 rfl zr)<|yh hb13 (fun w1 H1=>op_callF Fa.C217 rfl ((less_ok (l2.getD a 0) (l2.getD z3 0) _).mono (fun e w2 hq=>⟨_,hq.1,rfl,hq.2⟩)))<|oh (fun w1 H1=>op_pickT rfl hb13 rfl zr)  HW.nil) (by kernel_rfl) ?_
     intro β15 w15 H15
     refine wn (wC (ltU32 (l2.getD a 0) (l2.getD z3 0)) (fun hb16=>?_) (fun hb16=>?_))
     ·
      exact WC.skip<|WQ.next<|WC.block<|WC.region<|wm rfl<|wo (op_subN (b:=1) rfl rfl (by omega) (by omega)<|wa rfl<|WL.nil<|WQ.inNormal<|WQ.round (z3-1) ⟨⟨by omega,eq_j hpb2 (by omega) hb16,hxb.imp (fun h=>by omega) id⟩,H15⟩ ⟨rfl,rfl,rfl,rfl,rfl,trivial⟩ (by omega))
     ·
      exact WC.exit<|WQ.thenExit<|WQ.thenExit<|WQ.inHere<|WQ.here z3 ⟨⟨hz3,hpb2,hxb,.inr hb16⟩,H15⟩ ⟨rfl,rfl,rfl,rfl,rfl,trivial⟩
    ·
     have hc13:=dF hb13
     refine WC.draw 14 Fa.M H12 (mh rfl<|mh rfl<|oh (fun w1 H1=>op_leqN rfl rfl zr)<|mh rfl<|nh hb13<|nh hb13<|nh hb13<|nh hb13<|nh hb13<|nh hb13<|nh hb13<|nh hb13<|nh hb13<|oh (fun w1 H1=>op_pickF rfl hb13 rfl zr)  HW.nil) (by kernel_rfl) ?_
     intro β17 w17 H17
     exact wn<|WC.no rfl rfl<|WC.exit<|WQ.thenExit<|WQ.thenExit<|WQ.inHere<|WQ.here z3 ⟨⟨hz3,hpb2,hxb,.inl (by omega)⟩,H17⟩ ⟨rfl,rfl,rfl,rfl,rfl,trivial⟩
   ·
    rintro z4 w18 ⟨⟨hz4,hpb4,hxb4,hyb4⟩,H18⟩
    show WC _ _ _ _ _ [(0,v),(1,(vN a)),(2,(vN b)),(9,(vN u4)),(10,(vN z4))] _
    have hpb4a:=hpb4.1
    have hpb4b:=hpb4.2.1
    have hpb4c:=hpb4.2.2.1
    refine WC.seq<|ws<|wm rfl<|wm rfl<|wo (op_gtrN rfl rfl<|wn (wC (decide (u4>z4)) (fun hb19=>?_) (fun hb19=>?_)))
    ·
     have hc19:=dT hb19
     exact WC.exit<|WQ.thenExit<|WQ.inPass rfl<|WQ.thenExit<|WQ.inHere<|WQ.next<|ws<|wm rfl<|wa rfl<|wn<|WC.ret<|WQ.out (.tmp rfl .nil) (⟨_,_,rfl,⟨hs2,eq_done ltU32OK hpb4 (by omega)⟩,H18⟩)
    ·
     have hc19:=dF hb19
     refine WC.skip<|WQ.next<|WC.seq<|WC.held 16 rfl Fa.M H18 (fun w'=> ∃L',Owl.Own T w w' ([]++L')) ?_
     intro w20 H20
     refine xt 0 rfl v H20 (fun _ _ HX=>op_move rfl ⟨rfl,rfl⟩)<|xt 1 rfl (vN u4) H20 (fun _ _ HX=>op_move rfl ⟨rfl,rfl⟩)<|xt 2 rfl v H20 (fun _ _ HX=>op_move rfl ⟨rfl,rfl⟩)<|xt 3 rfl (vN z4) H20 (fun _ _ HX=>op_move rfl ⟨rfl,rfl⟩)<|xt 4 rfl v H20 (fun _ _ HX=>op_move rfl ⟨rfl,rfl⟩)<|xt 5 rfl (vN z4) H20 (fun _ _ HX=>op_move rfl ⟨rfl,rfl⟩)<|xt 6 rfl (.pointer (some (sp v z4))) H20 (fun _ _ HX=>op_indexAddr1W Tryz.underlying73 Fa.I22 rfl (H20.arrR (i:=0) rfl) rfl (by omega) ⟨rfl,rfl⟩)<|xt 8 rfl v H20 (fun _ _ HX=>op_move rfl ⟨rfl,rfl⟩)<|xt 9 rfl (vN u4) H20 (fun _ _ HX=>op_move rfl ⟨rfl,rfl⟩)<|xt 10 rfl (.pointer (some (sp v u4))) H20 (fun _ _ HX=>op_indexAddr1W Tryz.underlying73 Fa.I22 rfl (H20.arrR (i:=0) rfl) rfl (by omega) ⟨rfl,rfl⟩)<|WH.named (fun W hW=>?_)
     let e8:List (Nat × Value)→List (Nat × Value):=fun r=>(0,v)::(1,(vN a))::(2,(vN b))::(9,(vN u4))::(10,(vN z4))::(62,(vN u4))::(63,(vN z4))::(64,(.bool (decide (u4>z4))))::r
     let a8_0:Ent:=.row v 22 1 n (List.map vU32 l2)
     have st8_5: ∀(wS:World),Owl.Own T w wS [.row v 22 1 n (List.map vU32 ((l2.set u4 (l2.getD z4 0)).set z4 (l2.getD u4 0)))]→W 0 (bz 16 65535) (e8 []) wS:=by
      intro wS HS
      rw [hW]
      exact WH.done (by kernel_rfl)<|WQ.next<|ws<|wm rfl<|wo (op_addN (b:=1) rfl rfl (by omega)<|wa rfl<|wn<|WC.region<|wm rfl<|wo (op_subN (b:=1) rfl rfl (by omega) (by omega)<|wa rfl<|WL.nil<|WQ.inNormal<|WQ.round (u4+1,z4-1,swapL 0 l2 u4 z4) ⟨⟨hs2.step (by omega) (by omega) (by omega) (by omega),eq_swap (by omega) hpb4 (by omega) (hxb4.resolve_left (by omega)) (hyb4.resolve_left (by omega))⟩,HS⟩ ⟨rfl,rfl,rfl,rfl,rfl,trivial⟩ (by show z4-1+1-(u4+1)<z+1-u; omega)))
     have st8_4: ∀(wS:World),Owl.Own T w wS [.row v 22 1 n (List.map vU32 (l2.set u4 (l2.getD z4 0)))]→W 1 (bz 16 32767) (e8 [(76,(vU32 (l2.getD u4 0))),(78,(.pointer (some (sp v z4))))]) wS:=by
      intro wS HS
      rw [hW]
      refine wh1 15 ?_
      ·
       refine kH 15 rfl (op_storeRM (i:=0) (f:=vU32) (l:=(l2.set u4 (l2.getD z4 0))) (c:=(l2.getD u4 0)) HS rfl rfl rfl (by omega) rfl Fa.I22 (fun w31301 H31301=>(⟨⟨_,H31301⟩,?_⟩)))
       exact WH.cw hW (st8_5 w31301 H31301)
     have st8_3: ∀(wS:World),Owl.Own T w wS [a8_0]→W 3 (bz 16 8191) (e8 [(67,v),(68,(vN z4)),(72,(vU32 (l2.getD z4 0))),(76,(vU32 (l2.getD u4 0))),(77,(.pointer (some (sp v u4))))]) wS:=by
      intro wS HS
      rw [hW]
      refine wh1 13 ?_
      ·
       refine kH 13 rfl (op_storeRM (i:=0) (f:=vU32) (l:=l2) (c:=(l2.getD z4 0)) HS rfl rfl rfl (by omega) rfl Fa.I22 (fun w31261 H31261=>(⟨⟨_,H31261⟩,?_⟩)))
       exact xt 14 rfl (.pointer (some (sp v z4))) H31261 (fun _ _ HX=>op_indexAddr1W Tryz.underlying73 Fa.I22 rfl (H31261.arrR (i:=0) rfl) rfl (by omega) ⟨rfl,rfl⟩)<|WH.cw hW (st8_4 w31261 H31261)
     have st8_1: ∀(wS:World),Owl.Own T w wS [a8_0]→W 5 (bz 16 2047) (e8 [(65,v),(66,(vN u4)),(67,v),(68,(vN z4)),(72,(vU32 (l2.getD z4 0))),(75,(.pointer (some (sp v u4))))]) wS:=by
      intro wS HS
      rw [hW]
      refine wh1 11 ?_
      ·
       refine kH 11 rfl (op_load rfl ((HS.arrR (i:=0) rfl).at (get_map vU32 0 (Arr.ltM (HS.arrR (i:=0) rfl) (by omega)))) Tryz.underlying22 rfl (⟨⟨_,HS⟩,?_⟩))
       exact xt 12 rfl (.pointer (some (sp v u4))) HS (fun _ _ HX=>op_indexAddr1W Tryz.underlying73 Fa.I22 rfl (HS.arrR (i:=0) rfl) rfl (by omega) ⟨rfl,rfl⟩)<|WH.cw hW (st8_3 wS HS)
     have st8_2: ∀(wS:World),Owl.Own T w wS [a8_0]→W 5 (bz 16 3967) (e8 [(65,v),(66,(vN u4)),(67,v),(68,(vN z4)),(71,(.pointer (some (sp v z4)))),(76,(vU32 (l2.getD u4 0)))]) wS:=by
      intro wS HS
      rw [hW]
      refine wh1 7 ?_
      ·
       refine kH 7 rfl (op_load rfl ((HS.arrR (i:=0) rfl).at (get_map vU32 0 (Arr.ltM (HS.arrR (i:=0) rfl) (by omega)))) Tryz.underlying22 rfl (⟨⟨_,HS⟩,?_⟩))
       exact xt 12 rfl (.pointer (some (sp v u4))) HS (fun _ _ HX=>op_indexAddr1W Tryz.underlying73 Fa.I22 rfl (HS.arrR (i:=0) rfl) rfl (by omega) ⟨rfl,rfl⟩)<|WH.cw hW (st8_3 wS HS)
     have st8_0: ∀(wS:World),Owl.Own T w wS [a8_0]→W 6 (bz 16 1919) (e8 [(65,v),(66,(vN u4)),(67,v),(68,(vN z4)),(71,(.pointer (some (sp v z4)))),(75,(.pointer (some (sp v u4))))]) wS:=by
      intro wS HS
      rw [hW]
      refine wh2 7 11 ?_ ?_
      ·
       refine kH 7 rfl (op_load rfl ((HS.arrR (i:=0) rfl).at (get_map vU32 0 (Arr.ltM (HS.arrR (i:=0) rfl) (by omega)))) Tryz.underlying22 rfl (⟨⟨_,HS⟩,?_⟩))
       exact WH.cw hW (st8_1 wS HS)
      ·
       refine kH 11 rfl (op_load rfl ((HS.arrR (i:=0) rfl).at (get_map vU32 0 (Arr.ltM (HS.arrR (i:=0) rfl) (by omega)))) Tryz.underlying22 rfl (⟨⟨_,HS⟩,?_⟩))
       exact WH.cw hW (st8_2 wS HS)
     have hq:=st8_0 w20 H20
     rw [hW] at hq ⊢
     exact WH.cv hq
theorem pins_ok (v:Value) (n:Nat) (l:List UInt32) (a b:Nat) (T:List Nat) (w:World) (H:Owl.Own T w w [.row v 22 1 n (List.map vU32 l)]) (hn:l.length=n) (hN:n<2^61) (hab:a<b) (hb:b≤n) (hpre:PreS ltU32 0 a b l) :
  Calls Tryz.prog 216 #[v,(vN a),(vN b)] w (fun e w'=> ∃(l':List UInt32) (r:Bool),e=.returned (.bool r)∧(Sw 0 a b l l'∧(r=true→SortS ltU32 0 a b l'))∧Owl.Own T w w' [.row v 22 1 n (List.map vU32 l')]):=by
 refine enter (args:=[v,(vN a),(vN b)]) Tryz.func216 rfl rfl<|ws<|wa rfl<|wn<|ws<|wm rfl<|wo (op_addN (b:=1) rfl rfl (by omega)<|wa rfl<|wn<|WC.seq<|ws<|wa rfl<|wn<|WC.block<|WC.loop (α:=Nat × Nat × List UInt32) (fun (i,c,l1)=>[(0,v),(1,(vN a)),(2,(vN b)),(7,(vN i)),(8,(vN c))]) (fun (i,c,l1) w'=>(a+1≤i∧i≤b∧c≤5∧Sw 0 a b l l1∧SortS ltU32 0 a i l1∧PreS ltU32 0 a b l1)∧Owl.Own T w w' [.row v 22 1 n (List.map vU32 l1)]) (fun (i,c,l1)=>5-c) (a+1,0,l) ⟨⟨Nat.le_refl _,by omega,by omega,.refl _,SortS.nil (by omega),hpre⟩,H⟩ ⟨rfl,rfl,rfl,rfl,rfl,trivial⟩ ?_)
 rintro ⟨i,c,l1⟩ w1 ⟨⟨hi1,hi2,hc1,hs1,ho1,hp1⟩,H1⟩
 show WC _ _ _ _ _ [(0,v),(1,(vN a)),(2,(vN b)),(7,(vN i)),(8,(vN c))] _
 have hL1:=hs1.len
 refine WC.seq<|ws<|wm rfl<|wo (op_lssN (b:=5) rfl rfl<|wn (wC (decide (c<5)) (fun hb2=>?_) (fun hb2=>?_)))
 ·
  have hc2:=dT hb2
  refine WC.skip<|WQ.next<|WC.seq<|WC.block<|WC.cut (α:=Nat) (fun i3=>[(0,v),(1,(vN a)),(2,(vN b)),(7,(vN i3)),(8,(vN c))]) (fun i3 w'=>(a+1≤i3∧i3≤b∧SortS ltU32 0 a i3 l1)∧Owl.Own T w w' [.row v 22 1 n (List.map vU32 l1)]) ?_ ?_
  ·
   refine WC.block<|WC.loop (α:=Nat) (fun i2=>[(0,v),(1,(vN a)),(2,(vN b)),(7,(vN i2)),(8,(vN c))]) (fun i2 w'=>(a+1≤i2∧i2≤b∧SortS ltU32 0 a i2 l1)∧Owl.Own T w w' [.row v 22 1 n (List.map vU32 l1)]) (fun i2=>b-i2) i ⟨⟨hi1,hi2,ho1⟩,H1⟩ ⟨rfl,rfl,rfl,rfl,rfl,trivial⟩ ?_
   rintro i2 w3 ⟨⟨hi3,hi4,ho2⟩,H3⟩
   show WC _ _ _ _ _ [(0,v),(1,(vN a)),(2,(vN b)),(7,(vN i2)),(8,(vN c))] _
   refine WC.seq<|WC.seq (wB (decide (i2<b)) (fun hb4=>?_) (fun hb4=>?_))
   ·
    have hc4:=dT hb4
    refine WC.draw 16 Fa.M H3 (mh rfl<|mh rfl<|oh (fun w1 H1=>op_lssN rfl rfl zr)<|mh rfl<|yh hb4 (fun w1 H1=>op_move rfl zr)<|yh hb4 (fun w1 H1=>op_move rfl zr)<|yh hb4 (fun w1 H1=>op_indexAddr1 Tryz.underlying73 Fa.I22 rfl (H1.arrR (i:=0) rfl) rfl (by omega) zr)<|yh hb4 (fun w1 H1=>op_load rfl ((H1.arrR (i:=0) rfl).at (get_map vU32 0 (Arr.ltM (H1.arrR (i:=0) rfl) (by omega)))) Tryz.underlying22 rfl zr)<|yh hb4 (fun w1 H1=>op_move rfl zr)<|yh hb4 (fun w1 H1=>op_move rfl zr)<|yh hb4 (fun w1 H1=>op_subN (b:=1) rfl rfl (by omega) (by omega) zr)<|yh hb4 (fun w1 H1=>op_indexAddr1 Tryz.underlying73 Fa.I22 rfl (H1.arrR (i:=0) rfl) rfl (by omega) zr)<|yh hb4 (fun w1 H1=>op_load rfl ((H1.arrR (i:=0) rfl).at (get_map vU32 0 (Arr.ltM (H1.arrR (i:=0) rfl) (by omega)))) Tryz.underlying22 rfl zr)<|yh hb4 (fun w1 H1=>op_callF Fa.C217 rfl ((less_ok (l1.getD i2 0) (l1.getD (i2-1) 0) _).mono (fun e w2 hq=>⟨_,hq.1,rfl,hq.2⟩)))<|yh hb4 (fun w1 H1=>op_not rfl zr)<|oh (fun w1 H1=>op_pickT rfl hb4 rfl zr)  HW.nil) (by kernel_rfl) ?_
    intro β6 w6 H6
    refine wn (wC (!(ltU32 (l1.getD i2 0) (l1.getD (i2-1) 0))) (fun hb7=>?_) (fun hb7=>?_))
    ·
     have hn7:=(Bool.not_eq_true' _).mp hb7
     exact WC.skip<|WQ.next<|WC.block<|WC.region<|wm rfl<|wo (op_addN (b:=1) rfl rfl (by omega)<|wa rfl<|WL.nil<|WQ.inNormal<|WQ.round (i2+1) ⟨⟨by omega,by omega,sort_snoc ltU32OK ho2 (by omega) hn7⟩,H6⟩ ⟨rfl,rfl,rfl,rfl,rfl,trivial⟩ (by omega))
    ·
     have hn7:=(Bool.not_eq_false' _).mp hb7
     exact WC.exit<|WQ.thenExit<|WQ.thenExit<|WQ.inHere<|WQ.here i2 ⟨⟨hi3,hi4,ho2⟩,H6⟩ ⟨rfl,rfl,rfl,rfl,rfl,trivial⟩
   ·
    have hc4:=dF hb4
    refine WC.draw 16 Fa.M H3 (mh rfl<|mh rfl<|oh (fun w1 H1=>op_lssN rfl rfl zr)<|mh rfl<|nh hb4<|nh hb4<|nh hb4<|nh hb4<|nh hb4<|nh hb4<|nh hb4<|nh hb4<|nh hb4<|nh hb4<|nh hb4<|oh (fun w1 H1=>op_pickF rfl hb4 rfl zr)  HW.nil) (by kernel_rfl) ?_
    intro β8 w8 H8
    exact wn<|WC.no rfl rfl<|WC.exit<|WQ.thenExit<|WQ.thenExit<|WQ.inHere<|WQ.here i2 ⟨⟨hi3,hi4,ho2⟩,H8⟩ ⟨rfl,rfl,rfl,rfl,rfl,trivial⟩
  ·
   rintro i3 w9 ⟨⟨hi5,hi6,ho3⟩,H9⟩
   show WC _ _ _ _ _ [(0,v),(1,(vN a)),(2,(vN b)),(7,(vN i3)),(8,(vN c))] _
   refine WC.seq<|ws<|wm rfl<|wm rfl<|wo (op_eqlN rfl rfl<|wn (wC (decide (i3=b)) (fun hb10=>?_) (fun hb10=>?_)))
   ·
    have hc10:=dT hb10
    exact ws<|wa rfl<|wn<|WC.ret<|WQ.thenRet<|WQ.inRet<|WQ.thenRet<|WQ.thenRet<|WQ.inRet<|WQ.thenRet<|WQ.out (.tmp rfl .nil) (⟨_,_,rfl,⟨hs1,fun _ p q h1 h2 h3=>ho3 p q h1 h2 (by omega)⟩,H9⟩)
   ·
    have hc10:=dF hb10
    refine WC.skip<|WQ.next<|WC.seq<|ws<|wm rfl<|wm rfl<|wo (op_subN rfl rfl (by omega) (by omega)<|wo (op_lssN (b:=50) rfl rfl<|wn (wC (decide ((b-a)<50)) (fun hb11=>?_) (fun hb11=>?_))))
    ·
     have hc11:=dT hb11
     exact ws<|wa rfl<|wn<|WC.ret<|WQ.thenRet<|WQ.inRet<|WQ.thenRet<|WQ.thenRet<|WQ.inRet<|WQ.thenRet<|WQ.out (.tmp rfl .nil) (⟨_,_,rfl,⟨hs1,fun h=>by cases h⟩,H9⟩)
    ·
     have hc11:=dF hb11
     refine WC.skip<|WQ.next<|WC.cut (α:=List UInt32) (fun l3=>[(0,v),(1,(vN a)),(2,(vN b)),(7,(vN i3)),(8,(vN c))]) (fun l3 w'=>(Sw 0 a b l l3∧SortS ltU32 0 a (i3-1) l3∧PreS ltU32 0 a b l3)∧Owl.Own T w w' [.row v 22 1 n (List.map vU32 l3)]) ?_ ?_
     ·
      refine WC.held 18 rfl Fa.M H9 (fun w'=> ∃L',Owl.Own T w w' ([]++L')) ?_
      intro w12 H12
      refine xt 0 rfl v H12 (fun _ _ HX=>op_move rfl ⟨rfl,rfl⟩)<|xt 1 rfl (vN i3) H12 (fun _ _ HX=>op_move rfl ⟨rfl,rfl⟩)<|xt 2 rfl v H12 (fun _ _ HX=>op_move rfl ⟨rfl,rfl⟩)<|xt 3 rfl (vN i3) H12 (fun _ _ HX=>op_move rfl ⟨rfl,rfl⟩)<|xt 4 rfl (vN (i3-1)) H12 (fun _ _ HX=>op_subN (b:=1) rfl rfl (by omega) (by omega) ⟨rfl,rfl⟩)<|xt 5 rfl v H12 (fun _ _ HX=>op_move rfl ⟨rfl,rfl⟩)<|xt 6 rfl (vN i3) H12 (fun _ _ HX=>op_move rfl ⟨rfl,rfl⟩)<|xt 7 rfl (vN (i3-1)) H12 (fun _ _ HX=>op_subN (b:=1) rfl rfl (by omega) (by omega) ⟨rfl,rfl⟩)<|xt 8 rfl (.pointer (some (sp v (i3-1)))) H12 (fun _ _ HX=>op_indexAddr1W Tryz.underlying73 Fa.I22 rfl (H12.arrR (i:=0) rfl) rfl (by omega) ⟨rfl,rfl⟩)<|xt 10 rfl v H12 (fun _ _ HX=>op_move rfl ⟨rfl,rfl⟩)<|xt 11 rfl (vN i3) H12 (fun _ _ HX=>op_move rfl ⟨rfl,rfl⟩)<|xt 12 rfl (.pointer (some (sp v i3))) H12 (fun _ _ HX=>op_indexAddr1W Tryz.underlying73 Fa.I22 rfl (H12.arrR (i:=0) rfl) rfl (by omega) ⟨rfl,rfl⟩)<|WH.named (fun W hW=>?_)
      let e11:List (Nat × Value)→List (Nat × Value):=fun r=>(0,v)::(1,(vN a))::(2,(vN b))::(7,(vN i3))::(8,(vN c))::(35,(vN i3))::(36,(vN b))::(37,(.bool (decide (i3=b))))::(38,(vN b))::(39,(vN a))::(40,(vN (b-a)))::(41,(.bool (decide ((b-a)<50))))::r
      let a11_0:Ent:=.row v 22 1 n (List.map vU32 l1)
      have st11_5: ∀(wS:World),Owl.Own T w wS [.row v 22 1 n (List.map vU32 ((l1.set i3 (l1.getD (i3-1) 0)).set (i3-1) (l1.getD i3 0)))]→W 0 (bz 18 262143) (e11 []) wS:=by
       intro wS HS
       rw [hW]
       exact WH.done (by kernel_rfl)<|WQ.here (swapL 0 l1 i3 (i3-1)) ⟨⟨hs1.step (by omega) (by omega) (by omega) (by omega),sort_swap (by omega) (by omega) ho3,pre_sw (by omega) hp1 (Sw.one (by omega) (by omega) (by omega) (by omega))⟩,HS⟩ ⟨rfl,rfl,rfl,rfl,rfl,trivial⟩
      have st11_4: ∀(wS:World),Owl.Own T w wS [.row v 22 1 n (List.map vU32 (l1.set i3 (l1.getD (i3-1) 0)))]→W 1 (bz 18 131071) (e11 [(55,(vU32 (l1.getD i3 0))),(57,(.pointer (some (sp v (i3-1)))))]) wS:=by
       intro wS HS
       rw [hW]
       refine wh1 17 ?_
       ·
        refine kH 17 rfl (op_storeRM (i:=0) (f:=vU32) (l:=(l1.set i3 (l1.getD (i3-1) 0))) (c:=(l1.getD i3 0)) HS rfl rfl rfl (by omega) rfl Fa.I22 (fun w23341 H23341=>(⟨⟨_,H23341⟩,?_⟩)))
        exact WH.cw hW (st11_5 w23341 H23341)
      have st11_3: ∀(wS:World),Owl.Own T w wS [a11_0]→W 3 (bz 18 32767) (e11 [(44,v),(46,(vN (i3-1))),(51,(vU32 (l1.getD (i3-1) 0))),(55,(vU32 (l1.getD i3 0))),(56,(.pointer (some (sp v i3))))]) wS:=by
       intro wS HS
       rw [hW]
       refine wh1 15 ?_
       ·
        refine kH 15 rfl (op_storeRM (i:=0) (f:=vU32) (l:=l1) (c:=(l1.getD (i3-1) 0)) HS rfl rfl rfl (by omega) rfl Fa.I22 (fun w23301 H23301=>(⟨⟨_,H23301⟩,?_⟩)))
        exact xt 16 rfl (.pointer (some (sp v (i3-1)))) H23301 (fun _ _ HX=>op_indexAddr1W Tryz.underlying73 Fa.I22 rfl (H23301.arrR (i:=0) rfl) rfl (by omega) ⟨rfl,rfl⟩)<|WH.cw hW (st11_4 w23301 H23301)
      have st11_1: ∀(wS:World),Owl.Own T w wS [a11_0]→W 5 (bz 18 8191) (e11 [(42,v),(43,(vN i3)),(44,v),(46,(vN (i3-1))),(51,(vU32 (l1.getD (i3-1) 0))),(54,(.pointer (some (sp v i3))))]) wS:=by
       intro wS HS
       rw [hW]
       refine wh1 13 ?_
       ·
        refine kH 13 rfl (op_load rfl ((HS.arrR (i:=0) rfl).at (get_map vU32 0 (Arr.ltM (HS.arrR (i:=0) rfl) (by omega)))) Tryz.underlying22 rfl (⟨⟨_,HS⟩,?_⟩))
        exact xt 14 rfl (.pointer (some (sp v i3))) HS (fun _ _ HX=>op_indexAddr1W Tryz.underlying73 Fa.I22 rfl (HS.arrR (i:=0) rfl) rfl (by omega) ⟨rfl,rfl⟩)<|WH.cw hW (st11_3 wS HS)
      have st11_2: ∀(wS:World),Owl.Own T w wS [a11_0]→W 5 (bz 18 15871) (e11 [(42,v),(43,(vN i3)),(44,v),(46,(vN (i3-1))),(50,(.pointer (some (sp v (i3-1))))),(55,(vU32 (l1.getD i3 0)))]) wS:=by
       intro wS HS
       rw [hW]
       refine wh1 9 ?_
       ·
        refine kH 9 rfl (op_load rfl ((HS.arrR (i:=0) rfl).at (get_map vU32 0 (Arr.ltM (HS.arrR (i:=0) rfl) (by omega)))) Tryz.underlying22 rfl (⟨⟨_,HS⟩,?_⟩))
        exact xt 14 rfl (.pointer (some (sp v i3))) HS (fun _ _ HX=>op_indexAddr1W Tryz.underlying73 Fa.I22 rfl (HS.arrR (i:=0) rfl) rfl (by omega) ⟨rfl,rfl⟩)<|WH.cw hW (st11_3 wS HS)
      have st11_0: ∀(wS:World),Owl.Own T w wS [a11_0]→W 6 (bz 18 7679) (e11 [(42,v),(43,(vN i3)),(44,v),(46,(vN (i3-1))),(50,(.pointer (some (sp v (i3-1))))),(54,(.pointer (some (sp v i3))))]) wS:=by
       intro wS HS
       rw [hW]
       refine wh2 9 13 ?_ ?_
       ·
        refine kH 9 rfl (op_load rfl ((HS.arrR (i:=0) rfl).at (get_map vU32 0 (Arr.ltM (HS.arrR (i:=0) rfl) (by omega)))) Tryz.underlying22 rfl (⟨⟨_,HS⟩,?_⟩))
        exact WH.cw hW (st11_1 wS HS)
       ·
        refine kH 13 rfl (op_load rfl ((HS.arrR (i:=0) rfl).at (get_map vU32 0 (Arr.ltM (HS.arrR (i:=0) rfl) (by omega)))) Tryz.underlying22 rfl (⟨⟨_,HS⟩,?_⟩))
        exact WH.cw hW (st11_2 wS HS)
      have hq:=st11_0 w12 H12
      rw [hW] at hq ⊢
      exact WH.cv hq
     ·
      rintro l3 w14 ⟨⟨hs3,ho5,hp3⟩,H14⟩
      show WC _ _ _ _ _ [(0,v),(1,(vN a)),(2,(vN b)),(7,(vN i3)),(8,(vN c))] _
      have hL3:=hs3.len
      refine WC.cut (α:=List UInt32) (fun l4=>[(0,v),(1,(vN a)),(2,(vN b)),(7,(vN i3)),(8,(vN c))]) (fun l4 w'=>(Sw 0 a b l l4∧SortS ltU32 0 a i3 l4∧PreS ltU32 0 a b l4)∧Owl.Own T w w' [.row v 22 1 n (List.map vU32 l4)]) ?_ ?_
      ·
       refine ws<|wm rfl<|wm rfl<|wo (op_subN rfl rfl (by omega) (by omega)<|wo (op_geqN (b:=2) rfl rfl<|wn (wC (decide ((i3-a)≥2)) (fun hb15=>?_) (fun hb15=>?_))))
       ·
        have hc15:=dT hb15
        refine ws<|wm rfl<|wo (op_subN (b:=1) rfl rfl (by omega) (by omega)<|wa rfl<|wn<|WC.block<|WC.loop (α:=Nat × List UInt32) (fun (j,l2)=>[(0,v),(1,(vN a)),(2,(vN b)),(7,(vN i3)),(8,(vN c)),(9,(vN j))]) (fun (j,l2) w'=>(a≤j∧j≤i3-1∧Sw 0 a b l l2∧InsI ltU32 0 a (i3-1) j l2∧PreS ltU32 0 a b l2)∧Owl.Own T w w' [.row v 22 1 n (List.map vU32 l2)]) (fun (j,l2)=>j) (i3-1,l3) ⟨⟨by omega,Nat.le_refl _,hs3,ins_init ho5,hp3⟩,H14⟩ ⟨rfl,rfl,rfl,rfl,rfl,rfl,trivial⟩ ?_)
        rintro ⟨j,l2⟩ w16 ⟨⟨hj1,hj2,hs2,hj3,hp2⟩,H16⟩
        show WC _ _ _ _ _ [(0,v),(1,(vN a)),(2,(vN b)),(7,(vN i3)),(8,(vN c)),(9,(vN j))] _
        have hL2:=hs2.len
        refine WC.seq<|ws<|wm rfl<|wo (op_geqN (b:=1) rfl rfl<|wn (wC (decide (j≥1)) (fun hb17=>?_) (fun hb17=>?_)))
        ·
         have hc17:=dT hb17
         refine WC.skip<|WQ.next<|WC.seq<|WC.block<|WC.seq<|WC.seq<|WC.draw 11 Fa.M H16 (mh rfl<|mh rfl<|oh (fun w1 H1=>op_indexAddr1 Tryz.underlying73 Fa.I22 rfl (H1.arrR (i:=0) rfl) rfl (by omega) zr)<|oh (fun w1 H1=>op_load rfl ((H1.arrR (i:=0) rfl).at (get_map vU32 0 (Arr.ltM (H1.arrR (i:=0) rfl) (by omega)))) Tryz.underlying22 rfl zr)<|mh rfl<|mh rfl<|oh (fun w1 H1=>op_subN (b:=1) rfl rfl (by omega) (by omega) zr)<|oh (fun w1 H1=>op_indexAddr1 Tryz.underlying73 Fa.I22 rfl (H1.arrR (i:=0) rfl) rfl (by omega) zr)<|oh (fun w1 H1=>op_load rfl ((H1.arrR (i:=0) rfl).at (get_map vU32 0 (Arr.ltM (H1.arrR (i:=0) rfl) (by omega)))) Tryz.underlying22 rfl zr)<|oh (fun w1 H1=>op_callF Fa.C217 rfl ((less_ok (l2.getD j 0) (l2.getD (j-1) 0) _).mono (fun e w2 hq=>⟨_,hq.1,rfl,hq.2⟩)))<|oh (fun w1 H1=>op_not rfl zr)  HW.nil) (by kernel_rfl) ?_
         intro β19 w19 H19
         refine wn (wC (!(ltU32 (l2.getD j 0) (l2.getD (j-1) 0))) (fun hb20=>?_) (fun hb20=>?_))
         ·
          have hn20:=(Bool.not_eq_true' _).mp hb20
          refine WC.exit<|WQ.thenExit<|WQ.inPass rfl<|WQ.thenExit<|WQ.thenExit<|WQ.inHere ?_
          have hd:=ins_done ltU32OK hj3 (.inr hn20) hj1
          rw [show i3-1+1=i3 by omega] at hd
          exact WQ.here l2 ⟨⟨hs2,hd,hp2⟩,H19⟩ ⟨rfl,rfl,rfl,rfl,rfl,trivial⟩
         ·
          have hn20:=(Bool.not_eq_false' _).mp hb20
          have hja:=pre_gt hp2 hj1 (by omega) (by omega) hn20
          refine WC.skip<|WQ.next<|WC.held 18 rfl Fa.M H19 (fun w'=> ∃L',Owl.Own T w w' ([]++L')) ?_
          intro w21 H21
          refine xt 0 rfl v H21 (fun _ _ HX=>op_move rfl ⟨rfl,rfl⟩)<|xt 1 rfl (vN j) H21 (fun _ _ HX=>op_move rfl ⟨rfl,rfl⟩)<|xt 2 rfl v H21 (fun _ _ HX=>op_move rfl ⟨rfl,rfl⟩)<|xt 3 rfl (vN j) H21 (fun _ _ HX=>op_move rfl ⟨rfl,rfl⟩)<|xt 4 rfl (vN (j-1)) H21 (fun _ _ HX=>op_subN (b:=1) rfl rfl (by omega) (by omega) ⟨rfl,rfl⟩)<|xt 5 rfl v H21 (fun _ _ HX=>op_move rfl ⟨rfl,rfl⟩)<|xt 6 rfl (vN j) H21 (fun _ _ HX=>op_move rfl ⟨rfl,rfl⟩)<|xt 7 rfl (vN (j-1)) H21 (fun _ _ HX=>op_subN (b:=1) rfl rfl (by omega) (by omega) ⟨rfl,rfl⟩)<|xt 8 rfl (.pointer (some (sp v (j-1)))) H21 (fun _ _ HX=>op_indexAddr1W Tryz.underlying73 Fa.I22 rfl (H21.arrR (i:=0) rfl) rfl (by omega) ⟨rfl,rfl⟩)<|xt 10 rfl v H21 (fun _ _ HX=>op_move rfl ⟨rfl,rfl⟩)<|xt 11 rfl (vN j) H21 (fun _ _ HX=>op_move rfl ⟨rfl,rfl⟩)<|xt 12 rfl (.pointer (some (sp v j))) H21 (fun _ _ HX=>op_indexAddr1W Tryz.underlying73 Fa.I22 rfl (H21.arrR (i:=0) rfl) rfl (by omega) ⟨rfl,rfl⟩)<|WH.named (fun W hW=>?_)
          let e17:List (Nat × Value)→List (Nat × Value):=fun r=>(0,v)::(1,(vN a))::(2,(vN b))::(7,(vN i3))::(8,(vN c))::(9,(vN j))::(64,(vN j))::(65,(.bool (decide (j≥1))))::(68,v)::(69,(vN j))::(70,(.pointer (some (sp v j))))::(71,(vU32 (l2.getD j 0)))::(72,v)::(73,(vN j))::(74,(vN (j-1)))::(75,(.pointer (some (sp v (j-1)))))::(76,(vU32 (l2.getD (j-1) 0)))::(77,(.bool (ltU32 (l2.getD j 0) (l2.getD (j-1) 0))))::(78,(.bool (!(ltU32 (l2.getD j 0) (l2.getD (j-1) 0)))))::r
          let a17_0:Ent:=.row v 22 1 n (List.map vU32 l2)
          have st17_5: ∀(wS:World),Owl.Own T w wS [.row v 22 1 n (List.map vU32 ((l2.set j (l2.getD (j-1) 0)).set (j-1) (l2.getD j 0)))]→W 0 (bz 18 262143) (e17 []) wS:=by
           intro wS HS
           rw [hW]
           exact WH.done (by kernel_rfl)<|WQ.inNormal<|WQ.next<|WC.region<|wm rfl<|wo (op_subN (b:=1) rfl rfl (by omega) (by omega)<|wa rfl<|WL.nil<|WQ.round (j-1,swapL 0 l2 j (j-1)) ⟨⟨by omega,by omega,hs2.step (by omega) (by omega) (by omega) (by omega),ins_step ltU32OK (by omega) hj3 hja hj2 hn20,pre_sw (by omega) hp2 (Sw.one (by omega) (by omega) (by omega) (by omega))⟩,HS⟩ ⟨rfl,rfl,rfl,rfl,rfl,rfl,trivial⟩ (by show j-1<j; omega))
          have st17_4: ∀(wS:World),Owl.Own T w wS [.row v 22 1 n (List.map vU32 (l2.set j (l2.getD (j-1) 0)))]→W 1 (bz 18 131071) (e17 [(92,(vU32 (l2.getD j 0))),(94,(.pointer (some (sp v (j-1)))))]) wS:=by
           intro wS HS
           rw [hW]
           refine wh1 17 ?_
           ·
            refine kH 17 rfl (op_storeRM (i:=0) (f:=vU32) (l:=(l2.set j (l2.getD (j-1) 0))) (c:=(l2.getD j 0)) HS rfl rfl rfl (by omega) rfl Fa.I22 (fun w32341 H32341=>(⟨⟨_,H32341⟩,?_⟩)))
            exact WH.cw hW (st17_5 w32341 H32341)
          have st17_3: ∀(wS:World),Owl.Own T w wS [a17_0]→W 3 (bz 18 32767) (e17 [(81,v),(83,(vN (j-1))),(88,(vU32 (l2.getD (j-1) 0))),(92,(vU32 (l2.getD j 0))),(93,(.pointer (some (sp v j))))]) wS:=by
           intro wS HS
           rw [hW]
           refine wh1 15 ?_
           ·
            refine kH 15 rfl (op_storeRM (i:=0) (f:=vU32) (l:=l2) (c:=(l2.getD (j-1) 0)) HS rfl rfl rfl (by omega) rfl Fa.I22 (fun w32301 H32301=>(⟨⟨_,H32301⟩,?_⟩)))
            exact xt 16 rfl (.pointer (some (sp v (j-1)))) H32301 (fun _ _ HX=>op_indexAddr1W Tryz.underlying73 Fa.I22 rfl (H32301.arrR (i:=0) rfl) rfl (by omega) ⟨rfl,rfl⟩)<|WH.cw hW (st17_4 w32301 H32301)
          have st17_1: ∀(wS:World),Owl.Own T w wS [a17_0]→W 5 (bz 18 8191) (e17 [(79,v),(80,(vN j)),(81,v),(83,(vN (j-1))),(88,(vU32 (l2.getD (j-1) 0))),(91,(.pointer (some (sp v j))))]) wS:=by
           intro wS HS
           rw [hW]
           refine wh1 13 ?_
           ·
            refine kH 13 rfl (op_load rfl ((HS.arrR (i:=0) rfl).at (get_map vU32 0 (Arr.ltM (HS.arrR (i:=0) rfl) (by omega)))) Tryz.underlying22 rfl (⟨⟨_,HS⟩,?_⟩))
            exact xt 14 rfl (.pointer (some (sp v j))) HS (fun _ _ HX=>op_indexAddr1W Tryz.underlying73 Fa.I22 rfl (HS.arrR (i:=0) rfl) rfl (by omega) ⟨rfl,rfl⟩)<|WH.cw hW (st17_3 wS HS)
          have st17_2: ∀(wS:World),Owl.Own T w wS [a17_0]→W 5 (bz 18 15871) (e17 [(79,v),(80,(vN j)),(81,v),(83,(vN (j-1))),(87,(.pointer (some (sp v (j-1))))),(92,(vU32 (l2.getD j 0)))]) wS:=by
           intro wS HS
           rw [hW]
           refine wh1 9 ?_
           ·
            refine kH 9 rfl (op_load rfl ((HS.arrR (i:=0) rfl).at (get_map vU32 0 (Arr.ltM (HS.arrR (i:=0) rfl) (by omega)))) Tryz.underlying22 rfl (⟨⟨_,HS⟩,?_⟩))
            exact xt 14 rfl (.pointer (some (sp v j))) HS (fun _ _ HX=>op_indexAddr1W Tryz.underlying73 Fa.I22 rfl (HS.arrR (i:=0) rfl) rfl (by omega) ⟨rfl,rfl⟩)<|WH.cw hW (st17_3 wS HS)
          have st17_0: ∀(wS:World),Owl.Own T w wS [a17_0]→W 6 (bz 18 7679) (e17 [(79,v),(80,(vN j)),(81,v),(83,(vN (j-1))),(87,(.pointer (some (sp v (j-1))))),(91,(.pointer (some (sp v j))))]) wS:=by
           intro wS HS
           rw [hW]
           refine wh2 9 13 ?_ ?_
           ·
            refine kH 9 rfl (op_load rfl ((HS.arrR (i:=0) rfl).at (get_map vU32 0 (Arr.ltM (HS.arrR (i:=0) rfl) (by omega)))) Tryz.underlying22 rfl (⟨⟨_,HS⟩,?_⟩))
            exact WH.cw hW (st17_1 wS HS)
           ·
            refine kH 13 rfl (op_load rfl ((HS.arrR (i:=0) rfl).at (get_map vU32 0 (Arr.ltM (HS.arrR (i:=0) rfl) (by omega)))) Tryz.underlying22 rfl (⟨⟨_,HS⟩,?_⟩))
            exact WH.cw hW (st17_2 wS HS)
          have hq:=st17_0 w21 H21
          rw [hW] at hq ⊢
          exact WH.cv hq
        ·
         have hc17:=dF hb17
         refine WC.exit<|WQ.thenExit<|WQ.thenExit<|WQ.inHere ?_
         have hd:=ins_done ltU32OK hj3 (.inl (by omega)) hj1
         rw [show i3-1+1=i3 by omega] at hd
         exact WQ.here l2 ⟨⟨hs2,hd,hp2⟩,H16⟩ ⟨rfl,rfl,rfl,rfl,rfl,trivial⟩
       ·
        have hc15:=dF hb15
        exact WC.skip<|WQ.here l3 ⟨⟨hs3,SortS.nil (by omega),hp3⟩,H14⟩ ⟨rfl,rfl,rfl,rfl,rfl,trivial⟩
      ·
       rintro l4 w23 ⟨⟨hs4,ho4,hp4⟩,H23⟩
       show WC _ _ _ _ _ [(0,v),(1,(vN a)),(2,(vN b)),(7,(vN i3)),(8,(vN c))] _
       have hL4:=hs4.len
       refine ws<|wm rfl<|wm rfl<|wo (op_subN rfl rfl (by omega) (by omega)<|wo (op_geqN (b:=2) rfl rfl<|wn (wC (decide ((b-i3)≥2)) (fun hb24=>?_) (fun hb24=>?_))))
       ·
        have hc24:=dT hb24
        refine ws<|wm rfl<|wo (op_addN (b:=1) rfl rfl (by omega)<|wa rfl<|wn<|WC.block<|WC.loop (α:=Nat × List UInt32) (fun (k,l7)=>[(0,v),(1,(vN a)),(2,(vN b)),(7,(vN i3)),(8,(vN c)),(10,(vN k))]) (fun (k,l7) w'=>(i3+1≤k∧k≤b∧Sw 0 a b l l7∧SortS ltU32 0 a i3 l7∧PreS ltU32 0 a b l7)∧Owl.Own T w w' [.row v 22 1 n (List.map vU32 l7)]) (fun (k,l7)=>b-k) (i3+1,l4) ⟨⟨Nat.le_refl _,by omega,hs4,ho4,hp4⟩,H23⟩ ⟨rfl,rfl,rfl,rfl,rfl,rfl,trivial⟩ ?_)
        rintro ⟨k,l7⟩ w25 ⟨⟨hk1,hk2,hs7,ho7,hp7⟩,H25⟩
        show WC _ _ _ _ _ [(0,v),(1,(vN a)),(2,(vN b)),(7,(vN i3)),(8,(vN c)),(10,(vN k))] _
        have hL7:=hs7.len
        refine WC.seq<|ws<|wm rfl<|wm rfl<|wo (op_lssN rfl rfl<|wn (wC (decide (k<b)) (fun hb26=>?_) (fun hb26=>?_)))
        ·
         have hc26:=dT hb26
         refine WC.skip<|WQ.next<|WC.seq<|WC.block<|WC.seq<|WC.seq<|WC.draw 11 Fa.M H25 (mh rfl<|mh rfl<|oh (fun w1 H1=>op_indexAddr1 Tryz.underlying73 Fa.I22 rfl (H1.arrR (i:=0) rfl) rfl (by omega) zr)<|oh (fun w1 H1=>op_load rfl ((H1.arrR (i:=0) rfl).at (get_map vU32 0 (Arr.ltM (H1.arrR (i:=0) rfl) (by omega)))) Tryz.underlying22 rfl zr)<|mh rfl<|mh rfl<|oh (fun w1 H1=>op_subN (b:=1) rfl rfl (by omega) (by omega) zr)<|oh (fun w1 H1=>op_indexAddr1 Tryz.underlying73 Fa.I22 rfl (H1.arrR (i:=0) rfl) rfl (by omega) zr)<|oh (fun w1 H1=>op_load rfl ((H1.arrR (i:=0) rfl).at (get_map vU32 0 (Arr.ltM (H1.arrR (i:=0) rfl) (by omega)))) Tryz.underlying22 rfl zr)<|oh (fun w1 H1=>op_callF Fa.C217 rfl ((less_ok (l7.getD k 0) (l7.getD (k-1) 0) _).mono (fun e w2 hq=>⟨_,hq.1,rfl,hq.2⟩)))<|oh (fun w1 H1=>op_not rfl zr)  HW.nil) (by kernel_rfl) ?_
         intro β28 w28 H28
         refine wn (wC (!(ltU32 (l7.getD k 0) (l7.getD (k-1) 0))) (fun hb29=>?_) (fun hb29=>?_))
         ·
          have hn29:=(Bool.not_eq_true' _).mp hb29
          exact WC.exit<|WQ.thenExit<|WQ.inPass rfl<|WQ.thenExit<|WQ.thenExit<|WQ.inHere<|WQ.inNormal<|WQ.next<|WC.region<|wm rfl<|wo (op_addN (b:=1) rfl rfl (by omega)<|wa rfl<|WL.nil<|WQ.round (i3,c+1,l7) ⟨⟨by omega,by omega,by omega,hs7,ho7,hp7⟩,H28⟩ ⟨rfl,rfl,rfl,rfl,rfl,trivial⟩ (by show 5-(c+1)<5-c; omega))
         ·
          have hn29:=(Bool.not_eq_false' _).mp hb29
          refine WC.skip<|WQ.next<|WC.held 18 rfl Fa.M H28 (fun w'=> ∃L',Owl.Own T w w' ([]++L')) ?_
          intro w30 H30
          refine xt 0 rfl v H30 (fun _ _ HX=>op_move rfl ⟨rfl,rfl⟩)<|xt 1 rfl (vN k) H30 (fun _ _ HX=>op_move rfl ⟨rfl,rfl⟩)<|xt 2 rfl v H30 (fun _ _ HX=>op_move rfl ⟨rfl,rfl⟩)<|xt 3 rfl (vN k) H30 (fun _ _ HX=>op_move rfl ⟨rfl,rfl⟩)<|xt 4 rfl (vN (k-1)) H30 (fun _ _ HX=>op_subN (b:=1) rfl rfl (by omega) (by omega) ⟨rfl,rfl⟩)<|xt 5 rfl v H30 (fun _ _ HX=>op_move rfl ⟨rfl,rfl⟩)<|xt 6 rfl (vN k) H30 (fun _ _ HX=>op_move rfl ⟨rfl,rfl⟩)<|xt 7 rfl (vN (k-1)) H30 (fun _ _ HX=>op_subN (b:=1) rfl rfl (by omega) (by omega) ⟨rfl,rfl⟩)<|xt 8 rfl (.pointer (some (sp v (k-1)))) H30 (fun _ _ HX=>op_indexAddr1W Tryz.underlying73 Fa.I22 rfl (H30.arrR (i:=0) rfl) rfl (by omega) ⟨rfl,rfl⟩)<|xt 10 rfl v H30 (fun _ _ HX=>op_move rfl ⟨rfl,rfl⟩)<|xt 11 rfl (vN k) H30 (fun _ _ HX=>op_move rfl ⟨rfl,rfl⟩)<|xt 12 rfl (.pointer (some (sp v k))) H30 (fun _ _ HX=>op_indexAddr1W Tryz.underlying73 Fa.I22 rfl (H30.arrR (i:=0) rfl) rfl (by omega) ⟨rfl,rfl⟩)<|WH.named (fun W hW=>?_)
          let e23:List (Nat × Value)→List (Nat × Value):=fun r=>(0,v)::(1,(vN a))::(2,(vN b))::(7,(vN i3))::(8,(vN c))::(10,(vN k))::(101,(vN k))::(102,(vN b))::(103,(.bool (decide (k<b))))::(106,v)::(107,(vN k))::(108,(.pointer (some (sp v k))))::(109,(vU32 (l7.getD k 0)))::(110,v)::(111,(vN k))::(112,(vN (k-1)))::(113,(.pointer (some (sp v (k-1)))))::(114,(vU32 (l7.getD (k-1) 0)))::(115,(.bool (ltU32 (l7.getD k 0) (l7.getD (k-1) 0))))::(116,(.bool (!(ltU32 (l7.getD k 0) (l7.getD (k-1) 0)))))::r
          let a23_0:Ent:=.row v 22 1 n (List.map vU32 l7)
          have st23_5: ∀(wS:World),Owl.Own T w wS [.row v 22 1 n (List.map vU32 ((l7.set k (l7.getD (k-1) 0)).set (k-1) (l7.getD k 0)))]→W 0 (bz 18 262143) (e23 []) wS:=by
           intro wS HS
           rw [hW]
           exact WH.done (by kernel_rfl)<|WQ.inNormal<|WQ.next<|WC.region<|wm rfl<|wo (op_addN (b:=1) rfl rfl (by omega)<|wa rfl<|WL.nil<|WQ.round (k+1,swapL 0 l7 k (k-1)) ⟨⟨by omega,by omega,hs7.step (by omega) (by omega) (by omega) (by omega),sort_keep (b:=b) (by omega) ho7 (Sw.one (by omega) (by omega) (by omega) (by omega)),pre_sw (by omega) hp7 (Sw.one (by omega) (by omega) (by omega) (by omega))⟩,HS⟩ ⟨rfl,rfl,rfl,rfl,rfl,rfl,trivial⟩ (by show b-(k+1)<b-k; omega))
          have st23_4: ∀(wS:World),Owl.Own T w wS [.row v 22 1 n (List.map vU32 (l7.set k (l7.getD (k-1) 0)))]→W 1 (bz 18 131071) (e23 [(130,(vU32 (l7.getD k 0))),(132,(.pointer (some (sp v (k-1)))))]) wS:=by
           intro wS HS
           rw [hW]
           refine wh1 17 ?_
           ·
            refine kH 17 rfl (op_storeRM (i:=0) (f:=vU32) (l:=(l7.set k (l7.getD (k-1) 0))) (c:=(l7.getD k 0)) HS rfl rfl rfl (by omega) rfl Fa.I22 (fun w41341 H41341=>(⟨⟨_,H41341⟩,?_⟩)))
            exact WH.cw hW (st23_5 w41341 H41341)
          have st23_3: ∀(wS:World),Owl.Own T w wS [a23_0]→W 3 (bz 18 32767) (e23 [(119,v),(121,(vN (k-1))),(126,(vU32 (l7.getD (k-1) 0))),(130,(vU32 (l7.getD k 0))),(131,(.pointer (some (sp v k))))]) wS:=by
           intro wS HS
           rw [hW]
           refine wh1 15 ?_
           ·
            refine kH 15 rfl (op_storeRM (i:=0) (f:=vU32) (l:=l7) (c:=(l7.getD (k-1) 0)) HS rfl rfl rfl (by omega) rfl Fa.I22 (fun w41301 H41301=>(⟨⟨_,H41301⟩,?_⟩)))
            exact xt 16 rfl (.pointer (some (sp v (k-1)))) H41301 (fun _ _ HX=>op_indexAddr1W Tryz.underlying73 Fa.I22 rfl (H41301.arrR (i:=0) rfl) rfl (by omega) ⟨rfl,rfl⟩)<|WH.cw hW (st23_4 w41301 H41301)
          have st23_1: ∀(wS:World),Owl.Own T w wS [a23_0]→W 5 (bz 18 8191) (e23 [(117,v),(118,(vN k)),(119,v),(121,(vN (k-1))),(126,(vU32 (l7.getD (k-1) 0))),(129,(.pointer (some (sp v k))))]) wS:=by
           intro wS HS
           rw [hW]
           refine wh1 13 ?_
           ·
            refine kH 13 rfl (op_load rfl ((HS.arrR (i:=0) rfl).at (get_map vU32 0 (Arr.ltM (HS.arrR (i:=0) rfl) (by omega)))) Tryz.underlying22 rfl (⟨⟨_,HS⟩,?_⟩))
            exact xt 14 rfl (.pointer (some (sp v k))) HS (fun _ _ HX=>op_indexAddr1W Tryz.underlying73 Fa.I22 rfl (HS.arrR (i:=0) rfl) rfl (by omega) ⟨rfl,rfl⟩)<|WH.cw hW (st23_3 wS HS)
          have st23_2: ∀(wS:World),Owl.Own T w wS [a23_0]→W 5 (bz 18 15871) (e23 [(117,v),(118,(vN k)),(119,v),(121,(vN (k-1))),(125,(.pointer (some (sp v (k-1))))),(130,(vU32 (l7.getD k 0)))]) wS:=by
           intro wS HS
           rw [hW]
           refine wh1 9 ?_
           ·
            refine kH 9 rfl (op_load rfl ((HS.arrR (i:=0) rfl).at (get_map vU32 0 (Arr.ltM (HS.arrR (i:=0) rfl) (by omega)))) Tryz.underlying22 rfl (⟨⟨_,HS⟩,?_⟩))
            exact xt 14 rfl (.pointer (some (sp v k))) HS (fun _ _ HX=>op_indexAddr1W Tryz.underlying73 Fa.I22 rfl (HS.arrR (i:=0) rfl) rfl (by omega) ⟨rfl,rfl⟩)<|WH.cw hW (st23_3 wS HS)
          have st23_0: ∀(wS:World),Owl.Own T w wS [a23_0]→W 6 (bz 18 7679) (e23 [(117,v),(118,(vN k)),(119,v),(121,(vN (k-1))),(125,(.pointer (some (sp v (k-1))))),(129,(.pointer (some (sp v k))))]) wS:=by
           intro wS HS
           rw [hW]
           refine wh2 9 13 ?_ ?_
           ·
            refine kH 9 rfl (op_load rfl ((HS.arrR (i:=0) rfl).at (get_map vU32 0 (Arr.ltM (HS.arrR (i:=0) rfl) (by omega)))) Tryz.underlying22 rfl (⟨⟨_,HS⟩,?_⟩))
            exact WH.cw hW (st23_1 wS HS)
           ·
            refine kH 13 rfl (op_load rfl ((HS.arrR (i:=0) rfl).at (get_map vU32 0 (Arr.ltM (HS.arrR (i:=0) rfl) (by omega)))) Tryz.underlying22 rfl (⟨⟨_,HS⟩,?_⟩))
            exact WH.cw hW (st23_2 wS HS)
          have hq:=st23_0 w30 H30
          rw [hW] at hq ⊢
          exact WH.cv hq
        ·
         have hc26:=dF hb26
         exact WC.exit<|WQ.thenExit<|WQ.thenExit<|WQ.inHere<|WQ.inNormal<|WQ.next<|WC.region<|wm rfl<|wo (op_addN (b:=1) rfl rfl (by omega)<|wa rfl<|WL.nil<|WQ.round (i3,c+1,l7) ⟨⟨by omega,by omega,by omega,hs7,ho7,hp7⟩,H25⟩ ⟨rfl,rfl,rfl,rfl,rfl,trivial⟩ (by show 5-(c+1)<5-c; omega))
       ·
        have hc24:=dF hb24
        exact WC.skip<|WQ.inNormal<|WQ.next<|WC.region<|wm rfl<|wo (op_addN (b:=1) rfl rfl (by omega)<|wa rfl<|WL.nil<|WQ.round (i3,c+1,l4) ⟨⟨by omega,by omega,by omega,hs4,ho4,hp4⟩,H23⟩ ⟨rfl,rfl,rfl,rfl,rfl,trivial⟩ (by show 5-(c+1)<5-c; omega))
 ·
  have hc2:=dF hb2
  exact WC.exit<|WQ.thenExit<|WQ.thenExit<|WQ.inHere<|WQ.next<|ws<|wa rfl<|wn<|WC.ret<|WQ.out (.tmp rfl .nil) (⟨_,_,rfl,⟨hs1,fun h=>by cases h⟩,H1⟩)
theorem pdq_step (v:Value) (n:Nat) (l:List UInt32) (a b:Nat) (m:Nat) (T:List Nat) (w:World) (H:Owl.Own T w w [.row v 22 1 n (List.map vU32 l)]) (hn:l.length=n) (hN:n<2^61) (hab:a≤b) (hb:b≤n) (hm:m<2^62) (hpre:PreS ltU32 0 a b l) (IH: ∀(l2:List UInt32) (a2 b2 m2:Nat) (T2:List Nat) (w2:World),Owl.Own T2 w2 w2 [.row v 22 1 n (List.map vU32 l2)]→l2.length=n→b2-a2<b-a→a2≤b2→b2≤n→m2<2^62→PreS ltU32 0 a2 b2 l2→Calls Tryz.prog 181 #[v,vN a2,vN b2,vN m2] w2 (fun e w3=> ∃l3:List UInt32,e=.returned undef∧(Sw 0 a2 b2 l2 l3∧SortS ltU32 0 a2 b2 l3)∧Owl.Own T2 w2 w3 [.row v 22 1 n (List.map vU32 l3)])) :
  Calls Tryz.prog 181 #[v,(vN a),(vN b),(vN m)] w (fun e w'=> ∃(l':List UInt32),e=.returned undef∧(Sw 0 a b l l'∧SortS ltU32 0 a b l')∧Owl.Own T w w' [.row v 22 1 n (List.map vU32 l')]):=by
 refine enter (args:=[v,(vN a),(vN b),(vN m)]) Tryz.func181 rfl rfl<|ws<|wa rfl<|wn<|ws<|wa rfl<|wn<|WC.block<|WC.loop (α:=Nat × Nat × Nat × Bool × Bool × List UInt32) (fun (a1,b1,m1,p1,q1,l1)=>[(0,v),(1,(vN a1)),(2,(vN b1)),(3,(vN m1)),(8,(.bool p1)),(9,(.bool q1))]) (fun (a1,b1,m1,p1,q1,l1) w'=>(a≤a1∧a1≤b1∧b1≤b∧m1<2^62∧Sw 0 a b l l1∧OutS ltU32 0 a b a1 b1 l1∧PreS ltU32 0 a1 b1 l1)∧Owl.Own T w w' [.row v 22 1 n (List.map vU32 l1)]) (fun (a1,b1,m1,p1,q1,l1)=>b1-a1) (a,b,m,true,true,l) ⟨⟨Nat.le_refl _,hab,Nat.le_refl _,hm,.refl _,out_init,hpre⟩,H⟩ ⟨rfl,rfl,rfl,rfl,rfl,rfl,trivial⟩ ?_
 rintro ⟨a1,b1,m1,p1,q1,l1⟩ w1 ⟨⟨ha1,hab1,hb1,hm0,hs1,ho1,hpr1⟩,H1⟩
 show WC _ _ _ _ _ [(0,v),(1,(vN a1)),(2,(vN b1)),(3,(vN m1)),(8,(.bool p1)),(9,(.bool q1))] _
 have hL1:=hs1.len
 refine WC.block<|ws<|wm rfl<|wm rfl<|wo (op_subN rfl rfl (by omega) (by omega)<|wa rfl<|wn<|WC.seq<|ws<|wm rfl<|wo (op_leqN (b:=12) rfl rfl<|wn (wC (decide ((b1-a1)≤12)) (fun hb2=>?_) (fun hb2=>?_))))
 ·
  have hc2:=dT hb2
  refine ws<|wm rfl<|wm rfl<|wm rfl<|wo (op_callF Fa.C211 rfl ((ins_ok v n l1 a1 b1 _ _ (H1.part [0] rfl rfl) (by omega) (by omega) (by omega) (by omega)).mono (fun e w3 hq=>?_)))
  obtain ⟨l3,rfl,hc3,hq3⟩:=hq
  refine ⟨_,rfl,?_⟩
  have H3:=H1.splice [0] [.row v 22 1 n (List.map vU32 l3)] [] rfl rfl hq3 (Fits.solid True.intro Fits.nil)
  exact wn<|WC.ret<|WQ.thenRet<|WQ.inRet<|WQ.thenRet<|WQ.inRet<|WQ.out .nil (⟨_,rfl,⟨hs1.trans (hc3.1.mono (by omega) (by omega)),out_done (out_sw (by omega) (by omega) (by omega) ho1 hc3.1) hc3.2⟩,H3⟩)
 ·
  have hc2:=dF hb2
  refine WC.skip<|WQ.next<|WC.seq<|ws<|wm rfl<|wo (op_eqlN (b:=0) rfl rfl<|wn (wC (decide (m1=0)) (fun hb4=>?_) (fun hb4=>?_)))
  ·
   have hc4:=dT hb4
   refine ws<|wm rfl<|wm rfl<|wm rfl<|wo (op_callF Fa.C212 rfl ((heap_ok v n l1 a1 b1 _ _ (H1.part [0] rfl rfl) (by omega) (by omega) (by omega) (by omega)).mono (fun e w5 hq=>?_)))
   obtain ⟨l5,rfl,hc5,hq5⟩:=hq
   refine ⟨_,rfl,?_⟩
   have H5:=H1.splice [0] [.row v 22 1 n (List.map vU32 l5)] [] rfl rfl hq5 (Fits.solid True.intro Fits.nil)
   exact wn<|WC.ret<|WQ.thenRet<|WQ.inRet<|WQ.thenRet<|WQ.inRet<|WQ.out .nil (⟨_,rfl,⟨hs1.trans (hc5.1.mono (by omega) (by omega)),out_done (out_sw (by omega) (by omega) (by omega) ho1 hc5.1) hc5.2⟩,H5⟩)
  ·
   have hc4:=dF hb4
   refine WC.skip<|WQ.next<|WC.cut (α:=Nat × List UInt32) (fun (m2,l2)=>[(0,v),(1,(vN a1)),(2,(vN b1)),(3,(vN m2)),(8,(.bool p1)),(9,(.bool q1)),(10,(vN (b1-a1)))]) (fun (m2,l2) w'=>(m2<2^62∧Sw 0 a1 b1 l1 l2)∧Owl.Own T w w' [.row v 22 1 n (List.map vU32 l2)]) ?_ ?_
   ·
    refine ws<|wm rfl<|wo (op_not rfl<|wn (wC (!p1) (fun hb6=>?_) (fun hb6=>?_)))
    ·
     have hn6:=(Bool.not_eq_true' _).mp hb6
     refine ws<|wm rfl<|wm rfl<|wm rfl<|wo (op_callF Fa.C213 rfl ((brk_ok v n l1 a1 b1 _ _ (H1.part [0] rfl rfl) (by omega) (by omega) (by omega) (by omega)).mono (fun e w7 hq=>?_)))
     obtain ⟨l7,rfl,hc7,hq7⟩:=hq
     refine ⟨_,rfl,?_⟩
     have H7:=H1.splice [0] [.row v 22 1 n (List.map vU32 l7)] [] rfl rfl hq7 (Fits.solid True.intro Fits.nil)
     exact wn<|WC.region<|wm rfl<|wo (op_subN (b:=1) rfl rfl (by omega) (by omega)<|wa rfl<|WL.nil<|WQ.here ((m1-1),l7) ⟨⟨by omega,hc7⟩,H7⟩ ⟨rfl,rfl,rfl,rfl,rfl,rfl,rfl,trivial⟩)
    ·
     have hn6:=(Bool.not_eq_false' _).mp hb6
     exact WC.skip<|WQ.here (m1,l1) ⟨⟨by omega,.refl _⟩,H1⟩ ⟨rfl,rfl,rfl,rfl,rfl,rfl,rfl,trivial⟩
   ·
    rintro ⟨m2,l2⟩ w8 ⟨⟨hm9,hs2⟩,H8⟩
    show WC _ _ _ _ _ [(0,v),(1,(vN a1)),(2,(vN b1)),(3,(vN m2)),(8,(.bool p1)),(9,(.bool q1)),(10,(vN (b1-a1)))] _
    have hL2:=hs2.len
    refine ws<|wm rfl<|wm rfl<|wm rfl<|wo (op_callF Fa.C214 rfl ((piv_ok v n l2 a1 b1 _ _ (H8.part [0] rfl rfl) (by omega) (by omega) (by omega) (by omega)).mono (fun e w9 hq=>?_)))
    obtain ⟨p9,h9,rfl,hc9,hq9⟩:=hq
    refine ⟨_,rfl,?_⟩
    have H9:=H8.splice [0] [.row v 22 1 n (List.map vU32 l2)] [] rfl rfl hq9 (Fits.solid True.intro Fits.nil)
    refine wm rfl<|we rfl rfl<|we rfl rfl<|wa rfl<|wa rfl<|wn<|WC.cut (α:=Nat × Nat × List UInt32) (fun (pv,h,l3)=>[(0,v),(1,(vN a1)),(2,(vN b1)),(3,(vN m2)),(8,(.bool p1)),(9,(.bool q1)),(10,(vN (b1-a1))),(11,(vN pv)),(12,(vN h))]) (fun (pv,h,l3) w'=>(a1≤pv∧pv<b1∧Sw 0 a1 b1 l1 l3)∧Owl.Own T w w' [.row v 22 1 n (List.map vU32 l3)]) ?_ ?_
    ·
     refine ws<|wm rfl<|wo (op_eqlN (b:=2) rfl rfl<|wn (wC (decide (h9=2)) (fun hb10=>?_) (fun hb10=>?_)))
     ·
      have hc10:=dT hb10
      refine ws<|wm rfl<|wm rfl<|wm rfl<|wo (op_callF Fa.C215 rfl ((rev_ok v n l2 a1 b1 _ _ (H9.part [0] rfl rfl) (by omega) (by omega) (by omega) (by omega)).mono (fun e w11 hq=>?_)))
      obtain ⟨l11,rfl,hc11,hq11⟩:=hq
      refine ⟨_,rfl,?_⟩
      have H11:=H9.splice [0] [.row v 22 1 n (List.map vU32 l11)] [] rfl rfl hq11 (Fits.solid True.intro Fits.nil)
      exact wn<|ws<|wm rfl<|wo (op_subN (b:=1) rfl rfl (by omega) (by omega)<|wm rfl<|wm rfl<|wo (op_subN rfl rfl (by omega) (by omega)<|wo (op_subN rfl rfl (by omega) (by omega)<|wa rfl<|wn<|WC.region<|wa rfl<|WL.nil<|WQ.here (((b1-1)-(p9-a1)),1,l11) ⟨⟨by omega,by omega,hs2.trans hc11⟩,H11⟩ ⟨rfl,rfl,rfl,rfl,rfl,rfl,rfl,rfl,rfl,trivial⟩)))
     ·
      have hc10:=dF hb10
      exact WC.skip<|WQ.here (p9,h9,l2) ⟨⟨by omega,by omega,hs2⟩,H9⟩ ⟨rfl,rfl,rfl,rfl,rfl,rfl,rfl,rfl,rfl,trivial⟩
    ·
     rintro ⟨pv,h,l3⟩ w12 ⟨⟨hv1,hv2,hs3⟩,H12⟩
     show WC _ _ _ _ _ [(0,v),(1,(vN a1)),(2,(vN b1)),(3,(vN m2)),(8,(.bool p1)),(9,(.bool q1)),(10,(vN (b1-a1))),(11,(vN pv)),(12,(vN h))] _
     have hL3:=hs3.len
     refine WC.cut (α:=List UInt32) (fun l4=>[(0,v),(1,(vN a1)),(2,(vN b1)),(3,(vN m2)),(8,(.bool p1)),(9,(.bool q1)),(10,(vN (b1-a1))),(11,(vN pv))]) (fun l4 w'=>(Sw 0 a1 b1 l1 l4)∧Owl.Own T w w' [.row v 22 1 n (List.map vU32 l4)]) ?_ ?_
     ·
      refine ws<|wm rfl<|wm rfl (wV 62 p1 (fun hb13=>?_) (fun hb13=>?_))
      ·
       refine wY hb13 (op_move rfl<|wo (op_pickT rfl hb13 rfl<|wm rfl (wV 65 q1 (fun hb14=>?_) (fun hb14=>?_))))
       ·
        refine wY hb14 (op_move rfl<|wY hb14 (op_eqlN (b:=1) rfl rfl<|wo (op_pickT rfl hb14 rfl<|wn (wC (decide (h=1)) (fun hb15=>?_) (fun hb15=>?_)))))
        ·
         have hc15:=dT hb15
         refine ws<|wm rfl<|wm rfl<|wm rfl<|wo (op_callF Fa.C216 rfl ((pins_ok v n l3 a1 b1 _ _ (H12.part [0] rfl rfl) (by omega) (by omega) (by omega) (by omega) (pre_sw (by omega) hpr1 hs3)).mono (fun e w16 hq=>?_)))
         obtain ⟨l16,r16,rfl,hc16,hq16⟩:=hq
         refine ⟨_,rfl,?_⟩
         have H16:=H12.splice [0] [.row v 22 1 n (List.map vU32 l16)] [] rfl rfl hq16 (Fits.solid True.intro Fits.nil)
         refine wn (wC r16 (fun hb17=>?_) (fun hb17=>?_))
         ·
          exact WC.ret<|WQ.thenRet<|WQ.inRet<|WQ.thenRet<|WQ.inRet<|WQ.out .nil (⟨_,rfl,⟨hs1.trans ((hs3.trans hc16.1).mono (by omega) (by omega)),out_done (out_sw (by omega) (by omega) (by omega) ho1 (hs3.trans hc16.1)) (hc16.2 hb17)⟩,H16⟩)
         ·
          exact WC.skip<|WQ.here l16 ⟨(hs3.trans hc16.1),H16⟩ ⟨rfl,rfl,rfl,rfl,rfl,rfl,rfl,rfl,trivial⟩
        ·
         have hc15:=dF hb15
         exact WC.skip<|WQ.here l3 ⟨hs3,H12⟩ ⟨rfl,rfl,rfl,rfl,rfl,rfl,rfl,rfl,trivial⟩
       ·
        exact wN hb14<|wN hb14<|wo (op_pickF rfl hb14 rfl<|wn<|WC.no rfl rfl<|WC.skip<|WQ.here l3 ⟨hs3,H12⟩ ⟨rfl,rfl,rfl,rfl,rfl,rfl,rfl,rfl,trivial⟩)
      ·
       exact wN hb13<|wo (op_pickF rfl hb13 rfl<|wm rfl<|wN rfl<|wN rfl<|wo (op_pickF rfl rfl rfl<|wn<|WC.no rfl rfl<|WC.skip<|WQ.here l3 ⟨hs3,H12⟩ ⟨rfl,rfl,rfl,rfl,rfl,rfl,rfl,rfl,trivial⟩))
     ·
      rintro l4 w18 ⟨hs4,H18⟩
      show WC _ _ _ _ _ [(0,v),(1,(vN a1)),(2,(vN b1)),(3,(vN m2)),(8,(.bool p1)),(9,(.bool q1)),(10,(vN (b1-a1))),(11,(vN pv))] _
      have hL4:=hs4.len
      have hO4:=out_sw (by omega) (by omega) (by omega) ho1 hs4
      have hP4:=pre_sw (by omega) hpr1 hs4
      refine WC.seq<|WC.seq (wB (decide (a1>0)) (fun hb19=>?_) (fun hb19=>?_))
      ·
       have hc19:=dT hb19
       refine WC.draw 15 Fa.M H18 (mh rfl<|oh (fun w1 H1=>op_gtrN (b:=0) rfl rfl zr)<|mh rfl<|yh hb19 (fun w1 H1=>op_move rfl zr)<|yh hb19 (fun w1 H1=>op_move rfl zr)<|yh hb19 (fun w1 H1=>op_subN (b:=1) rfl rfl (by omega) (by omega) zr)<|yh hb19 (fun w1 H1=>op_indexAddr1 Tryz.underlying73 Fa.I22 rfl (H1.arrR (i:=0) rfl) rfl (by omega) zr)<|yh hb19 (fun w1 H1=>op_load rfl ((H1.arrR (i:=0) rfl).at (get_map vU32 0 (Arr.ltM (H1.arrR (i:=0) rfl) (by omega)))) Tryz.underlying22 rfl zr)<|yh hb19 (fun w1 H1=>op_move rfl zr)<|yh hb19 (fun w1 H1=>op_move rfl zr)<|yh hb19 (fun w1 H1=>op_indexAddr1 Tryz.underlying73 Fa.I22 rfl (H1.arrR (i:=0) rfl) rfl (by omega) zr)<|yh hb19 (fun w1 H1=>op_load rfl ((H1.arrR (i:=0) rfl).at (get_map vU32 0 (Arr.ltM (H1.arrR (i:=0) rfl) (by omega)))) Tryz.underlying22 rfl zr)<|yh hb19 (fun w1 H1=>op_callF Fa.C217 rfl ((less_ok (l4.getD (a1-1) 0) (l4.getD pv 0) _).mono (fun e w2 hq=>⟨_,hq.1,rfl,hq.2⟩)))<|yh hb19 (fun w1 H1=>op_not rfl zr)<|oh (fun w1 H1=>op_pickT rfl hb19 rfl zr)  HW.nil) (by kernel_rfl) ?_
       intro β21 w21 H21
       refine wn (wC (!(ltU32 (l4.getD (a1-1) 0) (l4.getD pv 0))) (fun hb22=>?_) (fun hb22=>?_))
       ·
        have hn22:=(Bool.not_eq_true' _).mp hb22
        refine ws<|wm rfl<|wm rfl<|wm rfl<|wm rfl<|wo (op_callF Fa.C218 rfl ((parteq_ok v n l4 a1 b1 pv _ _ (H21.part [0] rfl rfl) (by omega) (by omega) (by omega) (by omega) (by omega)).mono (fun e w23 hq=>?_)))
        obtain ⟨l23,m23,rfl,hc23,hq23⟩:=hq
        refine ⟨_,rfl,?_⟩
        have H23:=H21.splice [0] [.row v 22 1 n (List.map vU32 l23)] [] rfl rfl hq23 (Fits.solid True.intro Fits.nil)
        refine wa rfl<|wn<|ws<|wm rfl<|wa rfl<|wn<|WC.exit<|WQ.thenExit<|WQ.inHere ?_
        have hm1:=hc23.2.1
        have hm2:=hc23.2.2.1
        have hE:=eq_left ltU32OK (by omega) (by omega) hO4 (by omega) hP4 (by omega) hn22 hc23.1 hc23.2
        exact WQ.round (m23,b1,m2,p1,q1,l23) ⟨⟨by omega,by omega,by omega,by omega,hs1.trans ((hs4.trans hc23.1).mono (by omega) (by omega)),hE.1,hE.2⟩,H23⟩ ⟨rfl,rfl,rfl,rfl,rfl,rfl,trivial⟩ (by show b1-m23<b1-a1; omega)
       ·
        have hn22:=(Bool.not_eq_false' _).mp hb22
        refine WC.skip<|WQ.next<|ws<|wm rfl<|wm rfl<|wm rfl<|wm rfl<|wo (op_callF Fa.C219 rfl ((part_ok v n l4 a1 b1 pv _ _ (H21.part [0] rfl rfl) (by omega) (by omega) (by omega) (by omega) (by omega)).mono (fun e w24 hq=>?_)))
        obtain ⟨l24,m24,f24,rfl,hc24,hq24⟩:=hq
        refine ⟨_,rfl,?_⟩
        have H24:=H21.splice [0] [.row v 22 1 n (List.map vU32 l24)] [] rfl rfl hq24 (Fits.solid True.intro Fits.nil)
        refine wm rfl<|we rfl rfl<|we rfl rfl<|wa rfl<|wa rfl<|wn<|ws ?_
        have hLP:=hc24.1.len
        have hm1:=hc24.2.1
        have hm2:=hc24.2.2.1
        have hO5:=out_sw (by omega) (by omega) (by omega) hO4 hc24.1
        have hP5:=pre_sw (by omega) hP4 hc24.1
        refine wm rfl<|wa rfl<|wn<|ws<|wm rfl<|wm rfl<|wo (op_subN rfl rfl (by omega) (by omega)<|wm rfl<|wm rfl<|wo (op_subN rfl rfl (by omega) (by omega)<|wa rfl<|wa rfl<|wn<|ws<|wm rfl<|wo (op_quoN (b:=8) rfl rfl (by omega) (by omega)<|wa rfl<|wn<|ws<|wm rfl<|wm rfl<|wo (op_lssN rfl rfl<|wn (wC (decide ((m24-a1)<(b1-m24))) (fun hb25=>?_) (fun hb25=>?_))))))
        ·
         have hc25:=dT hb25
         refine ws<|wm rfl<|wm rfl<|wo (op_geqN rfl rfl<|wa rfl<|wn<|ws<|wm rfl<|wm rfl<|wm rfl<|wm rfl<|wo (op_callF Fa.C181 rfl ((IH l24 a1 m24 m2 _ _ (H24.part [0] rfl rfl) (by omega) (by omega) (by omega) (by omega) (by omega) (pre_left hP5 (by omega))).mono (fun e w26 hq=>?_))))
         obtain ⟨l26,rfl,hc26,hq26⟩:=hq
         refine ⟨_,rfl,?_⟩
         have H26:=H24.splice [0] [.row v 22 1 n (List.map vU32 l26)] [] rfl rfl hq26 (Fits.solid True.intro Fits.nil)
         refine wn<|WC.region<|wm rfl<|wo (op_addN (b:=1) rfl rfl (by omega)<|wa rfl<|WL.nil<|WQ.inNormal ?_)
         have hE:=part_left ltU32OK (by omega) (by omega) hO5 (by omega) hc24.2 hc26.1 hc26.2
         exact WQ.round ((m24+1),b1,m2,(decide ((m24-a1)≥((b1-a1) / 8))),f24,l26) ⟨⟨by omega,by omega,by omega,by omega,hs1.trans (((hs4.trans hc24.1).trans (hc26.1.mono (by omega) (by omega))).mono (by omega) (by omega)),hE.1,hE.2⟩,H26⟩ ⟨rfl,rfl,rfl,rfl,rfl,rfl,trivial⟩ (by show b1-(m24+1)<b1-a1; omega)
        ·
         have hc25:=dF hb25
         refine ws<|wm rfl<|wm rfl<|wo (op_geqN rfl rfl<|wa rfl<|wn<|ws<|wm rfl<|wm rfl<|wo (op_addN (b:=1) rfl rfl (by omega)<|wm rfl<|wm rfl<|wo (op_callF Fa.C181 rfl ((IH l24 (m24+1) b1 m2 _ _ (H24.part [0] rfl rfl) (by omega) (by omega) (by omega) (by omega) (by omega) (pre_right hc24.2)).mono (fun e w27 hq=>?_)))))
         obtain ⟨l27,rfl,hc27,hq27⟩:=hq
         refine ⟨_,rfl,?_⟩
         have H27:=H24.splice [0] [.row v 22 1 n (List.map vU32 l27)] [] rfl rfl hq27 (Fits.solid True.intro Fits.nil)
         refine wn<|WC.region<|wm rfl<|wa rfl<|WL.nil<|WQ.inNormal ?_
         have hE:=part_right ltU32OK (by omega) (by omega) hO5 (by omega) hc24.2 hc27.1 hc27.2
         exact WQ.round (a1,m24,m2,(decide ((b1-m24)≥((b1-a1) / 8))),f24,l27) ⟨⟨by omega,by omega,by omega,by omega,hs1.trans (((hs4.trans hc24.1).trans (hc27.1.mono (by omega) (by omega))).mono (by omega) (by omega)),hE,pre_right_sw (by omega) hP5 (by omega) (by omega) hc27.1⟩,H27⟩ ⟨rfl,rfl,rfl,rfl,rfl,rfl,trivial⟩ (by show m24-a1<b1-a1; omega)
      ·
       have hc19:=dF hb19
       refine WC.draw 15 Fa.M H18 (mh rfl<|oh (fun w1 H1=>op_gtrN (b:=0) rfl rfl zr)<|mh rfl<|nh hb19<|nh hb19<|nh hb19<|nh hb19<|nh hb19<|nh hb19<|nh hb19<|nh hb19<|nh hb19<|nh hb19<|nh hb19<|oh (fun w1 H1=>op_pickF rfl hb19 rfl zr)  HW.nil) (by kernel_rfl) ?_
       intro β28 w28 H28
       refine wn<|WC.no rfl rfl<|WC.skip<|WQ.next<|ws<|wm rfl<|wm rfl<|wm rfl<|wm rfl<|wo (op_callF Fa.C219 rfl ((part_ok v n l4 a1 b1 pv _ _ (H28.part [0] rfl rfl) (by omega) (by omega) (by omega) (by omega) (by omega)).mono (fun e w29 hq=>?_)))
       obtain ⟨l29,m29,f29,rfl,hc29,hq29⟩:=hq
       refine ⟨_,rfl,?_⟩
       have H29:=H28.splice [0] [.row v 22 1 n (List.map vU32 l29)] [] rfl rfl hq29 (Fits.solid True.intro Fits.nil)
       refine wm rfl<|we rfl rfl<|we rfl rfl<|wa rfl<|wa rfl<|wn<|ws ?_
       have hLP:=hc29.1.len
       have hm1:=hc29.2.1
       have hm2:=hc29.2.2.1
       have hO5:=out_sw (by omega) (by omega) (by omega) hO4 hc29.1
       have hP5:=pre_sw (by omega) hP4 hc29.1
       refine wm rfl<|wa rfl<|wn<|ws<|wm rfl<|wm rfl<|wo (op_subN rfl rfl (by omega) (by omega)<|wm rfl<|wm rfl<|wo (op_subN rfl rfl (by omega) (by omega)<|wa rfl<|wa rfl<|wn<|ws<|wm rfl<|wo (op_quoN (b:=8) rfl rfl (by omega) (by omega)<|wa rfl<|wn<|ws<|wm rfl<|wm rfl<|wo (op_lssN rfl rfl<|wn (wC (decide ((m29-a1)<(b1-m29))) (fun hb30=>?_) (fun hb30=>?_))))))
       ·
        have hc30:=dT hb30
        refine ws<|wm rfl<|wm rfl<|wo (op_geqN rfl rfl<|wa rfl<|wn<|ws<|wm rfl<|wm rfl<|wm rfl<|wm rfl<|wo (op_callF Fa.C181 rfl ((IH l29 a1 m29 m2 _ _ (H29.part [0] rfl rfl) (by omega) (by omega) (by omega) (by omega) (by omega) (pre_left hP5 (by omega))).mono (fun e w31 hq=>?_))))
        obtain ⟨l31,rfl,hc31,hq31⟩:=hq
        refine ⟨_,rfl,?_⟩
        have H31:=H29.splice [0] [.row v 22 1 n (List.map vU32 l31)] [] rfl rfl hq31 (Fits.solid True.intro Fits.nil)
        refine wn<|WC.region<|wm rfl<|wo (op_addN (b:=1) rfl rfl (by omega)<|wa rfl<|WL.nil<|WQ.inNormal ?_)
        have hE:=part_left ltU32OK (by omega) (by omega) hO5 (by omega) hc29.2 hc31.1 hc31.2
        exact WQ.round ((m29+1),b1,m2,(decide ((m29-a1)≥((b1-a1) / 8))),f29,l31) ⟨⟨by omega,by omega,by omega,by omega,hs1.trans (((hs4.trans hc29.1).trans (hc31.1.mono (by omega) (by omega))).mono (by omega) (by omega)),hE.1,hE.2⟩,H31⟩ ⟨rfl,rfl,rfl,rfl,rfl,rfl,trivial⟩ (by show b1-(m29+1)<b1-a1; omega)
       ·
        have hc30:=dF hb30
        refine ws<|wm rfl<|wm rfl<|wo (op_geqN rfl rfl<|wa rfl<|wn<|ws<|wm rfl<|wm rfl<|wo (op_addN (b:=1) rfl rfl (by omega)<|wm rfl<|wm rfl<|wo (op_callF Fa.C181 rfl ((IH l29 (m29+1) b1 m2 _ _ (H29.part [0] rfl rfl) (by omega) (by omega) (by omega) (by omega) (by omega) (pre_right hc29.2)).mono (fun e w32 hq=>?_)))))
        obtain ⟨l32,rfl,hc32,hq32⟩:=hq
        refine ⟨_,rfl,?_⟩
        have H32:=H29.splice [0] [.row v 22 1 n (List.map vU32 l32)] [] rfl rfl hq32 (Fits.solid True.intro Fits.nil)
        refine wn<|WC.region<|wm rfl<|wa rfl<|WL.nil<|WQ.inNormal ?_
        have hE:=part_right ltU32OK (by omega) (by omega) hO5 (by omega) hc29.2 hc32.1 hc32.2
        exact WQ.round (a1,m29,m2,(decide ((b1-m29)≥((b1-a1) / 8))),f29,l32) ⟨⟨by omega,by omega,by omega,by omega,hs1.trans (((hs4.trans hc29.1).trans (hc32.1.mono (by omega) (by omega))).mono (by omega) (by omega)),hE,pre_right_sw (by omega) hP5 (by omega) (by omega) hc32.1⟩,H32⟩ ⟨rfl,rfl,rfl,rfl,rfl,rfl,trivial⟩ (by show m29-a1<b1-a1; omega)
theorem pdq_ok (v:Value) (n:Nat) (l:List UInt32) (a b:Nat) (m:Nat) (T:List Nat) (w:World) (H:Owl.Own T w w [.row v 22 1 n (List.map vU32 l)]) (hn:l.length=n) (hN:n<2^61) (hab:a≤b) (hb:b≤n) (hm:m<2^62) (hpre:PreS ltU32 0 a b l) :
  Calls Tryz.prog 181 #[v,vN a,vN b,vN m] w (fun e w'=> ∃(l':List UInt32),e=.returned undef∧(Sw 0 a b l l'∧SortS ltU32 0 a b l')∧Owl.Own T w w' [.row v 22 1 n (List.map vU32 l')]):=by
 have key: ∀(N:Nat) (l:List UInt32) (a b m:Nat) (T:List Nat) (w:World),Owl.Own T w w [.row v 22 1 n (List.map vU32 l)]→l.length=n→b-a<N→a≤b→b≤n→m<2^62→PreS ltU32 0 a b l→Calls Tryz.prog 181 #[v,vN a,vN b,vN m] w (fun e w'=> ∃(l':List UInt32),e=.returned undef∧(Sw 0 a b l l'∧SortS ltU32 0 a b l')∧Owl.Own T w w' [.row v 22 1 n (List.map vU32 l')]):=by
  intro N
  induction N with
  | zero=>intro l a b m T w H hn hlt; omega
  | succ N ih=>intro l a b m T w H hn hlt hab hb hm hpre; exact pdq_step v n l a b m T w H hn hN hab hb hm hpre (fun l2 a2 b2 m2 T2 w2 H2 h1 h2 h3 h4 h5 h6=>ih l2 a2 b2 m2 T2 w2 H2 h1 (by omega) h3 h4 h5 h6)
 exact key (b-a+1) l a b m T w H hn (by omega) hab hb hm hpre
theorem sort_ok (v:Value) (n:Nat) (l:List UInt32) (T:List Nat) (w:World) (H:Owl.Own T w w [.row v 22 1 n (List.map vU32 l)]) (hn:l.length=n) (hN:n<2^61) :
  Calls Tryz.prog 144 #[v] w (fun e w'=> ∃(l':List UInt32),e=.returned undef∧(Sw 0 0 n l l'∧SortS ltU32 0 0 n l')∧Owl.Own T w w' [.row v 22 1 n (List.map vU32 l')]):=by
 refine enter (args:=[v]) Tryz.func144 rfl rfl<|ws<|wm rfl<|wo (op_lenA Tryz.underlying73 rfl (H.arrR (i:=0) rfl)<|wa rfl<|wn<|WC.region<|wm rfl<|wm rfl<|wm rfl<|wo (op_convNU64 (hs:=Tryz.underlying3) (hd:=Tryz.underlying265) rfl<|wo (op_callF Fa.C182 rfl ((blen_ok (UInt64.ofNat n) _).mono (fun e w1 hq=>?_)))))
 obtain ⟨rfl,hf1⟩:=hq
 refine ⟨_,rfl,?_⟩
 have H1:=H.fr' hf1
 refine wo (op_callF Fa.C181 rfl ((pdq_ok v n l 0 n (lenN (UInt64.ofNat n).toNat) _ _ (H1.part [0] rfl rfl) (by omega) (by omega) (by omega) (by omega) (Nat.lt_of_le_of_lt (lenN_le (k:=64) (UInt64.toNat_lt _)) (by decide)) (.inl rfl)).mono (fun e w2 hq=>?_)))
 obtain ⟨l2,rfl,hc2,hq2⟩:=hq
 refine ⟨_,rfl,?_⟩
 have H2:=H1.splice [0] [.row v 22 1 n (List.map vU32 l2)] [] rfl rfl hq2 (Fits.solid True.intro Fits.nil)
 exact WL.nil<|WQ.outEnd .nil (⟨_,rfl,hc2,H2⟩)
theorem sorted_uint32 (mb c Bm:Nat) (l:List ME) (w:World) (hl:MEok l c) (hn:l.length<2^40) (h32: ∀e∈l,e.k<2^32) (hB:w.cell? ⟨Bm,0,none⟩=some (.map (some mb))) (hM:w.heap[mb]?=some (mP .u32 l c)) :
  Calls Tryz.prog 95 #[(.func (.func 145) #[] #[(ptr Bm 0)])] w (fun e w'=> ∃v ks,e=.returned v∧((l.map Go.Spec.ME.ku).Perm ks∧ks.Pairwise (fun x y=>ltU32 y x=false))∧Owl.Own [] w w' [.row v 22 1 ks.length (List.map vU32 ks)]):=by
 refine enter (args:=[(.func (.func 145) #[] #[(ptr Bm 0)])]) Tryz.func95 rfl rfl ?_
 have H0:Owl.Own [] w w []:=Own.start w []
 refine ws<|wa rfl<|wn<|ws<|wm rfl<|wo (op_callF Fa.C143 rfl ((coll_uint32 mb c Bm l _ hl hn h32 hB hM).mono (fun e w1 hq=>?_)))
 obtain ⟨v1,ks1,rfl,hp1,hq1⟩:=hq
 refine ⟨_,rfl,?_⟩
 have H1:=H0.splice [] [] [.row v1 22 1 ks1.length (List.map vU32 ks1)] rfl rfl hq1 (Fits.solid True.intro Fits.nil)
 refine wa rfl<|wn<|ws<|wm rfl<|wo (op_callF Fa.C144 rfl ((sort_ok v1 ks1.length ks1  _ _ (H1.part [0] rfl rfl) rfl (by have:=hp1.length_eq; simp at this; omega)).mono (fun e w2 hq=>?_)))
 obtain ⟨l2,rfl,hc2,hq2⟩:=hq
 refine ⟨_,rfl,?_⟩
 have H2:=H1.splice [0] [.row v1 22 1 ks1.length (List.map vU32 l2)] [] rfl rfl hq2 (Fits.solid True.intro Fits.nil)
 refine wn<|ws<|wm rfl<|wa rfl<|wn<|WC.ret<|WQ.out (.tmp rfl .nil) ?_
 have hl9:=hc2.1.len
 have h9:=H2.sel [0] rfl rfl
 rw [show ks1.length=l2.length by omega] at h9
 exact ⟨_,_,rfl,⟨hp1.trans (Sw.perm hc2.1 (Nat.le_refl _)).symm,SortS.pair (by rw [hl9]; exact hc2.2)⟩,h9⟩
theorem keys_uint32 (mb:Nat) (w:World) :
  Calls Tryz.prog 96 #[(.map (some mb))] w (fun e w'=> ∃b,e=.returned (.func (.func 145) #[] #[ptr b 0])∧Owl.Own [] w w' [.blk b [.map (some mb)] 162]):=by
 refine enter (args:=[(.map (some mb))]) Tryz.func96 rfl rfl ?_
 have H0:Owl.Own [] w w []:=Own.start w []
 exact ws<|wo (op_box H0 rfl rfl (fun b1 w1 H1=>(wa rfl<|wn<|ws<|wo (op_makeFunc rfl rfl<|wa rfl<|wn<|WC.ret<|WQ.out (.tmp rfl .nil) (⟨_,rfl,H1.sel [0] rfl rfl⟩)))))
theorem scopy_ok (s mb c:Nat) (ps:List Pg) (w:World) (hS:cellsAt w s [(.map (some mb))]) (hM:w.heap[mb]?=some (mP .u32 (List.map Pg.me ps) c)) (hP:BsOK 211 Pg.cells Pg.b ps w) (hME:MEok (List.map Pg.me ps) c) (hlen: ∀g∈ps,g.bs.length=256) :
  Calls Tryz.prog 175 #[(ptr s 0)] w (fun e w'=> ∃x mb2 qs c2,e=.returned (ptr x 0)∧(MEok (qs.map Pg.me) c2∧(qs.map Pg.bare).Perm (ps.map Pg.bare))∧Owl.Own [] w w' [.blk x [(.map (some mb2))] 165,.obj mb2 (mP .u32 (List.map Pg.me qs) c2),Ent.bs 211 Pg.cells Pg.b qs]):=by
 refine enter (args:=[(ptr s 0)]) Tryz.func175 rfl rfl ?_
 have H0:Owl.Own [] w w [Ent.bo s [(.map (some mb))],Ent.mo .u32 mb (List.map Pg.me ps) c,Ent.bsO 211 Pg.cells Pg.b ps]:=((((Own.start w []).oldB hS).mpOld hM).bsOld hP)
 refine ws<|wa rfl<|wn<|WC.seq<|ws<|wm rfl<|wo (op_eqlPN Fa.PT68 rfl rfl<|wn<|WC.no rfl rfl<|WC.skip<|WQ.next<|ws<|wo (op_callF Fa.C73 rfl ((spNew_ok _).mono (fun e w1 hq=>?_))))
 obtain ⟨s1,mb1,rfl,hq1⟩:=hq
 refine ⟨_,rfl,?_⟩
 have H1:=H0.splice [] [] [.blk s1 [(.map (some mb1))] 165,.obj mb1 (mP .u32 (List.map Pg.me []) 0),Ent.bs 211 Pg.cells Pg.b []] rfl rfl hq1 (Fits.solid True.intro (Fits.solid True.intro (Fits.solid True.intro Fits.nil)))
 refine wa rfl<|wn<|WC.seq<|ws<|wm rfl<|wo (op_nilCheck rfl<|wo (op_fieldAddr rfl Fa.F165_0<|wo (op_load rfl (H1.cellO (i:=0) rfl rfl) Tryz.underlying162 rfl<|wo (op_rangeP H1 (H1.mpO (i:=1) rfl) Tryz.underlying162 rfl (fun b2 w2 H2=>(wn<|WC.block<|WC.loop (α:=List Pg × List Pg × List Pg × Nat) (fun (sn,rst,qs,c2)=>[(3,(ptr s1 0)),(13,(ptr b2 0))]) (fun (sn,rst,qs,c2) w'=>(ps.Perm (sn++rst)∧qs.map Pg.bare=sn.map Pg.bare∧MEok (qs.map Pg.me) c2)∧Owl.Own [] w w' [Ent.bo s [(.map (some mb))],Ent.mo .u32 mb (List.map Pg.me ps) c,Ent.bsO 211 Pg.cells Pg.b ps,.blk s1 [(.map (some mb1))] 165,.obj mb1 (mP .u32 (List.map Pg.me qs) c2),Ent.bs 211 Pg.cells Pg.b qs,.obj b2 (itO mb c (List.map Pg.me sn))]) (fun (sn,rst,qs,c2)=>rst.length) ([],ps,[],0) ⟨⟨List.Perm.refl _,rfl,MEok.nil 0⟩,H2⟩ ⟨rfl,rfl,trivial⟩ ?_))))))
 rintro ⟨sn,rst,qs,c2⟩ w3 ⟨⟨hpm,hco,hm2⟩,H3⟩
 show WC _ _ _ _ _ [(3,(ptr s1 0)),(13,(ptr b2 0))] _
 refine ws<|wo (op_nextG (i:=6) (sn:=sn) (rest:=rst) H3 rfl (H3.mpO (i:=1) rfl) hME hpm rfl (fun h0=>?_) (fun g4 rs4 hl4 hp4 w4 H4=>?_))
 ·
  refine we rfl rfl<|wn<|WC.seq<|WC.no rfl rfl<|WC.exit<|WQ.thenExit<|WQ.thenExit<|WQ.inHere<|WQ.next<|ws<|wm rfl<|wa rfl<|wn<|WC.ret<|WQ.out (.tmp rfl .nil) ?_
  rw [h0,List.append_nil] at hpm
  exact ⟨_,_,qs,c2,rfl,⟨hm2,by rw [hco]; exact (hpm.map _).symm⟩,H3.sel [3,4,5] rfl rfl⟩
 ·
  have H5:=(H4.bsView (i:=2) (a:=g4) rfl (hp4.mem_iff.2 (by simp)))
  have hgl:g4.bs.length=256:=hlen g4 (hp4.mem_iff.2 (by simp))
  refine we rfl rfl<|wn<|WC.seq<|WC.yes rfl rfl<|WC.skip<|WQ.next<|WC.block<|ws<|wo (op_entryG (i:=6) (sn:=sn) (g:=g4) H5 rfl (H5.mpO (i:=1) rfl) hME hp4 rfl<|we rfl rfl<|we rfl rfl<|wa rfl<|wa rfl<|wn<|WC.draw 15 Fa.M H5 (mh rfl<|oh (fun w1 H1=>op_nilCheck rfl zr)<|oh (fun w1 H1=>op_fieldAddr rfl Fa.F165_0 zr)<|oh (fun w1 H1=>op_load rfl (H1.cell (i:=3) rfl rfl) Tryz.underlying162 rfl zr)<|mh rfl<|mh rfl<|oh (fun w1 H1=>op_nilCheck rfl zr)<|oh (fun w1 H1=>op_fieldAddr rfl Fa.F211_0 zr)<|oh (fun w1 H1=>op_load rfl (H1.cellO (i:=7) rfl rfl) Tryz.underlying5 rfl zr)<|mh rfl<|oh (fun w1 H1=>op_nilCheck rfl zr)<|oh (fun w1 H1=>op_fieldAddr rfl Fa.F211_1 zr)<|oh (fun w1 H1=>op_loadS (vs:=(List.map vU8 g4.bs)) rfl (H1.cellsO (i:=7) rfl (drop_tab _ g4.bs 1)) Tryz.underlying209 rfl Fa.I209 (by rw [List.length_map]; exact hgl) zr)<|oh (fun w1 H1=>op_build (cs:=[vU8 g4.pm]++List.map vU8 g4.bs) Fa.I211 Fa.PL211 rfl (fill_page List.length_replicate hgl) zr)<|HW.flt (mk:=fun bq=>ptr bq.1 0) (ent:=fun bq=>.blk bq.1 _ _) rfl (fun w1 _=>op_box (Own.start w1 []) rfl rfl (fun bq w2 H2=>⟨(bq,undef),rfl,H2,True.intro⟩))  HW.nil) (by kernel_rfl) ?_)
  intro β6 w6 H6
  exact wo (op_updP (i:=4) (k:=g4.a.toNat) H6 rfl Tryz.underlying162 Tryz.underlying22 (fun x hx hk=>pgCopy_ne hME hp4 hco hx hk) rfl rfl rfl (fun w7 H7=>(WL.nil<|WQ.inNormal<|WQ.round ((sn++[g4]),rs4,qs++[(Pg.mk g4.a (β6 14).1 c2 g4.pm g4.bs)],c2+1) ⟨⟨hp4,pgCopy_snoc hco,pgCopy_me hME hp4 hco hm2⟩,(by have h:=(show Owl.Own [] w w7 [Ent.bo s [(.map (some mb))],Ent.mo .u32 mb (List.map Pg.me ps) c,Ent.bsO 211 Pg.cells Pg.b ps,.blk s1 [(.map (some mb1))] 165,.obj mb1 (mP .u32 ((List.map Pg.me qs)++[ME.mk g4.a.toNat (β6 14).1 c2]) (c2+1)),Ent.bs 211 Pg.cells Pg.b qs,.obj b2 (itO mb c (List.map Pg.me (sn++[g4]))),Ent.bo g4.b ([(vU8 g4.pm)]++(List.map vU8 g4.bs)),.blk (β6 14).1 ([vU8 g4.pm]++List.map vU8 g4.bs) 211] from H7); rw [show ((List.map Pg.me qs)++[ME.mk g4.a.toNat (β6 14).1 c2])=List.map Pg.me (qs++[(Pg.mk g4.a (β6 14).1 c2 g4.pm g4.bs)]) from by rw [List.map_append]; rfl] at h; exact (h.foldEnd (i:=5) (j:=8) (f:=Pg.cells) (bl:=Pg.b) (a:=(Pg.mk g4.a (β6 14).1 c2 g4.pm g4.bs)) rfl rfl rfl rfl rfl).sel [0,1,2,3,4,5,6] rfl rfl)⟩ ⟨rfl,rfl,trivial⟩ (by show rs4.length<rst.length; omega))))
theorem spages_ok (s mb c:Nat) (ps:List Pg) (w:World) (hS:cellsAt w s [(.map (some mb))]) (hM:w.heap[mb]?=some (mP .u32 (List.map Pg.me ps) c)) (hP:BsOK 211 Pg.cells Pg.b ps w) (hME:MEok (List.map Pg.me ps) c) (hgn:ps.length<2^40) :
  Calls Tryz.prog 44 #[(ptr s 0)] w (fun e w'=> ∃v ks,e=.returned v∧((ps.map Pg.a).Perm ks∧ks.Pairwise (fun x y=>ltU32 y x=false))∧Owl.Own [] w w' [.row v 22 1 ks.length (List.map vU32 ks)]):=by
 refine enter (args:=[(ptr s 0)]) Tryz.func44 rfl rfl ?_
 have H0:Owl.Own [] w w [Ent.bo s [(.map (some mb))],Ent.mo .u32 mb (List.map Pg.me ps) c,Ent.bsO 211 Pg.cells Pg.b ps]:=((((Own.start w []).oldB hS).mpOld hM).bsOld hP)
 refine ws<|wa rfl<|wn<|WC.seq<|ws<|wm rfl<|wo (op_eqlPN Fa.PT68 rfl rfl<|wn<|WC.no rfl rfl<|WC.skip<|WQ.next<|ws<|wm rfl<|wo (op_nilCheck rfl<|wo (op_fieldAddr rfl Fa.F165_0<|wo (op_load rfl (H0.cellO (i:=0) rfl rfl) Tryz.underlying162 rfl<|wo (op_callF Fa.C96 rfl ((keys_uint32 mb _).mono (fun e w1 hq=>?_)))))))
 obtain ⟨b1,rfl,hq1⟩:=hq
 refine ⟨_,rfl,?_⟩
 have H1:=H0.splice [] [] [.blk b1 [(.map (some mb))] 162] rfl rfl hq1 (Fits.solid True.intro Fits.nil)
 refine wo (op_callF Fa.C95 rfl ((sorted_uint32 mb c b1 (List.map Pg.me ps) _ hME (by rw [List.length_map]; exact hgn) (pg32 ps) (H1.cell (i:=3) rfl rfl) (H1.mpO (i:=1) rfl)).mono (fun e w2 hq=>?_)))
 obtain ⟨v2,ks2,rfl,hk2,hq2⟩:=hq
 refine ⟨_,rfl,?_⟩
 have H2:=H1.splice [] [] [.row v2 22 1 ks2.length (List.map vU32 ks2)] rfl rfl hq2 (Fits.solid True.intro Fits.nil)
 refine wa rfl<|wn<|WC.ret<|WQ.out (.tmp rfl .nil) ?_
 obtain ⟨hk1,hk2⟩:=hk2
 exact ⟨_,_,rfl,⟨by rw [List.map_map,pg_ku] at hk1; exact hk1,hk2⟩,H2.sel [4] rfl rfl⟩
theorem cpuNew_ok (pc:UInt32) (w:World) :
  Calls Tryz.prog 176 #[(vU32 pc)] w (fun e w'=> ∃c,e=.returned (ptr c 0)∧Owl.Own [] w w' [.blk c (cpuC pc) 242]):=by
 refine enter (args:=[(vU32 pc)]) Tryz.func176 rfl rfl ?_
 have H0:Owl.Own [] w w []:=Own.start w []
 exact ws<|wa rfl<|wn<|ws<|wm rfl<|wo (op_build (cs:=[_,_,_,_,_,_,_,_,_,_,_,_,_,_,_,_,_]) Fa.I242 Fa.PL242 rfl rfl<|wo (op_box H0 rfl rfl (fun b1 w1 H1=>(wa rfl<|wn<|WC.ret<|WQ.out (.tmp rfl .nil) (⟨_,rfl,H1.sel [0] rfl rfl⟩)))))
theorem envNew_ok (s mb c:Nat) (ps:List Pg) (n:Nat) (pc:UInt32) (w:World) (hS:cellsAt w s [(.map (some mb))]) (hM:w.heap[mb]?=some (mP .u32 (List.map Pg.me ps) c)) (hP:BsOK 211 Pg.cells Pg.b ps w) (hME:MEok (List.map Pg.me ps) c) (hlen: ∀g∈ps,g.bs.length=256) (h1:1≤n) (h8:n≤8) :
  Calls Tryz.prog 134 #[(vN n),(ptr s 0),(vU32 pc)] w (fun e w'=> ∃a,e=.returned (.tuple #[ptr a.e 0,vN 0])∧(MEok (List.map Pg.me a.ps) a.cn∧(a.ps.map Pg.bare).Perm (ps.map Pg.bare)∧a.num=n∧a.pc=pc)∧(∀b∈(evD 211).ft a,w.heap.size≤b)∧Owl.Own [] w w' [Ent.dp (evD 211) a]):=by
 refine enter (args:=[(vN n),(ptr s 0),(vU32 pc)]) Tryz.func134 rfl rfl ?_
 have H0:Owl.Own [] w w [Ent.bo s [(.map (some mb))],Ent.mo .u32 mb (List.map Pg.me ps) c,Ent.bsO 211 Pg.cells Pg.b ps]:=((((Own.start w []).oldB hS).mpOld hM).bsOld hP)
 refine ws<|wa rfl<|wa rfl<|wn<|WC.seq<|WC.block<|ws<|wm rfl<|wo (op_eqlPN Fa.PT68 rfl rfl<|wa rfl<|wn<|WC.no rfl rfl<|ws<|wm rfl<|wo (op_lssN (b:=1) rfl rfl<|wm rfl<|WL.yes rfl rfl rfl (decide_eq_false (by omega)) rfl (op_move rfl<|WL.yes rfl rfl rfl (decide_eq_false (by omega)) rfl (op_gtrN (b:=8) rfl rfl<|wo (op_pickF rfl (decide_eq_false (by omega)) rfl<|wa rfl<|wn<|WC.no rfl (decide_eq_false (by omega))<|WC.skip<|WQ.inNormal<|WQ.next<|ws<|wm rfl<|wo (op_callF Fa.C175 rfl ((scopy_ok s mb c ps _ (H0.cellsAtO (i:=0) rfl) (H0.mpO (i:=1) rfl) (H0.bsR (i:=2) rfl) hME hlen).mono (fun e w1 hq=>?_))))))))
 obtain ⟨s1,mb1,qs1,c1,rfl,hi1,hq1⟩:=hq
 refine ⟨_,rfl,?_⟩
 have H1:=H0.splice [] [] [.blk s1 [(.map (some mb1))] 165,.obj mb1 (mP .u32 (List.map Pg.me qs1) c1),Ent.bs 211 Pg.cells Pg.b qs1] rfl rfl hq1 (Fits.solid True.intro (Fits.solid True.intro (Fits.solid True.intro Fits.nil)))
 refine wo (op_build (cs:=[_,_]) Fa.I234 Fa.PL234 rfl rfl<|wm rfl<|wo (op_callF Fa.C176 rfl ((cpuNew_ok pc _).mono (fun e w2 hq=>?_))))
 obtain ⟨c2,rfl,hq2⟩:=hq
 refine ⟨_,rfl,?_⟩
 have H2:=H1.splice [] [] [.blk c2 (cpuC pc) 242] rfl rfl hq2 (Fits.solid True.intro Fits.nil)
 refine wm rfl<|wo (op_build (cs:=[_,_,_]) Fa.I120 Fa.PL120 rfl rfl<|wo (op_build (cs:=[_,_,_,_,_,_,_,_]) Fa.I236 Fa.PL236 rfl rfl<|wo (op_box H2 rfl rfl (fun b3 w3 H3=>(wa rfl<|wa rfl<|wn<|WC.ret<|WQ.out (.tmp rfl (.tmp rfl .nil)) ?_)))))
 have h9:=evClose (a:=(Ev.mk b3 s1 mb1 c1 qs1 c2 n pc)) (t:=211) (H3.sel [7,3,4,5,6] rfl rfl)
 exact ⟨(Ev.mk b3 s1 mb1 c1 qs1 c2 n pc),rfl,⟨hi1.1,hi1.2,rfl,rfl⟩,h9.1,h9.2⟩
end Go.Proofs.YtbjhccnffacbcaaGreat
