/- General lemmas and walks: USort4, WSeq3, WSpc6, WExo, WExo2, WExo3, WExo4, WExo5, WExo6, WBt, WLoad, WLoad2. No condition but what each theorem names. -/
import Derived.Test.YtbjhccnffacbcaaGreatQ1314499c
import Derived.Test.YtbjhccnffacbcaaGreatQdc781a77
import Derived.Test.YtbjhccnffacbcaaGreatQa8c57553
import Derived.Test.YtbjhccnffacbcaaGreatQ17bab6b1
import Derived.Test.YtbjhccnffacbcaaGreatQd1c35747
import Derived.Test.YtbjhccnffacbcaaGreatQfea131d1
import Derived.Test.YtbjhccnffacbcaaGreatQf1085451
set_option maxRecDepth 100000
set_option maxHeartbeats 8000000
namespace Go.Proofs.YtbjhccnffacbcaaGreat
open Go.Owl Go.Spec
theorem pins_ok (v:Value) (n:Nat) (l:List UInt32) (a b:Nat) (T:List Nat) (w:World) (H:Owl.Own T w w [.row v 22 1 n (List.map vU32 l)]) (hn:l.length=n) (hN:n<2^61) (hab:a<b) (hb:b≤n) (hpre:PreS ltU32 0 a b l) :
  Calls Tryz.prog 216 #[v,(vN a),(vN b)] w (fun e w'=> ∃(l':List UInt32) (r:Bool),e=.returned (.bool r)∧(Sw 0 a b l l'∧(r=true→SortS ltU32 0 a b l'))∧Owl.Own T w w' [.row v 22 1 n (List.map vU32 l')]):=by
 refine enter Tryz.func216 rfl rfl<|ws<|wa rfl<|wn<|ws<|wm rfl<|wo (op_addN (b:=1) rfl rfl (by omega)<|wa rfl<|wn<|WC.seq<|ws<|wa rfl<|wn<|WC.block<|WC.loop (α:=Nat × Nat × List UInt32) (fun (i,c,l1)=>[(0,v),(1,(vN a)),(2,(vN b)),(7,(vN i)),(8,(vN c))]) (fun (i,c,l1) w'=>(a+1≤i∧i≤b∧c≤5∧Sw 0 a b l l1∧SortS ltU32 0 a i l1∧PreS ltU32 0 a b l1)∧Owl.Own T w w' [.row v 22 1 n (List.map vU32 l1)]) (fun (i,c,l1)=>5-c) (a+1,0,l) ⟨⟨Nat.le_refl _,by omega,by omega,.refl _,SortS.nil (by omega),hpre⟩,H⟩ ⟨rfl,rfl,rfl,rfl,rfl,trivial⟩ ?_)
 rintro ⟨i,c,l1⟩ w1 ⟨⟨hi1,hi2,hc1,hs1,ho1,hp1⟩,H1⟩
 show WC _ _ _ _ _ [(0,v),(1,(vN a)),(2,(vN b)),(7,(vN i)),(8,(vN c))] _
 have hL1:=hs1.len
 refine WC.seq<|ws<|wm rfl<|wo (op_lssN (b:=5) rfl rfl<|wn (wE (c<5) (fun hb2 hc2=>?_) (fun hb2 hc2=>?_)))
 ·
  refine WC.skip<|WQ.next<|WC.seq<|WC.block<|WC.cut (α:=Nat) (fun i3=>[(0,v),(1,(vN a)),(2,(vN b)),(7,(vN i3)),(8,(vN c))]) (fun i3 w'=>(a+1≤i3∧i3≤b∧SortS ltU32 0 a i3 l1)∧Owl.Own T w w' [.row v 22 1 n (List.map vU32 l1)]) ?_ ?_
  ·
   refine WC.block<|WC.loop (α:=Nat) (fun i2=>[(0,v),(1,(vN a)),(2,(vN b)),(7,(vN i2)),(8,(vN c))]) (fun i2 w'=>(a+1≤i2∧i2≤b∧SortS ltU32 0 a i2 l1)∧Owl.Own T w w' [.row v 22 1 n (List.map vU32 l1)]) (fun i2=>b-i2) i ⟨⟨hi1,hi2,ho1⟩,H1⟩ ⟨rfl,rfl,rfl,rfl,rfl,trivial⟩ ?_
   rintro i2 w3 ⟨⟨hi3,hi4,ho2⟩,H3⟩
   show WC _ _ _ _ _ [(0,v),(1,(vN a)),(2,(vN b)),(7,(vN i2)),(8,(vN c))] _
   refine WC.seq<|WC.seq (wG (i2<b) (fun hb4 hc4=>?_) (fun hb4 hc4=>?_))
   ·
    refine WC.draw 16 Fa.M H3 (mh rfl<|mh rfl<|oh (fun w1 H1=>op_lssN rfl rfl zr)<|mh rfl<|yh hb4 (fun w1 H1=>op_move rfl zr)<|yh hb4 (fun w1 H1=>op_move rfl zr)<|yh hb4 (fun w1 H1=>op_indexAddr1 Tryz.underlying73 Fa.I22 rfl (H1.arrR (i:=0) rfl) rfl (by omega) zr)<|yh hb4 (fun w1 H1=>op_load rfl ((H1.arrR (i:=0) rfl).at (get_map vU32 0 (Arr.ltM (H1.arrR (i:=0) rfl) (by omega)))) Tryz.underlying22 rfl zr)<|yh hb4 (fun w1 H1=>op_move rfl zr)<|yh hb4 (fun w1 H1=>op_move rfl zr)<|yh hb4 (fun w1 H1=>op_subN (b:=1) rfl rfl (by omega) (by omega) zr)<|yh hb4 (fun w1 H1=>op_indexAddr1 Tryz.underlying73 Fa.I22 rfl (H1.arrR (i:=0) rfl) rfl (by omega) zr)<|yh hb4 (fun w1 H1=>op_load rfl ((H1.arrR (i:=0) rfl).at (get_map vU32 0 (Arr.ltM (H1.arrR (i:=0) rfl) (by omega)))) Tryz.underlying22 rfl zr)<|yh hb4 (fun w1 H1=>op_callF Fa.C217 rfl ((less_ok (l1.getD i2 0) (l1.getD (i2-1) 0) _).mono (fun e w2 hq=>⟨_,hq.1,rfl,hq.2⟩)))<|yh hb4 (fun w1 H1=>op_not rfl zr)<|oh (fun w1 H1=>op_pickT rfl hb4 rfl zr)  HW.nil) (by kernel_rfl) ?_
    intro β6 w6 H6
    refine wn (wC (!(ltU32 (l1.getD i2 0) (l1.getD (i2-1) 0))) (fun hb7=>?_) (fun hb7=>?_))
    ·
     have hn7:=(Bool.not_eq_true' _).mp hb7
     exact WC.skip<|WQ.next<|WC.block<|WC.region<|wm rfl<|wo (op_addN (b:=1) rfl rfl (by omega)<|wa rfl<|WL.nil<|WQ.inNormal<|WQ.round (i2+1) ⟨⟨by omega,by omega,sort_snoc ltU32OK ho2 (by omega) hn7⟩,H6⟩ ⟨rfl,rfl,rfl,rfl,rfl,trivial⟩ (by omega))
    have hn7:=(Bool.not_eq_false' _).mp hb7
    exact WC.exit<|WQ.thenExit<|WQ.thenExit<|WQ.inHere<|WQ.here i2 ⟨⟨hi3,hi4,ho2⟩,H6⟩ ⟨rfl,rfl,rfl,rfl,rfl,trivial⟩
   refine WC.draw 16 Fa.M H3 (mh rfl<|mh rfl<|oh (fun w1 H1=>op_lssN rfl rfl zr)<|mh rfl<|nh hb4<|nh hb4<|nh hb4<|nh hb4<|nh hb4<|nh hb4<|nh hb4<|nh hb4<|nh hb4<|nh hb4<|nh hb4<|oh (fun w1 H1=>op_pickF rfl hb4 rfl zr)  HW.nil) (by kernel_rfl) ?_
   intro β8 w8 H8
   exact wn<|WC.no rfl rfl<|WC.exit<|WQ.thenExit<|WQ.thenExit<|WQ.inHere<|WQ.here i2 ⟨⟨hi3,hi4,ho2⟩,H8⟩ ⟨rfl,rfl,rfl,rfl,rfl,trivial⟩
  rintro i3 w9 ⟨⟨hi5,hi6,ho3⟩,H9⟩
  show WC _ _ _ _ _ [(0,v),(1,(vN a)),(2,(vN b)),(7,(vN i3)),(8,(vN c))] _
  refine WC.seq<|ws<|wm rfl<|wm rfl<|wo (op_eqlN rfl rfl<|wn (wE (i3=b) (fun hb10 hc10=>?_) (fun hb10 hc10=>?_)))
  ·
   exact ws<|wa rfl<|wn<|WC.ret<|WQ.thenRet<|WQ.inRet<|WQ.thenRet<|WQ.thenRet<|WQ.inRet<|WQ.thenRet<|WQ.out (.tmp rfl .nil) (⟨_,_,rfl,⟨hs1,fun _ p q h1 h2 h3=>ho3 p q h1 h2 (by omega)⟩,H9⟩)
  refine WC.skip<|WQ.next<|WC.seq<|ws<|wm rfl<|wm rfl<|wo (op_subN rfl rfl (by omega) (by omega)<|wo (op_lssN (b:=50) rfl rfl<|wn (wE ((b-a)<50) (fun hb11 hc11=>?_) (fun hb11 hc11=>?_))))
  ·
   exact ws<|wa rfl<|wn<|WC.ret<|WQ.thenRet<|WQ.inRet<|WQ.thenRet<|WQ.thenRet<|WQ.inRet<|WQ.thenRet<|WQ.out (.tmp rfl .nil) (⟨_,_,rfl,⟨hs1,fun h=>by cases h⟩,H9⟩)
  refine WC.skip<|WQ.next<|WC.cut (α:=List UInt32) (fun l3=>[(0,v),(1,(vN a)),(2,(vN b)),(7,(vN i3)),(8,(vN c))]) (fun l3 w'=>(Sw 0 a b l l3∧SortS ltU32 0 a (i3-1) l3∧PreS ltU32 0 a b l3)∧Owl.Own T w w' [.row v 22 1 n (List.map vU32 l3)]) ?_ ?_
  ·
   refine WC.held 18 rfl Fa.M H9 (fun w'=> ∃L',Owl.Own T w w' ([]++L')) ?_
   intro w12 H12
   refine xt 0 rfl v H12 (fun _ _ HX=>op_move rfl ⟨rfl,rfl⟩)<|xt 1 rfl (vN i3) H12 (fun _ _ HX=>op_move rfl ⟨rfl,rfl⟩)<|xt 2 rfl v H12 (fun _ _ HX=>op_move rfl ⟨rfl,rfl⟩)<|xt 3 rfl (vN i3) H12 (fun _ _ HX=>op_move rfl ⟨rfl,rfl⟩)<|xt 4 rfl (vN (i3-1)) H12 (fun _ _ HX=>op_subN (b:=1) rfl rfl (by omega) (by omega) ⟨rfl,rfl⟩)<|xt 5 rfl v H12 (fun _ _ HX=>op_move rfl ⟨rfl,rfl⟩)<|xt 6 rfl (vN i3) H12 (fun _ _ HX=>op_move rfl ⟨rfl,rfl⟩)<|xt 7 rfl (vN (i3-1)) H12 (fun _ _ HX=>op_subN (b:=1) rfl rfl (by omega) (by omega) ⟨rfl,rfl⟩)<|xt 8 rfl (.pointer (some (sp v (i3-1)))) H12 (fun _ _ HX=>op_indexAddr1W Tryz.underlying73 Fa.I22 rfl (H12.arrR (i:=0) rfl) rfl (by omega) ⟨rfl,rfl⟩)<|xt 10 rfl v H12 (fun _ _ HX=>op_move rfl ⟨rfl,rfl⟩)<|xt 11 rfl (vN i3) H12 (fun _ _ HX=>op_move rfl ⟨rfl,rfl⟩)<|xt 12 rfl (.pointer (some (sp v i3))) H12 (fun _ _ HX=>op_indexAddr1W Tryz.underlying73 Fa.I22 rfl (H12.arrR (i:=0) rfl) rfl (by omega) ⟨rfl,rfl⟩)<|WH.named (fun W hW=>?_)
   let e11:List (Nat × Value)→List (Nat × Value):=fun r=>(0,v)::(1,(vN a))::(2,(vN b))::(7,(vN i3))::(8,(vN c))::(35,(vN i3))::(36,(vN b))::(37,(.bool (decide (i3=b))))::(38,(vN b))::(39,(vN a))::(40,(vN (b-a)))::(41,(.bool (decide ((b-a)<50))))::r
   let a11_0:Ent:=.row v 22 1 n (List.map vU32 l1)
   have st11_5: ∀wS,Owl.Own T w wS [.row v 22 1 n (List.map vU32 ((l1.set i3 (l1.getD (i3-1) 0)).set (i3-1) (l1.getD i3 0)))]→W 0 (bz 18 262143) (e11 []) wS:=fun wS HS=>by
    rw [hW]
    exact WH.done (by kernel_rfl)<|WQ.here (swapL 0 l1 i3 (i3-1)) ⟨⟨hs1.step (by omega) (by omega) (by omega) (by omega),sort_swap (by omega) (by omega) ho3,pre_sw (by omega) hp1 (Sw.one (by omega) (by omega) (by omega) (by omega))⟩,HS⟩ ⟨rfl,rfl,rfl,rfl,rfl,trivial⟩
   have st11_4: ∀wS,Owl.Own T w wS [.row v 22 1 n (List.map vU32 (l1.set i3 (l1.getD (i3-1) 0)))]→W 1 (bz 18 131071) (e11 [(55,(vU32 (l1.getD i3 0))),(57,(.pointer (some (sp v (i3-1)))))]) wS:=fun wS HS=>by
    rw [hW]
    refine wh1 17<|kH 17 rfl (op_storeRM (i:=0) (f:=vU32) (l:=(l1.set i3 (l1.getD (i3-1) 0))) (c:=(l1.getD i3 0)) HS rfl rfl rfl (by omega) rfl Fa.I22 (fun w23341 H23341=>(⟨⟨_,H23341⟩,?_⟩)))
    exact WH.cw hW (st11_5 w23341 H23341)
   have st11_3: ∀wS,Owl.Own T w wS [a11_0]→W 3 (bz 18 32767) (e11 [(44,v),(46,(vN (i3-1))),(51,(vU32 (l1.getD (i3-1) 0))),(55,(vU32 (l1.getD i3 0))),(56,(.pointer (some (sp v i3))))]) wS:=fun wS HS=>by
    rw [hW]
    refine wh1 15<|kH 15 rfl (op_storeRM (i:=0) (f:=vU32) (l:=l1) (c:=(l1.getD (i3-1) 0)) HS rfl rfl rfl (by omega) rfl Fa.I22 (fun w23301 H23301=>(⟨⟨_,H23301⟩,?_⟩)))
    exact xt 16 rfl (.pointer (some (sp v (i3-1)))) H23301 (fun _ _ HX=>op_indexAddr1W Tryz.underlying73 Fa.I22 rfl (H23301.arrR (i:=0) rfl) rfl (by omega) ⟨rfl,rfl⟩)<|WH.cw hW (st11_4 w23301 H23301)
   have st11_1: ∀wS,Owl.Own T w wS [a11_0]→W 5 (bz 18 8191) (e11 [(42,v),(43,(vN i3)),(44,v),(46,(vN (i3-1))),(51,(vU32 (l1.getD (i3-1) 0))),(54,(.pointer (some (sp v i3))))]) wS:=fun wS HS=>by
    rw [hW]
    refine wh1 13<|kH 13 rfl (op_load rfl ((HS.arrR (i:=0) rfl).at (get_map vU32 0 (Arr.ltM (HS.arrR (i:=0) rfl) (by omega)))) Tryz.underlying22 rfl (⟨⟨_,HS⟩,?_⟩))
    exact xt 14 rfl (.pointer (some (sp v i3))) HS (fun _ _ HX=>op_indexAddr1W Tryz.underlying73 Fa.I22 rfl (HS.arrR (i:=0) rfl) rfl (by omega) ⟨rfl,rfl⟩)<|WH.cw hW (st11_3 wS HS)
   have st11_2: ∀wS,Owl.Own T w wS [a11_0]→W 5 (bz 18 15871) (e11 [(42,v),(43,(vN i3)),(44,v),(46,(vN (i3-1))),(50,(.pointer (some (sp v (i3-1))))),(55,(vU32 (l1.getD i3 0)))]) wS:=fun wS HS=>by
    rw [hW]
    refine wh1 9<|kH 9 rfl (op_load rfl ((HS.arrR (i:=0) rfl).at (get_map vU32 0 (Arr.ltM (HS.arrR (i:=0) rfl) (by omega)))) Tryz.underlying22 rfl (⟨⟨_,HS⟩,?_⟩))
    exact xt 14 rfl (.pointer (some (sp v i3))) HS (fun _ _ HX=>op_indexAddr1W Tryz.underlying73 Fa.I22 rfl (HS.arrR (i:=0) rfl) rfl (by omega) ⟨rfl,rfl⟩)<|WH.cw hW (st11_3 wS HS)
   have st11_0: ∀wS,Owl.Own T w wS [a11_0]→W 6 (bz 18 7679) (e11 [(42,v),(43,(vN i3)),(44,v),(46,(vN (i3-1))),(50,(.pointer (some (sp v (i3-1))))),(54,(.pointer (some (sp v i3))))]) wS:=fun wS HS=>by
    rw [hW]
    refine wh2 9 13 ?_ ?_
    ·
     refine kH 9 rfl (op_load rfl ((HS.arrR (i:=0) rfl).at (get_map vU32 0 (Arr.ltM (HS.arrR (i:=0) rfl) (by omega)))) Tryz.underlying22 rfl (⟨⟨_,HS⟩,?_⟩))
     exact WH.cw hW (st11_1 wS HS)
    refine kH 13 rfl (op_load rfl ((HS.arrR (i:=0) rfl).at (get_map vU32 0 (Arr.ltM (HS.arrR (i:=0) rfl) (by omega)))) Tryz.underlying22 rfl (⟨⟨_,HS⟩,?_⟩))
    exact WH.cw hW (st11_2 wS HS)
   have hq:=st11_0 w12 H12
   rw [hW] at hq ⊢
   exact WH.cv hq
  rintro l3 w14 ⟨⟨hs3,ho5,hp3⟩,H14⟩
  show WC _ _ _ _ _ [(0,v),(1,(vN a)),(2,(vN b)),(7,(vN i3)),(8,(vN c))] _
  have hL3:=hs3.len
  refine WC.cut (α:=List UInt32) (fun l4=>[(0,v),(1,(vN a)),(2,(vN b)),(7,(vN i3)),(8,(vN c))]) (fun l4 w'=>(Sw 0 a b l l4∧SortS ltU32 0 a i3 l4∧PreS ltU32 0 a b l4)∧Owl.Own T w w' [.row v 22 1 n (List.map vU32 l4)]) ?_ ?_
  ·
   refine ws<|wm rfl<|wm rfl<|wo (op_subN rfl rfl (by omega) (by omega)<|wo (op_geqN (b:=2) rfl rfl<|wn (wE ((i3-a)≥2) (fun hb15 hc15=>?_) (fun hb15 hc15=>?_))))
   ·
    refine ws<|wm rfl<|wo (op_subN (b:=1) rfl rfl (by omega) (by omega)<|wa rfl<|wn<|WC.block<|WC.loop (α:=Nat × List UInt32) (fun (j,l2)=>[(0,v),(1,(vN a)),(2,(vN b)),(7,(vN i3)),(8,(vN c)),(9,(vN j))]) (fun (j,l2) w'=>(a≤j∧j≤i3-1∧Sw 0 a b l l2∧InsI ltU32 0 a (i3-1) j l2∧PreS ltU32 0 a b l2)∧Owl.Own T w w' [.row v 22 1 n (List.map vU32 l2)]) (fun (j,l2)=>j) (i3-1,l3) ⟨⟨by omega,Nat.le_refl _,hs3,ins_init ho5,hp3⟩,H14⟩ ⟨rfl,rfl,rfl,rfl,rfl,rfl,trivial⟩ ?_)
    rintro ⟨j,l2⟩ w16 ⟨⟨hj1,hj2,hs2,hj3,hp2⟩,H16⟩
    show WC _ _ _ _ _ [(0,v),(1,(vN a)),(2,(vN b)),(7,(vN i3)),(8,(vN c)),(9,(vN j))] _
    have hL2:=hs2.len
    refine WC.seq<|ws<|wm rfl<|wo (op_geqN (b:=1) rfl rfl<|wn (wE (j≥1) (fun hb17 hc17=>?_) (fun hb17 hc17=>?_)))
    ·
     refine WC.skip<|WQ.next<|WC.seq<|WC.block<|WC.seq<|WC.seq<|WC.draw 11 Fa.M H16 (mh rfl<|mh rfl<|oh (fun w1 H1=>op_indexAddr1 Tryz.underlying73 Fa.I22 rfl (H1.arrR (i:=0) rfl) rfl (by omega) zr)<|oh (fun w1 H1=>op_load rfl ((H1.arrR (i:=0) rfl).at (get_map vU32 0 (Arr.ltM (H1.arrR (i:=0) rfl) (by omega)))) Tryz.underlying22 rfl zr)<|mh rfl<|mh rfl<|oh (fun w1 H1=>op_subN (b:=1) rfl rfl (by omega) (by omega) zr)<|oh (fun w1 H1=>op_indexAddr1 Tryz.underlying73 Fa.I22 rfl (H1.arrR (i:=0) rfl) rfl (by omega) zr)<|oh (fun w1 H1=>op_load rfl ((H1.arrR (i:=0) rfl).at (get_map vU32 0 (Arr.ltM (H1.arrR (i:=0) rfl) (by omega)))) Tryz.underlying22 rfl zr)<|oh (fun w1 H1=>op_callF Fa.C217 rfl ((less_ok (l2.getD j 0) (l2.getD (j-1) 0) _).mono (fun e w2 hq=>⟨_,hq.1,rfl,hq.2⟩)))<|oh (fun w1 H1=>op_not rfl zr)  HW.nil) (by kernel_rfl) ?_
     intro β19 w19 H19
     refine wn (wC (!(ltU32 (l2.getD j 0) (l2.getD (j-1) 0))) (fun hb20=>?_) (fun hb20=>?_))
     ·
      have hn20:=(Bool.not_eq_true' _).mp hb20
      refine WC.exit<|WQ.thenExit<|WQ.inPass rfl<|WQ.thenExit<|WQ.thenExit<|WQ.inHere ?_
      have hd:=ins_done ltU32OK hj3 (.inr hn20) hj1
      rw [show i3-1+1=i3 by omega] at hd
      exact WQ.here l2 ⟨⟨hs2,hd,hp2⟩,H19⟩ ⟨rfl,rfl,rfl,rfl,rfl,trivial⟩
     have hn20:=(Bool.not_eq_false' _).mp hb20
     have hja:=pre_gt hp2 hj1 (by omega) (by omega) hn20
     refine WC.skip<|WQ.next<|WC.held 18 rfl Fa.M H19 (fun w'=> ∃L',Owl.Own T w w' ([]++L')) ?_
     intro w21 H21
     refine xt 0 rfl v H21 (fun _ _ HX=>op_move rfl ⟨rfl,rfl⟩)<|xt 1 rfl (vN j) H21 (fun _ _ HX=>op_move rfl ⟨rfl,rfl⟩)<|xt 2 rfl v H21 (fun _ _ HX=>op_move rfl ⟨rfl,rfl⟩)<|xt 3 rfl (vN j) H21 (fun _ _ HX=>op_move rfl ⟨rfl,rfl⟩)<|xt 4 rfl (vN (j-1)) H21 (fun _ _ HX=>op_subN (b:=1) rfl rfl (by omega) (by omega) ⟨rfl,rfl⟩)<|xt 5 rfl v H21 (fun _ _ HX=>op_move rfl ⟨rfl,rfl⟩)<|xt 6 rfl (vN j) H21 (fun _ _ HX=>op_move rfl ⟨rfl,rfl⟩)<|xt 7 rfl (vN (j-1)) H21 (fun _ _ HX=>op_subN (b:=1) rfl rfl (by omega) (by omega) ⟨rfl,rfl⟩)<|xt 8 rfl (.pointer (some (sp v (j-1)))) H21 (fun _ _ HX=>op_indexAddr1W Tryz.underlying73 Fa.I22 rfl (H21.arrR (i:=0) rfl) rfl (by omega) ⟨rfl,rfl⟩)<|xt 10 rfl v H21 (fun _ _ HX=>op_move rfl ⟨rfl,rfl⟩)<|xt 11 rfl (vN j) H21 (fun _ _ HX=>op_move rfl ⟨rfl,rfl⟩)<|xt 12 rfl (.pointer (some (sp v j))) H21 (fun _ _ HX=>op_indexAddr1W Tryz.underlying73 Fa.I22 rfl (H21.arrR (i:=0) rfl) rfl (by omega) ⟨rfl,rfl⟩)<|WH.named (fun W hW=>?_)
     let e17:List (Nat × Value)→List (Nat × Value):=fun r=>(0,v)::(1,(vN a))::(2,(vN b))::(7,(vN i3))::(8,(vN c))::(9,(vN j))::(64,(vN j))::(65,(.bool (decide (j≥1))))::(68,v)::(69,(vN j))::(70,(.pointer (some (sp v j))))::(71,(vU32 (l2.getD j 0)))::(72,v)::(73,(vN j))::(74,(vN (j-1)))::(75,(.pointer (some (sp v (j-1)))))::(76,(vU32 (l2.getD (j-1) 0)))::(77,(.bool (ltU32 (l2.getD j 0) (l2.getD (j-1) 0))))::(78,(.bool (!(ltU32 (l2.getD j 0) (l2.getD (j-1) 0)))))::r
     let a17_0:Ent:=.row v 22 1 n (List.map vU32 l2)
     have st17_5: ∀wS,Owl.Own T w wS [.row v 22 1 n (List.map vU32 ((l2.set j (l2.getD (j-1) 0)).set (j-1) (l2.getD j 0)))]→W 0 (bz 18 262143) (e17 []) wS:=fun wS HS=>by
      rw [hW]
      exact WH.done (by kernel_rfl)<|WQ.inNormal<|WQ.next<|WC.region<|wm rfl<|wo (op_subN (b:=1) rfl rfl (by omega) (by omega)<|wa rfl<|WL.nil<|WQ.round (j-1,swapL 0 l2 j (j-1)) ⟨⟨by omega,by omega,hs2.step (by omega) (by omega) (by omega) (by omega),ins_step ltU32OK (by omega) hj3 hja hj2 hn20,pre_sw (by omega) hp2 (Sw.one (by omega) (by omega) (by omega) (by omega))⟩,HS⟩ ⟨rfl,rfl,rfl,rfl,rfl,rfl,trivial⟩ (by show j-1<j; omega))
     have st17_4: ∀wS,Owl.Own T w wS [.row v 22 1 n (List.map vU32 (l2.set j (l2.getD (j-1) 0)))]→W 1 (bz 18 131071) (e17 [(92,(vU32 (l2.getD j 0))),(94,(.pointer (some (sp v (j-1)))))]) wS:=fun wS HS=>by
      rw [hW]
      refine wh1 17<|kH 17 rfl (op_storeRM (i:=0) (f:=vU32) (l:=(l2.set j (l2.getD (j-1) 0))) (c:=(l2.getD j 0)) HS rfl rfl rfl (by omega) rfl Fa.I22 (fun w32341 H32341=>(⟨⟨_,H32341⟩,?_⟩)))
      exact WH.cw hW (st17_5 w32341 H32341)
     have st17_3: ∀wS,Owl.Own T w wS [a17_0]→W 3 (bz 18 32767) (e17 [(81,v),(83,(vN (j-1))),(88,(vU32 (l2.getD (j-1) 0))),(92,(vU32 (l2.getD j 0))),(93,(.pointer (some (sp v j))))]) wS:=fun wS HS=>by
      rw [hW]
      refine wh1 15<|kH 15 rfl (op_storeRM (i:=0) (f:=vU32) (l:=l2) (c:=(l2.getD (j-1) 0)) HS rfl rfl rfl (by omega) rfl Fa.I22 (fun w32301 H32301=>(⟨⟨_,H32301⟩,?_⟩)))
      exact xt 16 rfl (.pointer (some (sp v (j-1)))) H32301 (fun _ _ HX=>op_indexAddr1W Tryz.underlying73 Fa.I22 rfl (H32301.arrR (i:=0) rfl) rfl (by omega) ⟨rfl,rfl⟩)<|WH.cw hW (st17_4 w32301 H32301)
     have st17_1: ∀wS,Owl.Own T w wS [a17_0]→W 5 (bz 18 8191) (e17 [(79,v),(80,(vN j)),(81,v),(83,(vN (j-1))),(88,(vU32 (l2.getD (j-1) 0))),(91,(.pointer (some (sp v j))))]) wS:=fun wS HS=>by
      rw [hW]
      refine wh1 13<|kH 13 rfl (op_load rfl ((HS.arrR (i:=0) rfl).at (get_map vU32 0 (Arr.ltM (HS.arrR (i:=0) rfl) (by omega)))) Tryz.underlying22 rfl (⟨⟨_,HS⟩,?_⟩))
      exact xt 14 rfl (.pointer (some (sp v j))) HS (fun _ _ HX=>op_indexAddr1W Tryz.underlying73 Fa.I22 rfl (HS.arrR (i:=0) rfl) rfl (by omega) ⟨rfl,rfl⟩)<|WH.cw hW (st17_3 wS HS)
     have st17_2: ∀wS,Owl.Own T w wS [a17_0]→W 5 (bz 18 15871) (e17 [(79,v),(80,(vN j)),(81,v),(83,(vN (j-1))),(87,(.pointer (some (sp v (j-1))))),(92,(vU32 (l2.getD j 0)))]) wS:=fun wS HS=>by
      rw [hW]
      refine wh1 9<|kH 9 rfl (op_load rfl ((HS.arrR (i:=0) rfl).at (get_map vU32 0 (Arr.ltM (HS.arrR (i:=0) rfl) (by omega)))) Tryz.underlying22 rfl (⟨⟨_,HS⟩,?_⟩))
      exact xt 14 rfl (.pointer (some (sp v j))) HS (fun _ _ HX=>op_indexAddr1W Tryz.underlying73 Fa.I22 rfl (HS.arrR (i:=0) rfl) rfl (by omega) ⟨rfl,rfl⟩)<|WH.cw hW (st17_3 wS HS)
     have st17_0: ∀wS,Owl.Own T w wS [a17_0]→W 6 (bz 18 7679) (e17 [(79,v),(80,(vN j)),(81,v),(83,(vN (j-1))),(87,(.pointer (some (sp v (j-1))))),(91,(.pointer (some (sp v j))))]) wS:=fun wS HS=>by
      rw [hW]
      refine wh2 9 13 ?_ ?_
      ·
       refine kH 9 rfl (op_load rfl ((HS.arrR (i:=0) rfl).at (get_map vU32 0 (Arr.ltM (HS.arrR (i:=0) rfl) (by omega)))) Tryz.underlying22 rfl (⟨⟨_,HS⟩,?_⟩))
       exact WH.cw hW (st17_1 wS HS)
      refine kH 13 rfl (op_load rfl ((HS.arrR (i:=0) rfl).at (get_map vU32 0 (Arr.ltM (HS.arrR (i:=0) rfl) (by omega)))) Tryz.underlying22 rfl (⟨⟨_,HS⟩,?_⟩))
      exact WH.cw hW (st17_2 wS HS)
     have hq:=st17_0 w21 H21
     rw [hW] at hq ⊢
     exact WH.cv hq
    refine WC.exit<|WQ.thenExit<|WQ.thenExit<|WQ.inHere ?_
    have hd:=ins_done ltU32OK hj3 (.inl (by omega)) hj1
    rw [show i3-1+1=i3 by omega] at hd
    exact WQ.here l2 ⟨⟨hs2,hd,hp2⟩,H16⟩ ⟨rfl,rfl,rfl,rfl,rfl,trivial⟩
   exact WC.skip<|WQ.here l3 ⟨⟨hs3,SortS.nil (by omega),hp3⟩,H14⟩ ⟨rfl,rfl,rfl,rfl,rfl,trivial⟩
  rintro l4 w23 ⟨⟨hs4,ho4,hp4⟩,H23⟩
  show WC _ _ _ _ _ [(0,v),(1,(vN a)),(2,(vN b)),(7,(vN i3)),(8,(vN c))] _
  have hL4:=hs4.len
  refine ws<|wm rfl<|wm rfl<|wo (op_subN rfl rfl (by omega) (by omega)<|wo (op_geqN (b:=2) rfl rfl<|wn (wE ((b-i3)≥2) (fun hb24 hc24=>?_) (fun hb24 hc24=>?_))))
  ·
   refine ws<|wm rfl<|wo (op_addN (b:=1) rfl rfl (by omega)<|wa rfl<|wn<|WC.block<|WC.loop (α:=Nat × List UInt32) (fun (k,l7)=>[(0,v),(1,(vN a)),(2,(vN b)),(7,(vN i3)),(8,(vN c)),(10,(vN k))]) (fun (k,l7) w'=>(i3+1≤k∧k≤b∧Sw 0 a b l l7∧SortS ltU32 0 a i3 l7∧PreS ltU32 0 a b l7)∧Owl.Own T w w' [.row v 22 1 n (List.map vU32 l7)]) (fun (k,l7)=>b-k) (i3+1,l4) ⟨⟨Nat.le_refl _,by omega,hs4,ho4,hp4⟩,H23⟩ ⟨rfl,rfl,rfl,rfl,rfl,rfl,trivial⟩ ?_)
   rintro ⟨k,l7⟩ w25 ⟨⟨hk1,hk2,hs7,ho7,hp7⟩,H25⟩
   show WC _ _ _ _ _ [(0,v),(1,(vN a)),(2,(vN b)),(7,(vN i3)),(8,(vN c)),(10,(vN k))] _
   have hL7:=hs7.len
   refine WC.seq<|ws<|wm rfl<|wm rfl<|wo (op_lssN rfl rfl<|wn (wE (k<b) (fun hb26 hc26=>?_) (fun hb26 hc26=>?_)))
   ·
    refine WC.skip<|WQ.next<|WC.seq<|WC.block<|WC.seq<|WC.seq<|WC.draw 11 Fa.M H25 (mh rfl<|mh rfl<|oh (fun w1 H1=>op_indexAddr1 Tryz.underlying73 Fa.I22 rfl (H1.arrR (i:=0) rfl) rfl (by omega) zr)<|oh (fun w1 H1=>op_load rfl ((H1.arrR (i:=0) rfl).at (get_map vU32 0 (Arr.ltM (H1.arrR (i:=0) rfl) (by omega)))) Tryz.underlying22 rfl zr)<|mh rfl<|mh rfl<|oh (fun w1 H1=>op_subN (b:=1) rfl rfl (by omega) (by omega) zr)<|oh (fun w1 H1=>op_indexAddr1 Tryz.underlying73 Fa.I22 rfl (H1.arrR (i:=0) rfl) rfl (by omega) zr)<|oh (fun w1 H1=>op_load rfl ((H1.arrR (i:=0) rfl).at (get_map vU32 0 (Arr.ltM (H1.arrR (i:=0) rfl) (by omega)))) Tryz.underlying22 rfl zr)<|oh (fun w1 H1=>op_callF Fa.C217 rfl ((less_ok (l7.getD k 0) (l7.getD (k-1) 0) _).mono (fun e w2 hq=>⟨_,hq.1,rfl,hq.2⟩)))<|oh (fun w1 H1=>op_not rfl zr)  HW.nil) (by kernel_rfl) ?_
    intro β28 w28 H28
    refine wn (wC (!(ltU32 (l7.getD k 0) (l7.getD (k-1) 0))) (fun hb29=>?_) (fun hb29=>?_))
    ·
     have hn29:=(Bool.not_eq_true' _).mp hb29
     exact WC.exit<|WQ.thenExit<|WQ.inPass rfl<|WQ.thenExit<|WQ.thenExit<|WQ.inHere<|WQ.inNormal<|WQ.next<|WC.region<|wm rfl<|wo (op_addN (b:=1) rfl rfl (by omega)<|wa rfl<|WL.nil<|WQ.round (i3,c+1,l7) ⟨⟨by omega,by omega,by omega,hs7,ho7,hp7⟩,H28⟩ ⟨rfl,rfl,rfl,rfl,rfl,trivial⟩ (by show 5-(c+1)<5-c; omega))
    have hn29:=(Bool.not_eq_false' _).mp hb29
    refine WC.skip<|WQ.next<|WC.held 18 rfl Fa.M H28 (fun w'=> ∃L',Owl.Own T w w' ([]++L')) ?_
    intro w30 H30
    refine xt 0 rfl v H30 (fun _ _ HX=>op_move rfl ⟨rfl,rfl⟩)<|xt 1 rfl (vN k) H30 (fun _ _ HX=>op_move rfl ⟨rfl,rfl⟩)<|xt 2 rfl v H30 (fun _ _ HX=>op_move rfl ⟨rfl,rfl⟩)<|xt 3 rfl (vN k) H30 (fun _ _ HX=>op_move rfl ⟨rfl,rfl⟩)<|xt 4 rfl (vN (k-1)) H30 (fun _ _ HX=>op_subN (b:=1) rfl rfl (by omega) (by omega) ⟨rfl,rfl⟩)<|xt 5 rfl v H30 (fun _ _ HX=>op_move rfl ⟨rfl,rfl⟩)<|xt 6 rfl (vN k) H30 (fun _ _ HX=>op_move rfl ⟨rfl,rfl⟩)<|xt 7 rfl (vN (k-1)) H30 (fun _ _ HX=>op_subN (b:=1) rfl rfl (by omega) (by omega) ⟨rfl,rfl⟩)<|xt 8 rfl (.pointer (some (sp v (k-1)))) H30 (fun _ _ HX=>op_indexAddr1W Tryz.underlying73 Fa.I22 rfl (H30.arrR (i:=0) rfl) rfl (by omega) ⟨rfl,rfl⟩)<|xt 10 rfl v H30 (fun _ _ HX=>op_move rfl ⟨rfl,rfl⟩)<|xt 11 rfl (vN k) H30 (fun _ _ HX=>op_move rfl ⟨rfl,rfl⟩)<|xt 12 rfl (.pointer (some (sp v k))) H30 (fun _ _ HX=>op_indexAddr1W Tryz.underlying73 Fa.I22 rfl (H30.arrR (i:=0) rfl) rfl (by omega) ⟨rfl,rfl⟩)<|WH.named (fun W hW=>?_)
    let e23:List (Nat × Value)→List (Nat × Value):=fun r=>(0,v)::(1,(vN a))::(2,(vN b))::(7,(vN i3))::(8,(vN c))::(10,(vN k))::(101,(vN k))::(102,(vN b))::(103,(.bool (decide (k<b))))::(106,v)::(107,(vN k))::(108,(.pointer (some (sp v k))))::(109,(vU32 (l7.getD k 0)))::(110,v)::(111,(vN k))::(112,(vN (k-1)))::(113,(.pointer (some (sp v (k-1)))))::(114,(vU32 (l7.getD (k-1) 0)))::(115,(.bool (ltU32 (l7.getD k 0) (l7.getD (k-1) 0))))::(116,(.bool (!(ltU32 (l7.getD k 0) (l7.getD (k-1) 0)))))::r
    let a23_0:Ent:=.row v 22 1 n (List.map vU32 l7)
    have st23_5: ∀wS,Owl.Own T w wS [.row v 22 1 n (List.map vU32 ((l7.set k (l7.getD (k-1) 0)).set (k-1) (l7.getD k 0)))]→W 0 (bz 18 262143) (e23 []) wS:=fun wS HS=>by
     rw [hW]
     exact WH.done (by kernel_rfl)<|WQ.inNormal<|WQ.next<|WC.region<|wm rfl<|wo (op_addN (b:=1) rfl rfl (by omega)<|wa rfl<|WL.nil<|WQ.round (k+1,swapL 0 l7 k (k-1)) ⟨⟨by omega,by omega,hs7.step (by omega) (by omega) (by omega) (by omega),sort_keep (b:=b) (by omega) ho7 (Sw.one (by omega) (by omega) (by omega) (by omega)),pre_sw (by omega) hp7 (Sw.one (by omega) (by omega) (by omega) (by omega))⟩,HS⟩ ⟨rfl,rfl,rfl,rfl,rfl,rfl,trivial⟩ (by show b-(k+1)<b-k; omega))
    have st23_4: ∀wS,Owl.Own T w wS [.row v 22 1 n (List.map vU32 (l7.set k (l7.getD (k-1) 0)))]→W 1 (bz 18 131071) (e23 [(130,(vU32 (l7.getD k 0))),(132,(.pointer (some (sp v (k-1)))))]) wS:=fun wS HS=>by
     rw [hW]
     refine wh1 17<|kH 17 rfl (op_storeRM (i:=0) (f:=vU32) (l:=(l7.set k (l7.getD (k-1) 0))) (c:=(l7.getD k 0)) HS rfl rfl rfl (by omega) rfl Fa.I22 (fun w41341 H41341=>(⟨⟨_,H41341⟩,?_⟩)))
     exact WH.cw hW (st23_5 w41341 H41341)
    have st23_3: ∀wS,Owl.Own T w wS [a23_0]→W 3 (bz 18 32767) (e23 [(119,v),(121,(vN (k-1))),(126,(vU32 (l7.getD (k-1) 0))),(130,(vU32 (l7.getD k 0))),(131,(.pointer (some (sp v k))))]) wS:=fun wS HS=>by
     rw [hW]
     refine wh1 15<|kH 15 rfl (op_storeRM (i:=0) (f:=vU32) (l:=l7) (c:=(l7.getD (k-1) 0)) HS rfl rfl rfl (by omega) rfl Fa.I22 (fun w41301 H41301=>(⟨⟨_,H41301⟩,?_⟩)))
     exact xt 16 rfl (.pointer (some (sp v (k-1)))) H41301 (fun _ _ HX=>op_indexAddr1W Tryz.underlying73 Fa.I22 rfl (H41301.arrR (i:=0) rfl) rfl (by omega) ⟨rfl,rfl⟩)<|WH.cw hW (st23_4 w41301 H41301)
    have st23_1: ∀wS,Owl.Own T w wS [a23_0]→W 5 (bz 18 8191) (e23 [(117,v),(118,(vN k)),(119,v),(121,(vN (k-1))),(126,(vU32 (l7.getD (k-1) 0))),(129,(.pointer (some (sp v k))))]) wS:=fun wS HS=>by
     rw [hW]
     refine wh1 13<|kH 13 rfl (op_load rfl ((HS.arrR (i:=0) rfl).at (get_map vU32 0 (Arr.ltM (HS.arrR (i:=0) rfl) (by omega)))) Tryz.underlying22 rfl (⟨⟨_,HS⟩,?_⟩))
     exact xt 14 rfl (.pointer (some (sp v k))) HS (fun _ _ HX=>op_indexAddr1W Tryz.underlying73 Fa.I22 rfl (HS.arrR (i:=0) rfl) rfl (by omega) ⟨rfl,rfl⟩)<|WH.cw hW (st23_3 wS HS)
    have st23_2: ∀wS,Owl.Own T w wS [a23_0]→W 5 (bz 18 15871) (e23 [(117,v),(118,(vN k)),(119,v),(121,(vN (k-1))),(125,(.pointer (some (sp v (k-1))))),(130,(vU32 (l7.getD k 0)))]) wS:=fun wS HS=>by
     rw [hW]
     refine wh1 9<|kH 9 rfl (op_load rfl ((HS.arrR (i:=0) rfl).at (get_map vU32 0 (Arr.ltM (HS.arrR (i:=0) rfl) (by omega)))) Tryz.underlying22 rfl (⟨⟨_,HS⟩,?_⟩))
     exact xt 14 rfl (.pointer (some (sp v k))) HS (fun _ _ HX=>op_indexAddr1W Tryz.underlying73 Fa.I22 rfl (HS.arrR (i:=0) rfl) rfl (by omega) ⟨rfl,rfl⟩)<|WH.cw hW (st23_3 wS HS)
    have st23_0: ∀wS,Owl.Own T w wS [a23_0]→W 6 (bz 18 7679) (e23 [(117,v),(118,(vN k)),(119,v),(121,(vN (k-1))),(125,(.pointer (some (sp v (k-1))))),(129,(.pointer (some (sp v k))))]) wS:=fun wS HS=>by
     rw [hW]
     refine wh2 9 13 ?_ ?_
     ·
      refine kH 9 rfl (op_load rfl ((HS.arrR (i:=0) rfl).at (get_map vU32 0 (Arr.ltM (HS.arrR (i:=0) rfl) (by omega)))) Tryz.underlying22 rfl (⟨⟨_,HS⟩,?_⟩))
      exact WH.cw hW (st23_1 wS HS)
     refine kH 13 rfl (op_load rfl ((HS.arrR (i:=0) rfl).at (get_map vU32 0 (Arr.ltM (HS.arrR (i:=0) rfl) (by omega)))) Tryz.underlying22 rfl (⟨⟨_,HS⟩,?_⟩))
     exact WH.cw hW (st23_2 wS HS)
    have hq:=st23_0 w30 H30
    rw [hW] at hq ⊢
    exact WH.cv hq
   exact WC.exit<|WQ.thenExit<|WQ.thenExit<|WQ.inHere<|WQ.inNormal<|WQ.next<|WC.region<|wm rfl<|wo (op_addN (b:=1) rfl rfl (by omega)<|wa rfl<|WL.nil<|WQ.round (i3,c+1,l7) ⟨⟨by omega,by omega,by omega,hs7,ho7,hp7⟩,H25⟩ ⟨rfl,rfl,rfl,rfl,rfl,trivial⟩ (by show 5-(c+1)<5-c; omega))
  exact WC.skip<|WQ.inNormal<|WQ.next<|WC.region<|wm rfl<|wo (op_addN (b:=1) rfl rfl (by omega)<|wa rfl<|WL.nil<|WQ.round (i3,c+1,l4) ⟨⟨by omega,by omega,by omega,hs4,ho4,hp4⟩,H23⟩ ⟨rfl,rfl,rfl,rfl,rfl,trivial⟩ (by show 5-(c+1)<5-c; omega))
 exact WC.exit<|WQ.thenExit<|WQ.thenExit<|WQ.inHere<|WQ.next<|ws<|wa rfl<|wn<|WC.ret<|WQ.out (.tmp rfl .nil) (⟨_,_,rfl,⟨hs1,fun h=>by cases h⟩,H1⟩)
theorem pdq_step (v:Value) (n:Nat) (l:List UInt32) (a b:Nat) (m:Nat) (T:List Nat) (w:World) (H:Owl.Own T w w [.row v 22 1 n (List.map vU32 l)]) (hn:l.length=n) (hN:n<2^61) (hab:a≤b) (hb:b≤n) (hm:m<2^62) (hpre:PreS ltU32 0 a b l) (IH: ∀(l2:List UInt32) (a2 b2 m2:Nat) (T2:List Nat) (w2:World),Owl.Own T2 w2 w2 [.row v 22 1 n (List.map vU32 l2)]→l2.length=n→b2-a2<b-a→a2≤b2→b2≤n→m2<2^62→PreS ltU32 0 a2 b2 l2→Calls Tryz.prog 181 #[v,vN a2,vN b2,vN m2] w2 (fun e w3=> ∃l3:List UInt32,e=.returned undef∧(Sw 0 a2 b2 l2 l3∧SortS ltU32 0 a2 b2 l3)∧Owl.Own T2 w2 w3 [.row v 22 1 n (List.map vU32 l3)])) :
  Calls Tryz.prog 181 #[v,(vN a),(vN b),(vN m)] w (fun e w'=> ∃(l':List UInt32),e=.returned undef∧(Sw 0 a b l l'∧SortS ltU32 0 a b l')∧Owl.Own T w w' [.row v 22 1 n (List.map vU32 l')]):=by
 refine enter Tryz.func181 rfl rfl<|ws<|wa rfl<|wn<|ws<|wa rfl<|wn<|WC.block<|WC.loop (α:=Nat × Nat × Nat × Bool × Bool × List UInt32) (fun (a1,b1,m1,p1,q1,l1)=>[(0,v),(1,(vN a1)),(2,(vN b1)),(3,(vN m1)),(8,(.bool p1)),(9,(.bool q1))]) (fun (a1,b1,m1,p1,q1,l1) w'=>(a≤a1∧a1≤b1∧b1≤b∧m1<2^62∧Sw 0 a b l l1∧OutS ltU32 0 a b a1 b1 l1∧PreS ltU32 0 a1 b1 l1)∧Owl.Own T w w' [.row v 22 1 n (List.map vU32 l1)]) (fun (a1,b1,m1,p1,q1,l1)=>b1-a1) (a,b,m,true,true,l) ⟨⟨Nat.le_refl _,hab,Nat.le_refl _,hm,.refl _,out_init,hpre⟩,H⟩ ⟨rfl,rfl,rfl,rfl,rfl,rfl,trivial⟩ ?_
 rintro ⟨a1,b1,m1,p1,q1,l1⟩ w1 ⟨⟨ha1,hab1,hb1,hm0,hs1,ho1,hpr1⟩,H1⟩
 show WC _ _ _ _ _ [(0,v),(1,(vN a1)),(2,(vN b1)),(3,(vN m1)),(8,(.bool p1)),(9,(.bool q1))] _
 have hL1:=hs1.len
 refine WC.block<|ws<|wm rfl<|wm rfl<|wo (op_subN rfl rfl (by omega) (by omega)<|wa rfl<|wn<|WC.seq<|ws<|wm rfl<|wo (op_leqN (b:=12) rfl rfl<|wn (wE ((b1-a1)≤12) (fun hb2 hc2=>?_) (fun hb2 hc2=>?_))))
 ·
  refine ws<|wm rfl<|wm rfl<|wm rfl<|wo (op_callF Fa.C211 rfl ((ins_ok v n l1 a1 b1 _ _ (H1.part [0] rfl rfl) (by omega) (by omega) (by omega) (by omega)).mono (fun e w3 hq=>?_)))
  obtain ⟨l3,rfl,hc3,hq3⟩:=hq
  refine ⟨_,rfl,?_⟩
  have H3:=H1.splice [0] [.row v 22 1 n (List.map vU32 l3)] [] rfl rfl hq3 (Fits.solid True.intro Fits.nil)
  exact wn<|WC.ret<|WQ.thenRet<|WQ.inRet<|WQ.thenRet<|WQ.inRet<|WQ.out .nil (⟨_,rfl,⟨hs1.trans (hc3.1.mono (by omega) (by omega)),out_done (out_sw (by omega) (by omega) (by omega) ho1 hc3.1) hc3.2⟩,H3⟩)
 refine WC.skip<|WQ.next<|WC.seq<|ws<|wm rfl<|wo (op_eqlN (b:=0) rfl rfl<|wn (wE (m1=0) (fun hb4 hc4=>?_) (fun hb4 hc4=>?_)))
 ·
  refine ws<|wm rfl<|wm rfl<|wm rfl<|wo (op_callF Fa.C212 rfl ((heap_ok v n l1 a1 b1 _ _ (H1.part [0] rfl rfl) (by omega) (by omega) (by omega) (by omega)).mono (fun e w5 hq=>?_)))
  obtain ⟨l5,rfl,hc5,hq5⟩:=hq
  refine ⟨_,rfl,?_⟩
  have H5:=H1.splice [0] [.row v 22 1 n (List.map vU32 l5)] [] rfl rfl hq5 (Fits.solid True.intro Fits.nil)
  exact wn<|WC.ret<|WQ.thenRet<|WQ.inRet<|WQ.thenRet<|WQ.inRet<|WQ.out .nil (⟨_,rfl,⟨hs1.trans (hc5.1.mono (by omega) (by omega)),out_done (out_sw (by omega) (by omega) (by omega) ho1 hc5.1) hc5.2⟩,H5⟩)
 refine WC.skip<|WQ.next<|WC.cut (α:=Nat × List UInt32) (fun (m2,l2)=>[(0,v),(1,(vN a1)),(2,(vN b1)),(3,(vN m2)),(8,(.bool p1)),(9,(.bool q1)),(10,(vN (b1-a1)))]) (fun (m2,l2) w'=>(m2<2^62∧Sw 0 a1 b1 l1 l2)∧Owl.Own T w w' [.row v 22 1 n (List.map vU32 l2)]) ?_ ?_
 ·
  refine ws<|wm rfl<|wo (op_not rfl<|wn (wC (!p1) (fun hb6=>?_) (fun hb6=>?_)))
  ·
   have hn6:=(Bool.not_eq_true' _).mp hb6
   refine ws<|wm rfl<|wm rfl<|wm rfl<|wo (op_callF Fa.C213 rfl ((brk_ok v n l1 a1 b1 _ _ (H1.part [0] rfl rfl) (by omega) (by omega) (by omega) (by omega)).mono (fun e w7 hq=>?_)))
   obtain ⟨l7,rfl,hc7,hq7⟩:=hq
   refine ⟨_,rfl,?_⟩
   have H7:=H1.splice [0] [.row v 22 1 n (List.map vU32 l7)] [] rfl rfl hq7 (Fits.solid True.intro Fits.nil)
   exact wn<|WC.region<|wm rfl<|wo (op_subN (b:=1) rfl rfl (by omega) (by omega)<|wa rfl<|WL.nil<|WQ.here ((m1-1),l7) ⟨⟨by omega,hc7⟩,H7⟩ ⟨rfl,rfl,rfl,rfl,rfl,rfl,rfl,trivial⟩)
  have hn6:=(Bool.not_eq_false' _).mp hb6
  exact WC.skip<|WQ.here (m1,l1) ⟨⟨by omega,.refl _⟩,H1⟩ ⟨rfl,rfl,rfl,rfl,rfl,rfl,rfl,trivial⟩
 rintro ⟨m2,l2⟩ w8 ⟨⟨hm9,hs2⟩,H8⟩
 show WC _ _ _ _ _ [(0,v),(1,(vN a1)),(2,(vN b1)),(3,(vN m2)),(8,(.bool p1)),(9,(.bool q1)),(10,(vN (b1-a1)))] _
 have hL2:=hs2.len
 refine ws<|wm rfl<|wm rfl<|wm rfl<|wo (op_callF Fa.C214 rfl ((piv_ok v n l2 a1 b1 _ _ (H8.part [0] rfl rfl) (by omega) (by omega) (by omega) (by omega)).mono (fun e w9 hq=>?_)))
 obtain ⟨p9,h9,rfl,hc9,hq9⟩:=hq
 refine ⟨_,rfl,?_⟩
 have H9:=H8.splice [0] [.row v 22 1 n (List.map vU32 l2)] [] rfl rfl hq9 (Fits.solid True.intro Fits.nil)
 refine wm rfl<|we rfl rfl<|we rfl rfl<|wa rfl<|wa rfl<|wn<|WC.cut (α:=Nat × Nat × List UInt32) (fun (pv,h,l3)=>[(0,v),(1,(vN a1)),(2,(vN b1)),(3,(vN m2)),(8,(.bool p1)),(9,(.bool q1)),(10,(vN (b1-a1))),(11,(vN pv)),(12,(vN h))]) (fun (pv,h,l3) w'=>(a1≤pv∧pv<b1∧Sw 0 a1 b1 l1 l3)∧Owl.Own T w w' [.row v 22 1 n (List.map vU32 l3)]) ?_ ?_
 ·
  refine ws<|wm rfl<|wo (op_eqlN (b:=2) rfl rfl<|wn (wE (h9=2) (fun hb10 hc10=>?_) (fun hb10 hc10=>?_)))
  ·
   refine ws<|wm rfl<|wm rfl<|wm rfl<|wo (op_callF Fa.C215 rfl ((rev_ok v n l2 a1 b1 _ _ (H9.part [0] rfl rfl) (by omega) (by omega) (by omega) (by omega)).mono (fun e w11 hq=>?_)))
   obtain ⟨l11,rfl,hc11,hq11⟩:=hq
   refine ⟨_,rfl,?_⟩
   have H11:=H9.splice [0] [.row v 22 1 n (List.map vU32 l11)] [] rfl rfl hq11 (Fits.solid True.intro Fits.nil)
   exact wn<|ws<|wm rfl<|wo (op_subN (b:=1) rfl rfl (by omega) (by omega)<|wm rfl<|wm rfl<|wo (op_subN rfl rfl (by omega) (by omega)<|wo (op_subN rfl rfl (by omega) (by omega)<|wa rfl<|wn<|WC.region<|wa rfl<|WL.nil<|WQ.here (((b1-1)-(p9-a1)),1,l11) ⟨⟨by omega,by omega,hs2.trans hc11⟩,H11⟩ ⟨rfl,rfl,rfl,rfl,rfl,rfl,rfl,rfl,rfl,trivial⟩)))
  exact WC.skip<|WQ.here (p9,h9,l2) ⟨⟨by omega,by omega,hs2⟩,H9⟩ ⟨rfl,rfl,rfl,rfl,rfl,rfl,rfl,rfl,rfl,trivial⟩
 rintro ⟨pv,h,l3⟩ w12 ⟨⟨hv1,hv2,hs3⟩,H12⟩
 show WC _ _ _ _ _ [(0,v),(1,(vN a1)),(2,(vN b1)),(3,(vN m2)),(8,(.bool p1)),(9,(.bool q1)),(10,(vN (b1-a1))),(11,(vN pv)),(12,(vN h))] _
 have hL3:=hs3.len
 refine WC.cut (α:=List UInt32) (fun l4=>[(0,v),(1,(vN a1)),(2,(vN b1)),(3,(vN m2)),(8,(.bool p1)),(9,(.bool q1)),(10,(vN (b1-a1))),(11,(vN pv))]) (fun l4 w'=>(Sw 0 a1 b1 l1 l4)∧Owl.Own T w w' [.row v 22 1 n (List.map vU32 l4)]) ?_ ?_
 ·
  refine ws<|wm rfl<|wm rfl (wV 62 p1 (fun hb13=>?_) (fun hb13=>?_))
  ·
   refine wY hb13 (op_move rfl<|wo (op_pickT rfl hb13 rfl<|wm rfl (wV 65 q1 (fun hb14=>?_) (fun hb14=>?_))))
   ·
    refine wY hb14 (op_move rfl<|wY hb14 (op_eqlN (b:=1) rfl rfl<|wo (op_pickT rfl hb14 rfl<|wn (wE (h=1) (fun hb15 hc15=>?_) (fun hb15 hc15=>?_)))))
    ·
     refine ws<|wm rfl<|wm rfl<|wm rfl<|wo (op_callF Fa.C216 rfl ((pins_ok v n l3 a1 b1 _ _ (H12.part [0] rfl rfl) (by omega) (by omega) (by omega) (by omega) (pre_sw (by omega) hpr1 hs3)).mono (fun e w16 hq=>?_)))
     obtain ⟨l16,r16,rfl,hc16,hq16⟩:=hq
     refine ⟨_,rfl,?_⟩
     have H16:=H12.splice [0] [.row v 22 1 n (List.map vU32 l16)] [] rfl rfl hq16 (Fits.solid True.intro Fits.nil)
     refine wn (wC r16 (fun hb17=>?_) (fun hb17=>?_))
     ·
      exact WC.ret<|WQ.thenRet<|WQ.inRet<|WQ.thenRet<|WQ.inRet<|WQ.out .nil (⟨_,rfl,⟨hs1.trans ((hs3.trans hc16.1).mono (by omega) (by omega)),out_done (out_sw (by omega) (by omega) (by omega) ho1 (hs3.trans hc16.1)) (hc16.2 hb17)⟩,H16⟩)
     exact WC.skip<|WQ.here l16 ⟨(hs3.trans hc16.1),H16⟩ ⟨rfl,rfl,rfl,rfl,rfl,rfl,rfl,rfl,trivial⟩
    exact WC.skip<|WQ.here l3 ⟨hs3,H12⟩ ⟨rfl,rfl,rfl,rfl,rfl,rfl,rfl,rfl,trivial⟩
   exact wN hb14<|wN hb14<|wo (op_pickF rfl hb14 rfl<|wn<|WC.no rfl rfl<|WC.skip<|WQ.here l3 ⟨hs3,H12⟩ ⟨rfl,rfl,rfl,rfl,rfl,rfl,rfl,rfl,trivial⟩)
  exact wN hb13<|wo (op_pickF rfl hb13 rfl<|wm rfl<|wN rfl<|wN rfl<|wo (op_pickF rfl rfl rfl<|wn<|WC.no rfl rfl<|WC.skip<|WQ.here l3 ⟨hs3,H12⟩ ⟨rfl,rfl,rfl,rfl,rfl,rfl,rfl,rfl,trivial⟩))
 rintro l4 w18 ⟨hs4,H18⟩
 show WC _ _ _ _ _ [(0,v),(1,(vN a1)),(2,(vN b1)),(3,(vN m2)),(8,(.bool p1)),(9,(.bool q1)),(10,(vN (b1-a1))),(11,(vN pv))] _
 have hL4:=hs4.len
 have hO4:=out_sw (by omega) (by omega) (by omega) ho1 hs4
 have hP4:=pre_sw (by omega) hpr1 hs4
 refine WC.seq<|WC.seq (wG (a1>0) (fun hb19 hc19=>?_) (fun hb19 hc19=>?_))
 ·
  refine WC.draw 15 Fa.M H18 (mh rfl<|oh (fun w1 H1=>op_gtrN (b:=0) rfl rfl zr)<|mh rfl<|yh hb19 (fun w1 H1=>op_move rfl zr)<|yh hb19 (fun w1 H1=>op_move rfl zr)<|yh hb19 (fun w1 H1=>op_subN (b:=1) rfl rfl (by omega) (by omega) zr)<|yh hb19 (fun w1 H1=>op_indexAddr1 Tryz.underlying73 Fa.I22 rfl (H1.arrR (i:=0) rfl) rfl (by omega) zr)<|yh hb19 (fun w1 H1=>op_load rfl ((H1.arrR (i:=0) rfl).at (get_map vU32 0 (Arr.ltM (H1.arrR (i:=0) rfl) (by omega)))) Tryz.underlying22 rfl zr)<|yh hb19 (fun w1 H1=>op_move rfl zr)<|yh hb19 (fun w1 H1=>op_move rfl zr)<|yh hb19 (fun w1 H1=>op_indexAddr1 Tryz.underlying73 Fa.I22 rfl (H1.arrR (i:=0) rfl) rfl (by omega) zr)<|yh hb19 (fun w1 H1=>op_load rfl ((H1.arrR (i:=0) rfl).at (get_map vU32 0 (Arr.ltM (H1.arrR (i:=0) rfl) (by omega)))) Tryz.underlying22 rfl zr)<|yh hb19 (fun w1 H1=>op_callF Fa.C217 rfl ((less_ok (l4.getD (a1-1) 0) (l4.getD pv 0) _).mono (fun e w2 hq=>⟨_,hq.1,rfl,hq.2⟩)))<|yh hb19 (fun w1 H1=>op_not rfl zr)<|oh (fun w1 H1=>op_pickT rfl hb19 rfl zr)  HW.nil) (by kernel_rfl) ?_
  intro β21 w21 H21
  refine wn (wC (!(ltU32 (l4.getD (a1-1) 0) (l4.getD pv 0))) (fun hb22=>?_) (fun hb22=>?_))
  ·
   have hn22:=(Bool.not_eq_true' _).mp hb22
   refine ws<|wm rfl<|wm rfl<|wm rfl<|wm rfl<|wo (op_callF Fa.C218 rfl ((parteq_ok v n l4 a1 b1 pv _ _ (H21.part [0] rfl rfl) (by omega) (by omega) (by omega) (by omega) (by omega)).mono (fun e w23 hq=>?_)))
   obtain ⟨l23,m23,rfl,hc23,hq23⟩:=hq
   refine ⟨_,rfl,?_⟩
   have H23:=H21.splice [0] [.row v 22 1 n (List.map vU32 l23)] [] rfl rfl hq23 (Fits.solid True.intro Fits.nil)
   refine wa rfl<|wn<|ws<|wm rfl<|wa rfl<|wn<|WC.exit<|WQ.thenExit<|WQ.inHere ?_
   have hm1:=hc23.2.1
   have hm2:=hc23.2.2.1
   have hE:=eq_left ltU32OK (by omega) (by omega) hO4 (by omega) hP4 (by omega) hn22 hc23.1 hc23.2
   exact WQ.round (m23,b1,m2,p1,q1,l23) ⟨⟨by omega,by omega,by omega,by omega,hs1.trans ((hs4.trans hc23.1).mono (by omega) (by omega)),hE.1,hE.2⟩,H23⟩ ⟨rfl,rfl,rfl,rfl,rfl,rfl,trivial⟩ (by show b1-m23<b1-a1; omega)
  have hn22:=(Bool.not_eq_false' _).mp hb22
  refine WC.skip<|WQ.next<|ws<|wm rfl<|wm rfl<|wm rfl<|wm rfl<|wo (op_callF Fa.C219 rfl ((part_ok v n l4 a1 b1 pv _ _ (H21.part [0] rfl rfl) (by omega) (by omega) (by omega) (by omega) (by omega)).mono (fun e w24 hq=>?_)))
  obtain ⟨l24,m24,f24,rfl,hc24,hq24⟩:=hq
  refine ⟨_,rfl,?_⟩
  have H24:=H21.splice [0] [.row v 22 1 n (List.map vU32 l24)] [] rfl rfl hq24 (Fits.solid True.intro Fits.nil)
  refine wm rfl<|we rfl rfl<|we rfl rfl<|wa rfl<|wa rfl<|wn<|ws ?_
  have hLP:=hc24.1.len
  have hm1:=hc24.2.1
  have hm2:=hc24.2.2.1
  have hO5:=out_sw (by omega) (by omega) (by omega) hO4 hc24.1
  have hP5:=pre_sw (by omega) hP4 hc24.1
  refine wm rfl<|wa rfl<|wn<|ws<|wm rfl<|wm rfl<|wo (op_subN rfl rfl (by omega) (by omega)<|wm rfl<|wm rfl<|wo (op_subN rfl rfl (by omega) (by omega)<|wa rfl<|wa rfl<|wn<|ws<|wm rfl<|wo (op_quoN (b:=8) rfl rfl (by omega) (by omega)<|wa rfl<|wn<|ws<|wm rfl<|wm rfl<|wo (op_lssN rfl rfl<|wn (wE ((m24-a1)<(b1-m24)) (fun hb25 hc25=>?_) (fun hb25 hc25=>?_))))))
  ·
   refine ws<|wm rfl<|wm rfl<|wo (op_geqN rfl rfl<|wa rfl<|wn<|ws<|wm rfl<|wm rfl<|wm rfl<|wm rfl<|wo (op_callF Fa.C181 rfl ((IH l24 a1 m24 m2 _ _ (H24.part [0] rfl rfl) (by omega) (by omega) (by omega) (by omega) (by omega) (pre_left hP5 (by omega))).mono (fun e w26 hq=>?_))))
   obtain ⟨l26,rfl,hc26,hq26⟩:=hq
   refine ⟨_,rfl,?_⟩
   have H26:=H24.splice [0] [.row v 22 1 n (List.map vU32 l26)] [] rfl rfl hq26 (Fits.solid True.intro Fits.nil)
   refine wn<|WC.region<|wm rfl<|wo (op_addN (b:=1) rfl rfl (by omega)<|wa rfl<|WL.nil<|WQ.inNormal ?_)
   have hE:=part_left ltU32OK (by omega) (by omega) hO5 (by omega) hc24.2 hc26.1 hc26.2
   exact WQ.round ((m24+1),b1,m2,(decide ((m24-a1)≥((b1-a1) / 8))),f24,l26) ⟨⟨by omega,by omega,by omega,by omega,hs1.trans (((hs4.trans hc24.1).trans (hc26.1.mono (by omega) (by omega))).mono (by omega) (by omega)),hE.1,hE.2⟩,H26⟩ ⟨rfl,rfl,rfl,rfl,rfl,rfl,trivial⟩ (by show b1-(m24+1)<b1-a1; omega)
  refine ws<|wm rfl<|wm rfl<|wo (op_geqN rfl rfl<|wa rfl<|wn<|ws<|wm rfl<|wm rfl<|wo (op_addN (b:=1) rfl rfl (by omega)<|wm rfl<|wm rfl<|wo (op_callF Fa.C181 rfl ((IH l24 (m24+1) b1 m2 _ _ (H24.part [0] rfl rfl) (by omega) (by omega) (by omega) (by omega) (by omega) (pre_right hc24.2)).mono (fun e w27 hq=>?_)))))
  obtain ⟨l27,rfl,hc27,hq27⟩:=hq
  refine ⟨_,rfl,?_⟩
  have H27:=H24.splice [0] [.row v 22 1 n (List.map vU32 l27)] [] rfl rfl hq27 (Fits.solid True.intro Fits.nil)
  refine wn<|WC.region<|wm rfl<|wa rfl<|WL.nil<|WQ.inNormal ?_
  have hE:=part_right ltU32OK (by omega) (by omega) hO5 (by omega) hc24.2 hc27.1 hc27.2
  exact WQ.round (a1,m24,m2,(decide ((b1-m24)≥((b1-a1) / 8))),f24,l27) ⟨⟨by omega,by omega,by omega,by omega,hs1.trans (((hs4.trans hc24.1).trans (hc27.1.mono (by omega) (by omega))).mono (by omega) (by omega)),hE,pre_right_sw (by omega) hP5 (by omega) (by omega) hc27.1⟩,H27⟩ ⟨rfl,rfl,rfl,rfl,rfl,rfl,trivial⟩ (by show m24-a1<b1-a1; omega)
 refine WC.draw 15 Fa.M H18 (mh rfl<|oh (fun w1 H1=>op_gtrN (b:=0) rfl rfl zr)<|mh rfl<|nh hb19<|nh hb19<|nh hb19<|nh hb19<|nh hb19<|nh hb19<|nh hb19<|nh hb19<|nh hb19<|nh hb19<|nh hb19<|oh (fun w1 H1=>op_pickF rfl hb19 rfl zr)  HW.nil) (by kernel_rfl) ?_
 intro β28 w28 H28
 refine wn<|WC.no rfl rfl<|WC.skip<|WQ.next<|ws<|wm rfl<|wm rfl<|wm rfl<|wm rfl<|wo (op_callF Fa.C219 rfl ((part_ok v n l4 a1 b1 pv _ _ (H28.part [0] rfl rfl) (by omega) (by omega) (by omega) (by omega) (by omega)).mono (fun e w29 hq=>?_)))
 obtain ⟨l29,m29,f29,rfl,hc29,hq29⟩:=hq
 refine ⟨_,rfl,?_⟩
 have H29:=H28.splice [0] [.row v 22 1 n (List.map vU32 l29)] [] rfl rfl hq29 (Fits.solid True.intro Fits.nil)
 refine wm rfl<|we rfl rfl<|we rfl rfl<|wa rfl<|wa rfl<|wn<|ws ?_
 have hLP:=hc29.1.len
 have hm1:=hc29.2.1
 have hm2:=hc29.2.2.1
 have hO5:=out_sw (by omega) (by omega) (by omega) hO4 hc29.1
 have hP5:=pre_sw (by omega) hP4 hc29.1
 refine wm rfl<|wa rfl<|wn<|ws<|wm rfl<|wm rfl<|wo (op_subN rfl rfl (by omega) (by omega)<|wm rfl<|wm rfl<|wo (op_subN rfl rfl (by omega) (by omega)<|wa rfl<|wa rfl<|wn<|ws<|wm rfl<|wo (op_quoN (b:=8) rfl rfl (by omega) (by omega)<|wa rfl<|wn<|ws<|wm rfl<|wm rfl<|wo (op_lssN rfl rfl<|wn (wE ((m29-a1)<(b1-m29)) (fun hb30 hc30=>?_) (fun hb30 hc30=>?_))))))
 ·
  refine ws<|wm rfl<|wm rfl<|wo (op_geqN rfl rfl<|wa rfl<|wn<|ws<|wm rfl<|wm rfl<|wm rfl<|wm rfl<|wo (op_callF Fa.C181 rfl ((IH l29 a1 m29 m2 _ _ (H29.part [0] rfl rfl) (by omega) (by omega) (by omega) (by omega) (by omega) (pre_left hP5 (by omega))).mono (fun e w31 hq=>?_))))
  obtain ⟨l31,rfl,hc31,hq31⟩:=hq
  refine ⟨_,rfl,?_⟩
  have H31:=H29.splice [0] [.row v 22 1 n (List.map vU32 l31)] [] rfl rfl hq31 (Fits.solid True.intro Fits.nil)
  refine wn<|WC.region<|wm rfl<|wo (op_addN (b:=1) rfl rfl (by omega)<|wa rfl<|WL.nil<|WQ.inNormal ?_)
  have hE:=part_left ltU32OK (by omega) (by omega) hO5 (by omega) hc29.2 hc31.1 hc31.2
  exact WQ.round ((m29+1),b1,m2,(decide ((m29-a1)≥((b1-a1) / 8))),f29,l31) ⟨⟨by omega,by omega,by omega,by omega,hs1.trans (((hs4.trans hc29.1).trans (hc31.1.mono (by omega) (by omega))).mono (by omega) (by omega)),hE.1,hE.2⟩,H31⟩ ⟨rfl,rfl,rfl,rfl,rfl,rfl,trivial⟩ (by show b1-(m29+1)<b1-a1; omega)
 refine ws<|wm rfl<|wm rfl<|wo (op_geqN rfl rfl<|wa rfl<|wn<|ws<|wm rfl<|wm rfl<|wo (op_addN (b:=1) rfl rfl (by omega)<|wm rfl<|wm rfl<|wo (op_callF Fa.C181 rfl ((IH l29 (m29+1) b1 m2 _ _ (H29.part [0] rfl rfl) (by omega) (by omega) (by omega) (by omega) (by omega) (pre_right hc29.2)).mono (fun e w32 hq=>?_)))))
 obtain ⟨l32,rfl,hc32,hq32⟩:=hq
 refine ⟨_,rfl,?_⟩
 have H32:=H29.splice [0] [.row v 22 1 n (List.map vU32 l32)] [] rfl rfl hq32 (Fits.solid True.intro Fits.nil)
 refine wn<|WC.region<|wm rfl<|wa rfl<|WL.nil<|WQ.inNormal ?_
 have hE:=part_right ltU32OK (by omega) (by omega) hO5 (by omega) hc29.2 hc32.1 hc32.2
 exact WQ.round (a1,m29,m2,(decide ((b1-m29)≥((b1-a1) / 8))),f29,l32) ⟨⟨by omega,by omega,by omega,by omega,hs1.trans (((hs4.trans hc29.1).trans (hc32.1.mono (by omega) (by omega))).mono (by omega) (by omega)),hE,pre_right_sw (by omega) hP5 (by omega) (by omega) hc32.1⟩,H32⟩ ⟨rfl,rfl,rfl,rfl,rfl,rfl,trivial⟩ (by show m29-a1<b1-a1; omega)
theorem pdq_ok (v:Value) (n:Nat) (l:List UInt32) (a b:Nat) (m:Nat) (T:List Nat) (w:World) (H:Owl.Own T w w [.row v 22 1 n (List.map vU32 l)]) (hn:l.length=n) (hN:n<2^61) (hab:a≤b) (hb:b≤n) (hm:m<2^62) (hpre:PreS ltU32 0 a b l) :
  Calls Tryz.prog 181 #[v,vN a,vN b,vN m] w (fun e w'=> ∃(l':List UInt32),e=.returned undef∧(Sw 0 a b l l'∧SortS ltU32 0 a b l')∧Owl.Own T w w' [.row v 22 1 n (List.map vU32 l')]):=by
 have key: ∀(N:Nat) (l:List UInt32) (a b m:Nat) (T:List Nat) (w:World),Owl.Own T w w [.row v 22 1 n (List.map vU32 l)]→l.length=n→b-a<N→a≤b→b≤n→m<2^62→PreS ltU32 0 a b l→Calls Tryz.prog 181 #[v,vN a,vN b,vN m] w (fun e w'=> ∃(l':List UInt32),e=.returned undef∧(Sw 0 a b l l'∧SortS ltU32 0 a b l')∧Owl.Own T w w' [.row v 22 1 n (List.map vU32 l')]):=by
  intro N
  induction N with
  | zero=>intro l a b m T w H hn hlt; omega
  | succ N ih=>intro l a b m T w H hn hlt hab hb hm hpre; exact pdq_step v n l a b m T w H hn hN hab hb hm hpre (fun l2 a2 b2 m2 T2 w2 H2 h1 h2 h3 h4 h5 h6=>ih l2 a2 b2 m2 T2 w2 H2 h1 (by omega) h3 h4 h5 h6)
 exact key (b-a+1) l a b m T w H hn (by omega) hab hb hm hpre
theorem sort_ok (v:Value) (n:Nat) (l:List UInt32) (T:List Nat) (w:World) (H:Owl.Own T w w [.row v 22 1 n (List.map vU32 l)]) (hn:l.length=n) (hN:n<2^61) :
  Calls Tryz.prog 144 #[v] w (fun e w'=> ∃(l':List UInt32),e=.returned undef∧(Sw 0 0 n l l'∧SortS ltU32 0 0 n l')∧Owl.Own T w w' [.row v 22 1 n (List.map vU32 l')]):=by
 refine enter Tryz.func144 rfl rfl<|ws<|wm rfl<|wo (op_lenA Tryz.underlying73 rfl (H.arrR (i:=0) rfl)<|wa rfl<|wn<|WC.region<|wm rfl<|wm rfl<|wm rfl<|wo (op_convNU64 (hs:=Tryz.underlying3) (hd:=Tryz.underlying265) rfl<|wo (op_callF Fa.C182 rfl ((blen_ok (UInt64.ofNat n) _).mono (fun e w1 hq=>?_)))))
 obtain ⟨rfl,hf1⟩:=hq
 refine ⟨_,rfl,?_⟩
 have H1:=H.fr' hf1
 refine wo (op_callF Fa.C181 rfl ((pdq_ok v n l 0 n (lenN (UInt64.ofNat n).toNat) _ _ (H1.part [0] rfl rfl) (by omega) (by omega) (by omega) (by omega) (Nat.lt_of_le_of_lt (lenN_le (k:=64) (UInt64.toNat_lt _)) (by decide)) (.inl rfl)).mono (fun e w2 hq=>?_)))
 obtain ⟨l2,rfl,hc2,hq2⟩:=hq
 refine ⟨_,rfl,?_⟩
 have H2:=H1.splice [0] [.row v 22 1 n (List.map vU32 l2)] [] rfl rfl hq2 (Fits.solid True.intro Fits.nil)
 exact WL.nil<|WQ.outEnd .nil (⟨_,rfl,hc2,H2⟩)
theorem sorted_uint32 (mb c Bm:Nat) (l:List ME) (w:World) (hl:MEok l c) (hn:l.length<2^40) (h32: ∀e∈l,e.k<2^32) (hB:w.cell? ⟨Bm,0,none⟩=some (.map (some mb))) (hM:w.heap[mb]?=some (mP .u32 l c)) :
  Calls Tryz.prog 95 #[(.func (.func 145) #[] #[(ptr Bm 0)])] w (fun e w'=> ∃v ks,e=.returned v∧((l.map Go.Spec.ME.ku).Perm ks∧ks.Pairwise (fun x y=>ltU32 y x=false))∧Owl.Own [] w w' [.row v 22 1 ks.length (List.map vU32 ks)]):=by
 refine enter Tryz.func95 rfl rfl ?_
 have H0:=Own.start w []
 refine ws<|wa rfl<|wn<|ws<|wm rfl<|wo (op_callF Fa.C143 rfl ((coll_uint32 mb c Bm l _ hl hn h32 hB hM).mono (fun e w1 hq=>?_)))
 obtain ⟨v1,ks1,rfl,hp1,hq1⟩:=hq
 refine ⟨_,rfl,?_⟩
 have H1:=H0.splice [] [] [.row v1 22 1 ks1.length (List.map vU32 ks1)] rfl rfl hq1 (Fits.solid True.intro Fits.nil)
 refine wa rfl<|wn<|ws<|wm rfl<|wo (op_callF Fa.C144 rfl ((sort_ok v1 ks1.length ks1  _ _ (H1.part [0] rfl rfl) rfl (by have:=hp1.length_eq; simp at this; omega)).mono (fun e w2 hq=>?_)))
 obtain ⟨l2,rfl,hc2,hq2⟩:=hq
 refine ⟨_,rfl,?_⟩
 have H2:=H1.splice [0] [.row v1 22 1 ks1.length (List.map vU32 l2)] [] rfl rfl hq2 (Fits.solid True.intro Fits.nil)
 refine wn<|ws<|wm rfl<|wa rfl<|wn<|WC.ret<|WQ.out (.tmp rfl .nil) ?_
 have hl9:=hc2.1.len
 have h9:=H2.sel [0] rfl rfl
 rw [show ks1.length=l2.length by omega] at h9
 exact ⟨_,_,rfl,⟨hp1.trans (Sw.perm hc2.1 (Nat.le_refl _)).symm,SortS.pair (by rw [hl9]; exact hc2.2)⟩,h9⟩
theorem keys_uint32 (mb:Nat) (w:World) :
  Calls Tryz.prog 96 #[(.map (some mb))] w (fun e w'=> ∃b,e=.returned (.func (.func 145) #[] #[ptr b 0])∧Owl.Own [] w w' [.blk b [.map (some mb)] 162]):=by
 refine enter Tryz.func96 rfl rfl ?_
 have H0:=Own.start w []
 exact ws<|wo (op_box H0 rfl rfl (fun b1 w1 H1=>(wa rfl<|wn<|ws<|wo (op_makeFunc rfl rfl<|wa rfl<|wn<|WC.ret<|WQ.out (.tmp rfl .nil) (⟨_,rfl,H1.sel [0] rfl rfl⟩)))))
theorem scopy_ok (s mb c:Nat) (ps:List Pg) (w:World) (hS:cellsAt w s [(.map (some mb))]) (hM:w.heap[mb]?=some (mP .u32 (List.map Pg.me ps) c)) (hP:BsOK 211 Pg.cells Pg.b ps w) (hME:MEok (List.map Pg.me ps) c) (hlen: ∀g∈ps,g.bs.length=256) :
  Calls Tryz.prog 175 #[(ptr s 0)] w (fun e w'=> ∃x mb2 qs c2,e=.returned (ptr x 0)∧(MEok (qs.map Pg.me) c2∧(qs.map Pg.bare).Perm (ps.map Pg.bare))∧Owl.Own [] w w' [.blk x [(.map (some mb2))] 165,.obj mb2 (mP .u32 (List.map Pg.me qs) c2),Ent.bs 211 Pg.cells Pg.b qs]):=by
 refine enter Tryz.func175 rfl rfl ?_
 have H0:=((((Own.start w []).oldB hS).mpOld hM).bsOld hP)
 refine ws<|wa rfl<|wn<|WC.seq<|ws<|wm rfl<|wo (op_eqlPN Fa.PT68 rfl rfl<|wn<|WC.no rfl rfl<|WC.skip<|WQ.next<|ws<|wo (op_callF Fa.C73 rfl ((spNew_ok _).mono (fun e w1 hq=>?_))))
 obtain ⟨s1,mb1,rfl,hq1⟩:=hq
 refine ⟨_,rfl,?_⟩
 have H1:=H0.splice [] [] [.blk s1 [(.map (some mb1))] 165,.obj mb1 (mP .u32 (List.map Pg.me []) 0),Ent.bs 211 Pg.cells Pg.b []] rfl rfl hq1 (Fits.solid True.intro (Fits.solid True.intro (Fits.solid True.intro Fits.nil)))
 refine wa rfl<|wn<|WC.seq<|ws<|wm rfl<|wo (op_nilCheck rfl<|wo (op_fieldAddr rfl Fa.F165_0<|wo (op_load rfl (H1.cellO (i:=0) rfl rfl) Tryz.underlying162 rfl<|wo (op_rangeP H1 (H1.mpO (i:=1) rfl) Tryz.underlying162 rfl (fun b2 w2 H2=>(wn<|WC.block<|WC.loop (α:=List Pg × List Pg × List Pg × Nat) (fun (sn,rst,qs,c2)=>[(3,(ptr s1 0)),(13,(ptr b2 0))]) (fun (sn,rst,qs,c2) w'=>(ps.Perm (sn++rst)∧qs.map Pg.bare=sn.map Pg.bare∧MEok (qs.map Pg.me) c2)∧Owl.Own [] w w' [Ent.bo s [(.map (some mb))],Ent.mo .u32 mb (List.map Pg.me ps) c,Ent.bsO 211 Pg.cells Pg.b ps,.blk s1 [(.map (some mb1))] 165,.obj mb1 (mP .u32 (List.map Pg.me qs) c2),Ent.bs 211 Pg.cells Pg.b qs,.obj b2 (itO mb c (List.map Pg.me sn))]) (fun (sn,rst,qs,c2)=>rst.length) ([],ps,[],0) ⟨⟨List.Perm.refl _,rfl,MEok.nil 0⟩,H2⟩ ⟨rfl,rfl,trivial⟩ ?_))))))
 rintro ⟨sn,rst,qs,c2⟩ w3 ⟨⟨hpm,hco,hm2⟩,H3⟩
 show WC _ _ _ _ _ [(3,(ptr s1 0)),(13,(ptr b2 0))] _
 refine ws<|wo (op_nextG (i:=6) (sn:=sn) (rest:=rst) H3 rfl (H3.mpO (i:=1) rfl) hME hpm rfl (fun h0=>?_) (fun g4 rs4 hl4 hp4 w4 H4=>?_))
 ·
  refine we rfl rfl<|wn<|WC.seq<|WC.no rfl rfl<|WC.exit<|WQ.thenExit<|WQ.thenExit<|WQ.inHere<|WQ.next<|ws<|wm rfl<|wa rfl<|wn<|WC.ret<|WQ.out (.tmp rfl .nil) ?_
  rw [h0,List.append_nil] at hpm
  exact ⟨_,_,qs,c2,rfl,⟨hm2,by rw [hco]; exact (hpm.map _).symm⟩,H3.sel [3,4,5] rfl rfl⟩
 have H5:=(H4.bsView (i:=2) (a:=g4) rfl (hp4.mem_iff.2 (by simp)))
 have hgl:g4.bs.length=256:=hlen g4 (hp4.mem_iff.2 (by simp))
 refine we rfl rfl<|wn<|WC.seq<|WC.yes rfl rfl<|WC.skip<|WQ.next<|WC.block<|ws<|wo (op_entryG (i:=6) (sn:=sn) (g:=g4) H5 rfl (H5.mpO (i:=1) rfl) hME hp4 rfl<|we rfl rfl<|we rfl rfl<|wa rfl<|wa rfl<|wn<|WC.draw 15 Fa.M H5 (mh rfl<|oh (fun w1 H1=>op_nilCheck rfl zr)<|oh (fun w1 H1=>op_fieldAddr rfl Fa.F165_0 zr)<|oh (fun w1 H1=>op_load rfl (H1.cell (i:=3) rfl rfl) Tryz.underlying162 rfl zr)<|mh rfl<|mh rfl<|oh (fun w1 H1=>op_nilCheck rfl zr)<|oh (fun w1 H1=>op_fieldAddr rfl Fa.F211_0 zr)<|oh (fun w1 H1=>op_load rfl (H1.cellO (i:=7) rfl rfl) Tryz.underlying5 rfl zr)<|mh rfl<|oh (fun w1 H1=>op_nilCheck rfl zr)<|oh (fun w1 H1=>op_fieldAddr rfl Fa.F211_1 zr)<|oh (fun w1 H1=>op_loadS (vs:=(List.map vU8 g4.bs)) rfl (H1.cellsO (i:=7) rfl (drop_tab _ g4.bs 1)) Tryz.underlying209 rfl Fa.I209 (by rw [List.length_map]; exact hgl) zr)<|oh (fun w1 H1=>op_build (cs:=[vU8 g4.pm]++List.map vU8 g4.bs) Fa.I211 Fa.PL211 rfl (fill_page List.length_replicate hgl) zr)<|HW.flt (mk:=fun bq=>ptr bq.1 0) (ent:=fun bq=>.blk bq.1 _ _) rfl (fun w1 _=>op_box (Own.start w1 []) rfl rfl (fun bq w2 H2=>⟨(bq,undef),rfl,H2,True.intro⟩))  HW.nil) (by kernel_rfl) ?_)
 intro β6 w6 H6
 exact wo (op_updP (i:=4) (k:=g4.a.toNat) H6 rfl Tryz.underlying162 Tryz.underlying22 (fun x hx hk=>pgCopy_ne hME hp4 hco hx hk) rfl rfl rfl (fun w7 H7=>(WL.nil<|WQ.inNormal<|WQ.round ((sn++[g4]),rs4,qs++[(Pg.mk g4.a (β6 14).1 c2 g4.pm g4.bs)],c2+1) ⟨⟨hp4,pgCopy_snoc hco,pgCopy_me hME hp4 hco hm2⟩,(by have h:=(show Owl.Own [] w w7 [Ent.bo s [(.map (some mb))],Ent.mo .u32 mb (List.map Pg.me ps) c,Ent.bsO 211 Pg.cells Pg.b ps,.blk s1 [(.map (some mb1))] 165,.obj mb1 (mP .u32 ((List.map Pg.me qs)++[ME.mk g4.a.toNat (β6 14).1 c2]) (c2+1)),Ent.bs 211 Pg.cells Pg.b qs,.obj b2 (itO mb c (List.map Pg.me (sn++[g4]))),Ent.bo g4.b ([(vU8 g4.pm)]++(List.map vU8 g4.bs)),.blk (β6 14).1 ([vU8 g4.pm]++List.map vU8 g4.bs) 211] from H7); rw [show ((List.map Pg.me qs)++[ME.mk g4.a.toNat (β6 14).1 c2])=List.map Pg.me (qs++[(Pg.mk g4.a (β6 14).1 c2 g4.pm g4.bs)]) from by rw [List.map_append]; rfl] at h; exact (h.foldEnd (i:=5) (j:=8) (f:=Pg.cells) (bl:=Pg.b) (a:=(Pg.mk g4.a (β6 14).1 c2 g4.pm g4.bs)) rfl rfl rfl rfl rfl).sel [0,1,2,3,4,5,6] rfl rfl)⟩ ⟨rfl,rfl,trivial⟩ (by show rs4.length<rst.length; omega))))
theorem spages_ok (s mb c:Nat) (ps:List Pg) (w:World) (hS:cellsAt w s [(.map (some mb))]) (hM:w.heap[mb]?=some (mP .u32 (List.map Pg.me ps) c)) (hP:BsOK 211 Pg.cells Pg.b ps w) (hME:MEok (List.map Pg.me ps) c) (hgn:ps.length<2^40) :
  Calls Tryz.prog 44 #[(ptr s 0)] w (fun e w'=> ∃v ks,e=.returned v∧((ps.map Pg.a).Perm ks∧ks.Pairwise (fun x y=>ltU32 y x=false))∧Owl.Own [] w w' [.row v 22 1 ks.length (List.map vU32 ks)]):=by
 refine enter Tryz.func44 rfl rfl ?_
 have H0:=((((Own.start w []).oldB hS).mpOld hM).bsOld hP)
 refine ws<|wa rfl<|wn<|WC.seq<|ws<|wm rfl<|wo (op_eqlPN Fa.PT68 rfl rfl<|wn<|WC.no rfl rfl<|WC.skip<|WQ.next<|ws<|wm rfl<|wo (op_nilCheck rfl<|wo (op_fieldAddr rfl Fa.F165_0<|wo (op_load rfl (H0.cellO (i:=0) rfl rfl) Tryz.underlying162 rfl<|wo (op_callF Fa.C96 rfl ((keys_uint32 mb _).mono (fun e w1 hq=>?_)))))))
 obtain ⟨b1,rfl,hq1⟩:=hq
 refine ⟨_,rfl,?_⟩
 have H1:=H0.splice [] [] [.blk b1 [(.map (some mb))] 162] rfl rfl hq1 (Fits.solid True.intro Fits.nil)
 refine wo (op_callF Fa.C95 rfl ((sorted_uint32 mb c b1 (List.map Pg.me ps) _ hME (by rw [List.length_map]; exact hgn) (pg32 ps) (H1.cell (i:=3) rfl rfl) (H1.mpO (i:=1) rfl)).mono (fun e w2 hq=>?_)))
 obtain ⟨v2,ks2,rfl,hk2,hq2⟩:=hq
 refine ⟨_,rfl,?_⟩
 have H2:=H1.splice [] [] [.row v2 22 1 ks2.length (List.map vU32 ks2)] rfl rfl hq2 (Fits.solid True.intro Fits.nil)
 refine wa rfl<|wn<|WC.ret<|WQ.out (.tmp rfl .nil) ?_
 obtain ⟨hk1,hk2⟩:=hk2
 exact ⟨_,_,rfl,⟨by rw [List.map_map,pg_ku] at hk1; exact hk1,hk2⟩,H2.sel [4] rfl rfl⟩
theorem cpuNew_ok (pc:UInt32) (w:World) :
  Calls Tryz.prog 176 #[(vU32 pc)] w (fun e w'=> ∃c,e=.returned (ptr c 0)∧Owl.Own [] w w' [.blk c (cpuC pc) 242]):=by
 refine enter Tryz.func176 rfl rfl ?_
 have H0:=Own.start w []
 exact ws<|wa rfl<|wn<|ws<|wm rfl<|wo (op_build (cs:=[_,_,_,_,_,_,_,_,_,_,_,_,_,_,_,_,_]) Fa.I242 Fa.PL242 rfl rfl<|wo (op_box H0 rfl rfl (fun b1 w1 H1=>(wa rfl<|wn<|WC.ret<|WQ.out (.tmp rfl .nil) (⟨_,rfl,H1.sel [0] rfl rfl⟩)))))
theorem envNew_ok (s mb c:Nat) (ps:List Pg) (n:Nat) (pc:UInt32) (w:World) (hS:cellsAt w s [(.map (some mb))]) (hM:w.heap[mb]?=some (mP .u32 (List.map Pg.me ps) c)) (hP:BsOK 211 Pg.cells Pg.b ps w) (hME:MEok (List.map Pg.me ps) c) (hlen: ∀g∈ps,g.bs.length=256) (h1:1≤n) (h8:n≤8) :
  Calls Tryz.prog 134 #[(vN n),(ptr s 0),(vU32 pc)] w (fun e w'=> ∃a,e=.returned (.tuple #[ptr a.e 0,vN 0])∧(MEok (List.map Pg.me a.ps) a.cn∧(a.ps.map Pg.bare).Perm (ps.map Pg.bare)∧a.num=n∧a.pc=pc)∧(∀b∈(evD 211).ft a,w.heap.size≤b)∧Owl.Own [] w w' [Ent.dp (evD 211) a]):=by
 refine enter Tryz.func134 rfl rfl ?_
 have H0:=((((Own.start w []).oldB hS).mpOld hM).bsOld hP)
 refine ws<|wa rfl<|wa rfl<|wn<|WC.seq<|WC.block<|ws<|wm rfl<|wo (op_eqlPN Fa.PT68 rfl rfl<|wa rfl<|wn<|WC.no rfl rfl<|ws<|wm rfl<|wo (op_lssN (b:=1) rfl rfl<|wm rfl<|WL.yes rfl rfl rfl (decide_eq_false (by omega)) rfl (op_move rfl<|WL.yes rfl rfl rfl (decide_eq_false (by omega)) rfl (op_gtrN (b:=8) rfl rfl<|wo (op_pickF rfl (decide_eq_false (by omega)) rfl<|wa rfl<|wn<|WC.no rfl (decide_eq_false (by omega))<|WC.skip<|WQ.inNormal<|WQ.next<|ws<|wm rfl<|wo (op_callF Fa.C175 rfl ((scopy_ok s mb c ps _ (H0.cellsAtO (i:=0) rfl) (H0.mpO (i:=1) rfl) (H0.bsR (i:=2) rfl) hME hlen).mono (fun e w1 hq=>?_))))))))
 obtain ⟨s1,mb1,qs1,c1,rfl,hi1,hq1⟩:=hq
 refine ⟨_,rfl,?_⟩
 have H1:=H0.splice [] [] [.blk s1 [(.map (some mb1))] 165,.obj mb1 (mP .u32 (List.map Pg.me qs1) c1),Ent.bs 211 Pg.cells Pg.b qs1] rfl rfl hq1 (Fits.solid True.intro (Fits.solid True.intro (Fits.solid True.intro Fits.nil)))
 refine wo (op_build (cs:=[_,_]) Fa.I234 Fa.PL234 rfl rfl<|wm rfl<|wo (op_callF Fa.C176 rfl ((cpuNew_ok pc _).mono (fun e w2 hq=>?_))))
 obtain ⟨c2,rfl,hq2⟩:=hq
 refine ⟨_,rfl,?_⟩
 have H2:=H1.splice [] [] [.blk c2 (cpuC pc) 242] rfl rfl hq2 (Fits.solid True.intro Fits.nil)
 refine wm rfl<|wo (op_build (cs:=[_,_,_]) Fa.I120 Fa.PL120 rfl rfl<|wo (op_build (cs:=[_,_,_,_,_,_,_,_]) Fa.I236 Fa.PL236 rfl rfl<|wo (op_box H2 rfl rfl (fun b3 w3 H3=>(wa rfl<|wa rfl<|wn<|WC.ret<|WQ.out (.tmp rfl (.tmp rfl .nil)) ?_)))))
 have h9:=evClose (a:=(Ev.mk b3 s1 mb1 c1 qs1 c2 n pc)) (t:=211) (H3.sel [7,3,4,5,6] rfl rfl)
 exact ⟨(Ev.mk b3 s1 mb1 c1 qs1 c2 n pc),rfl,⟨hi1.1,hi1.2,rfl,rfl⟩,h9.1,h9.2⟩
theorem xkern_ok (x k:Nat) (sl:List Slt) (w:World) (hX:cellsAt w x (xoC k sl))  :
  Calls Tryz.prog 58 #[(ptr x 0)] w (fun e w'=>e=.returned (ptr k 0)∧Fr [] w w'):=by
 refine enter Tryz.func58 rfl rfl ?_
 have H0:=((Own.start w []).oldB hX)
 exact ws<|wa rfl<|wn<|WC.seq<|ws<|wm rfl<|wo (op_eqlPN Fa.PT47 rfl rfl<|wn<|WC.no rfl rfl<|WC.skip<|WQ.next<|ws<|wm rfl<|wo (op_nilCheck rfl<|wo (op_fieldAddr rfl Fa.F146_0<|wo (op_load rfl (H0.cellO (i:=0) rfl rfl) Tryz.underlying111 rfl<|wa rfl<|wn<|WC.ret<|WQ.out (.tmp rfl .nil) (⟨rfl,H0.fr⟩)))))
theorem kcaps_ok (k:Nat) (pk:UInt32) (hx:Value) (c:Nat) (nv bv:Value) (w:World) (hK:cellsAt w k [(vU32 pk),hx,(ptr c 0),nv,bv,(vU32 0)]) :
  Calls Tryz.prog 59 #[(ptr k 0)] w (fun e w'=>e=.returned (ptr c 0)∧Fr [] w w'):=by
 refine enter Tryz.func59 rfl rfl ?_
 have H0:=((Own.start w []).oldB hK)
 exact ws<|wa rfl<|wn<|WC.seq<|ws<|wm rfl<|wo (op_eqlPN Fa.PT111 rfl rfl<|wn<|WC.no rfl rfl<|WC.skip<|WQ.next<|ws<|wm rfl<|wo (op_nilCheck rfl<|wo (op_fieldAddr rfl Fa.F193_1<|wo (op_load rfl (H0.cellO (i:=0) rfl rfl) Tryz.underlying110 rfl<|wa rfl<|wn<|WC.ret<|WQ.out (.tmp rfl .nil) (⟨rfl,H0.fr⟩)))))
theorem xhas_ok (x k:Nat) (sl:List Slt) (i:Nat) (w:World) (hX:cellsAt w x (xoC k sl)) (h9:sl.length=9) :
  Calls Tryz.prog 104 #[(ptr x 0),(vN i)] w (fun e w'=>e=.returned (.bool (hasS sl i))∧Fr [] w w'):=by
 refine enter Tryz.func104 rfl rfl ?_
 have H0:=((Own.start w []).oldB hX)
 refine ws<|wa rfl<|wn<|ws<|wm rfl<|wo (op_neqPN Fa.PT47 rfl rfl<|wm rfl<|wY rfl (op_move rfl<|wY rfl (op_geqN (b:=1) rfl rfl<|wo (op_pickT rfl rfl rfl<|wm rfl (wF 11 (i≥1) (fun hb1 hc1=>?_) (fun hb1 hc1=>?_))))))
 ·
  refine wY hb1 (op_move rfl<|wY hb1 (op_lssN (b:=9) rfl rfl<|wo (op_pickT rfl hb1 rfl<|wm rfl (wF 15 (i<9) (fun hb2 hc2=>?_) (fun hb2 hc2=>?_)))))
  ·
   exact wY hb2 (op_move rfl<|wY hb2 (op_move rfl<|wY hb2 (op_nilCheck rfl<|wY hb2 (op_fieldAddr rfl Fa.F146_1<|wY hb2 (op_indexAddrA Tryz.underlying143 Fa.I142 rfl rfl (by omega)<|wY hb2 (op_fieldAddr rfl Fa.F142_0<|wY hb2 (op_load rfl (H0.cellO (i:=0) rfl (xo_get h9 (dT hb2) (by decide) rfl)) Tryz.underlying4 rfl<|wo (op_pickT rfl hb2 rfl<|wa rfl<|wn<|WC.ret<|WQ.out (.tmp rfl .nil) (⟨by rw [hasS,hb1,hb2]; rfl,H0.fr⟩)))))))))
  exact wN hb2<|wN hb2<|wN hb2<|wN hb2<|wN hb2<|wN hb2<|wN hb2<|wo (op_pickF rfl hb2 rfl<|wa rfl<|wn<|WC.ret<|WQ.out (.tmp rfl .nil) (⟨by rw [hasS,hb1,hb2]; rfl,H0.fr⟩))
 exact wN hb1<|wN hb1<|wo (op_pickF rfl hb1 rfl<|wm rfl<|wN rfl<|wN rfl<|wN rfl<|wN rfl<|wN rfl<|wN rfl<|wN rfl<|wo (op_pickF rfl rfl rfl<|wa rfl<|wn<|WC.ret<|WQ.out (.tmp rfl .nil) (⟨by rw [hasS,hb1]; rfl,H0.fr⟩)))
theorem xfree_ok (x k:Nat) (pk:UInt32) (hx nv bv:Value) (c:Nat) (pg:UInt32) (hv:Value) (he:List UInt32) (mb cn:Nat) (gs:List Gr) (sl:List Slt) (l:List Gr) (w:World) (hX:cellsAt w x (xoC k sl)) (hK:cellsAt w k [(vU32 pk),hx,(ptr c 0),nv,bv,(vU32 0)]) (hC:cellsAt w c [(vU32 pg),hv,(.map (some mb))]) (hH:Arr w hv 1 he.length (List.map vU32 he)) (hM:w.heap[mb]?=some (mP .i64 (List.map Gr.me gs) cn)) (hG:BsOK 199 Gr.cells Gr.b gs w) (hS:grD.list.ok w gs) (hD:(sltD 211).list.ok w sl) (hR:CapR gs cn l) :
  Calls Tryz.prog 22 #[(ptr x 0)] w (fun e w'=>e=.returned (vU32 (freeS pg l))∧Fr [] w w'):=by
 refine enter Tryz.func22 rfl rfl ?_
 have H0:=(((((((((Own.start w []).oldB hX).oldB hK).oldB hC).oldA hH).mpOld hM).bsOld hG).dpOld hS).dpOld hD)
 exact ws<|wa rfl<|wn<|ws<|wm rfl<|wo (cq H0 Fa.C58 rfl (xkern_ok x k sl _ (H0.cellsAtO (i:=0) rfl)) fun w1 H1=>(wo (cq H1 Fa.C59 rfl (kcaps_ok k pk hx c nv bv _ (H1.cellsAtO (i:=1) rfl)) fun w2 H2=>(wo (cq H2 Fa.C60 rfl (freeL_ok c pg hv he mb cn gs l _ (H2.cellsAtO (i:=2) rfl) (H2.arrO (i:=3) rfl) (H2.mpO (i:=4) rfl) (H2.bsR (i:=5) rfl) (H2.dpO (i:=6) rfl) hR) fun w3 H3=>(wa rfl<|wn<|WC.ret<|WQ.out (.tmp rfl .nil) (⟨rfl,H3.fr⟩)))))))
theorem admit_no (x k:Nat) (pk:UInt32) (hx nv bv:Value) (c:Nat) (pg:UInt32) (hv:Value) (he:List UInt32) (mb cn:Nat) (gs:List Gr) (sl:List Slt) (l:List Gr) (mp:UInt32) (ev pv:Value) (xs:List Xt) (ps:List UInt16) (con:Bool) (n:Nat) (T:List Nat) (w:World) (H:Owl.Own T w w [.blk x (xoC k sl) 146,Ent.bo k [(vU32 pk),hx,(ptr c 0),nv,bv,(vU32 0)],.blk c [(vU32 pg),hv,(.map (some mb))] 196,Ent.ar hv 1 he.length (List.map vU32 he),.obj mb (mP .i64 (List.map Gr.me gs) cn),Ent.bs 199 Gr.cells Gr.b gs,Ent.dp grD.list gs,Ent.dp (sltD 211).list sl,Ent.ar ev 2 xs.length (List.flatMap xtc xs),Ent.ar pv 1 ps.length (List.map vU16 ps)]) (hR:CapR gs cn l) (h9:sl.length=9) (hhe:he.length<2^32) (hn:xs.length<2^40) (hm:ps.length<2^40) (hn4:n≤4096) (hff:ffS sl≠9) (hw:(grantE pg he l (((ffS sl):Nat):Int) mp xs ps (UInt32.ofNat n))≠0) :
  Calls Tryz.prog 86 #[(ptr x 0),(.agg #[(vU32 mp),ev,pv,(.bool con)]),(vN n)] w (fun e w'=> ∃cn' gs',e=.returned (.tuple #[vN 0,vN (grantE pg he l (((ffS sl):Nat):Int) mp xs ps (UInt32.ofNat n))])∧CapR gs' cn' (grantG pg he l (((ffS sl):Nat):Int) mp xs ps con (UInt32.ofNat n))∧DpTo w gs gs'∧Owl.Own T w w' [.blk x (xoC k sl) 146,Ent.bo k [(vU32 pk),hx,(ptr c 0),nv,bv,(vU32 0)],.blk c [(vU32 pg),hv,(.map (some mb))] 196,Ent.ar hv 1 he.length (List.map vU32 he),.obj mb (mP .i64 (List.map Gr.me gs') cn'),Ent.bs 199 Gr.cells Gr.b gs',Ent.dp grD.list gs',Ent.dp (sltD 211).list sl,Ent.ar ev 2 xs.length (List.flatMap xtc xs),Ent.ar pv 1 ps.length (List.map vU16 ps)]):=by
 refine enter Tryz.func86 rfl rfl<|ws<|wo (op_box H rfl rfl (fun b1 w1 H1=>(wa rfl<|wa rfl<|wn<|WC.seq<|ws<|wm rfl<|wo (op_eqlPN Fa.PT47 rfl rfl<|wn<|WC.no rfl rfl<|WC.skip<|WQ.next<|ws<|wa rfl<|wn<|WC.cut (α:=Unit) (fun _=>[(0,(ptr x 0)),(2,(vN n)),(4,(ptr b1 0)),(8,(vN (ffS sl)))]) (fun _ w'=>Owl.Own T w w' [.blk x (xoC k sl) 146,Ent.bo k [(vU32 pk),hx,(ptr c 0),nv,bv,(vU32 0)],.blk c [(vU32 pg),hv,(.map (some mb))] 196,Ent.ar hv 1 he.length (List.map vU32 he),.obj mb (mP .i64 (List.map Gr.me gs) cn),Ent.bs 199 Gr.cells Gr.b gs,Ent.dp grD.list gs,Ent.dp (sltD 211).list sl,Ent.ar ev 2 xs.length (List.flatMap xtc xs),Ent.ar pv 1 ps.length (List.map vU16 ps),.blk b1 [(vU32 mp),ev,pv,(.bool con)] 40]) ?_ ?_))))
 ·
  refine WC.block<|WC.loop (α:=Nat) (fun j=>[(0,(ptr x 0)),(2,(vN n)),(4,(ptr b1 0)),(8,(vN j))]) (fun j w'=>(1≤j∧j≤9∧∀m,1≤m→m<j→(sl.getD m Slt.zero).is=true)∧Owl.Own T w w' [.blk x (xoC k sl) 146,Ent.bo k [(vU32 pk),hx,(ptr c 0),nv,bv,(vU32 0)],.blk c [(vU32 pg),hv,(.map (some mb))] 196,Ent.ar hv 1 he.length (List.map vU32 he),.obj mb (mP .i64 (List.map Gr.me gs) cn),Ent.bs 199 Gr.cells Gr.b gs,Ent.dp grD.list gs,Ent.dp (sltD 211).list sl,Ent.ar ev 2 xs.length (List.flatMap xtc xs),Ent.ar pv 1 ps.length (List.map vU16 ps),.blk b1 [(vU32 mp),ev,pv,(.bool con)] 40]) (fun j=>9-j) 1 ⟨⟨Nat.le_refl _,by decide,fun m h1 h2=>by omega⟩,H1⟩ ⟨rfl,rfl,rfl,rfl,trivial⟩ ?_
  rintro j w2 ⟨⟨hj1,hj9,hall⟩,H2⟩
  show WC _ _ _ _ _ [(0,(ptr x 0)),(2,(vN n)),(4,(ptr b1 0)),(8,(vN j))] _
  refine WC.seq<|ws<|wm rfl<|wo (op_lssN (b:=9) rfl rfl<|wm rfl (wF 14 (j<9) (fun hb3 hc3=>?_) (fun hb3 hc3=>?_)))
  ·
   refine wY hb3 (op_move rfl<|wY hb3 (op_move rfl<|wY hb3 (op_nilCheck rfl<|wY hb3 (op_fieldAddr rfl Fa.F146_1<|wY hb3 (op_indexAddrA Tryz.underlying143 Fa.I142 rfl rfl (by omega)<|wY hb3 (op_fieldAddr rfl Fa.F142_0<|wY hb3 (op_load rfl (H2.cell (i:=0) rfl (xo_get h9 (dT hb3) (by decide) rfl)) Tryz.underlying4 rfl<|wo (op_pickT rfl hb3 rfl<|wn (wC (sl.getD j Slt.zero).is (fun hb4=>?_) (fun hb4=>?_))))))))))
   ·
    exact WC.skip<|WQ.next<|WC.block<|WC.region<|wm rfl<|wo (op_addN (b:=1) rfl rfl (by omega)<|wa rfl<|WL.nil<|WQ.inNormal<|WQ.round (j+1) ⟨⟨by omega,by omega,fun m h1 h2=>by rcases Nat.lt_or_ge m j with h3 | h3; exact hall m h1 h3; rw [show m=j by omega]; exact hb4⟩,H2⟩ ⟨rfl,rfl,rfl,rfl,trivial⟩ (by omega))
   exact WC.exit<|WQ.thenExit<|WQ.thenExit<|WQ.inHere<|WQ.here () H2 ⟨rfl,rfl,rfl,(by rw [ffS_of h9 hj1 hj9 hall (.inr hb4)]; rfl),trivial⟩
  exact wN hb3<|wN hb3<|wN hb3<|wN hb3<|wN hb3<|wN hb3<|wN hb3<|wo (op_pickF rfl hb3 rfl<|wn<|WC.no rfl rfl<|WC.exit<|WQ.thenExit<|WQ.thenExit<|WQ.inHere<|WQ.here () H2 ⟨rfl,rfl,rfl,(by rw [ffS_of h9 hj1 hj9 hall (.inl (by omega))]; rfl),trivial⟩)
 rintro ⟨⟩ w5 H5
 show WC _ _ _ _ _ [(0,(ptr x 0)),(2,(vN n)),(4,(ptr b1 0)),(8,(vN (ffS sl)))] _
 refine WC.seq<|WC.block<|ws<|wm rfl<|wo (op_eqlN (b:=9) rfl rfl<|wa rfl<|wn<|WC.no rfl (decide_eq_false hff)<|ws<|wm rfl<|wo (op_lssN (b:=0) rfl rfl<|wm rfl<|WL.yes rfl rfl rfl (decide_eq_false (by omega)) rfl (op_move rfl<|WL.yes rfl rfl rfl (decide_eq_false (by omega)) rfl (op_gtrN (b:=4096) rfl rfl<|wo (op_pickF rfl (decide_eq_false (by omega)) rfl<|wa rfl<|wn<|WC.no rfl (decide_eq_false (by omega))<|WC.skip<|WQ.inNormal<|WQ.next<|WC.seq<|WC.seq<|WC.draw 9 Fa.M H5 (mh rfl<|oh (fun w1 H1=>op_nilCheck rfl zr)<|oh (fun w1 H1=>op_fieldAddr rfl Fa.F146_0 zr)<|oh (fun w1 H1=>op_load rfl (H1.cell (i:=0) rfl rfl) Tryz.underlying111 rfl zr)<|oh (fun w1 H1=>op_callF Fa.C59 rfl ((kcaps_ok k pk hx c nv bv _ (H1.cellsAtO (i:=1) rfl)).mono (fun e w2 hq=>⟨_,hq.1,rfl,hq.2⟩)))<|mh rfl<|oh (fun w1 H1=>op_loadS (vs:=[_,_,_,_]) rfl (H1.cells (i:=10) rfl rfl) Tryz.underlying40 rfl Fa.I40 rfl zr)<|mh rfl<|oh (fun w1 H1=>op_convNU32 (hs:=Tryz.underlying3) (hd:=Tryz.underlying22) rfl zr)  HW.nil) (by kernel_rfl) ?_)))))
 intro β7 w7 H7
 refine wo (op_callF Fa.C132 rfl ((capG_ok c pg hv he mb cn gs (((ffS sl):Nat):Int) mp ev pv xs ps con (UInt32.ofNat n) l _ _ (H7.part [2,3,4,5,6,8,9] rfl rfl) hR capT7 hn hm hhe).mono (fun e w8 hq=>?_)))
 obtain ⟨cn8,gs8,rfl,hi8,hd8,hq8⟩:=hq
 refine ⟨_,rfl,?_⟩
 have H8:=H7.splice [2,3,4,5,6,8,9] [.blk c [(vU32 pg),hv,(.map (some mb))] 196,Ent.ar hv 1 he.length (List.map vU32 he),.obj mb (mP .i64 (List.map Gr.me gs8) cn8),Ent.bs 199 Gr.cells Gr.b gs8,Ent.dp grD.list gs8,Ent.ar ev 2 xs.length (List.flatMap xtc xs),Ent.ar pv 1 ps.length (List.map vU16 ps)] [] rfl rfl hq8 (Fits.solid True.intro (Fits.same (j:=1) rfl (Fits.solid True.intro (Fits.solid True.intro (Fits.dpTo 4 rfl hd8 (Fits.same (j:=5) rfl (Fits.same (j:=6) rfl Fits.nil)))))))
 have hd8:DpTo w gs gs8:=hd8.mono H7.fr.size
 exact wa rfl<|wn<|ws<|wm rfl<|wo (op_neqN (b:=0) rfl rfl<|wn<|WC.yes rfl (decide_eq_true hw)<|ws<|wm rfl<|wa rfl<|wa rfl<|wn<|WC.ret<|WQ.thenRet<|WQ.out (.tmp rfl (.tmp rfl .nil)) (⟨_,_,rfl,hi8,hd8,H8.sel [0,1,2,3,4,5,6,7,8,9] rfl rfl⟩))
theorem admit_yes (x k:Nat) (pk:UInt32) (hx nv bv:Value) (c:Nat) (pg:UInt32) (hv:Value) (he:List UInt32) (mb cn:Nat) (gs:List Gr) (sl:List Slt) (l:List Gr) (mp:UInt32) (ev pv:Value) (xs:List Xt) (ps:List UInt16) (con:Bool) (n:Nat) (T:List Nat) (w:World) (H:Owl.Own T w w [.blk x (xoC k sl) 146,Ent.bo k [(vU32 pk),hx,(ptr c 0),nv,bv,(vU32 0)],.blk c [(vU32 pg),hv,(.map (some mb))] 196,Ent.ar hv 1 he.length (List.map vU32 he),.obj mb (mP .i64 (List.map Gr.me gs) cn),Ent.bs 199 Gr.cells Gr.b gs,Ent.dp grD.list gs,Ent.dp (sltD 211).list sl,Ent.ar ev 2 xs.length (List.flatMap xtc xs),Ent.ar pv 1 ps.length (List.map vU16 ps)]) (hR:CapR gs cn l) (h9:sl.length=9) (hhe:he.length<2^32) (hn:xs.length<2^40) (hm:ps.length<2^40) (hn4:n≤4096) (hff:ffS sl≠9) (hw:(grantE pg he l (((ffS sl):Nat):Int) mp xs ps (UInt32.ofNat n))=0) :
  Calls Tryz.prog 86 #[(ptr x 0),(.agg #[(vU32 mp),ev,pv,(.bool con)]),(vN n)] w (fun e w'=> ∃cn' gs',e=.returned (.tuple #[vN (ffS sl),vN 0])∧CapR gs' cn' (grantG pg he l (((ffS sl):Nat):Int) mp xs ps con (UInt32.ofNat n))∧DpTo w gs gs'∧Owl.Own T w w' [.blk x (xoC k (sl.set (ffS sl) ⟨true,n,none⟩)) 146,Ent.bo k [(vU32 pk),hx,(ptr c 0),nv,bv,(vU32 0)],.blk c [(vU32 pg),hv,(.map (some mb))] 196,Ent.ar hv 1 he.length (List.map vU32 he),.obj mb (mP .i64 (List.map Gr.me gs') cn'),Ent.bs 199 Gr.cells Gr.b gs',Ent.dp grD.list gs',Ent.dp (sltD 211).list (sl.set (ffS sl) ⟨true,n,none⟩),Ent.ar ev 2 xs.length (List.flatMap xtc xs),Ent.ar pv 1 ps.length (List.map vU16 ps)]):=by
 refine enter Tryz.func86 rfl rfl ?_
 have hf9:ffS sl<9:=Nat.lt_of_le_of_ne (ffS_le h9) hff
 refine ws<|wo (op_box H rfl rfl (fun b1 w1 H1=>(wa rfl<|wa rfl<|wn<|WC.seq<|ws<|wm rfl<|wo (op_eqlPN Fa.PT47 rfl rfl<|wn<|WC.no rfl rfl<|WC.skip<|WQ.next<|ws<|wa rfl<|wn<|WC.cut (α:=Unit) (fun _=>[(0,(ptr x 0)),(2,(vN n)),(4,(ptr b1 0)),(8,(vN (ffS sl)))]) (fun _ w'=>Owl.Own T w w' [.blk x (xoC k sl) 146,Ent.bo k [(vU32 pk),hx,(ptr c 0),nv,bv,(vU32 0)],.blk c [(vU32 pg),hv,(.map (some mb))] 196,Ent.ar hv 1 he.length (List.map vU32 he),.obj mb (mP .i64 (List.map Gr.me gs) cn),Ent.bs 199 Gr.cells Gr.b gs,Ent.dp grD.list gs,Ent.dp (sltD 211).list sl,Ent.ar ev 2 xs.length (List.flatMap xtc xs),Ent.ar pv 1 ps.length (List.map vU16 ps),.blk b1 [(vU32 mp),ev,pv,(.bool con)] 40]) ?_ ?_))))
 ·
  refine WC.block<|WC.loop (α:=Nat) (fun j=>[(0,(ptr x 0)),(2,(vN n)),(4,(ptr b1 0)),(8,(vN j))]) (fun j w'=>(1≤j∧j≤9∧∀m,1≤m→m<j→(sl.getD m Slt.zero).is=true)∧Owl.Own T w w' [.blk x (xoC k sl) 146,Ent.bo k [(vU32 pk),hx,(ptr c 0),nv,bv,(vU32 0)],.blk c [(vU32 pg),hv,(.map (some mb))] 196,Ent.ar hv 1 he.length (List.map vU32 he),.obj mb (mP .i64 (List.map Gr.me gs) cn),Ent.bs 199 Gr.cells Gr.b gs,Ent.dp grD.list gs,Ent.dp (sltD 211).list sl,Ent.ar ev 2 xs.length (List.flatMap xtc xs),Ent.ar pv 1 ps.length (List.map vU16 ps),.blk b1 [(vU32 mp),ev,pv,(.bool con)] 40]) (fun j=>9-j) 1 ⟨⟨Nat.le_refl _,by decide,fun m h1 h2=>by omega⟩,H1⟩ ⟨rfl,rfl,rfl,rfl,trivial⟩ ?_
  rintro j w2 ⟨⟨hj1,hj9,hall⟩,H2⟩
  show WC _ _ _ _ _ [(0,(ptr x 0)),(2,(vN n)),(4,(ptr b1 0)),(8,(vN j))] _
  refine WC.seq<|ws<|wm rfl<|wo (op_lssN (b:=9) rfl rfl<|wm rfl (wF 14 (j<9) (fun hb3 hc3=>?_) (fun hb3 hc3=>?_)))
  ·
   refine wY hb3 (op_move rfl<|wY hb3 (op_move rfl<|wY hb3 (op_nilCheck rfl<|wY hb3 (op_fieldAddr rfl Fa.F146_1<|wY hb3 (op_indexAddrA Tryz.underlying143 Fa.I142 rfl rfl (by omega)<|wY hb3 (op_fieldAddr rfl Fa.F142_0<|wY hb3 (op_load rfl (H2.cell (i:=0) rfl (xo_get h9 (dT hb3) (by decide) rfl)) Tryz.underlying4 rfl<|wo (op_pickT rfl hb3 rfl<|wn (wC (sl.getD j Slt.zero).is (fun hb4=>?_) (fun hb4=>?_))))))))))
   ·
    exact WC.skip<|WQ.next<|WC.block<|WC.region<|wm rfl<|wo (op_addN (b:=1) rfl rfl (by omega)<|wa rfl<|WL.nil<|WQ.inNormal<|WQ.round (j+1) ⟨⟨by omega,by omega,fun m h1 h2=>by rcases Nat.lt_or_ge m j with h3 | h3; exact hall m h1 h3; rw [show m=j by omega]; exact hb4⟩,H2⟩ ⟨rfl,rfl,rfl,rfl,trivial⟩ (by omega))
   exact WC.exit<|WQ.thenExit<|WQ.thenExit<|WQ.inHere<|WQ.here () H2 ⟨rfl,rfl,rfl,(by rw [ffS_of h9 hj1 hj9 hall (.inr hb4)]; rfl),trivial⟩
  exact wN hb3<|wN hb3<|wN hb3<|wN hb3<|wN hb3<|wN hb3<|wN hb3<|wo (op_pickF rfl hb3 rfl<|wn<|WC.no rfl rfl<|WC.exit<|WQ.thenExit<|WQ.thenExit<|WQ.inHere<|WQ.here () H2 ⟨rfl,rfl,rfl,(by rw [ffS_of h9 hj1 hj9 hall (.inl (by omega))]; rfl),trivial⟩)
 rintro ⟨⟩ w5 H5
 show WC _ _ _ _ _ [(0,(ptr x 0)),(2,(vN n)),(4,(ptr b1 0)),(8,(vN (ffS sl)))] _
 refine WC.seq<|WC.block<|ws<|wm rfl<|wo (op_eqlN (b:=9) rfl rfl<|wa rfl<|wn<|WC.no rfl (decide_eq_false hff)<|ws<|wm rfl<|wo (op_lssN (b:=0) rfl rfl<|wm rfl<|WL.yes rfl rfl rfl (decide_eq_false (by omega)) rfl (op_move rfl<|WL.yes rfl rfl rfl (decide_eq_false (by omega)) rfl (op_gtrN (b:=4096) rfl rfl<|wo (op_pickF rfl (decide_eq_false (by omega)) rfl<|wa rfl<|wn<|WC.no rfl (decide_eq_false (by omega))<|WC.skip<|WQ.inNormal<|WQ.next<|WC.seq<|WC.seq<|WC.draw 9 Fa.M H5 (mh rfl<|oh (fun w1 H1=>op_nilCheck rfl zr)<|oh (fun w1 H1=>op_fieldAddr rfl Fa.F146_0 zr)<|oh (fun w1 H1=>op_load rfl (H1.cell (i:=0) rfl rfl) Tryz.underlying111 rfl zr)<|oh (fun w1 H1=>op_callF Fa.C59 rfl ((kcaps_ok k pk hx c nv bv _ (H1.cellsAtO (i:=1) rfl)).mono (fun e w2 hq=>⟨_,hq.1,rfl,hq.2⟩)))<|mh rfl<|oh (fun w1 H1=>op_loadS (vs:=[_,_,_,_]) rfl (H1.cells (i:=10) rfl rfl) Tryz.underlying40 rfl Fa.I40 rfl zr)<|mh rfl<|oh (fun w1 H1=>op_convNU32 (hs:=Tryz.underlying3) (hd:=Tryz.underlying22) rfl zr)  HW.nil) (by kernel_rfl) ?_)))))
 intro β7 w7 H7
 refine wo (op_callF Fa.C132 rfl ((capG_ok c pg hv he mb cn gs (((ffS sl):Nat):Int) mp ev pv xs ps con (UInt32.ofNat n) l _ _ (H7.part [2,3,4,5,6,8,9] rfl rfl) hR capT7 hn hm hhe).mono (fun e w8 hq=>?_)))
 obtain ⟨cn8,gs8,rfl,hi8,hd8,hq8⟩:=hq
 refine ⟨_,rfl,?_⟩
 have H8:=H7.splice [2,3,4,5,6,8,9] [.blk c [(vU32 pg),hv,(.map (some mb))] 196,Ent.ar hv 1 he.length (List.map vU32 he),.obj mb (mP .i64 (List.map Gr.me gs8) cn8),Ent.bs 199 Gr.cells Gr.b gs8,Ent.dp grD.list gs8,Ent.ar ev 2 xs.length (List.flatMap xtc xs),Ent.ar pv 1 ps.length (List.map vU16 ps)] [] rfl rfl hq8 (Fits.solid True.intro (Fits.same (j:=1) rfl (Fits.solid True.intro (Fits.solid True.intro (Fits.dpTo 4 rfl hd8 (Fits.same (j:=5) rfl (Fits.same (j:=6) rfl Fits.nil)))))))
 have hd8:DpTo w gs gs8:=hd8.mono H7.fr.size
 refine wa rfl<|wn<|ws<|wm rfl<|wo (op_neqN (b:=0) rfl rfl<|wn<|WC.no rfl (decide_eq_false (fun h=>h hw))<|WC.skip<|WQ.next<|ws<|wm rfl<|wm rfl<|wm rfl<|wo (op_build (cs:=[_,_,_]) Fa.I142 Fa.PL142 rfl rfl<|wo (op_nilCheck rfl<|wo (op_fieldAddr rfl Fa.F146_1<|wo (op_indexAddrA Tryz.underlying143 Fa.I142 rfl rfl hf9<|wo (op_storeXo (j:=0) (s:=(Slt.mk true n none)) H8 h9 hf9 rfl rfl rfl Fa.I142 (fun w9 H9=>(wn<|ws<|wm rfl<|wa rfl<|wa rfl<|wn<|WC.ret<|WQ.out (.tmp rfl (.tmp rfl .nil)) ?_))))))))
 have h3:=Owl.Own.dpOf (D:=sltD 211) (l:=sl) (l':=sl.set (ffS sl) ⟨true,n,none⟩) (i:=7) H9 rfl (fun w h=>slt_set_ok h True.intro) slt_set_ft
 exact ⟨_,_,rfl,hi8,hd8,h3.sel [0,1,2,3,4,5,6,11,8,9] rfl rfl⟩
theorem spagesN_ok (s mb c:Nat) (ps:List Pg) (w:World) (hS:cellsAt w s [(.map (some mb))]) (hM:w.heap[mb]?=some (mP .u32 (List.map Pg.me ps) c)) (hP:BsOK 211 Pg.cells Pg.b ps w) (hME:MEok (List.map Pg.me ps) c) (hgn:ps.length<2^40) :
  Calls Tryz.prog 44 #[(ptr s 0)] w (fun e w'=> ∃v ks,e=.returned v∧((ps.map Pg.a).Perm ks∧ks.Pairwise (fun x y=>ltU32 y x=false))∧Owl.Own [] w w' [.row v 22 1 ps.length (List.map vU32 ks)]) :=
 (spages_ok s mb c ps w hS hM hP hME hgn).mono (fun e w' ⟨v,ks,he,hk,hO⟩=>⟨v,ks,he,hk,by
  have h8:ks.length=ps.length:=by rw [←hk.1.length_eq,List.length_map]
  rw [h8] at hO; exact hO⟩)
theorem xmany_ok (x k:Nat) (sl:List Slt) (s mb c:Nat) (ps:List Pg) (i:Nat) (w:World) (hX:cellsAt w x (xoC k sl)) (hS:cellsAt w s [(.map (some mb))]) (hM:w.heap[mb]?=some (mP .u32 (List.map Pg.me ps) c)) (hP:BsOK 211 Pg.cells Pg.b ps w) (hME:MEok (List.map Pg.me ps) c) (hgn:ps.length<2^40) (h9:sl.length=9) (hi9:i<9) (hle:ps.length≤(sl.getD i Slt.zero).pg) :
  Calls Tryz.prog 133 #[(ptr x 0),(vN i),(ptr s 0)] w (fun e w'=>e=.returned (.bool false)∧Fr [] w w'):=by
 refine enter Tryz.func133 rfl rfl ?_
 have H0:=(((((Own.start w []).oldB hX).oldB hS).mpOld hM).bsOld hP)
 refine ws<|wa rfl<|wn<|WC.seq<|WC.seq<|WC.held 11 rfl Fa.M H0 (fun w'=> ∃L',Owl.Own [] w w' ([Ent.bo x (xoC k sl),Ent.bo s [(.map (some mb))],Ent.mo .u32 mb (List.map Pg.me ps) c,Ent.bsO 211 Pg.cells Pg.b ps]++L')) ?_
 intro w1 H1
 refine xt 0 rfl (ptr s 0) H1 (fun _ _ HX=>op_move rfl ⟨rfl,rfl⟩)<|xt 3 rfl (ptr x 0) H1 (fun _ _ HX=>op_move rfl ⟨rfl,rfl⟩)<|xt 4 rfl (vN i) H1 (fun _ _ HX=>op_move rfl ⟨rfl,rfl⟩)<|WH.named (fun W hW=>?_)
 let e1:List (Nat × Value)→List (Nat × Value):=fun r=>(0,(ptr x 0))::(1,(vN i))::(2,(ptr s 0))::(6,(.bool false))::r
 let a1_0:Ent:=Ent.bo x (xoC k sl)
 let a1_1:Ent:=Ent.bo s [(.map (some mb))]
 let a1_2:Ent:=Ent.mo .u32 mb (List.map Pg.me ps) c
 let a1_3:Ent:=Ent.bsO 211 Pg.cells Pg.b ps
 have st1_5: ∀(v12021:Value) (ks12021:List UInt32) (wS:World),Owl.Own [] w wS [a1_0,a1_1,a1_2,a1_3,.row v12021 22 1 ps.length (List.map vU32 ks12021)]→W 0 (bz 11 2047) (e1 [(17,(.bool (decide (ps.length>(sl.getD i Slt.zero).pg))))]) wS:=by
  intro v12021 ks12021 wS HS
  rw [hW]
  exact WH.done (by kernel_rfl)<|WQ.next<|WC.no rfl (decide_eq_false (by omega))<|WC.skip<|WQ.next<|ws<|wa rfl<|wn<|WC.ret<|WQ.out (.tmp rfl .nil) (⟨rfl,HS.fr⟩)
 have st1_4: ∀(v12021:Value) (ks12021:List UInt32) (wS:World),Owl.Own [] w wS [a1_0,a1_1,a1_2,a1_3,.row v12021 22 1 ps.length (List.map vU32 ks12021)]→W 2 (bz 11 1019) (e1 [(8,v12021),(16,(vN (sl.getD i Slt.zero).pg))]) wS:=by
  intro v12021 ks12021 wS HS
  rw [hW]
  refine wh1 2<|kH 2 rfl (op_lenA Tryz.underlying73 rfl (HS.arrR (i:=4) rfl) (⟨⟨_,HS⟩,?_⟩))
  exact xt 10 rfl (.bool (decide (ps.length>(sl.getD i Slt.zero).pg))) HS (fun _ _ HX=>op_gtrN rfl rfl ⟨rfl,rfl⟩)<|WH.cw hW (st1_5 v12021 ks12021 wS HS)
 have st1_2: ∀wS,Owl.Own [] w wS [a1_0,a1_1,a1_2,a1_3]→W 3 (bz 11 1017) (e1 [(7,(ptr s 0)),(16,(vN (sl.getD i Slt.zero).pg))]) wS:=fun wS HS=>by
  rw [hW]
  refine wh1 1<|kH 1 rfl (op_callF Fa.C44 rfl ((spagesN_ok s mb c ps _ (HS.cellsAtO (i:=1) rfl) (HS.mpO (i:=2) rfl) (HS.bsR (i:=3) rfl) hME hgn).mono (fun e w12021 hq=>?_)))
  obtain ⟨v12021,ks12021,rfl,hk12021,hq12021⟩:=hq
  refine ⟨_,rfl,?_⟩
  have H12021:=HS.splice [] [] [.row v12021 22 1 ps.length (List.map vU32 ks12021)] rfl rfl hq12021 (Fits.solid True.intro Fits.nil)
  refine ⟨⟨_,H12021⟩,?_⟩
  exact WH.cw hW (st1_4 v12021 ks12021 w12021 H12021)
 have st1_3: ∀(v12021:Value) (ks12021:List UInt32) (wS:World),Owl.Own [] w wS [a1_0,a1_1,a1_2,a1_3,.row v12021 22 1 ps.length (List.map vU32 ks12021)]→W 6 (bz 11 31) (e1 [(9,(vN ps.length)),(10,(ptr x 0)),(11,(vN i))]) wS:=by
  intro v12021 ks12021 wS HS
  rw [hW]
  refine wh1 5<|kH 5 rfl (op_nilCheck rfl (⟨⟨_,HS⟩,?_⟩))
  exact xt 6 rfl (ptr x 1) HS (fun _ _ HX=>op_fieldAddr rfl Fa.F146_1 ⟨rfl,rfl⟩)<|xt 7 rfl (ptr x (1+i * 3)) HS (fun _ _ HX=>op_indexAddrA Tryz.underlying143 Fa.I142 rfl rfl hi9 ⟨rfl,rfl⟩)<|xt 8 rfl (ptr x ((1+i * 3)+1)) HS (fun _ _ HX=>op_fieldAddr rfl Fa.F142_1 ⟨rfl,rfl⟩)<|xt 9 rfl (vN (sl.getD i Slt.zero).pg) HS (fun _ _ HX=>op_load rfl (HX.cellO (i:=0) rfl (xo_get (j:=1) h9 hi9 (by decide) rfl)) Tryz.underlying3 rfl ⟨rfl,rfl⟩)<|xt 10 rfl (.bool (decide (ps.length>(sl.getD i Slt.zero).pg))) HS (fun _ _ HX=>op_gtrN rfl rfl ⟨rfl,rfl⟩)<|WH.cw hW (st1_5 v12021 ks12021 wS HS)
 have st1_1: ∀(v12021:Value) (ks12021:List UInt32) (wS:World),Owl.Own [] w wS [a1_0,a1_1,a1_2,a1_3,.row v12021 22 1 ps.length (List.map vU32 ks12021)]→W 7 (bz 11 27) (e1 [(8,v12021),(10,(ptr x 0)),(11,(vN i))]) wS:=by
  intro v12021 ks12021 wS HS
  rw [hW]
  refine wh2 2 5 ?_ ?_
  ·
   refine kH 2 rfl (op_lenA Tryz.underlying73 rfl (HS.arrR (i:=4) rfl) (⟨⟨_,HS⟩,?_⟩))
   exact WH.cw hW (st1_3 v12021 ks12021 wS HS)
  refine kH 5 rfl (op_nilCheck rfl (⟨⟨_,HS⟩,?_⟩))
  exact xt 6 rfl (ptr x 1) HS (fun _ _ HX=>op_fieldAddr rfl Fa.F146_1 ⟨rfl,rfl⟩)<|xt 7 rfl (ptr x (1+i * 3)) HS (fun _ _ HX=>op_indexAddrA Tryz.underlying143 Fa.I142 rfl rfl hi9 ⟨rfl,rfl⟩)<|xt 8 rfl (ptr x ((1+i * 3)+1)) HS (fun _ _ HX=>op_fieldAddr rfl Fa.F142_1 ⟨rfl,rfl⟩)<|xt 9 rfl (vN (sl.getD i Slt.zero).pg) HS (fun _ _ HX=>op_load rfl (HX.cellO (i:=0) rfl (xo_get (j:=1) h9 hi9 (by decide) rfl)) Tryz.underlying3 rfl ⟨rfl,rfl⟩)<|WH.cw hW (st1_4 v12021 ks12021 wS HS)
 have st1_0: ∀wS,Owl.Own [] w wS [a1_0,a1_1,a1_2,a1_3]→W 8 (bz 11 25) (e1 [(7,(ptr s 0)),(10,(ptr x 0)),(11,(vN i))]) wS:=fun wS HS=>by
  rw [hW]
  refine wh2 1 5 ?_ ?_
  ·
   refine kH 1 rfl (op_callF Fa.C44 rfl ((spagesN_ok s mb c ps _ (HS.cellsAtO (i:=1) rfl) (HS.mpO (i:=2) rfl) (HS.bsR (i:=3) rfl) hME hgn).mono (fun e w12021 hq=>?_)))
   obtain ⟨v12021,ks12021,rfl,hk12021,hq12021⟩:=hq
   refine ⟨_,rfl,?_⟩
   have H12021:=HS.splice [] [] [.row v12021 22 1 ps.length (List.map vU32 ks12021)] rfl rfl hq12021 (Fits.solid True.intro Fits.nil)
   refine ⟨⟨_,H12021⟩,?_⟩
   exact WH.cw hW (st1_1 v12021 ks12021 w12021 H12021)
  refine kH 5 rfl (op_nilCheck rfl (⟨⟨_,HS⟩,?_⟩))
  exact xt 6 rfl (ptr x 1) HS (fun _ _ HX=>op_fieldAddr rfl Fa.F146_1 ⟨rfl,rfl⟩)<|xt 7 rfl (ptr x (1+i * 3)) HS (fun _ _ HX=>op_indexAddrA Tryz.underlying143 Fa.I142 rfl rfl hi9 ⟨rfl,rfl⟩)<|xt 8 rfl (ptr x ((1+i * 3)+1)) HS (fun _ _ HX=>op_fieldAddr rfl Fa.F142_1 ⟨rfl,rfl⟩)<|xt 9 rfl (vN (sl.getD i Slt.zero).pg) HS (fun _ _ HX=>op_load rfl (HX.cellO (i:=0) rfl (xo_get (j:=1) h9 hi9 (by decide) rfl)) Tryz.underlying3 rfl ⟨rfl,rfl⟩)<|WH.cw hW (st1_2 wS HS)
 have hq:=st1_0 w1 H1
 rw [hW] at hq ⊢
 exact WH.cv hq
theorem start_ok (x k:Nat) (pk:UInt32) (hx nv bv:Value) (c:Nat) (pg:UInt32) (hv:Value) (he:List UInt32) (mb cn:Nat) (gs:List Gr) (sl:List Slt) (s mb8 c8:Nat) (ps8:List Pg) (i:Nat) (pc:UInt32) (T:List Nat) (w:World) (H:Owl.Own T w w [.blk x (xoC k sl) 146,Ent.bo k [(vU32 pk),hx,(ptr c 0),nv,bv,(vU32 0)],.blk c [(vU32 pg),hv,(.map (some mb))] 196,Ent.ar hv 1 he.length (List.map vU32 he),.obj mb (mP .i64 (List.map Gr.me gs) cn),Ent.bs 199 Gr.cells Gr.b gs,Ent.dp grD.list gs,Ent.dp (sltD 211).list sl,Ent.bo s [(.map (some mb8))],Ent.mo .u32 mb8 (List.map Pg.me ps8) c8,Ent.bsO 211 Pg.cells Pg.b ps8]) (hME8:MEok (List.map Pg.me ps8) c8) (hlen8: ∀g∈ps8,g.bs.length=256) (hgn8:ps8.length<2^40) (h9:sl.length=9) (hs:hasS sl i=true) (hev:(sl.getD i Slt.zero).ev=none) (hle:ps8.length≤(sl.getD i Slt.zero).pg) :
  Calls Tryz.prog 89 #[(ptr x 0),(vN i),(ptr s 0),(vU32 pc)] w (fun e w'=> ∃a,e=.returned (vN 0)∧(MEok (List.map Pg.me a.ps) a.cn∧(a.ps.map Pg.bare).Perm (ps8.map Pg.bare)∧a.num=i∧a.pc=pc)∧SltTo 211 w sl (sl.set i { sl.getD i Slt.zero with ev:=some a })∧Owl.Own T w w' [.blk x (xoC k (sl.set i { sl.getD i Slt.zero with ev:=some a })) 146,Ent.bo k [(vU32 pk),hx,(ptr c 0),nv,bv,(vU32 0)],.blk c [(vU32 pg),hv,(.map (some mb))] 196,Ent.ar hv 1 he.length (List.map vU32 he),.obj mb (mP .i64 (List.map Gr.me gs) cn),Ent.bs 199 Gr.cells Gr.b gs,Ent.dp grD.list gs,Ent.dp (sltD 211).list (sl.set i { sl.getD i Slt.zero with ev:=some a }),Ent.bo s [(.map (some mb8))],Ent.mo .u32 mb8 (List.map Pg.me ps8) c8,Ent.bsO 211 Pg.cells Pg.b ps8]):=by
 refine enter Tryz.func89 rfl rfl ?_
 have hs9:=hasS_lt hs
 refine ws<|wa rfl<|wn<|WC.seq<|WC.block<|ws<|wm rfl<|wo (op_eqlPN Fa.PT47 rfl rfl<|wm rfl<|wY rfl (op_move rfl<|wY rfl (op_eqlPN Fa.PT68 rfl rfl<|wo (op_pickF rfl rfl rfl<|wa rfl<|wn<|WC.no rfl rfl<|ws<|wm rfl<|wm rfl<|wo (op_callF Fa.C104 rfl ((xhas_ok x k sl i _ (H.cellsAt (i:=0) rfl) h9).mono (fun e w1 hq=>?_)))))))
 obtain ⟨rfl,hf1⟩:=hq
 refine ⟨_,rfl,?_⟩
 have H1:=H.fr' hf1
 refine wo (op_not rfl<|wa rfl<|wn<|WC.no rfl (by rw [hs]; rfl)<|ws<|wm rfl<|wm rfl<|wo (op_nilCheck rfl<|wo (op_fieldAddr rfl Fa.F146_1<|wo (op_indexAddrA Tryz.underlying143 Fa.I142 rfl rfl hs9.2.1<|wo (op_fieldAddr rfl Fa.F142_2<|wo (op_load rfl (H1.cell (i:=0) rfl (xo_get (j:=2) h9 hs9.2.1 (by decide) (by rw [sltc,hev]; rfl))) Tryz.underlying140 rfl<|wo (op_neqPN Fa.PT140 rfl rfl<|wa rfl<|wn<|WC.no rfl rfl<|WC.skip<|WQ.inNormal<|WQ.next<|WC.seq<|ws<|wm rfl<|wm rfl<|wm rfl<|wo (cq H1 Fa.C133 rfl (xmany_ok x k sl s mb8 c8 ps8 i _ (H1.cellsAt (i:=0) rfl) (H1.cellsAtO (i:=8) rfl) (H1.mpO (i:=9) rfl) (H1.bsR (i:=10) rfl) hME8 hgn8 h9 hs9.2.1 hle) fun w2 H2=>(wn<|WC.no rfl rfl<|WC.skip<|WQ.next<|ws<|wm rfl<|wm rfl<|wm rfl ?_)))))))))
 have hsz:w.heap.size≤w2.heap.size:=H2.fr.size
 refine wo (op_callF Fa.C134 rfl ((envNew_ok s mb8 c8 ps8 i pc _ (H2.cellsAtO (i:=8) rfl) (H2.mpO (i:=9) rfl) (H2.bsR (i:=10) rfl) hME8 hlen8 hs9.1 (by omega)).mono (fun e w3 hq=>?_)))
 obtain ⟨a3,rfl,hi3,hf3,hq3⟩:=hq
 refine ⟨_,rfl,?_⟩
 have H3:=H2.splice [] [] [Ent.dp (evD 211) a3] rfl rfl hq3 (Fits.fresh hf3 Fits.nil)
 refine wm rfl<|we rfl rfl<|we rfl rfl<|wa rfl<|wa rfl<|wn<|WC.seq<|ws<|wm rfl<|wo (op_eqlN (b:=0) rfl rfl<|wn<|WC.yes rfl (by decide)<|WC.region<|wm rfl<|wm rfl<|wm rfl<|wo (op_nilCheck rfl<|wo (op_fieldAddr rfl Fa.F146_1<|wo (op_indexAddrA Tryz.underlying143 Fa.I142 rfl rfl hs9.2.1<|wo (op_fieldAddr rfl Fa.F142_2<|wo (op_storeXe (j:=0) (a:=a3) H3 h9 hs9.2.1 rfl rfl rfl Fa.I140 (fun w4 H4=>(wn<|ws<|wm rfl<|wa rfl<|wn<|WC.ret<|WQ.out (.tmp rfl .nil) ?_))))))))
 have h3:=Owl.Own.dpWith (D:=sltD 211) (l:=sl) (l':=sl.set i { sl.getD i Slt.zero with ev:=some a3 }) (a:={ sl.getD i Slt.zero with ev:=some a3 }) (i:=7) (j:=11) H4 rfl rfl (fun w h h2=>slt_set_ok h h2) slt_set_ft2
 exact ⟨a3,rfl,hi3,SltTo.set (fun b hb=>Nat.le_trans hsz (hf3 b hb)),h3.sel [0,1,2,3,4,5,6,12,8,9,10] rfl rfl⟩
theorem callsNew3_ok (pg:UInt32) (lv:Value) (a b:UInt32) (w:World) (hA:Arr w lv 1 2 (List.map vU32 [a,b])) (hok0:hardE pg [a,b]=0) :
  Calls Tryz.prog 83 #[(.agg #[(vU32 pg),lv])] w (fun e w'=> ∃k hx nv bv c hv mb e0 e1,e=.returned (.tuple #[ptr k 0,vN 0])∧w.heap.size≤k∧(∀b'∈footA hv (List.map vU32 [a,b]),w.heap.size≤b')∧(∀b'∈footA bv [e0,e1],w.heap.size≤b')∧Owl.Own [] w w' [Ent.bo k [(vU32 pg),hx,(ptr c 0),nv,bv,(vU32 0)],.blk c [(vU32 pg),hv,(.map (some mb))] 196,Ent.ar hv 1 [a,b].length (List.map vU32 [a,b]),.obj mb (mP .i64 (List.map Gr.me []) 0),Ent.bs 199 Gr.cells Gr.b [],Ent.dp grD.list [],Ent.ar bv 1 2 [e0,e1],.row e1 9 1 b.toNat (List.map str (List.replicate b.toNat (List.replicate 64 0)))]):=by
 refine enter Tryz.func83 rfl rfl ?_
 have H0:=Own.start w []
 refine ws<|wo (op_box H0 rfl rfl (fun b1 w1 H1=>(wa rfl<|wa rfl<|wn<|ws<|wo (op_loadS (vs:=[_,_]) rfl (H1.cells (i:=0) rfl rfl) Tryz.underlying75 rfl Fa.I75 rfl<|wo (op_callF Fa.C126 rfl ((capsNew2_ok pg _ ([a,b]) _ (H1.arr hA) (by show 2<_; decide) hok0).mono (fun e w2 hq=>?_)))))))
 obtain ⟨c2,v2,mb2,rfl,hv2,hq2⟩:=hq
 refine ⟨_,rfl,?_⟩
 have H2:=H1.splice [] [] [.blk c2 [(vU32 pg),v2,(.map (some mb2))] 196,Ent.ar v2 1 ([a,b]).length (List.map vU32 ([a,b])),.obj mb2 (mP .i64 (List.map Gr.me []) 0),Ent.bs 199 Gr.cells Gr.b [],Ent.dp grD.list []] rfl rfl hq2 (Fits.solid True.intro (Fits.fresh hv2 (Fits.solid True.intro (Fits.solid True.intro (Fits.fresh (fun b hb=>by cases hb) Fits.nil)))))
 refine wm rfl<|we rfl rfl<|we rfl rfl<|wa rfl<|wa rfl<|wn<|WC.seq<|ws<|wm rfl<|wo (op_neqN (b:=0) rfl rfl<|wn<|WC.no rfl (by decide)<|WC.skip<|WQ.next<|ws<|wo (op_fieldAddr rfl Fa.F75_1<|wo (op_load rfl (H2.cell (i:=0) rfl rfl) Tryz.underlying73 rfl<|wo (op_callF Fa.C127 rfl ((clone32_ok _ ([a,b]) _ (H2.arr hA) (by show 2<_; decide)).mono (fun e w3 hq=>?_))))))
 obtain ⟨v3,rfl,hq3⟩:=hq
 refine ⟨_,rfl,?_⟩
 have H3:=H2.splice [] [] [.row v3 22 1 ([a,b]).length (List.map vU32 [a,b])] rfl rfl hq3 (Fits.solid True.intro Fits.nil)
 refine wo (op_fieldAddr rfl Fa.F75_1<|wo (op_storeB (i:=0) H3 rfl rfl rfl rfl (Arr.one (H3.arrR (i:=6) rfl)) Fa.I73 (fun w4 H4=>(wn<|WC.seq<|WC.held 6 rfl Fa.M H4 (fun w'=> ∃L',Owl.Own [] w w' ([.blk b1 [(vU32 pg),v3] 75,.blk c2 [(vU32 pg),v2,(.map (some mb2))] 196,Ent.ar v2 1 ([a,b]).length (List.map vU32 ([a,b])),.obj mb2 (mP .i64 (List.map Gr.me []) 0),Ent.bs 199 Gr.cells Gr.b [],Ent.dp grD.list [],.row v3 22 1 ([a,b]).length (List.map vU32 [a,b])]++L')) ?_))))
 intro w5 H5
 refine xt 0 rfl (.agg #[(vU32 pg),v3]) H5 (fun _ _ HX=>op_loadS (vs:=[_,_]) rfl (HX.cells (i:=0) rfl rfl) Tryz.underlying75 rfl Fa.I75 rfl ⟨rfl,rfl⟩)<|xt 1 rfl (ptr c2 0) H5 (fun _ _ HX=>op_move rfl ⟨rfl,rfl⟩)<|WH.named (fun W hW=>?_)
 let e5:List (Nat × Value)→List (Nat × Value):=fun r=>(0,(.agg #[(vU32 pg),lv]))::(1,(ptr b1 0))::(2,(.pointer none))::(3,(vN 0))::(4,(ptr c2 0))::(5,(vN 0))::(9,(.tuple #[(ptr c2 0),(vN 0)]))::(10,(.agg #[(vU32 pg),lv]))::(11,(.tuple #[(ptr c2 0),(vN 0)]))::(12,(ptr c2 0))::(13,(vN 0))::(14,(vN 0))::(15,(.bool (decide (0≠0))))::(17,(ptr b1 1))::(18,lv)::(19,v3)::(20,(ptr b1 1))::r
 let a5_0:Ent:=.blk b1 [(vU32 pg),v3] 75
 let a5_1:Ent:=.blk c2 [(vU32 pg),v2,(.map (some mb2))] 196
 let a5_2:Ent:=Ent.ar v2 1 ([a,b]).length (List.map vU32 ([a,b]))
 let a5_3:Ent:=.obj mb2 (mP .i64 (List.map Gr.me []) 0)
 let a5_4:Ent:=Ent.bs 199 Gr.cells Gr.b []
 let a5_5:Ent:=.row v3 22 1 ([a,b]).length (List.map vU32 [a,b])
 have st5_2: ∀(b16081:Nat) (q16041:Nat) (mb16041:Nat) (wS:World),Owl.Own [] w wS [a5_0,a5_1,a5_2,a5_3,a5_4,Ent.dp grD.list [],a5_5,.blk q16041 [(.map (some mb16041)),(.slice none 0 0),(vN 0)] 264,.obj mb16041 (mP .u16 [] 0),.blk b16081 [(vU32 pg),v3,(ptr c2 0),(ptr q16041 0),(.slice none 0 0),(vU32 0)] 193]→W 0 (bz 6 63) (e5 [(6,(ptr b16081 0))]) wS:=by
  intro b16081 q16041 mb16041 wS HS
  rw [hW]
  refine WH.done (by kernel_rfl)<|WQ.next<|WC.seq<|ws<|wo (op_fieldAddr rfl Fa.F75_1<|wo (op_load rfl (HS.cell (i:=0) rfl rfl) Tryz.underlying73 rfl<|wo (op_lenA Tryz.underlying73 rfl (HS.arrR (i:=6) rfl)<|wm rfl<|wn<|WC.block<|WC.unroll 2<|ws<|wo (op_lssN rfl rfl<|wn<|WC.seq<|WC.yes rfl rfl<|WC.skip<|WQ.next<|WC.seq<|WC.block<|ws<|wo (op_indexAddr1 Tryz.underlying73 Fa.I22 rfl (HS.arrR (i:=6) rfl) rfl (by simp)<|wo (op_load rfl ((HS.arrR (i:=6) rfl).at rfl) Tryz.underlying22 rfl<|wa rfl<|wn<|WC.held 16 rfl Fa.M HS (fun w'=> ∃L',Owl.Own [] w w' ([.blk b1 [(vU32 pg),v3] 75,.blk c2 [(vU32 pg),v2,(.map (some mb2))] 196,Ent.ar v2 1 ([a,b]).length (List.map vU32 ([a,b])),.obj mb2 (mP .i64 (List.map Gr.me []) 0),Ent.bs 199 Gr.cells Gr.b [],Ent.dp grD.list [],.row v3 22 1 ([a,b]).length (List.map vU32 [a,b]),.blk q16041 [(.map (some mb16041)),(.slice none 0 0),(vN 0)] 264,.obj mb16041 (mP .u16 [] 0)]++L')) ?_))))))
  intro w7 H7
  refine xt 0 rfl (ptr b16081 0) H7 (fun _ _ HX=>op_move rfl ⟨rfl,rfl⟩)<|xt 1 rfl (ptr b16081 0) H7 (fun _ _ HX=>op_move rfl ⟨rfl,rfl⟩)<|xt 8 rfl (vU32 a) H7 (fun _ _ HX=>op_move rfl ⟨rfl,rfl⟩)<|xt 9 rfl (vN a.toNat) H7 (fun _ _ HX=>op_convU32N (hs:=Tryz.underlying22) (hd:=Tryz.underlying3) rfl ⟨rfl,rfl⟩)<|WH.named (fun W hW=>?_)
  let e9:List (Nat × Value)→List (Nat × Value):=fun r=>(0,(.agg #[(vU32 pg),lv]))::(1,(ptr b1 0))::(2,(.pointer none))::(3,(vN 0))::(4,(ptr c2 0))::(5,(vN 0))::(6,(ptr b16081 0))::(8,(vU32 a))::(9,(.tuple #[(ptr c2 0),(vN 0)]))::(10,(.agg #[(vU32 pg),lv]))::(11,(.tuple #[(ptr c2 0),(vN 0)]))::(12,(ptr c2 0))::(13,(vN 0))::(14,(vN 0))::(15,(.bool (decide (0≠0))))::(17,(ptr b1 1))::(18,lv)::(19,v3)::(20,(ptr b1 1))::(26,(ptr b1 1))::(27,v3)::(28,(vN ([a,b]).length))::(29,(vN 0))::(30,(.bool (decide (0<([a,b]).length))))::(31,(.pointer (some (sp v3 0))))::(32,(vU32 a))::r
  let a9_0:Ent:=.blk b1 [(vU32 pg),v3] 75
  let a9_1:Ent:=.blk c2 [(vU32 pg),v2,(.map (some mb2))] 196
  let a9_2:Ent:=Ent.ar v2 1 ([a,b]).length (List.map vU32 ([a,b]))
  let a9_3:Ent:=.obj mb2 (mP .i64 (List.map Gr.me []) 0)
  let a9_4:Ent:=Ent.bs 199 Gr.cells Gr.b []
  let a9_5:Ent:=Ent.dp grD.list []
  let a9_6:Ent:=.row v3 22 1 ([a,b]).length (List.map vU32 [a,b])
  let a9_7:Ent:=.blk q16041 [(.map (some mb16041)),(.slice none 0 0),(vN 0)] 264
  let a9_8:Ent:=.obj mb16041 (mP .u16 [] 0)
  let a9_9:Ent:=.blk b16081 [(vU32 pg),v3,(ptr c2 0),(ptr q16041 0),(.slice none 0 0),(vU32 0)] 193
  have st9_20: ∀(v18241:Value) (b18101:Nat) (b18141:Nat) (v18201:Value) (b18221:Nat) (wS:World),Owl.Own [] w wS [a9_0,a9_1,a9_2,a9_3,a9_4,a9_5,a9_6,a9_7,a9_8,.blk b16081 [(vU32 pg),v3,(ptr c2 0),(ptr q16041 0),v18241,(vU32 0)] 193,.row (.slice (some ⟨b18101,0,none⟩) 64 64) 5 1 64 (List.map vU8 (List.replicate 64 0)),.row (.slice (some ⟨b18141,0,none⟩) 1 1) 9 1 1 (List.map str [(List.replicate 64 0)]),.row v18201 9 1 a.toNat (List.map str (List.replicate a.toNat (List.replicate 64 0))),.row (.slice (some ⟨b18221,0,none⟩) 1 1) 59 1 1 [v18201],.row v18241 59 1 (0+1) ([]++[v18201])]→W 0 (bz 16 65535) (e9 []) wS:=by
   intro v18241 b18101 b18141 v18201 b18221 wS HS
   rw [hW]
   refine WH.done (by kernel_rfl)<|WQ.inNormal<|WQ.next<|WC.region<|wo (op_addN (b:=1) rfl rfl (by omega)<|wm rfl<|WL.nil<|WQ.again<|ws<|wo (op_lssN rfl rfl<|wn<|WC.seq<|WC.yes rfl rfl<|WC.skip<|WQ.next<|WC.seq<|WC.block<|ws<|wo (op_indexAddr1 Tryz.underlying73 Fa.I22 rfl (HS.arrR (i:=6) rfl) rfl (by simp)<|wo (op_load rfl ((HS.arrR (i:=6) rfl).at rfl) Tryz.underlying22 rfl<|wa rfl<|wn<|WC.held 16 rfl Fa.M HS (fun w'=> ∃L',Owl.Own [] w w' ([.blk b1 [(vU32 pg),v3] 75,.blk c2 [(vU32 pg),v2,(.map (some mb2))] 196,Ent.ar v2 1 ([a,b]).length (List.map vU32 ([a,b])),.obj mb2 (mP .i64 (List.map Gr.me []) 0),Ent.bs 199 Gr.cells Gr.b [],Ent.dp grD.list [],.row v3 22 1 ([a,b]).length (List.map vU32 [a,b]),.blk q16041 [(.map (some mb16041)),(.slice none 0 0),(vN 0)] 264,.obj mb16041 (mP .u16 [] 0)]++L')) ?_))))
   intro w9 H9
   refine xt 0 rfl (ptr b16081 0) H9 (fun _ _ HX=>op_move rfl ⟨rfl,rfl⟩)<|xt 1 rfl (ptr b16081 0) H9 (fun _ _ HX=>op_move rfl ⟨rfl,rfl⟩)<|xt 8 rfl (vU32 b) H9 (fun _ _ HX=>op_move rfl ⟨rfl,rfl⟩)<|xt 9 rfl (vN b.toNat) H9 (fun _ _ HX=>op_convU32N (hs:=Tryz.underlying22) (hd:=Tryz.underlying3) rfl ⟨rfl,rfl⟩)<|WH.named (fun W hW=>?_)
   let e9:List (Nat × Value)→List (Nat × Value):=fun r=>(0,(.agg #[(vU32 pg),lv]))::(1,(ptr b1 0))::(2,(.pointer none))::(3,(vN 0))::(4,(ptr c2 0))::(5,(vN 0))::(6,(ptr b16081 0))::(8,(vU32 b))::(9,(.tuple #[(ptr c2 0),(vN 0)]))::(10,(.agg #[(vU32 pg),lv]))::(11,(.tuple #[(ptr c2 0),(vN 0)]))::(12,(ptr c2 0))::(13,(vN 0))::(14,(vN 0))::(15,(.bool (decide (0≠0))))::(17,(ptr b1 1))::(18,lv)::(19,v3)::(20,(ptr b1 1))::(26,(ptr b1 1))::(27,v3)::(28,(vN ([a,b]).length))::(29,(vN (0+1)))::(30,(.bool (decide ((0+1)<([a,b]).length))))::(31,(.pointer (some (sp v3 (0+1)))))::(32,(vU32 b))::(48,(vN (0+1)))::r
   let a9_0:Ent:=.blk b1 [(vU32 pg),v3] 75
   let a9_1:Ent:=.blk c2 [(vU32 pg),v2,(.map (some mb2))] 196
   let a9_2:Ent:=Ent.ar v2 1 ([a,b]).length (List.map vU32 ([a,b]))
   let a9_3:Ent:=.obj mb2 (mP .i64 (List.map Gr.me []) 0)
   let a9_4:Ent:=Ent.bs 199 Gr.cells Gr.b []
   let a9_5:Ent:=Ent.dp grD.list []
   let a9_6:Ent:=.row v3 22 1 ([a,b]).length (List.map vU32 [a,b])
   let a9_7:Ent:=.blk q16041 [(.map (some mb16041)),(.slice none 0 0),(vN 0)] 264
   let a9_8:Ent:=.obj mb16041 (mP .u16 [] 0)
   let a9_9:Ent:=.blk b16081 [(vU32 pg),v3,(ptr c2 0),(ptr q16041 0),v18241,(vU32 0)] 193
   let a9_10:Ent:=.row (.slice (some ⟨b18101,0,none⟩) 64 64) 5 1 64 (List.map vU8 (List.replicate 64 0))
   let a9_11:Ent:=.row (.slice (some ⟨b18141,0,none⟩) 1 1) 9 1 1 (List.map str [(List.replicate 64 0)])
   let a9_12:Ent:=.row v18201 9 1 a.toNat (List.map str (List.replicate a.toNat (List.replicate 64 0)))
   let a9_13:Ent:=.row (.slice (some ⟨b18221,0,none⟩) 1 1) 59 1 1 [v18201]
   let a9_14:Ent:=.row v18241 59 1 (0+1) ([]++[v18201])
   have st9_20: ∀(v20241:Value) (v20201:Value) (b20101:Nat) (b20141:Nat) (b20221:Nat) (wS:World),Owl.Own [] w wS [a9_0,a9_1,a9_2,a9_3,a9_4,a9_5,a9_6,a9_7,a9_8,.blk b16081 [(vU32 pg),v3,(ptr c2 0),(ptr q16041 0),v20241,(vU32 0)] 193,a9_10,a9_11,a9_12,a9_13,.row v20241 59 1 ((0+1)+1) (([]++[v18201])++[v20201]),.row (.slice (some ⟨b20101,0,none⟩) 64 64) 5 1 64 (List.map vU8 (List.replicate 64 0)),.row (.slice (some ⟨b20141,0,none⟩) 1 1) 9 1 1 (List.map str [(List.replicate 64 0)]),.row v20201 9 1 b.toNat (List.map str (List.replicate b.toNat (List.replicate 64 0))),.row (.slice (some ⟨b20221,0,none⟩) 1 1) 59 1 1 [v20201]]→W 0 (bz 16 65535) (e9 []) wS:=by
    intro v20241 v20201 b20101 b20141 b20221 wS HS
    rw [hW]
    refine WH.done (by kernel_rfl)<|WQ.inNormal<|WQ.next<|WC.region<|wo (op_addN (b:=1) rfl rfl (by omega)<|wm rfl<|WL.nil<|WQ.again<|ws<|wo (op_lssN rfl rfl<|wn<|WC.seq<|WC.no rfl rfl<|WC.exit<|WQ.thenExit<|WQ.thenExit<|WQ.inHere<|WQ.next<|ws<|wm rfl<|wa rfl<|wa rfl<|wn<|WC.ret<|WQ.out (.tmp rfl (.tmp rfl .nil)) ?_))
    have h:=(show Owl.Own [] w wS [.blk b1 [(vU32 pg),v3] 75,.blk c2 [(vU32 pg),v2,(.map (some mb2))] 196,Ent.ar v2 1 ([a,b]).length (List.map vU32 ([a,b])),.obj mb2 (mP .i64 (List.map Gr.me []) 0),Ent.bs 199 Gr.cells Gr.b [],Ent.dp grD.list [],.row v3 22 1 ([a,b]).length (List.map vU32 [a,b]),.blk q16041 [(.map (some mb16041)),(.slice none 0 0),(vN 0)] 264,.obj mb16041 (mP .u16 [] 0),.blk b16081 [(vU32 pg),v3,(ptr c2 0),(ptr q16041 0),v20241,(vU32 0)] 193,.row (.slice (some ⟨b18101,0,none⟩) 64 64) 5 1 64 (List.map vU8 (List.replicate 64 0)),.row (.slice (some ⟨b18141,0,none⟩) 1 1) 9 1 1 (List.map str [(List.replicate 64 0)]),.row v18201 9 1 a.toNat (List.map str (List.replicate a.toNat (List.replicate 64 0))),.row (.slice (some ⟨b18221,0,none⟩) 1 1) 59 1 1 [v18201],.row v20241 59 1 ((0+1)+1) (([]++[v18201])++[v20201]),.row (.slice (some ⟨b20101,0,none⟩) 64 64) 5 1 64 (List.map vU8 (List.replicate 64 0)),.row (.slice (some ⟨b20141,0,none⟩) 1 1) 9 1 1 (List.map str [(List.replicate 64 0)]),.row v20201 9 1 b.toNat (List.map str (List.replicate b.toNat (List.replicate 64 0))),.row (.slice (some ⟨b20221,0,none⟩) 1 1) 59 1 1 [v20201]] from HS)
    exact ⟨b16081,v3,(ptr q16041 0),v20241,c2,v2,mb2,v18201,v20201,rfl,h.fresh0 (i:=9) rfl rfl,up hv2 H1.fr.size,h.rowFresh (i:=14) rfl,((h.toBo (i:=9) rfl 6 rfl).freeze (i:=14) rfl).sel [9,1,2,3,4,5,14,17] rfl rfl⟩
   have st9_19: ∀(v20241:Value) (v20201:Value) (b20101:Nat) (b20141:Nat) (b20221:Nat) (wS:World),Owl.Own [] w wS [a9_0,a9_1,a9_2,a9_3,a9_4,a9_5,a9_6,a9_7,a9_8,a9_9,a9_10,a9_11,a9_12,a9_13,.row v20241 59 1 ((0+1)+1) (([]++[v18201])++[v20201]),.row (.slice (some ⟨b20101,0,none⟩) 64 64) 5 1 64 (List.map vU8 (List.replicate 64 0)),.row (.slice (some ⟨b20141,0,none⟩) 1 1) 9 1 1 (List.map str [(List.replicate 64 0)]),.row v20201 9 1 b.toNat (List.map str (List.replicate b.toNat (List.replicate 64 0))),.row (.slice (some ⟨b20221,0,none⟩) 1 1) 59 1 1 [v20201]]→W 1 (bz 16 32767) (e9 [(45,v20241),(47,(ptr b16081 4))]) wS:=by
    intro v20241 v20201 b20101 b20141 b20221 wS HS
    rw [hW]
    refine wh1 15<|kH 15 rfl (op_storeB (i:=9) HS rfl rfl rfl rfl (Arr.one (HS.arrR (i:=14) rfl)) Fa.I191 (fun w20301 H20301=>(⟨⟨_,H20301⟩,?_⟩)))
    exact WH.cw hW (st9_20 v20241 v20201 b20101 b20141 b20221 w20301 H20301)
   have st9_18: ∀(v20241:Value) (v20201:Value) (b20101:Nat) (b20141:Nat) (b20221:Nat) (wS:World),Owl.Own [] w wS [a9_0,a9_1,a9_2,a9_3,a9_4,a9_5,a9_6,a9_7,a9_8,a9_9,a9_10,a9_11,a9_12,a9_13,.row v20241 59 1 ((0+1)+1) (([]++[v18201])++[v20201]),.row (.slice (some ⟨b20101,0,none⟩) 64 64) 5 1 64 (List.map vU8 (List.replicate 64 0)),.row (.slice (some ⟨b20141,0,none⟩) 1 1) 9 1 1 (List.map str [(List.replicate 64 0)]),.row v20201 9 1 b.toNat (List.map str (List.replicate b.toNat (List.replicate 64 0))),.row (.slice (some ⟨b20221,0,none⟩) 1 1) 59 1 1 [v20201]]→W 3 (bz 16 8191) (e9 [(33,(ptr b16081 0)),(45,v20241)]) wS:=by
    intro v20241 v20201 b20101 b20141 b20221 wS HS
    rw [hW]
    refine wh1 13<|kH 13 rfl (op_nilCheck rfl (⟨⟨_,HS⟩,?_⟩))
    exact xt 14 rfl (ptr b16081 4) HS (fun _ _ HX=>op_fieldAddr rfl Fa.F193_3 ⟨rfl,rfl⟩)<|WH.cw hW (st9_19 v20241 v20201 b20101 b20141 b20221 wS HS)
   have st9_17: ∀(b20221:Nat) (b20101:Nat) (b20141:Nat) (v20201:Value) (wS:World),Owl.Own [] w wS [a9_0,a9_1,a9_2,a9_3,a9_4,a9_5,a9_6,a9_7,a9_8,a9_9,a9_10,a9_11,a9_12,a9_13,a9_14,.row (.slice (some ⟨b20101,0,none⟩) 64 64) 5 1 64 (List.map vU8 (List.replicate 64 0)),.row (.slice (some ⟨b20141,0,none⟩) 1 1) 9 1 1 (List.map str [(List.replicate 64 0)]),.row v20201 9 1 b.toNat (List.map str (List.replicate b.toNat (List.replicate 64 0))),.row (.slice (some ⟨b20221,0,none⟩) 1 1) 59 1 1 [v20201]]→W 4 (bz 16 4095) (e9 [(33,(ptr b16081 0)),(37,v18241),(44,(.slice (some ⟨b20221,0,none⟩) 1 1))]) wS:=by
    intro b20221 b20101 b20141 v20201 wS HS
    rw [hW]
    refine wh1 12<|kH 12 rfl (op_append (i:=14) HS Tryz.underlying191 Fa.I59 rfl rfl rfl rfl (Src.ofArr Tryz.underlying191 (HS.arrR (i:=18) rfl)) (fun c hc=>by rw [List.mem_singleton.1 hc]; exact Arr.one (HS.arrR (i:=17) rfl)) (by omega) (by omega) (fun v20241 w20241 H20241=>?_))
    refine ⟨⟨_,H20241⟩,?_⟩
    exact WH.cw hW (st9_18 v20241 v20201 b20101 b20141 b20221 w20241 H20241)
   have st9_15: ∀(v20201:Value) (b20101:Nat) (b20141:Nat) (wS:World),Owl.Own [] w wS [a9_0,a9_1,a9_2,a9_3,a9_4,a9_5,a9_6,a9_7,a9_8,a9_9,a9_10,a9_11,a9_12,a9_13,a9_14,.row (.slice (some ⟨b20101,0,none⟩) 64 64) 5 1 64 (List.map vU8 (List.replicate 64 0)),.row (.slice (some ⟨b20141,0,none⟩) 1 1) 9 1 1 (List.map str [(List.replicate 64 0)]),.row v20201 9 1 b.toNat (List.map str (List.replicate b.toNat (List.replicate 64 0)))]→W 5 (bz 16 2047) (e9 [(33,(ptr b16081 0)),(37,v18241),(43,v20201)]) wS:=by
    intro v20201 b20101 b20141 wS HS
    rw [hW]
    refine wh1 11<|kH 11 rfl (op_buildSlice (cs:=[v20201]) HS Tryz.underlying191 Fa.I59 rfl rfl (by obtain ⟨_,_,e0,_⟩:=(HS.arrR (i:=17) rfl).form; rw [e0]; rfl) rfl (by decide) (by decide) (fun b20221 w20221 H20221=>?_))
    refine ⟨⟨_,H20221⟩,?_⟩
    exact WH.cw hW (st9_17 b20221 b20101 b20141 v20201 w20221 H20221)
   have st9_16: ∀(b20221:Nat) (b20101:Nat) (b20141:Nat) (v20201:Value) (wS:World),Owl.Own [] w wS [a9_0,a9_1,a9_2,a9_3,a9_4,a9_5,a9_6,a9_7,a9_8,a9_9,a9_10,a9_11,a9_12,a9_13,a9_14,.row (.slice (some ⟨b20101,0,none⟩) 64 64) 5 1 64 (List.map vU8 (List.replicate 64 0)),.row (.slice (some ⟨b20141,0,none⟩) 1 1) 9 1 1 (List.map str [(List.replicate 64 0)]),.row v20201 9 1 b.toNat (List.map str (List.replicate b.toNat (List.replicate 64 0))),.row (.slice (some ⟨b20221,0,none⟩) 1 1) 59 1 1 [v20201]]→W 5 (bz 16 4079) (e9 [(33,(ptr b16081 0)),(36,(ptr b16081 4)),(44,(.slice (some ⟨b20221,0,none⟩) 1 1))]) wS:=by
    intro b20221 b20101 b20141 v20201 wS HS
    rw [hW]
    refine wh1 4<|kH 4 rfl (op_load rfl (HS.cell (i:=9) rfl rfl) Tryz.underlying191 rfl (⟨⟨_,HS⟩,?_⟩))
    exact WH.cw hW (st9_17 b20221 b20101 b20141 v20201 wS HS)
   have st9_12: ∀(b20141:Nat) (b20101:Nat) (wS:World),Owl.Own [] w wS [a9_0,a9_1,a9_2,a9_3,a9_4,a9_5,a9_6,a9_7,a9_8,a9_9,a9_10,a9_11,a9_12,a9_13,a9_14,.row (.slice (some ⟨b20101,0,none⟩) 64 64) 5 1 64 (List.map vU8 (List.replicate 64 0)),.row (.slice (some ⟨b20141,0,none⟩) 1 1) 9 1 1 (List.map str [(List.replicate 64 0)])]→W 6 (bz 16 1023) (e9 [(33,(ptr b16081 0)),(37,v18241),(40,(.slice (some ⟨b20141,0,none⟩) 1 1)),(42,(vN b.toNat))]) wS:=by
    intro b20141 b20101 wS HS
    rw [hW]
    refine wh1 10<|kH 10 rfl (op_callF Fa.C129 rfl ((repeatS_ok _ (List.replicate 64 0) b.toNat _ (HS.arrR (i:=16) rfl) (UInt32.toNat_lt _)).mono (fun e w20201 hq=>?_)))
    obtain ⟨v20201,rfl,hq20201⟩:=hq
    refine ⟨_,rfl,?_⟩
    have H20201:=HS.splice [] [] [.row v20201 9 1 b.toNat (List.map str (List.replicate b.toNat (List.replicate 64 0)))] rfl rfl hq20201 (Fits.solid True.intro Fits.nil)
    refine ⟨⟨_,H20201⟩,?_⟩
    exact WH.cw hW (st9_15 v20201 b20101 b20141 w20201 H20201)
   have st9_13: ∀(v20201:Value) (b20101:Nat) (b20141:Nat) (wS:World),Owl.Own [] w wS [a9_0,a9_1,a9_2,a9_3,a9_4,a9_5,a9_6,a9_7,a9_8,a9_9,a9_10,a9_11,a9_12,a9_13,a9_14,.row (.slice (some ⟨b20101,0,none⟩) 64 64) 5 1 64 (List.map vU8 (List.replicate 64 0)),.row (.slice (some ⟨b20141,0,none⟩) 1 1) 9 1 1 (List.map str [(List.replicate 64 0)]),.row v20201 9 1 b.toNat (List.map str (List.replicate b.toNat (List.replicate 64 0)))]→W 6 (bz 16 2031) (e9 [(33,(ptr b16081 0)),(36,(ptr b16081 4)),(43,v20201)]) wS:=by
    intro v20201 b20101 b20141 wS HS
    rw [hW]
    refine wh2 4 11 ?_ ?_
    ·
     refine kH 4 rfl (op_load rfl (HS.cell (i:=9) rfl rfl) Tryz.underlying191 rfl (⟨⟨_,HS⟩,?_⟩))
     exact WH.cw hW (st9_15 v20201 b20101 b20141 wS HS)
    refine kH 11 rfl (op_buildSlice (cs:=[v20201]) HS Tryz.underlying191 Fa.I59 rfl rfl (by obtain ⟨_,_,e0,_⟩:=(HS.arrR (i:=17) rfl).form; rw [e0]; rfl) rfl (by decide) (by decide) (fun b20221 w20221 H20221=>?_))
    refine ⟨⟨_,H20221⟩,?_⟩
    exact WH.cw hW (st9_16 b20221 b20101 b20141 v20201 w20221 H20221)
   have st9_9: ∀(b20101:Nat) (wS:World),Owl.Own [] w wS [a9_0,a9_1,a9_2,a9_3,a9_4,a9_5,a9_6,a9_7,a9_8,a9_9,a9_10,a9_11,a9_12,a9_13,a9_14,.row (.slice (some ⟨b20101,0,none⟩) 64 64) 5 1 64 (List.map vU8 (List.replicate 64 0))]→W 7 (bz 16 895) (e9 [(33,(ptr b16081 0)),(37,v18241),(39,(str (List.replicate 64 0))),(42,(vN b.toNat))]) wS:=by
    intro b20101 wS HS
    rw [hW]
    refine wh1 7<|kH 7 rfl (op_buildSlice (cs:=[_]) HS Tryz.underlying59 Fa.I9 rfl rfl rfl rfl (by decide) (by decide) (fun b20141 w20141 H20141=>(⟨⟨_,H20141⟩,?_⟩)))
    exact WH.cw hW (st9_12 b20141 b20101 w20141 H20141)
   have st9_10: ∀(b20141:Nat) (b20101:Nat) (wS:World),Owl.Own [] w wS [a9_0,a9_1,a9_2,a9_3,a9_4,a9_5,a9_6,a9_7,a9_8,a9_9,a9_10,a9_11,a9_12,a9_13,a9_14,.row (.slice (some ⟨b20101,0,none⟩) 64 64) 5 1 64 (List.map vU8 (List.replicate 64 0)),.row (.slice (some ⟨b20141,0,none⟩) 1 1) 9 1 1 (List.map str [(List.replicate 64 0)])]→W 7 (bz 16 1007) (e9 [(33,(ptr b16081 0)),(36,(ptr b16081 4)),(40,(.slice (some ⟨b20141,0,none⟩) 1 1)),(42,(vN b.toNat))]) wS:=by
    intro b20141 b20101 wS HS
    rw [hW]
    refine wh2 4 10 ?_ ?_
    ·
     refine kH 4 rfl (op_load rfl (HS.cell (i:=9) rfl rfl) Tryz.underlying191 rfl (⟨⟨_,HS⟩,?_⟩))
     exact WH.cw hW (st9_12 b20141 b20101 wS HS)
    refine kH 10 rfl (op_callF Fa.C129 rfl ((repeatS_ok _ (List.replicate 64 0) b.toNat _ (HS.arrR (i:=16) rfl) (UInt32.toNat_lt _)).mono (fun e w20201 hq=>?_)))
    obtain ⟨v20201,rfl,hq20201⟩:=hq
    refine ⟨_,rfl,?_⟩
    have H20201:=HS.splice [] [] [.row v20201 9 1 b.toNat (List.map str (List.replicate b.toNat (List.replicate 64 0)))] rfl rfl hq20201 (Fits.solid True.intro Fits.nil)
    refine ⟨⟨_,H20201⟩,?_⟩
    exact WH.cw hW (st9_13 v20201 b20101 b20141 w20201 H20201)
   have st9_14: ∀(b20221:Nat) (b20101:Nat) (b20141:Nat) (v20201:Value) (wS:World),Owl.Own [] w wS [a9_0,a9_1,a9_2,a9_3,a9_4,a9_5,a9_6,a9_7,a9_8,a9_9,a9_10,a9_11,a9_12,a9_13,a9_14,.row (.slice (some ⟨b20101,0,none⟩) 64 64) 5 1 64 (List.map vU8 (List.replicate 64 0)),.row (.slice (some ⟨b20141,0,none⟩) 1 1) 9 1 1 (List.map str [(List.replicate 64 0)]),.row v20201 9 1 b.toNat (List.map str (List.replicate b.toNat (List.replicate 64 0))),.row (.slice (some ⟨b20221,0,none⟩) 1 1) 59 1 1 [v20201]]→W 7 (bz 16 4067) (e9 [(33,(ptr b16081 0)),(34,(ptr b16081 0)),(44,(.slice (some ⟨b20221,0,none⟩) 1 1))]) wS:=by
    intro b20221 b20101 b20141 v20201 wS HS
    rw [hW]
    refine wh1 2<|kH 2 rfl (op_nilCheck rfl (⟨⟨_,HS⟩,?_⟩))
    exact xt 3 rfl (ptr b16081 4) HS (fun _ _ HX=>op_fieldAddr rfl Fa.F193_3 ⟨rfl,rfl⟩)<|WH.cw hW (st9_16 b20221 b20101 b20141 v20201 wS HS)
   have st9_6: ∀(b20101:Nat) (wS:World),Owl.Own [] w wS [a9_0,a9_1,a9_2,a9_3,a9_4,a9_5,a9_6,a9_7,a9_8,a9_9,a9_10,a9_11,a9_12,a9_13,a9_14,.row (.slice (some ⟨b20101,0,none⟩) 64 64) 5 1 64 (List.map vU8 (List.replicate 64 0))]→W 8 (bz 16 831) (e9 [(33,(ptr b16081 0)),(37,v18241),(38,(.slice (some ⟨b20101,0,none⟩) 64 64)),(42,(vN b.toNat))]) wS:=by
    intro b20101 wS HS
    rw [hW]
    refine wh1 6<|kH 6 rfl (op_bytesStr (l:=(List.replicate 64 0)) Tryz.underlying114 Tryz.underlying5 Tryz.underlying9 rfl (HS.arrR (i:=15) rfl) rfl (⟨⟨_,HS⟩,?_⟩))
    exact WH.cw hW (st9_9 b20101 wS HS)
   have st9_7: ∀(b20101:Nat) (wS:World),Owl.Own [] w wS [a9_0,a9_1,a9_2,a9_3,a9_4,a9_5,a9_6,a9_7,a9_8,a9_9,a9_10,a9_11,a9_12,a9_13,a9_14,.row (.slice (some ⟨b20101,0,none⟩) 64 64) 5 1 64 (List.map vU8 (List.replicate 64 0))]→W 8 (bz 16 879) (e9 [(33,(ptr b16081 0)),(36,(ptr b16081 4)),(39,(str (List.replicate 64 0))),(42,(vN b.toNat))]) wS:=by
    intro b20101 wS HS
    rw [hW]
    refine wh2 4 7 ?_ ?_
    ·
     refine kH 4 rfl (op_load rfl (HS.cell (i:=9) rfl rfl) Tryz.underlying191 rfl (⟨⟨_,HS⟩,?_⟩))
     exact WH.cw hW (st9_9 b20101 wS HS)
    refine kH 7 rfl (op_buildSlice (cs:=[_]) HS Tryz.underlying59 Fa.I9 rfl rfl rfl rfl (by decide) (by decide) (fun b20141 w20141 H20141=>(⟨⟨_,H20141⟩,?_⟩)))
    exact WH.cw hW (st9_10 b20141 b20101 w20141 H20141)
   have st9_11: ∀(v20201:Value) (b20101:Nat) (b20141:Nat) (wS:World),Owl.Own [] w wS [a9_0,a9_1,a9_2,a9_3,a9_4,a9_5,a9_6,a9_7,a9_8,a9_9,a9_10,a9_11,a9_12,a9_13,a9_14,.row (.slice (some ⟨b20101,0,none⟩) 64 64) 5 1 64 (List.map vU8 (List.replicate 64 0)),.row (.slice (some ⟨b20141,0,none⟩) 1 1) 9 1 1 (List.map str [(List.replicate 64 0)]),.row v20201 9 1 b.toNat (List.map str (List.replicate b.toNat (List.replicate 64 0)))]→W 8 (bz 16 2019) (e9 [(33,(ptr b16081 0)),(34,(ptr b16081 0)),(43,v20201)]) wS:=by
    intro v20201 b20101 b20141 wS HS
    rw [hW]
    refine wh2 2 11 ?_ ?_
    ·
     refine kH 2 rfl (op_nilCheck rfl (⟨⟨_,HS⟩,?_⟩))
     exact xt 3 rfl (ptr b16081 4) HS (fun _ _ HX=>op_fieldAddr rfl Fa.F193_3 ⟨rfl,rfl⟩)<|WH.cw hW (st9_13 v20201 b20101 b20141 wS HS)
    refine kH 11 rfl (op_buildSlice (cs:=[v20201]) HS Tryz.underlying191 Fa.I59 rfl rfl (by obtain ⟨_,_,e0,_⟩:=(HS.arrR (i:=17) rfl).form; rw [e0]; rfl) rfl (by decide) (by decide) (fun b20221 w20221 H20221=>?_))
    refine ⟨⟨_,H20221⟩,?_⟩
    exact WH.cw hW (st9_14 b20221 b20101 b20141 v20201 w20221 H20221)
   have st9_3: ∀wS,Owl.Own [] w wS [a9_0,a9_1,a9_2,a9_3,a9_4,a9_5,a9_6,a9_7,a9_8,a9_9,a9_10,a9_11,a9_12,a9_13,a9_14]→W 9 (bz 16 799) (e9 [(33,(ptr b16081 0)),(37,v18241),(42,(vN b.toNat))]) wS:=fun wS HS=>by
    rw [hW]
    refine wh1 5<|kH 5 rfl (op_makeSliceM (f:=vU8) (c:=0) (m:=64) HS Tryz.underlying114 Fa.I5 rfl rfl (by omega) (by omega) (fun b20101 w20101 H20101=>(⟨⟨_,H20101⟩,?_⟩)))
    exact WH.cw hW (st9_6 b20101 w20101 H20101)
   have st9_4: ∀(b20101:Nat) (wS:World),Owl.Own [] w wS [a9_0,a9_1,a9_2,a9_3,a9_4,a9_5,a9_6,a9_7,a9_8,a9_9,a9_10,a9_11,a9_12,a9_13,a9_14,.row (.slice (some ⟨b20101,0,none⟩) 64 64) 5 1 64 (List.map vU8 (List.replicate 64 0))]→W 9 (bz 16 815) (e9 [(33,(ptr b16081 0)),(36,(ptr b16081 4)),(38,(.slice (some ⟨b20101,0,none⟩) 64 64)),(42,(vN b.toNat))]) wS:=by
    intro b20101 wS HS
    rw [hW]
    refine wh2 4 6 ?_ ?_
    ·
     refine kH 4 rfl (op_load rfl (HS.cell (i:=9) rfl rfl) Tryz.underlying191 rfl (⟨⟨_,HS⟩,?_⟩))
     exact WH.cw hW (st9_6 b20101 wS HS)
    refine kH 6 rfl (op_bytesStr (l:=(List.replicate 64 0)) Tryz.underlying114 Tryz.underlying5 Tryz.underlying9 rfl (HS.arrR (i:=15) rfl) rfl (⟨⟨_,HS⟩,?_⟩))
    exact WH.cw hW (st9_7 b20101 wS HS)
   have st9_8: ∀(b20141:Nat) (b20101:Nat) (wS:World),Owl.Own [] w wS [a9_0,a9_1,a9_2,a9_3,a9_4,a9_5,a9_6,a9_7,a9_8,a9_9,a9_10,a9_11,a9_12,a9_13,a9_14,.row (.slice (some ⟨b20101,0,none⟩) 64 64) 5 1 64 (List.map vU8 (List.replicate 64 0)),.row (.slice (some ⟨b20141,0,none⟩) 1 1) 9 1 1 (List.map str [(List.replicate 64 0)])]→W 9 (bz 16 995) (e9 [(33,(ptr b16081 0)),(34,(ptr b16081 0)),(40,(.slice (some ⟨b20141,0,none⟩) 1 1)),(42,(vN b.toNat))]) wS:=by
    intro b20141 b20101 wS HS
    rw [hW]
    refine wh2 2 10 ?_ ?_
    ·
     refine kH 2 rfl (op_nilCheck rfl (⟨⟨_,HS⟩,?_⟩))
     exact xt 3 rfl (ptr b16081 4) HS (fun _ _ HX=>op_fieldAddr rfl Fa.F193_3 ⟨rfl,rfl⟩)<|WH.cw hW (st9_10 b20141 b20101 wS HS)
    refine kH 10 rfl (op_callF Fa.C129 rfl ((repeatS_ok _ (List.replicate 64 0) b.toNat _ (HS.arrR (i:=16) rfl) (UInt32.toNat_lt _)).mono (fun e w20201 hq=>?_)))
    obtain ⟨v20201,rfl,hq20201⟩:=hq
    refine ⟨_,rfl,?_⟩
    have H20201:=HS.splice [] [] [.row v20201 9 1 b.toNat (List.map str (List.replicate b.toNat (List.replicate 64 0)))] rfl rfl hq20201 (Fits.solid True.intro Fits.nil)
    refine ⟨⟨_,H20201⟩,?_⟩
    exact WH.cw hW (st9_11 v20201 b20101 b20141 w20201 H20201)
   have st9_1: ∀wS,Owl.Own [] w wS [a9_0,a9_1,a9_2,a9_3,a9_4,a9_5,a9_6,a9_7,a9_8,a9_9,a9_10,a9_11,a9_12,a9_13,a9_14]→W 10 (bz 16 783) (e9 [(33,(ptr b16081 0)),(36,(ptr b16081 4)),(42,(vN b.toNat))]) wS:=fun wS HS=>by
    rw [hW]
    refine wh2 4 5 ?_ ?_
    ·
     refine kH 4 rfl (op_load rfl (HS.cell (i:=9) rfl rfl) Tryz.underlying191 rfl (⟨⟨_,HS⟩,?_⟩))
     exact WH.cw hW (st9_3 wS HS)
    refine kH 5 rfl (op_makeSliceM (f:=vU8) (c:=0) (m:=64) HS Tryz.underlying114 Fa.I5 rfl rfl (by omega) (by omega) (fun b20101 w20101 H20101=>(⟨⟨_,H20101⟩,?_⟩)))
    exact WH.cw hW (st9_4 b20101 w20101 H20101)
   have st9_5: ∀(b20101:Nat) (wS:World),Owl.Own [] w wS [a9_0,a9_1,a9_2,a9_3,a9_4,a9_5,a9_6,a9_7,a9_8,a9_9,a9_10,a9_11,a9_12,a9_13,a9_14,.row (.slice (some ⟨b20101,0,none⟩) 64 64) 5 1 64 (List.map vU8 (List.replicate 64 0))]→W 10 (bz 16 867) (e9 [(33,(ptr b16081 0)),(34,(ptr b16081 0)),(39,(str (List.replicate 64 0))),(42,(vN b.toNat))]) wS:=by
    intro b20101 wS HS
    rw [hW]
    refine wh2 2 7 ?_ ?_
    ·
     refine kH 2 rfl (op_nilCheck rfl (⟨⟨_,HS⟩,?_⟩))
     exact xt 3 rfl (ptr b16081 4) HS (fun _ _ HX=>op_fieldAddr rfl Fa.F193_3 ⟨rfl,rfl⟩)<|WH.cw hW (st9_7 b20101 wS HS)
    refine kH 7 rfl (op_buildSlice (cs:=[_]) HS Tryz.underlying59 Fa.I9 rfl rfl rfl rfl (by decide) (by decide) (fun b20141 w20141 H20141=>(⟨⟨_,H20141⟩,?_⟩)))
    exact WH.cw hW (st9_8 b20141 b20101 w20141 H20141)
   have st9_2: ∀(b20101:Nat) (wS:World),Owl.Own [] w wS [a9_0,a9_1,a9_2,a9_3,a9_4,a9_5,a9_6,a9_7,a9_8,a9_9,a9_10,a9_11,a9_12,a9_13,a9_14,.row (.slice (some ⟨b20101,0,none⟩) 64 64) 5 1 64 (List.map vU8 (List.replicate 64 0))]→W 11 (bz 16 803) (e9 [(33,(ptr b16081 0)),(34,(ptr b16081 0)),(38,(.slice (some ⟨b20101,0,none⟩) 64 64)),(42,(vN b.toNat))]) wS:=by
    intro b20101 wS HS
    rw [hW]
    refine wh2 2 6 ?_ ?_
    ·
     refine kH 2 rfl (op_nilCheck rfl (⟨⟨_,HS⟩,?_⟩))
     exact xt 3 rfl (ptr b16081 4) HS (fun _ _ HX=>op_fieldAddr rfl Fa.F193_3 ⟨rfl,rfl⟩)<|WH.cw hW (st9_4 b20101 wS HS)
    refine kH 6 rfl (op_bytesStr (l:=(List.replicate 64 0)) Tryz.underlying114 Tryz.underlying5 Tryz.underlying9 rfl (HS.arrR (i:=15) rfl) rfl (⟨⟨_,HS⟩,?_⟩))
    exact WH.cw hW (st9_5 b20101 wS HS)
   have st9_0: ∀wS,Owl.Own [] w wS [a9_0,a9_1,a9_2,a9_3,a9_4,a9_5,a9_6,a9_7,a9_8,a9_9,a9_10,a9_11,a9_12,a9_13,a9_14]→W 12 (bz 16 771) (e9 [(33,(ptr b16081 0)),(34,(ptr b16081 0)),(42,(vN b.toNat))]) wS:=fun wS HS=>by
    rw [hW]
    refine wh2 2 5 ?_ ?_
    ·
     refine kH 2 rfl (op_nilCheck rfl (⟨⟨_,HS⟩,?_⟩))
     exact xt 3 rfl (ptr b16081 4) HS (fun _ _ HX=>op_fieldAddr rfl Fa.F193_3 ⟨rfl,rfl⟩)<|WH.cw hW (st9_1 wS HS)
    refine kH 5 rfl (op_makeSliceM (f:=vU8) (c:=0) (m:=64) HS Tryz.underlying114 Fa.I5 rfl rfl (by omega) (by omega) (fun b20101 w20101 H20101=>(⟨⟨_,H20101⟩,?_⟩)))
    exact WH.cw hW (st9_2 b20101 w20101 H20101)
   have hq:=st9_0 w9 H9
   rw [hW] at hq ⊢
   exact WH.cv hq
  have st9_19: ∀(v18241:Value) (b18101:Nat) (b18141:Nat) (v18201:Value) (b18221:Nat) (wS:World),Owl.Own [] w wS [a9_0,a9_1,a9_2,a9_3,a9_4,a9_5,a9_6,a9_7,a9_8,a9_9,.row (.slice (some ⟨b18101,0,none⟩) 64 64) 5 1 64 (List.map vU8 (List.replicate 64 0)),.row (.slice (some ⟨b18141,0,none⟩) 1 1) 9 1 1 (List.map str [(List.replicate 64 0)]),.row v18201 9 1 a.toNat (List.map str (List.replicate a.toNat (List.replicate 64 0))),.row (.slice (some ⟨b18221,0,none⟩) 1 1) 59 1 1 [v18201],.row v18241 59 1 (0+1) ([]++[v18201])]→W 1 (bz 16 32767) (e9 [(45,v18241),(47,(ptr b16081 4))]) wS:=by
   intro v18241 b18101 b18141 v18201 b18221 wS HS
   rw [hW]
   refine wh1 15<|kH 15 rfl (op_storeB (i:=9) HS rfl rfl rfl rfl (Arr.one (HS.arrR (i:=14) rfl)) Fa.I191 (fun w18301 H18301=>(⟨⟨_,H18301⟩,?_⟩)))
   exact WH.cw hW (st9_20 v18241 b18101 b18141 v18201 b18221 w18301 H18301)
  have st9_18: ∀(v18241:Value) (b18101:Nat) (b18141:Nat) (v18201:Value) (b18221:Nat) (wS:World),Owl.Own [] w wS [a9_0,a9_1,a9_2,a9_3,a9_4,a9_5,a9_6,a9_7,a9_8,a9_9,.row (.slice (some ⟨b18101,0,none⟩) 64 64) 5 1 64 (List.map vU8 (List.replicate 64 0)),.row (.slice (some ⟨b18141,0,none⟩) 1 1) 9 1 1 (List.map str [(List.replicate 64 0)]),.row v18201 9 1 a.toNat (List.map str (List.replicate a.toNat (List.replicate 64 0))),.row (.slice (some ⟨b18221,0,none⟩) 1 1) 59 1 1 [v18201],.row v18241 59 1 (0+1) ([]++[v18201])]→W 3 (bz 16 8191) (e9 [(33,(ptr b16081 0)),(45,v18241)]) wS:=by
   intro v18241 b18101 b18141 v18201 b18221 wS HS
   rw [hW]
   refine wh1 13<|kH 13 rfl (op_nilCheck rfl (⟨⟨_,HS⟩,?_⟩))
   exact xt 14 rfl (ptr b16081 4) HS (fun _ _ HX=>op_fieldAddr rfl Fa.F193_3 ⟨rfl,rfl⟩)<|WH.cw hW (st9_19 v18241 b18101 b18141 v18201 b18221 wS HS)
  have st9_17: ∀(b18221:Nat) (b18101:Nat) (b18141:Nat) (v18201:Value) (wS:World),Owl.Own [] w wS [a9_0,a9_1,a9_2,a9_3,a9_4,a9_5,a9_6,a9_7,a9_8,a9_9,.row (.slice (some ⟨b18101,0,none⟩) 64 64) 5 1 64 (List.map vU8 (List.replicate 64 0)),.row (.slice (some ⟨b18141,0,none⟩) 1 1) 9 1 1 (List.map str [(List.replicate 64 0)]),.row v18201 9 1 a.toNat (List.map str (List.replicate a.toNat (List.replicate 64 0))),.row (.slice (some ⟨b18221,0,none⟩) 1 1) 59 1 1 [v18201]]→W 4 (bz 16 4095) (e9 [(33,(ptr b16081 0)),(37,(.slice none 0 0)),(44,(.slice (some ⟨b18221,0,none⟩) 1 1))]) wS:=by
   intro b18221 b18101 b18141 v18201 wS HS
   rw [hW]
   refine wh1 12 ?_
   have H18242:=HS.nilRow 59 1
   refine kH 12 rfl (op_append (i:=14) H18242 Tryz.underlying191 Fa.I59 rfl rfl rfl rfl (Src.ofArr Tryz.underlying191 (H18242.arrR (i:=13) rfl)) (fun c hc=>by rw [List.mem_singleton.1 hc]; exact Arr.one (H18242.arrR (i:=12) rfl)) (by omega) (by omega) (fun v18241 w18241 H18241=>?_))
   refine ⟨⟨_,H18241⟩,?_⟩
   exact WH.cw hW (st9_18 v18241 b18101 b18141 v18201 b18221 w18241 H18241)
  have st9_15: ∀(v18201:Value) (b18101:Nat) (b18141:Nat) (wS:World),Owl.Own [] w wS [a9_0,a9_1,a9_2,a9_3,a9_4,a9_5,a9_6,a9_7,a9_8,a9_9,.row (.slice (some ⟨b18101,0,none⟩) 64 64) 5 1 64 (List.map vU8 (List.replicate 64 0)),.row (.slice (some ⟨b18141,0,none⟩) 1 1) 9 1 1 (List.map str [(List.replicate 64 0)]),.row v18201 9 1 a.toNat (List.map str (List.replicate a.toNat (List.replicate 64 0)))]→W 5 (bz 16 2047) (e9 [(33,(ptr b16081 0)),(37,(.slice none 0 0)),(43,v18201)]) wS:=by
   intro v18201 b18101 b18141 wS HS
   rw [hW]
   refine wh1 11<|kH 11 rfl (op_buildSlice (cs:=[v18201]) HS Tryz.underlying191 Fa.I59 rfl rfl (by obtain ⟨_,_,e0,_⟩:=(HS.arrR (i:=12) rfl).form; rw [e0]; rfl) rfl (by decide) (by decide) (fun b18221 w18221 H18221=>?_))
   refine ⟨⟨_,H18221⟩,?_⟩
   exact WH.cw hW (st9_17 b18221 b18101 b18141 v18201 w18221 H18221)
  have st9_16: ∀(b18221:Nat) (b18101:Nat) (b18141:Nat) (v18201:Value) (wS:World),Owl.Own [] w wS [a9_0,a9_1,a9_2,a9_3,a9_4,a9_5,a9_6,a9_7,a9_8,a9_9,.row (.slice (some ⟨b18101,0,none⟩) 64 64) 5 1 64 (List.map vU8 (List.replicate 64 0)),.row (.slice (some ⟨b18141,0,none⟩) 1 1) 9 1 1 (List.map str [(List.replicate 64 0)]),.row v18201 9 1 a.toNat (List.map str (List.replicate a.toNat (List.replicate 64 0))),.row (.slice (some ⟨b18221,0,none⟩) 1 1) 59 1 1 [v18201]]→W 5 (bz 16 4079) (e9 [(33,(ptr b16081 0)),(36,(ptr b16081 4)),(44,(.slice (some ⟨b18221,0,none⟩) 1 1))]) wS:=by
   intro b18221 b18101 b18141 v18201 wS HS
   rw [hW]
   refine wh1 4<|kH 4 rfl (op_load rfl (HS.cell (i:=9) rfl rfl) Tryz.underlying191 rfl (⟨⟨_,HS⟩,?_⟩))
   exact WH.cw hW (st9_17 b18221 b18101 b18141 v18201 wS HS)
  have st9_12: ∀(b18141:Nat) (b18101:Nat) (wS:World),Owl.Own [] w wS [a9_0,a9_1,a9_2,a9_3,a9_4,a9_5,a9_6,a9_7,a9_8,a9_9,.row (.slice (some ⟨b18101,0,none⟩) 64 64) 5 1 64 (List.map vU8 (List.replicate 64 0)),.row (.slice (some ⟨b18141,0,none⟩) 1 1) 9 1 1 (List.map str [(List.replicate 64 0)])]→W 6 (bz 16 1023) (e9 [(33,(ptr b16081 0)),(37,(.slice none 0 0)),(40,(.slice (some ⟨b18141,0,none⟩) 1 1)),(42,(vN a.toNat))]) wS:=by
   intro b18141 b18101 wS HS
   rw [hW]
   refine wh1 10<|kH 10 rfl (op_callF Fa.C129 rfl ((repeatS_ok _ (List.replicate 64 0) a.toNat _ (HS.arrR (i:=11) rfl) (UInt32.toNat_lt _)).mono (fun e w18201 hq=>?_)))
   obtain ⟨v18201,rfl,hq18201⟩:=hq
   refine ⟨_,rfl,?_⟩
   have H18201:=HS.splice [] [] [.row v18201 9 1 a.toNat (List.map str (List.replicate a.toNat (List.replicate 64 0)))] rfl rfl hq18201 (Fits.solid True.intro Fits.nil)
   refine ⟨⟨_,H18201⟩,?_⟩
   exact WH.cw hW (st9_15 v18201 b18101 b18141 w18201 H18201)
  have st9_13: ∀(v18201:Value) (b18101:Nat) (b18141:Nat) (wS:World),Owl.Own [] w wS [a9_0,a9_1,a9_2,a9_3,a9_4,a9_5,a9_6,a9_7,a9_8,a9_9,.row (.slice (some ⟨b18101,0,none⟩) 64 64) 5 1 64 (List.map vU8 (List.replicate 64 0)),.row (.slice (some ⟨b18141,0,none⟩) 1 1) 9 1 1 (List.map str [(List.replicate 64 0)]),.row v18201 9 1 a.toNat (List.map str (List.replicate a.toNat (List.replicate 64 0)))]→W 6 (bz 16 2031) (e9 [(33,(ptr b16081 0)),(36,(ptr b16081 4)),(43,v18201)]) wS:=by
   intro v18201 b18101 b18141 wS HS
   rw [hW]
   refine wh2 4 11 ?_ ?_
   ·
    refine kH 4 rfl (op_load rfl (HS.cell (i:=9) rfl rfl) Tryz.underlying191 rfl (⟨⟨_,HS⟩,?_⟩))
    exact WH.cw hW (st9_15 v18201 b18101 b18141 wS HS)
   refine kH 11 rfl (op_buildSlice (cs:=[v18201]) HS Tryz.underlying191 Fa.I59 rfl rfl (by obtain ⟨_,_,e0,_⟩:=(HS.arrR (i:=12) rfl).form; rw [e0]; rfl) rfl (by decide) (by decide) (fun b18221 w18221 H18221=>?_))
   refine ⟨⟨_,H18221⟩,?_⟩
   exact WH.cw hW (st9_16 b18221 b18101 b18141 v18201 w18221 H18221)
  have st9_9: ∀(b18101:Nat) (wS:World),Owl.Own [] w wS [a9_0,a9_1,a9_2,a9_3,a9_4,a9_5,a9_6,a9_7,a9_8,a9_9,.row (.slice (some ⟨b18101,0,none⟩) 64 64) 5 1 64 (List.map vU8 (List.replicate 64 0))]→W 7 (bz 16 895) (e9 [(33,(ptr b16081 0)),(37,(.slice none 0 0)),(39,(str (List.replicate 64 0))),(42,(vN a.toNat))]) wS:=by
   intro b18101 wS HS
   rw [hW]
   refine wh1 7<|kH 7 rfl (op_buildSlice (cs:=[_]) HS Tryz.underlying59 Fa.I9 rfl rfl rfl rfl (by decide) (by decide) (fun b18141 w18141 H18141=>(⟨⟨_,H18141⟩,?_⟩)))
   exact WH.cw hW (st9_12 b18141 b18101 w18141 H18141)
  have st9_10: ∀(b18141:Nat) (b18101:Nat) (wS:World),Owl.Own [] w wS [a9_0,a9_1,a9_2,a9_3,a9_4,a9_5,a9_6,a9_7,a9_8,a9_9,.row (.slice (some ⟨b18101,0,none⟩) 64 64) 5 1 64 (List.map vU8 (List.replicate 64 0)),.row (.slice (some ⟨b18141,0,none⟩) 1 1) 9 1 1 (List.map str [(List.replicate 64 0)])]→W 7 (bz 16 1007) (e9 [(33,(ptr b16081 0)),(36,(ptr b16081 4)),(40,(.slice (some ⟨b18141,0,none⟩) 1 1)),(42,(vN a.toNat))]) wS:=by
   intro b18141 b18101 wS HS
   rw [hW]
   refine wh2 4 10 ?_ ?_
   ·
    refine kH 4 rfl (op_load rfl (HS.cell (i:=9) rfl rfl) Tryz.underlying191 rfl (⟨⟨_,HS⟩,?_⟩))
    exact WH.cw hW (st9_12 b18141 b18101 wS HS)
   refine kH 10 rfl (op_callF Fa.C129 rfl ((repeatS_ok _ (List.replicate 64 0) a.toNat _ (HS.arrR (i:=11) rfl) (UInt32.toNat_lt _)).mono (fun e w18201 hq=>?_)))
   obtain ⟨v18201,rfl,hq18201⟩:=hq
   refine ⟨_,rfl,?_⟩
   have H18201:=HS.splice [] [] [.row v18201 9 1 a.toNat (List.map str (List.replicate a.toNat (List.replicate 64 0)))] rfl rfl hq18201 (Fits.solid True.intro Fits.nil)
   refine ⟨⟨_,H18201⟩,?_⟩
   exact WH.cw hW (st9_13 v18201 b18101 b18141 w18201 H18201)
  have st9_14: ∀(b18221:Nat) (b18101:Nat) (b18141:Nat) (v18201:Value) (wS:World),Owl.Own [] w wS [a9_0,a9_1,a9_2,a9_3,a9_4,a9_5,a9_6,a9_7,a9_8,a9_9,.row (.slice (some ⟨b18101,0,none⟩) 64 64) 5 1 64 (List.map vU8 (List.replicate 64 0)),.row (.slice (some ⟨b18141,0,none⟩) 1 1) 9 1 1 (List.map str [(List.replicate 64 0)]),.row v18201 9 1 a.toNat (List.map str (List.replicate a.toNat (List.replicate 64 0))),.row (.slice (some ⟨b18221,0,none⟩) 1 1) 59 1 1 [v18201]]→W 7 (bz 16 4067) (e9 [(33,(ptr b16081 0)),(34,(ptr b16081 0)),(44,(.slice (some ⟨b18221,0,none⟩) 1 1))]) wS:=by
   intro b18221 b18101 b18141 v18201 wS HS
   rw [hW]
   refine wh1 2<|kH 2 rfl (op_nilCheck rfl (⟨⟨_,HS⟩,?_⟩))
   exact xt 3 rfl (ptr b16081 4) HS (fun _ _ HX=>op_fieldAddr rfl Fa.F193_3 ⟨rfl,rfl⟩)<|WH.cw hW (st9_16 b18221 b18101 b18141 v18201 wS HS)
  have st9_6: ∀(b18101:Nat) (wS:World),Owl.Own [] w wS [a9_0,a9_1,a9_2,a9_3,a9_4,a9_5,a9_6,a9_7,a9_8,a9_9,.row (.slice (some ⟨b18101,0,none⟩) 64 64) 5 1 64 (List.map vU8 (List.replicate 64 0))]→W 8 (bz 16 831) (e9 [(33,(ptr b16081 0)),(37,(.slice none 0 0)),(38,(.slice (some ⟨b18101,0,none⟩) 64 64)),(42,(vN a.toNat))]) wS:=by
   intro b18101 wS HS
   rw [hW]
   refine wh1 6<|kH 6 rfl (op_bytesStr (l:=(List.replicate 64 0)) Tryz.underlying114 Tryz.underlying5 Tryz.underlying9 rfl (HS.arrR (i:=10) rfl) rfl (⟨⟨_,HS⟩,?_⟩))
   exact WH.cw hW (st9_9 b18101 wS HS)
  have st9_7: ∀(b18101:Nat) (wS:World),Owl.Own [] w wS [a9_0,a9_1,a9_2,a9_3,a9_4,a9_5,a9_6,a9_7,a9_8,a9_9,.row (.slice (some ⟨b18101,0,none⟩) 64 64) 5 1 64 (List.map vU8 (List.replicate 64 0))]→W 8 (bz 16 879) (e9 [(33,(ptr b16081 0)),(36,(ptr b16081 4)),(39,(str (List.replicate 64 0))),(42,(vN a.toNat))]) wS:=by
   intro b18101 wS HS
   rw [hW]
   refine wh2 4 7 ?_ ?_
   ·
    refine kH 4 rfl (op_load rfl (HS.cell (i:=9) rfl rfl) Tryz.underlying191 rfl (⟨⟨_,HS⟩,?_⟩))
    exact WH.cw hW (st9_9 b18101 wS HS)
   refine kH 7 rfl (op_buildSlice (cs:=[_]) HS Tryz.underlying59 Fa.I9 rfl rfl rfl rfl (by decide) (by decide) (fun b18141 w18141 H18141=>(⟨⟨_,H18141⟩,?_⟩)))
   exact WH.cw hW (st9_10 b18141 b18101 w18141 H18141)
  have st9_11: ∀(v18201:Value) (b18101:Nat) (b18141:Nat) (wS:World),Owl.Own [] w wS [a9_0,a9_1,a9_2,a9_3,a9_4,a9_5,a9_6,a9_7,a9_8,a9_9,.row (.slice (some ⟨b18101,0,none⟩) 64 64) 5 1 64 (List.map vU8 (List.replicate 64 0)),.row (.slice (some ⟨b18141,0,none⟩) 1 1) 9 1 1 (List.map str [(List.replicate 64 0)]),.row v18201 9 1 a.toNat (List.map str (List.replicate a.toNat (List.replicate 64 0)))]→W 8 (bz 16 2019) (e9 [(33,(ptr b16081 0)),(34,(ptr b16081 0)),(43,v18201)]) wS:=by
   intro v18201 b18101 b18141 wS HS
   rw [hW]
   refine wh2 2 11 ?_ ?_
   ·
    refine kH 2 rfl (op_nilCheck rfl (⟨⟨_,HS⟩,?_⟩))
    exact xt 3 rfl (ptr b16081 4) HS (fun _ _ HX=>op_fieldAddr rfl Fa.F193_3 ⟨rfl,rfl⟩)<|WH.cw hW (st9_13 v18201 b18101 b18141 wS HS)
   refine kH 11 rfl (op_buildSlice (cs:=[v18201]) HS Tryz.underlying191 Fa.I59 rfl rfl (by obtain ⟨_,_,e0,_⟩:=(HS.arrR (i:=12) rfl).form; rw [e0]; rfl) rfl (by decide) (by decide) (fun b18221 w18221 H18221=>?_))
   refine ⟨⟨_,H18221⟩,?_⟩
   exact WH.cw hW (st9_14 b18221 b18101 b18141 v18201 w18221 H18221)
  have st9_3: ∀wS,Owl.Own [] w wS [a9_0,a9_1,a9_2,a9_3,a9_4,a9_5,a9_6,a9_7,a9_8,a9_9]→W 9 (bz 16 799) (e9 [(33,(ptr b16081 0)),(37,(.slice none 0 0)),(42,(vN a.toNat))]) wS:=fun wS HS=>by
   rw [hW]
   refine wh1 5<|kH 5 rfl (op_makeSliceM (f:=vU8) (c:=0) (m:=64) HS Tryz.underlying114 Fa.I5 rfl rfl (by omega) (by omega) (fun b18101 w18101 H18101=>(⟨⟨_,H18101⟩,?_⟩)))
   exact WH.cw hW (st9_6 b18101 w18101 H18101)
  have st9_4: ∀(b18101:Nat) (wS:World),Owl.Own [] w wS [a9_0,a9_1,a9_2,a9_3,a9_4,a9_5,a9_6,a9_7,a9_8,a9_9,.row (.slice (some ⟨b18101,0,none⟩) 64 64) 5 1 64 (List.map vU8 (List.replicate 64 0))]→W 9 (bz 16 815) (e9 [(33,(ptr b16081 0)),(36,(ptr b16081 4)),(38,(.slice (some ⟨b18101,0,none⟩) 64 64)),(42,(vN a.toNat))]) wS:=by
   intro b18101 wS HS
   rw [hW]
   refine wh2 4 6 ?_ ?_
   ·
    refine kH 4 rfl (op_load rfl (HS.cell (i:=9) rfl rfl) Tryz.underlying191 rfl (⟨⟨_,HS⟩,?_⟩))
    exact WH.cw hW (st9_6 b18101 wS HS)
   refine kH 6 rfl (op_bytesStr (l:=(List.replicate 64 0)) Tryz.underlying114 Tryz.underlying5 Tryz.underlying9 rfl (HS.arrR (i:=10) rfl) rfl (⟨⟨_,HS⟩,?_⟩))
   exact WH.cw hW (st9_7 b18101 wS HS)
  have st9_8: ∀(b18141:Nat) (b18101:Nat) (wS:World),Owl.Own [] w wS [a9_0,a9_1,a9_2,a9_3,a9_4,a9_5,a9_6,a9_7,a9_8,a9_9,.row (.slice (some ⟨b18101,0,none⟩) 64 64) 5 1 64 (List.map vU8 (List.replicate 64 0)),.row (.slice (some ⟨b18141,0,none⟩) 1 1) 9 1 1 (List.map str [(List.replicate 64 0)])]→W 9 (bz 16 995) (e9 [(33,(ptr b16081 0)),(34,(ptr b16081 0)),(40,(.slice (some ⟨b18141,0,none⟩) 1 1)),(42,(vN a.toNat))]) wS:=by
   intro b18141 b18101 wS HS
   rw [hW]
   refine wh2 2 10 ?_ ?_
   ·
    refine kH 2 rfl (op_nilCheck rfl (⟨⟨_,HS⟩,?_⟩))
    exact xt 3 rfl (ptr b16081 4) HS (fun _ _ HX=>op_fieldAddr rfl Fa.F193_3 ⟨rfl,rfl⟩)<|WH.cw hW (st9_10 b18141 b18101 wS HS)
   refine kH 10 rfl (op_callF Fa.C129 rfl ((repeatS_ok _ (List.replicate 64 0) a.toNat _ (HS.arrR (i:=11) rfl) (UInt32.toNat_lt _)).mono (fun e w18201 hq=>?_)))
   obtain ⟨v18201,rfl,hq18201⟩:=hq
   refine ⟨_,rfl,?_⟩
   have H18201:=HS.splice [] [] [.row v18201 9 1 a.toNat (List.map str (List.replicate a.toNat (List.replicate 64 0)))] rfl rfl hq18201 (Fits.solid True.intro Fits.nil)
   refine ⟨⟨_,H18201⟩,?_⟩
   exact WH.cw hW (st9_11 v18201 b18101 b18141 w18201 H18201)
  have st9_1: ∀wS,Owl.Own [] w wS [a9_0,a9_1,a9_2,a9_3,a9_4,a9_5,a9_6,a9_7,a9_8,a9_9]→W 10 (bz 16 783) (e9 [(33,(ptr b16081 0)),(36,(ptr b16081 4)),(42,(vN a.toNat))]) wS:=fun wS HS=>by
   rw [hW]
   refine wh2 4 5 ?_ ?_
   ·
    refine kH 4 rfl (op_load rfl (HS.cell (i:=9) rfl rfl) Tryz.underlying191 rfl (⟨⟨_,HS⟩,?_⟩))
    exact WH.cw hW (st9_3 wS HS)
   refine kH 5 rfl (op_makeSliceM (f:=vU8) (c:=0) (m:=64) HS Tryz.underlying114 Fa.I5 rfl rfl (by omega) (by omega) (fun b18101 w18101 H18101=>(⟨⟨_,H18101⟩,?_⟩)))
   exact WH.cw hW (st9_4 b18101 w18101 H18101)
  have st9_5: ∀(b18101:Nat) (wS:World),Owl.Own [] w wS [a9_0,a9_1,a9_2,a9_3,a9_4,a9_5,a9_6,a9_7,a9_8,a9_9,.row (.slice (some ⟨b18101,0,none⟩) 64 64) 5 1 64 (List.map vU8 (List.replicate 64 0))]→W 10 (bz 16 867) (e9 [(33,(ptr b16081 0)),(34,(ptr b16081 0)),(39,(str (List.replicate 64 0))),(42,(vN a.toNat))]) wS:=by
   intro b18101 wS HS
   rw [hW]
   refine wh2 2 7 ?_ ?_
   ·
    refine kH 2 rfl (op_nilCheck rfl (⟨⟨_,HS⟩,?_⟩))
    exact xt 3 rfl (ptr b16081 4) HS (fun _ _ HX=>op_fieldAddr rfl Fa.F193_3 ⟨rfl,rfl⟩)<|WH.cw hW (st9_7 b18101 wS HS)
   refine kH 7 rfl (op_buildSlice (cs:=[_]) HS Tryz.underlying59 Fa.I9 rfl rfl rfl rfl (by decide) (by decide) (fun b18141 w18141 H18141=>(⟨⟨_,H18141⟩,?_⟩)))
   exact WH.cw hW (st9_8 b18141 b18101 w18141 H18141)
  have st9_2: ∀(b18101:Nat) (wS:World),Owl.Own [] w wS [a9_0,a9_1,a9_2,a9_3,a9_4,a9_5,a9_6,a9_7,a9_8,a9_9,.row (.slice (some ⟨b18101,0,none⟩) 64 64) 5 1 64 (List.map vU8 (List.replicate 64 0))]→W 11 (bz 16 803) (e9 [(33,(ptr b16081 0)),(34,(ptr b16081 0)),(38,(.slice (some ⟨b18101,0,none⟩) 64 64)),(42,(vN a.toNat))]) wS:=by
   intro b18101 wS HS
   rw [hW]
   refine wh2 2 6 ?_ ?_
   ·
    refine kH 2 rfl (op_nilCheck rfl (⟨⟨_,HS⟩,?_⟩))
    exact xt 3 rfl (ptr b16081 4) HS (fun _ _ HX=>op_fieldAddr rfl Fa.F193_3 ⟨rfl,rfl⟩)<|WH.cw hW (st9_4 b18101 wS HS)
   refine kH 6 rfl (op_bytesStr (l:=(List.replicate 64 0)) Tryz.underlying114 Tryz.underlying5 Tryz.underlying9 rfl (HS.arrR (i:=10) rfl) rfl (⟨⟨_,HS⟩,?_⟩))
   exact WH.cw hW (st9_5 b18101 wS HS)
  have st9_0: ∀wS,Owl.Own [] w wS [a9_0,a9_1,a9_2,a9_3,a9_4,a9_5,a9_6,a9_7,a9_8,a9_9]→W 12 (bz 16 771) (e9 [(33,(ptr b16081 0)),(34,(ptr b16081 0)),(42,(vN a.toNat))]) wS:=fun wS HS=>by
   rw [hW]
   refine wh2 2 5 ?_ ?_
   ·
    refine kH 2 rfl (op_nilCheck rfl (⟨⟨_,HS⟩,?_⟩))
    exact xt 3 rfl (ptr b16081 4) HS (fun _ _ HX=>op_fieldAddr rfl Fa.F193_3 ⟨rfl,rfl⟩)<|WH.cw hW (st9_1 wS HS)
   refine kH 5 rfl (op_makeSliceM (f:=vU8) (c:=0) (m:=64) HS Tryz.underlying114 Fa.I5 rfl rfl (by omega) (by omega) (fun b18101 w18101 H18101=>(⟨⟨_,H18101⟩,?_⟩)))
   exact WH.cw hW (st9_2 b18101 w18101 H18101)
  have hq:=st9_0 w7 H7
  rw [hW] at hq ⊢
  exact WH.cv hq
 have st5_1: ∀(q16041:Nat) (mb16041:Nat) (wS:World),Owl.Own [] w wS [a5_0,a5_1,a5_2,a5_3,a5_4,Ent.dp grD.list [],a5_5,.blk q16041 [(.map (some mb16041)),(.slice none 0 0),(vN 0)] 264,.obj mb16041 (mP .u16 [] 0)]→W 2 (bz 6 15) (e5 [(24,(.agg #[(vU32 pg),v3,(ptr c2 0),(ptr q16041 0),(.slice none 0 0),(vU32 0)]))]) wS:=by
  intro q16041 mb16041 wS HS
  rw [hW]
  refine wh1 4<|kH 4 rfl (op_box HS rfl rfl (fun b16081 w16081 H16081=>(⟨⟨_,H16081⟩,?_⟩)))
  exact xt 5 rfl (ptr b16081 0) H16081 (fun _ _ HX=>op_assign rfl ⟨rfl,rfl⟩)<|WH.cw hW (st5_2 b16081 q16041 mb16041 w16081 H16081)
 have st5_0: ∀wS,Owl.Own [] w wS [a5_0,a5_1,a5_2,a5_3,a5_4,Ent.dp grD.list [],a5_5]→W 4 (bz 6 3) (e5 [(21,(.agg #[(vU32 pg),v3])),(22,(ptr c2 0))]) wS:=fun wS HS=>by
  rw [hW]
  refine wh1 2<|kH 2 rfl (op_callF Fa.C128 rfl ((nicNew_ok _).mono (fun e w16041 hq=>?_)))
  obtain ⟨q16041,mb16041,rfl,hq16041⟩:=hq
  refine ⟨_,rfl,?_⟩
  have H16041:=HS.splice [] [] [.blk q16041 [(.map (some mb16041)),(.slice none 0 0),(vN 0)] 264,.obj mb16041 (mP .u16 [] 0)] rfl rfl hq16041 (Fits.solid True.intro (Fits.solid True.intro Fits.nil))
  refine ⟨⟨_,H16041⟩,?_⟩
  exact xt 3 rfl (.agg #[(vU32 pg),v3,(ptr c2 0),(ptr q16041 0),(.slice none 0 0),(vU32 0)]) H16041 (fun _ _ HX=>op_build (cs:=[_,_,_,_,_,_]) Fa.I193 Fa.PL193 rfl rfl ⟨rfl,rfl⟩)<|WH.cw hW (st5_1 q16041 mb16041 w16041 H16041)
 have hq:=st5_0 w5 H5
 rw [hW] at hq ⊢
 exact WH.cv hq
theorem exoNew3_ok (pg:UInt32) (lv:Value) (a b:UInt32) (w:World) (hA:Arr w lv 1 2 (List.map vU32 [a,b])) (hok0:hardE pg [a,b]=0) :
  Calls Tryz.prog 37 #[(.agg #[(vU32 pg),lv])] w (fun e w'=> ∃x k hx nv bv c hv mb e0 e1,e=.returned (.tuple #[ptr x 0,vN 0])∧w.heap.size≤k∧(∀b'∈footA hv (List.map vU32 [a,b]),w.heap.size≤b')∧(∀b'∈footA bv [e0,e1],w.heap.size≤b')∧Owl.Own [] w w' [.blk x (xoC k (List.replicate 9 Slt.zero)) 146,Ent.bo k [(vU32 pg),hx,(ptr c 0),nv,bv,(vU32 0)],.blk c [(vU32 pg),hv,(.map (some mb))] 196,Ent.ar hv 1 [a,b].length (List.map vU32 [a,b]),.obj mb (mP .i64 (List.map Gr.me []) 0),Ent.bs 199 Gr.cells Gr.b [],Ent.dp grD.list [],Ent.dp (sltD 211).list (List.replicate 9 Slt.zero),Ent.ar bv 1 2 [e0,e1],.row e1 9 1 b.toNat (List.map str (List.replicate b.toNat (List.replicate 64 0)))]):=by
 refine enter Tryz.func37 rfl rfl ?_
 have H0:=Own.start w []
 refine ws<|wo (op_box H0 rfl rfl (fun b1 w1 H1=>(wa rfl<|wa rfl<|wn<|ws<|wo (op_loadS (vs:=[_,_]) rfl (H1.cells (i:=0) rfl rfl) Tryz.underlying75 rfl Fa.I75 rfl<|wo (op_callF Fa.C83 rfl ((callsNew3_ok pg _ a b _ (H1.arr hA) hok0).mono (fun e w2 hq=>?_)))))))
 obtain ⟨k2,hx2,nv2,bv2,c2,yv2,mb2,e02,e12,rfl,hk2,hv2,hb2,hq2⟩:=hq
 refine ⟨_,rfl,?_⟩
 have H2:=H1.splice [] [] [Ent.bo k2 [(vU32 pg),hx2,(ptr c2 0),nv2,bv2,(vU32 0)],.blk c2 [(vU32 pg),yv2,(.map (some mb2))] 196,Ent.ar yv2 1 ([a,b]).length (List.map vU32 ([a,b])),.obj mb2 (mP .i64 (List.map Gr.me []) 0),Ent.bs 199 Gr.cells Gr.b [],Ent.dp grD.list [],Ent.ar bv2 1 2 [e02,e12],.row e12 9 1 b.toNat (List.map str (List.replicate b.toNat (List.replicate 64 0)))] rfl rfl hq2 (Fits.fresh (fun b hb=>by cases List.mem_singleton.1 hb; exact hk2) (Fits.solid True.intro (Fits.fresh hv2 (Fits.solid True.intro (Fits.solid True.intro (Fits.fresh (fun b hb=>by cases hb) (Fits.fresh hb2 (Fits.solid True.intro Fits.nil))))))))
 refine wm rfl<|we rfl rfl<|we rfl rfl<|wa rfl<|wa rfl<|wn<|WC.seq<|ws<|wm rfl<|wo (op_neqN (b:=0) rfl rfl<|wn<|WC.no rfl (by decide)<|WC.skip<|WQ.next<|ws<|wm rfl<|wo (op_build (cs:=[_,_,_,_,_,_,_,_,_,_,_,_,_,_,_,_,_,_,_,_,_,_,_,_,_,_,_,_,_]) Fa.I146 Fa.PL146 rfl rfl<|wo (op_box H2 rfl rfl (fun b3 w3 H3=>(wa rfl<|wa rfl<|wn<|WC.ret<|WQ.out (.tmp rfl (.tmp rfl .nil)) ?_)))))
 have h:=(H3.dpNil (sltD 211)).dpOf (l:=[]) (l':=List.replicate 9 Slt.zero) (i:=10) rfl (fun w _=>slt_zero_ok) slt_zero_ft
 exact ⟨b3,k2,hx2,nv2,bv2,c2,yv2,mb2,_,_,rfl,Nat.le_trans H1.fr.size hk2,up hv2 H1.fr.size,up hb2 H1.fr.size,h.sel [9,1,2,3,4,5,6,11,7,8] rfl rfl⟩
theorem made3_ok (nb:UInt32) (key:List UInt8) (w:World) (h4:4≤nb.toNat) (hm:nb.toNat≤1024) :
  Calls Tryz.prog 20 #[(vU32 nb),(str key)] w (fun e w'=> ∃s x k hx nv bv c hv mb e0 e1,e=.returned (.tuple #[ptr x 0,ptr s 0])∧w.heap.size≤k∧(∀b'∈footA hv (List.map vU32 [1,nb]),w.heap.size≤b')∧(∀b'∈footA bv [e0,e1],w.heap.size≤b')∧Owl.Own [] w w' [.blk x (xoC k (List.replicate 9 Slt.zero)) 146,Ent.bo k [(vU32 40),hx,(ptr c 0),nv,bv,(vU32 0)],.blk c [(vU32 40),hv,(.map (some mb))] 196,Ent.ar hv 1 [1,nb].length (List.map vU32 [1,nb]),.obj mb (mP .i64 (List.map Gr.me []) 0),Ent.bs 199 Gr.cells Gr.b [],Ent.dp grD.list [],Ent.dp (sltD 211).list (List.replicate 9 Slt.zero),.blk s [(ptr x 0),(vU32 1),(str key),(vN ((nb.toNat-2) / 2)),(vI (-1))] 95,Ent.ar bv 1 2 [e0,e1],.row e1 9 1 nb.toNat (List.map str (List.replicate nb.toNat (List.replicate 64 0)))]):=by
 refine enter Tryz.func20 rfl rfl ?_
 have H0:=Own.start w []
 refine ws<|wa rfl<|wa rfl<|wn<|ws<|wm rfl<|wo (op_buildSlice (cs:=[_,_]) H0 Tryz.underlying73 Fa.I22 rfl rfl rfl rfl (by decide) (by decide) (fun b1 w1 H1=>(wo (op_build (cs:=[_,_]) Fa.I75 Fa.PL75 rfl rfl<|wo (op_callF Fa.C37 rfl ((exoNew3_ok 40 _ 1 nb _ (H1.arrR (i:=0) rfl) (hard_made hm)).mono (fun e w2 hq=>?_)))))))
 obtain ⟨x2,k2,hx2,nv2,bv2,c2,yv2,mb2,e02,e12,rfl,hk2,hv2,hb2,hq2⟩:=hq
 refine ⟨_,rfl,?_⟩
 have H2:=H1.splice [] [] [.blk x2 (xoC k2 (List.replicate 9 Slt.zero)) 146,Ent.bo k2 [(vU32 40),hx2,(ptr c2 0),nv2,bv2,(vU32 0)],.blk c2 [(vU32 40),yv2,(.map (some mb2))] 196,Ent.ar yv2 1 ([1,nb]).length (List.map vU32 ([1,nb])),.obj mb2 (mP .i64 (List.map Gr.me []) 0),Ent.bs 199 Gr.cells Gr.b [],Ent.dp grD.list [],Ent.dp (sltD 211).list (List.replicate 9 Slt.zero),Ent.ar bv2 1 2 [e02,e12],.row e12 9 1 nb.toNat (List.map str (List.replicate nb.toNat (List.replicate 64 0)))] rfl rfl hq2 (Fits.solid True.intro (Fits.fresh (fun b hb=>by cases List.mem_singleton.1 hb; exact hk2) (Fits.solid True.intro (Fits.fresh hv2 (Fits.solid True.intro (Fits.solid True.intro (Fits.fresh (fun b hb=>by cases hb) (Fits.fresh (fun b hb=>by cases slt_zero_ft b hb) (Fits.fresh hb2 (Fits.solid True.intro Fits.nil))))))))))
 refine wm rfl<|we rfl rfl<|we rfl rfl<|wa rfl<|wa rfl<|wn<|WC.seq<|ws<|wm rfl<|wo (op_neqN (b:=0) rfl rfl<|wm rfl<|WL.yes rfl rfl rfl (by decide) rfl (op_move rfl<|WL.yes rfl rfl rfl (by decide) rfl (op_eqlPN Fa.PT47 rfl rfl<|wo (op_pickF rfl (by decide) rfl<|wn<|WC.no rfl rfl<|WC.skip<|WQ.next<|ws<|wm rfl<|wm rfl<|wo (op_callF Fa.C11 rfl ((new44_ok x2 k2 bv2 e12 hx2 (ptr c2 0) nv2 40 2 nb.toNat ([e02,e12]) (List.replicate nb.toNat (List.replicate 64 0)) 1 key _ (cells_pre (H2.cellsAt (i:=1) rfl) 1 rfl) (cells_pre (H2.cellsAtO (i:=2) rfl) 5 rfl) (H2.arrO (i:=9) rfl) (H2.arrR (i:=10) rfl) (by decide) rfl h4 hm).mono (fun e w3 hq=>?_)))))))
 obtain ⟨s3,rfl,hq3⟩:=hq
 refine ⟨_,rfl,?_⟩
 have H3:=H2.splice [] [] [.blk s3 [(ptr x2 0),(vU32 1),(str key),(vN ((nb.toNat-2) / 2)),(vI (-1))] 95] rfl rfl hq3 (Fits.solid True.intro Fits.nil)
 exact wm rfl<|we rfl rfl<|we rfl rfl<|wa rfl<|wa rfl<|wn<|WC.seq<|ws<|wm rfl<|wo (op_neqN (b:=0) rfl rfl<|wn<|WC.no rfl (by decide)<|WC.skip<|WQ.next<|ws<|wm rfl<|wm rfl<|wa rfl<|wa rfl<|wn<|WC.ret<|WQ.out (.tmp rfl (.tmp rfl .nil)) (⟨_,_,_,_,_,_,_,_,_,_,_,rfl,Nat.le_trans H1.fr.size hk2,up hv2 H1.fr.size,up hb2 H1.fr.size,H3.sel [1,2,3,4,5,6,7,8,11,9,10] rfl rfl⟩))
theorem limg1_ok (eb xb nb:Nat) (w:World) (hE:cellsAt w eb [(vN 0)]) :
  CallsD Tryz.prog 88 #[(ptr eb 0),(ptr xb 0),(ptr nb 0)] .returning w (fun e u' w'=>u'=.returning∧(∃v,e=.returned v)∧Fr [] w w'):=by
 refine deferred Tryz.func88 rfl rfl ?_
 have H0:=((Own.start w []).oldB hE)
 exact ws<|wo (op_load rfl (H0.cellO (i:=0) rfl rfl) Tryz.underlying25 rfl<|wo (op_neqN (b:=0) rfl rfl<|wn<|WC.no rfl (by decide)<|WC.skip<|WQ.outEnd .nil (⟨⟨_,rfl⟩,H0.fr⟩)))
theorem limage_no (x k:Nat) (pk:UInt32) (hx nv bv:Value) (c:Nat) (pg:UInt32) (hv:Value) (he:List UInt32) (mb cn:Nat) (gs:List Gr) (sl:List Slt) (l:List Gr) (mp:UInt32) (ev pv sv:Value) (xs:List Xt) (ps:List UInt16) (con:Bool) (en:UInt32) (sg:List Sg) (T:List Nat) (w:World) (H:Owl.Own T w w [.blk x (xoC k sl) 146,Ent.bo k [(vU32 pk),hx,(ptr c 0),nv,bv,(vU32 0)],.blk c [(vU32 pg),hv,(.map (some mb))] 196,Ent.ar hv 1 he.length (List.map vU32 he),.obj mb (mP .i64 (List.map Gr.me gs) cn),Ent.bs 199 Gr.cells Gr.b gs,Ent.dp grD.list gs,Ent.dp (sltD 211).list sl,Ent.ar ev 2 xs.length (List.flatMap xtc xs),Ent.ar pv 1 ps.length (List.map vU16 ps),Ent.ar sv 3 sg.length (List.flatMap sgc sg)]) (hR:CapR gs cn l) (h9:sl.length=9) (hhe:he.length<2^32) (hn:xs.length<2^40) (hm:ps.length<2^40) (hk:sg.length<2^20) (hB: ∀x∈sg,x.b.length≤2^30) (h0:imE mp xs ps en sg=0) (hff:ffS sl≠9) (hw:(grantE pg he l ((ffS sl:Nat):Int) mp xs ps (UInt32.ofNat (if imE mp xs ps en sg=0 then pagesTo sg sg.length else []).length))≠0) :
  Calls Tryz.prog 40 #[(ptr x 0),(.agg #[(vU32 mp),ev,pv,(.bool con),(vU32 en),sv])] w (fun e w'=> ∃cn' gs',e=.returned (.tuple #[vN 0,vN (grantE pg he l ((ffS sl:Nat):Int) mp xs ps (UInt32.ofNat (if imE mp xs ps en sg=0 then pagesTo sg sg.length else []).length))])∧CapR gs' cn' (grantG pg he l ((ffS sl:Nat):Int) mp xs ps con (UInt32.ofNat (if imE mp xs ps en sg=0 then pagesTo sg sg.length else []).length))∧DpTo w gs gs'∧Owl.Own T w w' [.blk x (xoC k sl) 146,Ent.bo k [(vU32 pk),hx,(ptr c 0),nv,bv,(vU32 0)],.blk c [(vU32 pg),hv,(.map (some mb))] 196,Ent.ar hv 1 he.length (List.map vU32 he),.obj mb (mP .i64 (List.map Gr.me gs') cn'),Ent.bs 199 Gr.cells Gr.b gs',Ent.dp grD.list gs',Ent.dp (sltD 211).list sl,Ent.ar ev 2 xs.length (List.flatMap xtc xs),Ent.ar pv 1 ps.length (List.map vU16 ps),Ent.ar sv 3 sg.length (List.flatMap sgc sg)]):=by
 refine enterD Tryz.func40 rfl rfl ?_
 have hB47: ∀x∈sg,x.b.length≤2^47:=fun x hx=>Nat.le_trans (hB x hx) (by decide)
 refine ws<|wo (op_box H rfl rfl (fun b1 w1 H1=>(wo (op_box H1 rfl rfl (fun b2 w2 H2=>(wa rfl<|wo (op_alloc H2 Fa.I25 (fun b3 w3 H3=>(wn<|WC.seq<|ws<|wo (op_load rfl (H3.cell (i:=11) rfl rfl) Tryz.underlying47 rfl<|wo (op_eqlPN Fa.PT47 rfl rfl<|wn<|WC.no rfl rfl<|WC.skip<|WQ.next<|ws<|wo (op_loadS (vs:=[_,_,_,_,_,_]) rfl (H3.cells (i:=12) rfl rfl) Tryz.underlying43 rfl Fa.I43 rfl<|wo (op_callF Fa.C32 rfl ((lspace_yes mp _ _ _ xs ps con en sg _ (H3.arrO (i:=8) rfl) (H3.arrO (i:=9) rfl) (H3.arrO (i:=10) rfl) (by omega) (by omega) (by omega) hB47 h0).mono (fun e w4 hq=>?_)))))))))))))))
 obtain ⟨s4,mb4,c4,qs4,rfl,hr4,hq4⟩:=hq
 refine ⟨_,rfl,?_⟩
 have H4:=H3.splice [] [] [.blk s4 [(.map (some mb4))] 165,.obj mb4 (mP .u32 (List.map Pg.me qs4) c4),Ent.bs 211 Pg.cells Pg.b qs4] rfl rfl hq4 (Fits.solid True.intro (Fits.solid True.intro (Fits.solid True.intro Fits.nil)))
 refine wm rfl<|we rfl rfl<|we rfl rfl<|wa rfl<|wo (op_storeB (i:=13) H4 rfl rfl rfl rfl rfl Fa.I25 (fun w5 H5=>(wn<|WC.seq<|ws<|wo (op_load rfl (H5.cell (i:=13) rfl rfl) Tryz.underlying25 rfl ?_))))
 have H6:=H5.sel [8,9,10,11,12,14,15,16,13,0,1,2,3,4,5,6,7] rfl rfl
 refine wo (op_neqN (b:=0) rfl rfl<|wn<|WC.no rfl (by decide)<|WC.skip<|WQ.next<|WC.seq<|WC.held 13 rfl Fa.M H6 (fun w'=> ∃L',Owl.Own T w w' ([Ent.ar ev 2 xs.length (List.flatMap xtc xs),Ent.ar pv 1 ps.length (List.map vU16 ps),Ent.ar sv 3 sg.length (List.flatMap sgc sg),.blk b1 [(ptr x 0)] 47,.blk b2 [(vU32 mp),ev,pv,(.bool con),(vU32 en),sv] 43,.blk s4 [(.map (some mb4))] 165,.obj mb4 (mP .u32 (List.map Pg.me qs4) c4),Ent.bs 211 Pg.cells Pg.b qs4]++L')) ?_)
 intro w7 H7
 refine xt 0 rfl (ptr x 0) H7 (fun _ _ HX=>op_load rfl (HX.cell (i:=3) rfl rfl) Tryz.underlying47 rfl ⟨rfl,rfl⟩)<|xt 1 rfl (ptr b2 0) H7 (fun _ _ HX=>op_fieldAddr rfl Fa.F43_0 ⟨rfl,rfl⟩)<|xt 2 rfl (.agg #[(vU32 mp),ev,pv,(.bool con)]) H7 (fun _ _ HX=>op_loadS (vs:=[_,_,_,_]) rfl (HX.cells (i:=4) rfl rfl) Tryz.underlying40 rfl Fa.I40 rfl ⟨rfl,rfl⟩)<|xt 3 rfl (.agg #[(vU32 mp),ev,pv,(.bool con),(vU32 en),sv]) H7 (fun _ _ HX=>op_loadS (vs:=[_,_,_,_,_,_]) rfl (HX.cells (i:=4) rfl rfl) Tryz.underlying43 rfl Fa.I43 rfl ⟨rfl,rfl⟩)<|WH.named (fun W hW=>?_)
 let e6:List (Nat × Value)→List (Nat × Value):=fun r=>(0,(ptr x 0))::(1,(.agg #[(vU32 mp),ev,pv,(.bool con),(vU32 en),sv]))::(2,(ptr b1 0))::(3,(ptr b2 0))::(4,(vN 0))::(5,(ptr b3 0))::(6,(ptr s4 0))::(9,(ptr x 0))::(10,(.bool false))::(11,(.tuple #[(ptr s4 0),(vN 0)]))::(12,(.agg #[(vU32 mp),ev,pv,(.bool con),(vU32 en),sv]))::(13,(.tuple #[(ptr s4 0),(vN 0)]))::(14,(ptr s4 0))::(15,(vN 0))::(16,(vN 0))::(17,(.bool (decide (0≠0))))::r
 let a6_0:Ent:=Ent.ar ev 2 xs.length (List.flatMap xtc xs)
 let a6_1:Ent:=Ent.ar pv 1 ps.length (List.map vU16 ps)
 let a6_2:Ent:=Ent.ar sv 3 sg.length (List.flatMap sgc sg)
 let a6_3:Ent:=.blk b1 [(ptr x 0)] 47
 let a6_4:Ent:=.blk b2 [(vU32 mp),ev,pv,(.bool con),(vU32 en),sv] 43
 let a6_5:Ent:=.blk s4 [(.map (some mb4))] 165
 let a6_6:Ent:=.obj mb4 (mP .u32 (List.map Pg.me qs4) c4)
 let a6_7:Ent:=Ent.bs 211 Pg.cells Pg.b qs4
 let a6_8:Ent:=.blk b3 [(vN 0)] 25
 let a6_9:Ent:=.blk x (xoC k sl) 146
 let a6_10:Ent:=Ent.bo k [(vU32 pk),hx,(ptr c 0),nv,bv,(vU32 0)]
 let a6_11:Ent:=.blk c [(vU32 pg),hv,(.map (some mb))] 196
 let a6_12:Ent:=Ent.ar hv 1 he.length (List.map vU32 he)
 let a6_13:Ent:=.obj mb (mP .i64 (List.map Gr.me gs) cn)
 let a6_14:Ent:=Ent.bs 199 Gr.cells Gr.b gs
 let a6_15:Ent:=Ent.dp grD.list gs
 let a6_16:Ent:=Ent.dp (sltD 211).list sl
 have st6_9: ∀(b18201:Nat) (gs18121:List Gr) (cn18121:Nat) (v18081:Value) (wS:World),Owl.Own T w wS [a6_0,a6_1,a6_2,a6_3,a6_4,a6_5,a6_6,a6_7,.blk b3 [(vN (grantE pg he l ((ffS sl:Nat):Int) mp xs ps (UInt32.ofNat (if imE mp xs ps en sg=0 then pagesTo sg sg.length else []).length)))] 25,a6_9,a6_10,a6_11,a6_12,.obj mb (mP .i64 (List.map Gr.me gs18121) cn18121),Ent.bs 199 Gr.cells Gr.b gs18121,Ent.dp grD.list gs18121,a6_16,.row v18081 22 1 (if imE mp xs ps en sg=0 then pagesTo sg sg.length else []).length (List.map vU32 (if imE mp xs ps en sg=0 then pagesTo sg sg.length else [])),Ent.fact (CapR gs18121 cn18121 (grantG pg he l ((ffS sl:Nat):Int) mp xs ps con (UInt32.ofNat (if imE mp xs ps en sg=0 then pagesTo sg sg.length else []).length))∧DpTo w gs gs18121),.blk b18201 [(vN 0)] 3]→W 0 (bz 13 8191) (e6 [(7,(ptr b18201 0))]) wS:=by
  intro b18201 gs18121 cn18121 v18081 wS HS
  rw [hW]
  refine WH.done (by kernel_rfl)<|WQ.next<|WC.seq<|ws ?_
  have hiF:=HS.fact (i:=18) rfl
  refine wo (op_load rfl (HS.cell (i:=8) rfl rfl) Tryz.underlying25 rfl<|wo (op_neqN (b:=0) rfl rfl<|wn<|WC.yes rfl (decide_eq_true hw)<|WC.seq<|WC.draw 2 Fa.M HS (oh (fun w1 H1=>op_load rfl (H1.cell (i:=8) rfl rfl) Tryz.underlying25 rfl zr)<|ah rfl  HW.nil) (by kernel_rfl) ?_))
  intro β9 w9 H9
  exact wo (op_storeB (i:=8) H9 rfl rfl rfl rfl rfl Fa.I25 (fun w10 H10=>(wn<|WC.ret<|WQ.thenRet<|WQ.outD0 (.tmp rfl (.cell rfl (run_loadVar1 (H10.cell (i:=8) rfl rfl) Tryz.underlying25 rfl) .nil)) (⟨_,_,rfl,hiF.1,hiF.2,H10.sel [9,10,11,12,13,14,15,16,0,1,2] rfl rfl⟩))))
 have st6_8: ∀(b18201:Nat) (gs18121:List Gr) (cn18121:Nat) (v18081:Value) (wS:World),Owl.Own T w wS [a6_0,a6_1,a6_2,a6_3,a6_4,a6_5,a6_6,a6_7,a6_8,a6_9,a6_10,a6_11,a6_12,.obj mb (mP .i64 (List.map Gr.me gs18121) cn18121),Ent.bs 199 Gr.cells Gr.b gs18121,Ent.dp grD.list gs18121,a6_16,.row v18081 22 1 (if imE mp xs ps en sg=0 then pagesTo sg sg.length else []).length (List.map vU32 (if imE mp xs ps en sg=0 then pagesTo sg sg.length else [])),Ent.fact (CapR gs18121 cn18121 (grantG pg he l ((ffS sl:Nat):Int) mp xs ps con (UInt32.ofNat (if imE mp xs ps en sg=0 then pagesTo sg sg.length else []).length))∧DpTo w gs gs18121),.blk b18201 [(vN 0)] 3]→W 1 (bz 13 4095) (e6 [(7,(ptr b18201 0)),(28,(vN (grantE pg he l ((ffS sl:Nat):Int) mp xs ps (UInt32.ofNat (if imE mp xs ps en sg=0 then pagesTo sg sg.length else []).length))))]) wS:=by
  intro b18201 gs18121 cn18121 v18081 wS HS
  rw [hW]
  refine wh1 12<|kH 12 rfl (op_storeB (i:=8) HS rfl rfl rfl rfl rfl Fa.I25 (fun w18241 H18241=>(⟨⟨_,H18241⟩,?_⟩)))
  exact WH.cw hW (st6_9 b18201 gs18121 cn18121 v18081 w18241 H18241)
 have st6_7: ∀(b18201:Nat) (gs18121:List Gr) (cn18121:Nat) (v18081:Value) (wS:World),Owl.Own T w wS [a6_0,a6_1,a6_2,a6_3,a6_4,a6_5,a6_6,a6_7,a6_8,a6_9,a6_10,a6_11,a6_12,.obj mb (mP .i64 (List.map Gr.me gs18121) cn18121),Ent.bs 199 Gr.cells Gr.b gs18121,Ent.dp grD.list gs18121,a6_16,.row v18081 22 1 (if imE mp xs ps en sg=0 then pagesTo sg sg.length else []).length (List.map vU32 (if imE mp xs ps en sg=0 then pagesTo sg sg.length else [])),Ent.fact (CapR gs18121 cn18121 (grantG pg he l ((ffS sl:Nat):Int) mp xs ps con (UInt32.ofNat (if imE mp xs ps en sg=0 then pagesTo sg sg.length else []).length))∧DpTo w gs gs18121),.blk b18201 [(vN 0)] 3]→W 2 (bz 13 2047) (e6 [(7,(ptr b18201 0)),(27,(vN 0)),(28,(vN (grantE pg he l ((ffS sl:Nat):Int) mp xs ps (UInt32.ofNat (if imE mp xs ps en sg=0 then pagesTo sg sg.length else []).length))))]) wS:=by
  intro b18201 gs18121 cn18121 v18081 wS HS
  rw [hW]
  refine wh1 11<|kH 11 rfl (op_storeB (i:=19) HS rfl rfl rfl rfl rfl Fa.I3 (fun w18221 H18221=>(⟨⟨_,H18221⟩,?_⟩)))
  exact WH.cw hW (st6_8 b18201 gs18121 cn18121 v18081 w18221 H18221)
 have st6_5: ∀(gs18121:List Gr) (cn18121:Nat) (v18081:Value) (wS:World),Owl.Own T w wS [a6_0,a6_1,a6_2,a6_3,a6_4,a6_5,a6_6,a6_7,a6_8,a6_9,a6_10,a6_11,a6_12,.obj mb (mP .i64 (List.map Gr.me gs18121) cn18121),Ent.bs 199 Gr.cells Gr.b gs18121,Ent.dp grD.list gs18121,a6_16,.row v18081 22 1 (if imE mp xs ps en sg=0 then pagesTo sg sg.length else []).length (List.map vU32 (if imE mp xs ps en sg=0 then pagesTo sg sg.length else [])),Ent.fact (CapR gs18121 cn18121 (grantG pg he l ((ffS sl:Nat):Int) mp xs ps con (UInt32.ofNat (if imE mp xs ps en sg=0 then pagesTo sg sg.length else []).length))∧DpTo w gs gs18121)]→W 3 (bz 13 1023) (e6 [(27,(vN 0)),(28,(vN (grantE pg he l ((ffS sl:Nat):Int) mp xs ps (UInt32.ofNat (if imE mp xs ps en sg=0 then pagesTo sg sg.length else []).length))))]) wS:=by
  intro gs18121 cn18121 v18081 wS HS
  rw [hW]
  refine wh1 10<|kH 10 rfl (op_alloc HS Fa.I3 (fun b18201 w18201 H18201=>(⟨⟨_,H18201⟩,?_⟩)))
  exact WH.cw hW (st6_7 b18201 gs18121 cn18121 v18081 w18201 H18201)
 have st6_6: ∀(b18201:Nat) (v18081:Value) (wS:World),Owl.Own T w wS [a6_0,a6_1,a6_2,a6_3,a6_4,a6_5,a6_6,a6_7,a6_8,a6_9,a6_10,a6_11,a6_12,a6_13,a6_14,a6_15,a6_16,.row v18081 22 1 (if imE mp xs ps en sg=0 then pagesTo sg sg.length else []).length (List.map vU32 (if imE mp xs ps en sg=0 then pagesTo sg sg.length else [])),.blk b18201 [(vN 0)] 3]→W 6 (bz 13 1087) (e6 [(7,(ptr b18201 0)),(20,(ptr x 0)),(22,(.agg #[(vU32 mp),ev,pv,(.bool con)])),(25,(vN (if imE mp xs ps en sg=0 then pagesTo sg sg.length else []).length))]) wS:=by
  intro b18201 v18081 wS HS
  rw [hW]
  refine wh1 6<|kH 6 rfl (op_callF Fa.C86 rfl ((admit_no x k pk hx nv bv c pg hv he mb cn gs sl l mp ev pv xs ps con ((if imE mp xs ps en sg=0 then pagesTo sg sg.length else []).length) _ _ (HS.part [9,10,11,12,13,14,15,16,0,1] rfl rfl) hR h9 hhe hn hm (img_N h0 hB47) hff hw).mono (fun e w18121 hq=>?_)))
  obtain ⟨cn18121,gs18121,rfl,hi18121,hd18121,hq18121⟩:=hq
  refine ⟨_,rfl,?_⟩
  have H18121:=HS.splice [9,10,11,12,13,14,15,16,0,1] [.blk x (xoC k sl) 146,Ent.bo k [(vU32 pk),hx,(ptr c 0),nv,bv,(vU32 0)],.blk c [(vU32 pg),hv,(.map (some mb))] 196,Ent.ar hv 1 he.length (List.map vU32 he),.obj mb (mP .i64 (List.map Gr.me gs18121) cn18121),Ent.bs 199 Gr.cells Gr.b gs18121,Ent.dp grD.list gs18121,Ent.dp (sltD 211).list sl,Ent.ar ev 2 xs.length (List.flatMap xtc xs),Ent.ar pv 1 ps.length (List.map vU16 ps)] [] rfl rfl hq18121 (Fits.solid True.intro (Fits.same (j:=1) rfl (Fits.solid True.intro (Fits.same (j:=3) rfl (Fits.solid True.intro (Fits.solid True.intro (Fits.dpTo 6 rfl hd18121 (Fits.same (j:=7) rfl (Fits.same (j:=8) rfl (Fits.same (j:=9) rfl Fits.nil))))))))))
  have H18121f:=H18121.addFact (p:=CapR gs18121 cn18121 (grantG pg he l ((ffS sl:Nat):Int) mp xs ps con (UInt32.ofNat (if imE mp xs ps en sg=0 then pagesTo sg sg.length else []).length))∧DpTo w gs gs18121) ⟨hi18121,hd18121.mono HS.fr.size⟩
  refine ⟨⟨_,H18121f⟩,?_⟩
  exact xt 7 rfl (.tuple #[(vN 0),(vN (grantE pg he l ((ffS sl:Nat):Int) mp xs ps (UInt32.ofNat (if imE mp xs ps en sg=0 then pagesTo sg sg.length else []).length)))]) H18121f (fun _ _ HX=>op_move rfl ⟨rfl,rfl⟩)<|xt 8 rfl (vN 0) H18121f (fun _ _ HX=>op_extract rfl rfl ⟨rfl,rfl⟩)<|xt 9 rfl (vN (grantE pg he l ((ffS sl:Nat):Int) mp xs ps (UInt32.ofNat (if imE mp xs ps en sg=0 then pagesTo sg sg.length else []).length))) H18121f (fun _ _ HX=>op_extract rfl rfl ⟨rfl,rfl⟩)<|WH.cw hW (st6_7 b18201 gs18121 cn18121 v18081 w18121 (H18121f.sel [0,1,2,3,4,5,6,7,8,9,10,11,12,13,14,15,16,17,19,18] rfl rfl))
 have st6_3: ∀(v18081:Value) (wS:World),Owl.Own T w wS [a6_0,a6_1,a6_2,a6_3,a6_4,a6_5,a6_6,a6_7,a6_8,a6_9,a6_10,a6_11,a6_12,a6_13,a6_14,a6_15,a6_16,.row v18081 22 1 (if imE mp xs ps en sg=0 then pagesTo sg sg.length else []).length (List.map vU32 (if imE mp xs ps en sg=0 then pagesTo sg sg.length else []))]→W 7 (bz 13 63) (e6 [(20,(ptr x 0)),(22,(.agg #[(vU32 mp),ev,pv,(.bool con)])),(25,(vN (if imE mp xs ps en sg=0 then pagesTo sg sg.length else []).length))]) wS:=by
  intro v18081 wS HS
  rw [hW]
  refine wh2 6 10 ?_ ?_
  ·
   refine kH 6 rfl (op_callF Fa.C86 rfl ((admit_no x k pk hx nv bv c pg hv he mb cn gs sl l mp ev pv xs ps con ((if imE mp xs ps en sg=0 then pagesTo sg sg.length else []).length) _ _ (HS.part [9,10,11,12,13,14,15,16,0,1] rfl rfl) hR h9 hhe hn hm (img_N h0 hB47) hff hw).mono (fun e w18121 hq=>?_)))
   obtain ⟨cn18121,gs18121,rfl,hi18121,hd18121,hq18121⟩:=hq
   refine ⟨_,rfl,?_⟩
   have H18121:=HS.splice [9,10,11,12,13,14,15,16,0,1] [.blk x (xoC k sl) 146,Ent.bo k [(vU32 pk),hx,(ptr c 0),nv,bv,(vU32 0)],.blk c [(vU32 pg),hv,(.map (some mb))] 196,Ent.ar hv 1 he.length (List.map vU32 he),.obj mb (mP .i64 (List.map Gr.me gs18121) cn18121),Ent.bs 199 Gr.cells Gr.b gs18121,Ent.dp grD.list gs18121,Ent.dp (sltD 211).list sl,Ent.ar ev 2 xs.length (List.flatMap xtc xs),Ent.ar pv 1 ps.length (List.map vU16 ps)] [] rfl rfl hq18121 (Fits.solid True.intro (Fits.same (j:=1) rfl (Fits.solid True.intro (Fits.same (j:=3) rfl (Fits.solid True.intro (Fits.solid True.intro (Fits.dpTo 6 rfl hd18121 (Fits.same (j:=7) rfl (Fits.same (j:=8) rfl (Fits.same (j:=9) rfl Fits.nil))))))))))
   have H18121f:=H18121.addFact (p:=CapR gs18121 cn18121 (grantG pg he l ((ffS sl:Nat):Int) mp xs ps con (UInt32.ofNat (if imE mp xs ps en sg=0 then pagesTo sg sg.length else []).length))∧DpTo w gs gs18121) ⟨hi18121,hd18121.mono HS.fr.size⟩
   refine ⟨⟨_,H18121f⟩,?_⟩
   exact xt 7 rfl (.tuple #[(vN 0),(vN (grantE pg he l ((ffS sl:Nat):Int) mp xs ps (UInt32.ofNat (if imE mp xs ps en sg=0 then pagesTo sg sg.length else []).length)))]) H18121f (fun _ _ HX=>op_move rfl ⟨rfl,rfl⟩)<|xt 8 rfl (vN 0) H18121f (fun _ _ HX=>op_extract rfl rfl ⟨rfl,rfl⟩)<|xt 9 rfl (vN (grantE pg he l ((ffS sl:Nat):Int) mp xs ps (UInt32.ofNat (if imE mp xs ps en sg=0 then pagesTo sg sg.length else []).length))) H18121f (fun _ _ HX=>op_extract rfl rfl ⟨rfl,rfl⟩)<|WH.cw hW (st6_5 gs18121 cn18121 v18081 w18121 H18121f)
  refine kH 10 rfl (op_alloc HS Fa.I3 (fun b18201 w18201 H18201=>(⟨⟨_,H18201⟩,?_⟩)))
  exact WH.cw hW (st6_6 b18201 v18081 w18201 H18201)
 have st6_4: ∀(b18201:Nat) (v18081:Value) (wS:World),Owl.Own T w wS [a6_0,a6_1,a6_2,a6_3,a6_4,a6_5,a6_6,a6_7,a6_8,a6_9,a6_10,a6_11,a6_12,a6_13,a6_14,a6_15,a6_16,.row v18081 22 1 (if imE mp xs ps en sg=0 then pagesTo sg sg.length else []).length (List.map vU32 (if imE mp xs ps en sg=0 then pagesTo sg sg.length else [])),.blk b18201 [(vN 0)] 3]→W 7 (bz 13 1055) (e6 [(7,(ptr b18201 0)),(20,(ptr x 0)),(22,(.agg #[(vU32 mp),ev,pv,(.bool con)])),(24,v18081)]) wS:=by
  intro b18201 v18081 wS HS
  rw [hW]
  refine wh1 5<|kH 5 rfl (op_lenA Tryz.underlying73 rfl (HS.arrR (i:=17) rfl) (⟨⟨_,HS⟩,?_⟩))
  exact WH.cw hW (st6_6 b18201 v18081 wS HS)
 have st6_1: ∀(v18081:Value) (wS:World),Owl.Own T w wS [a6_0,a6_1,a6_2,a6_3,a6_4,a6_5,a6_6,a6_7,a6_8,a6_9,a6_10,a6_11,a6_12,a6_13,a6_14,a6_15,a6_16,.row v18081 22 1 (if imE mp xs ps en sg=0 then pagesTo sg sg.length else []).length (List.map vU32 (if imE mp xs ps en sg=0 then pagesTo sg sg.length else []))]→W 8 (bz 13 31) (e6 [(20,(ptr x 0)),(22,(.agg #[(vU32 mp),ev,pv,(.bool con)])),(24,v18081)]) wS:=by
  intro v18081 wS HS
  rw [hW]
  refine wh2 5 10 ?_ ?_
  ·
   refine kH 5 rfl (op_lenA Tryz.underlying73 rfl (HS.arrR (i:=17) rfl) (⟨⟨_,HS⟩,?_⟩))
   exact WH.cw hW (st6_3 v18081 wS HS)
  refine kH 10 rfl (op_alloc HS Fa.I3 (fun b18201 w18201 H18201=>(⟨⟨_,H18201⟩,?_⟩)))
  exact WH.cw hW (st6_4 b18201 v18081 w18201 H18201)
 have st6_2: ∀(b18201:Nat) (wS:World),Owl.Own T w wS [a6_0,a6_1,a6_2,a6_3,a6_4,a6_5,a6_6,a6_7,a6_8,a6_9,a6_10,a6_11,a6_12,a6_13,a6_14,a6_15,a6_16,.blk b18201 [(vN 0)] 3]→W 8 (bz 13 1039) (e6 [(7,(ptr b18201 0)),(20,(ptr x 0)),(22,(.agg #[(vU32 mp),ev,pv,(.bool con)])),(23,(.agg #[(vU32 mp),ev,pv,(.bool con),(vU32 en),sv]))]) wS:=by
  intro b18201 wS HS
  rw [hW]
  refine wh1 4<|kH 4 rfl (op_callF Fa.C87 rfl ((ipgs_ok mp _ _ _ xs ps con en sg _ (HS.arrO (i:=0) rfl) (HS.arrO (i:=1) rfl) (HS.arrO (i:=2) rfl) (by omega) (by omega) (by omega) hB (by omega)).mono (fun e w18081 hq=>?_)))
  obtain ⟨v18081,rfl,hq18081⟩:=hq
  refine ⟨_,rfl,?_⟩
  have H18081:=HS.splice [] [] [.row v18081 22 1 (if imE mp xs ps en sg=0 then pagesTo sg sg.length else []).length (List.map vU32 (if imE mp xs ps en sg=0 then pagesTo sg sg.length else []))] rfl rfl hq18081 (Fits.solid True.intro Fits.nil)
  refine ⟨⟨_,H18081⟩,?_⟩
  exact WH.cw hW (st6_4 b18201 v18081 w18081 (H18081.sel [0,1,2,3,4,5,6,7,8,9,10,11,12,13,14,15,16,18,17] rfl rfl))
 have st6_0: ∀wS,Owl.Own T w wS [a6_0,a6_1,a6_2,a6_3,a6_4,a6_5,a6_6,a6_7,a6_8,a6_9,a6_10,a6_11,a6_12,a6_13,a6_14,a6_15,a6_16]→W 9 (bz 13 15) (e6 [(20,(ptr x 0)),(22,(.agg #[(vU32 mp),ev,pv,(.bool con)])),(23,(.agg #[(vU32 mp),ev,pv,(.bool con),(vU32 en),sv]))]) wS:=fun wS HS=>by
  rw [hW]
  refine wh2 4 10 ?_ ?_
  ·
   refine kH 4 rfl (op_callF Fa.C87 rfl ((ipgs_ok mp _ _ _ xs ps con en sg _ (HS.arrO (i:=0) rfl) (HS.arrO (i:=1) rfl) (HS.arrO (i:=2) rfl) (by omega) (by omega) (by omega) hB (by omega)).mono (fun e w18081 hq=>?_)))
   obtain ⟨v18081,rfl,hq18081⟩:=hq
   refine ⟨_,rfl,?_⟩
   have H18081:=HS.splice [] [] [.row v18081 22 1 (if imE mp xs ps en sg=0 then pagesTo sg sg.length else []).length (List.map vU32 (if imE mp xs ps en sg=0 then pagesTo sg sg.length else []))] rfl rfl hq18081 (Fits.solid True.intro Fits.nil)
   refine ⟨⟨_,H18081⟩,?_⟩
   exact WH.cw hW (st6_1 v18081 w18081 H18081)
  refine kH 10 rfl (op_alloc HS Fa.I3 (fun b18201 w18201 H18201=>(⟨⟨_,H18201⟩,?_⟩)))
  exact WH.cw hW (st6_2 b18201 w18201 H18201)
 have hq:=st6_0 w7 H7
 rw [hW] at hq ⊢
 exact WH.cv hq
theorem limage_yes (x k:Nat) (pk:UInt32) (hx nv bv:Value) (c:Nat) (pg:UInt32) (hv:Value) (he:List UInt32) (mb cn:Nat) (gs:List Gr) (sl:List Slt) (l:List Gr) (mp:UInt32) (ev pv sv:Value) (xs:List Xt) (ps:List UInt16) (con:Bool) (en:UInt32) (sg:List Sg) (T:List Nat) (w:World) (H:Owl.Own T w w [.blk x (xoC k sl) 146,Ent.bo k [(vU32 pk),hx,(ptr c 0),nv,bv,(vU32 0)],.blk c [(vU32 pg),hv,(.map (some mb))] 196,Ent.ar hv 1 he.length (List.map vU32 he),.obj mb (mP .i64 (List.map Gr.me gs) cn),Ent.bs 199 Gr.cells Gr.b gs,Ent.dp grD.list gs,Ent.dp (sltD 211).list sl,Ent.ar ev 2 xs.length (List.flatMap xtc xs),Ent.ar pv 1 ps.length (List.map vU16 ps),Ent.ar sv 3 sg.length (List.flatMap sgc sg)]) (hR:CapR gs cn l) (h9:sl.length=9) (hhe:he.length<2^32) (hn:xs.length<2^40) (hm:ps.length<2^40) (hk:sg.length<2^20) (hB: ∀x∈sg,x.b.length≤2^30) (h0:imE mp xs ps en sg=0) (hff:ffS sl≠9) (hw:(grantE pg he l ((ffS sl:Nat):Int) mp xs ps (UInt32.ofNat (if imE mp xs ps en sg=0 then pagesTo sg sg.length else []).length))=0) :
  Calls Tryz.prog 40 #[(ptr x 0),(.agg #[(vU32 mp),ev,pv,(.bool con),(vU32 en),sv])] w (fun e w'=> ∃cn' gs' a,e=.returned (.tuple #[vN (ffS sl),vN 0])∧CapR gs' cn' (grantG pg he l ((ffS sl:Nat):Int) mp xs ps con (UInt32.ofNat (if imE mp xs ps en sg=0 then pagesTo sg sg.length else []).length))∧(MEok (List.map Pg.me a.ps) a.cn∧(a.ps.map Pg.bare).Perm (imgP sg sg.length)∧a.num=(ffS sl)∧a.pc=en)∧DpTo w gs gs'∧SltTo 211 w sl (sl.set (ffS sl) ⟨true,(if imE mp xs ps en sg=0 then pagesTo sg sg.length else []).length,some a⟩)∧Owl.Own T w w' [.blk x (xoC k (sl.set (ffS sl) ⟨true,(if imE mp xs ps en sg=0 then pagesTo sg sg.length else []).length,some a⟩)) 146,Ent.bo k [(vU32 pk),hx,(ptr c 0),nv,bv,(vU32 0)],.blk c [(vU32 pg),hv,(.map (some mb))] 196,Ent.ar hv 1 he.length (List.map vU32 he),.obj mb (mP .i64 (List.map Gr.me gs') cn'),Ent.bs 199 Gr.cells Gr.b gs',Ent.dp grD.list gs',Ent.dp (sltD 211).list (sl.set (ffS sl) ⟨true,(if imE mp xs ps en sg=0 then pagesTo sg sg.length else []).length,some a⟩),Ent.ar ev 2 xs.length (List.flatMap xtc xs),Ent.ar pv 1 ps.length (List.map vU16 ps),Ent.ar sv 3 sg.length (List.flatMap sgc sg)]):=by
 refine enterD Tryz.func40 rfl rfl ?_
 have hB47: ∀x∈sg,x.b.length≤2^47:=fun x hx=>Nat.le_trans (hB x hx) (by decide)
 have hf9:ffS sl<9:=Nat.lt_of_le_of_ne (ffS_le h9) hff
 refine ws<|wo (op_box H rfl rfl (fun b1 w1 H1=>(wo (op_box H1 rfl rfl (fun b2 w2 H2=>(wa rfl<|wo (op_alloc H2 Fa.I25 (fun b3 w3 H3=>(wn<|WC.seq<|ws<|wo (op_load rfl (H3.cell (i:=11) rfl rfl) Tryz.underlying47 rfl<|wo (op_eqlPN Fa.PT47 rfl rfl<|wn<|WC.no rfl rfl<|WC.skip<|WQ.next<|ws<|wo (op_loadS (vs:=[_,_,_,_,_,_]) rfl (H3.cells (i:=12) rfl rfl) Tryz.underlying43 rfl Fa.I43 rfl<|wo (op_callF Fa.C32 rfl ((lspace_yes mp _ _ _ xs ps con en sg _ (H3.arrO (i:=8) rfl) (H3.arrO (i:=9) rfl) (H3.arrO (i:=10) rfl) (by omega) (by omega) (by omega) hB47 h0).mono (fun e w4 hq=>?_)))))))))))))))
 obtain ⟨s4,mb4,c4,qs4,rfl,hr4,hq4⟩:=hq
 refine ⟨_,rfl,?_⟩
 have H4:=H3.splice [] [] [.blk s4 [(.map (some mb4))] 165,.obj mb4 (mP .u32 (List.map Pg.me qs4) c4),Ent.bs 211 Pg.cells Pg.b qs4] rfl rfl hq4 (Fits.solid True.intro (Fits.solid True.intro (Fits.solid True.intro Fits.nil)))
 refine wm rfl<|we rfl rfl<|we rfl rfl<|wa rfl<|wo (op_storeB (i:=13) H4 rfl rfl rfl rfl rfl Fa.I25 (fun w5 H5=>(wn<|WC.seq<|ws<|wo (op_load rfl (H5.cell (i:=13) rfl rfl) Tryz.underlying25 rfl ?_))))
 have H6:Owl.Own T w w5 [Ent.ar ev 2 xs.length (List.flatMap xtc xs),Ent.ar pv 1 ps.length (List.map vU16 ps),Ent.ar sv 3 sg.length (List.flatMap sgc sg),.blk b1 [(ptr x 0)] 47,.blk b2 [(vU32 mp),ev,pv,(.bool con),(vU32 en),sv] 43,.blk s4 [(.map (some mb4))] 165,.obj mb4 (mP .u32 (List.map Pg.me qs4) c4),Ent.bs 211 Pg.cells Pg.b qs4,.blk b3 [(vN 0)] 25,.blk x (xoC k sl) 146,Ent.bo k [(vU32 pk),hx,(ptr c 0),nv,bv,(vU32 0)],.blk c [(vU32 pg),hv,(.map (some mb))] 196,Ent.ar hv 1 he.length (List.map vU32 he),.obj mb (mP .i64 (List.map Gr.me gs) cn),Ent.bs 199 Gr.cells Gr.b gs,Ent.dp grD.list gs,Ent.dp (sltD 211).list sl]:=H5.sel [8,9,10,11,12,14,15,16,13,0,1,2,3,4,5,6,7] rfl rfl
 refine wo (op_neqN (b:=0) rfl rfl<|wn<|WC.no rfl (by decide)<|WC.skip<|WQ.next<|WC.seq<|WC.held 13 rfl Fa.M H6 (fun w'=> ∃L',Owl.Own T w w' ([Ent.ar ev 2 xs.length (List.flatMap xtc xs),Ent.ar pv 1 ps.length (List.map vU16 ps),Ent.ar sv 3 sg.length (List.flatMap sgc sg),.blk b1 [(ptr x 0)] 47,.blk b2 [(vU32 mp),ev,pv,(.bool con),(vU32 en),sv] 43,.blk s4 [(.map (some mb4))] 165,.obj mb4 (mP .u32 (List.map Pg.me qs4) c4),Ent.bs 211 Pg.cells Pg.b qs4]++L')) ?_)
 intro w7 H7
 refine xt 0 rfl (ptr x 0) H7 (fun _ _ HX=>op_load rfl (HX.cell (i:=3) rfl rfl) Tryz.underlying47 rfl ⟨rfl,rfl⟩)<|xt 1 rfl (ptr b2 0) H7 (fun _ _ HX=>op_fieldAddr rfl Fa.F43_0 ⟨rfl,rfl⟩)<|xt 2 rfl (.agg #[(vU32 mp),ev,pv,(.bool con)]) H7 (fun _ _ HX=>op_loadS (vs:=[_,_,_,_]) rfl (HX.cells (i:=4) rfl rfl) Tryz.underlying40 rfl Fa.I40 rfl ⟨rfl,rfl⟩)<|xt 3 rfl (.agg #[(vU32 mp),ev,pv,(.bool con),(vU32 en),sv]) H7 (fun _ _ HX=>op_loadS (vs:=[_,_,_,_,_,_]) rfl (HX.cells (i:=4) rfl rfl) Tryz.underlying43 rfl Fa.I43 rfl ⟨rfl,rfl⟩)<|WH.named (fun W hW=>?_)
 let e6:List (Nat × Value)→List (Nat × Value):=fun r=>(0,(ptr x 0))::(1,(.agg #[(vU32 mp),ev,pv,(.bool con),(vU32 en),sv]))::(2,(ptr b1 0))::(3,(ptr b2 0))::(4,(vN 0))::(5,(ptr b3 0))::(6,(ptr s4 0))::(9,(ptr x 0))::(10,(.bool false))::(11,(.tuple #[(ptr s4 0),(vN 0)]))::(12,(.agg #[(vU32 mp),ev,pv,(.bool con),(vU32 en),sv]))::(13,(.tuple #[(ptr s4 0),(vN 0)]))::(14,(ptr s4 0))::(15,(vN 0))::(16,(vN 0))::(17,(.bool (decide (0≠0))))::r
 let a6_0:Ent:=Ent.ar ev 2 xs.length (List.flatMap xtc xs)
 let a6_1:Ent:=Ent.ar pv 1 ps.length (List.map vU16 ps)
 let a6_2:Ent:=Ent.ar sv 3 sg.length (List.flatMap sgc sg)
 let a6_3:Ent:=.blk b1 [(ptr x 0)] 47
 let a6_4:Ent:=.blk b2 [(vU32 mp),ev,pv,(.bool con),(vU32 en),sv] 43
 let a6_5:Ent:=.blk s4 [(.map (some mb4))] 165
 let a6_6:Ent:=.obj mb4 (mP .u32 (List.map Pg.me qs4) c4)
 let a6_7:Ent:=Ent.bs 211 Pg.cells Pg.b qs4
 let a6_8:Ent:=.blk b3 [(vN 0)] 25
 let a6_9:Ent:=.blk x (xoC k sl) 146
 let a6_10:Ent:=Ent.bo k [(vU32 pk),hx,(ptr c 0),nv,bv,(vU32 0)]
 let a6_11:Ent:=.blk c [(vU32 pg),hv,(.map (some mb))] 196
 let a6_12:Ent:=Ent.ar hv 1 he.length (List.map vU32 he)
 let a6_13:Ent:=.obj mb (mP .i64 (List.map Gr.me gs) cn)
 let a6_14:Ent:=Ent.bs 199 Gr.cells Gr.b gs
 let a6_15:Ent:=Ent.dp grD.list gs
 let a6_16:Ent:=Ent.dp (sltD 211).list sl
 let a6_17:Ent:=.blk x (xoC k (sl.set (ffS sl) (Slt.mk true ((if imE mp xs ps en sg=0 then pagesTo sg sg.length else []).length) none))) 146
 let a6_18:Ent:=Ent.dp (sltD 211).list (sl.set (ffS sl) (Slt.mk true ((if imE mp xs ps en sg=0 then pagesTo sg sg.length else []).length) none))
 have st6_9: ∀(b18201:Nat) (gs18121:List Gr) (cn18121:Nat) (v18081:Value) (wS:World),Owl.Own T w wS [a6_0,a6_1,a6_2,a6_3,a6_4,a6_5,a6_6,a6_7,a6_8,a6_17,a6_10,a6_11,a6_12,.obj mb (mP .i64 (List.map Gr.me gs18121) cn18121),Ent.bs 199 Gr.cells Gr.b gs18121,Ent.dp grD.list gs18121,a6_18,.row v18081 22 1 (if imE mp xs ps en sg=0 then pagesTo sg sg.length else []).length (List.map vU32 (if imE mp xs ps en sg=0 then pagesTo sg sg.length else [])),Ent.fact (CapR gs18121 cn18121 (grantG pg he l ((ffS sl:Nat):Int) mp xs ps con (UInt32.ofNat (if imE mp xs ps en sg=0 then pagesTo sg sg.length else []).length))∧DpTo w gs gs18121),.blk b18201 [(vN (ffS sl))] 3]→W 0 (bz 13 8191) (e6 [(7,(ptr b18201 0))]) wS:=by
  intro b18201 gs18121 cn18121 v18081 wS HS
  rw [hW]
  refine WH.done (by kernel_rfl)<|WQ.next<|WC.seq<|ws ?_
  have hiF:=HS.fact (i:=18) rfl
  refine wo (op_load rfl (HS.cell (i:=8) rfl rfl) Tryz.underlying25 rfl<|wo (op_neqN (b:=0) rfl rfl<|wn<|WC.no rfl (by decide)<|WC.skip<|WQ.next<|ws<|wo (op_makeFunc rfl rfl<|WL.defer (fi:=[]) (vs:=[]) (ca:=[(ptr b3 0),(ptr b1 0),(ptr b18201 0)]) rfl rfl<|wn<|WC.seq<|ws ?_)))
  have H9:=((HS.toBo (i:=5) rfl 1 rfl).mpFreeze (i:=6) rfl).bsFreeze (i:=7) rfl
  refine wo (op_load rfl (H9.cell (i:=3) rfl rfl) Tryz.underlying47 rfl<|wo (op_load rfl (H9.cell (i:=19) rfl rfl) Tryz.underlying3 rfl<|wm rfl<|wo (op_fieldAddr rfl Fa.F43_1<|wo (op_load rfl (H9.cell (i:=4) rfl rfl) Tryz.underlying22 rfl<|wo (op_callF Fa.C89 rfl ((start_ok x k pk hx nv bv c pg hv he mb cn18121 gs18121 (sl.set (ffS sl) (Slt.mk true ((if imE mp xs ps en sg=0 then pagesTo sg sg.length else []).length) none)) s4 mb4 c4 qs4 (ffS sl) en _ _ (H9.part [9,10,11,12,13,14,15,16,5,6,7] rfl rfl) hr4.me (fun g hg=>(img_low h0 hB47 sg.length (Nat.le_refl _) _ (bare_all hr4.bare (fun p hp=>hp) g hg)).2.2) (by rw [img_qn h0 hr4]; exact Nat.lt_of_le_of_lt (img_N h0 hB47) (by decide)) (by rw [List.length_set]; exact h9) (slt_hs h9 (ffS_pos sl) hf9) (by rw [slt_get_set (by omega)]) (by rw [slt_get_set (by omega)]; exact Nat.le_of_eq (img_qn h0 hr4))).mono (fun e w10 hq=>?_)))))))
  obtain ⟨a10,rfl,hi10,hd10,hq10⟩:=hq
  refine ⟨_,rfl,?_⟩
  have H10:Owl.Own T w w10 [Ent.ar ev 2 xs.length (List.flatMap xtc xs),Ent.ar pv 1 ps.length (List.map vU16 ps),Ent.ar sv 3 sg.length (List.flatMap sgc sg),.blk b1 [(ptr x 0)] 47,.blk b2 [(vU32 mp),ev,pv,(.bool con),(vU32 en),sv] 43,Ent.bo s4 [(.map (some mb4))],Ent.mo .u32 mb4 (List.map Pg.me qs4) c4,Ent.bsO 211 Pg.cells Pg.b qs4,.blk b3 [(vN 0)] 25,.blk x (xoC k ((sl.set (ffS sl) (Slt.mk true ((if imE mp xs ps en sg=0 then pagesTo sg sg.length else []).length) none)).set (ffS sl) { (sl.set (ffS sl) (Slt.mk true ((if imE mp xs ps en sg=0 then pagesTo sg sg.length else []).length) none)).getD (ffS sl) Slt.zero with ev:=some a10 })) 146,Ent.bo k [(vU32 pk),hx,(ptr c 0),nv,bv,(vU32 0)],.blk c [(vU32 pg),hv,(.map (some mb))] 196,Ent.ar hv 1 he.length (List.map vU32 he),.obj mb (mP .i64 (List.map Gr.me gs18121) cn18121),Ent.bs 199 Gr.cells Gr.b gs18121,Ent.dp grD.list gs18121,Ent.dp (sltD 211).list ((sl.set (ffS sl) (Slt.mk true ((if imE mp xs ps en sg=0 then pagesTo sg sg.length else []).length) none)).set (ffS sl) { (sl.set (ffS sl) (Slt.mk true ((if imE mp xs ps en sg=0 then pagesTo sg sg.length else []).length) none)).getD (ffS sl) Slt.zero with ev:=some a10 }),.row v18081 22 1 (if imE mp xs ps en sg=0 then pagesTo sg sg.length else []).length (List.map vU32 (if imE mp xs ps en sg=0 then pagesTo sg sg.length else [])),Ent.fact (CapR gs18121 cn18121 (grantG pg he l ((ffS sl:Nat):Int) mp xs ps con (UInt32.ofNat (if imE mp xs ps en sg=0 then pagesTo sg sg.length else []).length))∧DpTo w gs gs18121),.blk b18201 [(vN (ffS sl))] 3]:=H9.splice [9,10,11,12,13,14,15,16,5,6,7] [.blk x (xoC k ((sl.set (ffS sl) (Slt.mk true ((if imE mp xs ps en sg=0 then pagesTo sg sg.length else []).length) none)).set (ffS sl) { (sl.set (ffS sl) (Slt.mk true ((if imE mp xs ps en sg=0 then pagesTo sg sg.length else []).length) none)).getD (ffS sl) Slt.zero with ev:=some a10 })) 146,Ent.bo k [(vU32 pk),hx,(ptr c 0),nv,bv,(vU32 0)],.blk c [(vU32 pg),hv,(.map (some mb))] 196,Ent.ar hv 1 he.length (List.map vU32 he),.obj mb (mP .i64 (List.map Gr.me gs18121) cn18121),Ent.bs 199 Gr.cells Gr.b gs18121,Ent.dp grD.list gs18121,Ent.dp (sltD 211).list ((sl.set (ffS sl) (Slt.mk true ((if imE mp xs ps en sg=0 then pagesTo sg sg.length else []).length) none)).set (ffS sl) { (sl.set (ffS sl) (Slt.mk true ((if imE mp xs ps en sg=0 then pagesTo sg sg.length else []).length) none)).getD (ffS sl) Slt.zero with ev:=some a10 }),Ent.bo s4 [(.map (some mb4))],Ent.mo .u32 mb4 (List.map Pg.me qs4) c4,Ent.bsO 211 Pg.cells Pg.b qs4] [] rfl rfl hq10 (Fits.solid True.intro (Fits.same (j:=1) rfl (Fits.solid True.intro (Fits.same (j:=3) rfl (Fits.solid True.intro (Fits.solid True.intro (Fits.same (j:=6) rfl (Fits.dpTo 7 rfl hd10 (Fits.same (j:=8) rfl (Fits.same (j:=9) rfl (Fits.same (j:=10) rfl Fits.nil)))))))))))
  refine wa rfl<|wn<|ws<|wm rfl<|wo (op_neqN (b:=0) rfl rfl<|wn<|WC.no rfl (by decide)<|WC.skip<|WQ.next<|ws<|wo (op_load rfl (H10.cell (i:=19) rfl rfl) Tryz.underlying3 rfl<|wa rfl<|wo (op_storeB (i:=8) H10 rfl rfl rfl rfl rfl Fa.I25 (fun w11 H11=>(wn<|WC.ret<|WQ.outD1 (dargs:=[]) (ca:=[(ptr b3 0),(ptr b1 0),(ptr b18201 0)]) (R':=fun w'=>Fr [] w11 w') Fa.C88 ((limg1_ok b3 b1 b18201 w11 (H11.cellsAt (i:=8) rfl)).mono (fun e u' w' h=>h)) (fun w' hf=>⟨[vN (ffS sl),vN 0],.tmp rfl (.cell rfl (run_loadVar1 ((H11.fr' hf).cell (i:=8) rfl rfl) Tryz.underlying25 rfl) .nil),?_⟩))))))
  have h7:=H11.fr' hf
  rw [slt_set3 (by omega)] at h7
  have h6:SltTo 211 w sl (sl.set (ffS sl) ⟨true,(if imE mp xs ps en sg=0 then pagesTo sg sg.length else []).length,some a10⟩):=fun b hb=>by
   rw [←slt_set3 (show ffS sl<sl.length by omega)] at hb
   exact (hd10 b hb).elim (fun h=>.inl (Nat.le_trans H9.fr.size h)) (fun h=>.inr (slt_set_ft b h))
  exact ⟨_,_,a10,rfl,hiF.1,⟨hi10.1,by rw [←hr4.bare]; exact hi10.2.1,hi10.2.2⟩,hiF.2,h6,h7.sel [9,10,11,12,13,14,15,16,0,1,2] rfl rfl⟩
 have st6_8: ∀(b18201:Nat) (gs18121:List Gr) (cn18121:Nat) (v18081:Value) (wS:World),Owl.Own T w wS [a6_0,a6_1,a6_2,a6_3,a6_4,a6_5,a6_6,a6_7,a6_8,a6_17,a6_10,a6_11,a6_12,.obj mb (mP .i64 (List.map Gr.me gs18121) cn18121),Ent.bs 199 Gr.cells Gr.b gs18121,Ent.dp grD.list gs18121,a6_18,.row v18081 22 1 (if imE mp xs ps en sg=0 then pagesTo sg sg.length else []).length (List.map vU32 (if imE mp xs ps en sg=0 then pagesTo sg sg.length else [])),Ent.fact (CapR gs18121 cn18121 (grantG pg he l ((ffS sl:Nat):Int) mp xs ps con (UInt32.ofNat (if imE mp xs ps en sg=0 then pagesTo sg sg.length else []).length))∧DpTo w gs gs18121),.blk b18201 [(vN (ffS sl))] 3]→W 1 (bz 13 4095) (e6 [(7,(ptr b18201 0)),(28,(vN 0))]) wS:=by
  intro b18201 gs18121 cn18121 v18081 wS HS
  rw [hW]
  refine wh1 12<|kH 12 rfl (op_storeB (i:=8) HS rfl rfl rfl rfl rfl Fa.I25 (fun w18241 H18241=>(⟨⟨_,H18241⟩,?_⟩)))
  exact WH.cw hW (st6_9 b18201 gs18121 cn18121 v18081 w18241 H18241)
 have st6_7: ∀(b18201:Nat) (gs18121:List Gr) (cn18121:Nat) (v18081:Value) (wS:World),Owl.Own T w wS [a6_0,a6_1,a6_2,a6_3,a6_4,a6_5,a6_6,a6_7,a6_8,a6_17,a6_10,a6_11,a6_12,.obj mb (mP .i64 (List.map Gr.me gs18121) cn18121),Ent.bs 199 Gr.cells Gr.b gs18121,Ent.dp grD.list gs18121,a6_18,.row v18081 22 1 (if imE mp xs ps en sg=0 then pagesTo sg sg.length else []).length (List.map vU32 (if imE mp xs ps en sg=0 then pagesTo sg sg.length else [])),Ent.fact (CapR gs18121 cn18121 (grantG pg he l ((ffS sl:Nat):Int) mp xs ps con (UInt32.ofNat (if imE mp xs ps en sg=0 then pagesTo sg sg.length else []).length))∧DpTo w gs gs18121),.blk b18201 [(vN 0)] 3]→W 2 (bz 13 2047) (e6 [(7,(ptr b18201 0)),(27,(vN (ffS sl))),(28,(vN 0))]) wS:=by
  intro b18201 gs18121 cn18121 v18081 wS HS
  rw [hW]
  refine wh1 11<|kH 11 rfl (op_storeB (i:=19) HS rfl rfl rfl rfl rfl Fa.I3 (fun w18221 H18221=>(⟨⟨_,H18221⟩,?_⟩)))
  exact WH.cw hW (st6_8 b18201 gs18121 cn18121 v18081 w18221 H18221)
 have st6_5: ∀(gs18121:List Gr) (cn18121:Nat) (v18081:Value) (wS:World),Owl.Own T w wS [a6_0,a6_1,a6_2,a6_3,a6_4,a6_5,a6_6,a6_7,a6_8,a6_17,a6_10,a6_11,a6_12,.obj mb (mP .i64 (List.map Gr.me gs18121) cn18121),Ent.bs 199 Gr.cells Gr.b gs18121,Ent.dp grD.list gs18121,a6_18,.row v18081 22 1 (if imE mp xs ps en sg=0 then pagesTo sg sg.length else []).length (List.map vU32 (if imE mp xs ps en sg=0 then pagesTo sg sg.length else [])),Ent.fact (CapR gs18121 cn18121 (grantG pg he l ((ffS sl:Nat):Int) mp xs ps con (UInt32.ofNat (if imE mp xs ps en sg=0 then pagesTo sg sg.length else []).length))∧DpTo w gs gs18121)]→W 3 (bz 13 1023) (e6 [(27,(vN (ffS sl))),(28,(vN 0))]) wS:=by
  intro gs18121 cn18121 v18081 wS HS
  rw [hW]
  refine wh1 10<|kH 10 rfl (op_alloc HS Fa.I3 (fun b18201 w18201 H18201=>(⟨⟨_,H18201⟩,?_⟩)))
  exact WH.cw hW (st6_7 b18201 gs18121 cn18121 v18081 w18201 H18201)
 have st6_6: ∀(b18201:Nat) (v18081:Value) (wS:World),Owl.Own T w wS [a6_0,a6_1,a6_2,a6_3,a6_4,a6_5,a6_6,a6_7,a6_8,a6_9,a6_10,a6_11,a6_12,a6_13,a6_14,a6_15,a6_16,.row v18081 22 1 (if imE mp xs ps en sg=0 then pagesTo sg sg.length else []).length (List.map vU32 (if imE mp xs ps en sg=0 then pagesTo sg sg.length else [])),.blk b18201 [(vN 0)] 3]→W 6 (bz 13 1087) (e6 [(7,(ptr b18201 0)),(20,(ptr x 0)),(22,(.agg #[(vU32 mp),ev,pv,(.bool con)])),(25,(vN (if imE mp xs ps en sg=0 then pagesTo sg sg.length else []).length))]) wS:=by
  intro b18201 v18081 wS HS
  rw [hW]
  refine wh1 6<|kH 6 rfl (op_callF Fa.C86 rfl ((admit_yes x k pk hx nv bv c pg hv he mb cn gs sl l mp ev pv xs ps con ((if imE mp xs ps en sg=0 then pagesTo sg sg.length else []).length) _ _ (HS.part [9,10,11,12,13,14,15,16,0,1] rfl rfl) hR h9 hhe hn hm (img_N h0 hB47) hff hw).mono (fun e w18121 hq=>?_)))
  obtain ⟨cn18121,gs18121,rfl,hi18121,hd18121,hq18121⟩:=hq
  refine ⟨_,rfl,?_⟩
  have H18121:=HS.splice [9,10,11,12,13,14,15,16,0,1] [.blk x (xoC k (sl.set (ffS sl) (Slt.mk true ((if imE mp xs ps en sg=0 then pagesTo sg sg.length else []).length) none))) 146,Ent.bo k [(vU32 pk),hx,(ptr c 0),nv,bv,(vU32 0)],.blk c [(vU32 pg),hv,(.map (some mb))] 196,Ent.ar hv 1 he.length (List.map vU32 he),.obj mb (mP .i64 (List.map Gr.me gs18121) cn18121),Ent.bs 199 Gr.cells Gr.b gs18121,Ent.dp grD.list gs18121,Ent.dp (sltD 211).list (sl.set (ffS sl) (Slt.mk true ((if imE mp xs ps en sg=0 then pagesTo sg sg.length else []).length) none)),Ent.ar ev 2 xs.length (List.flatMap xtc xs),Ent.ar pv 1 ps.length (List.map vU16 ps)] [] rfl rfl hq18121 (Fits.solid True.intro (Fits.same (j:=1) rfl (Fits.solid True.intro (Fits.same (j:=3) rfl (Fits.solid True.intro (Fits.solid True.intro (Fits.dpTo 6 rfl hd18121 (Fits.dpTo 7 rfl (fun b hb=>.inr (slt_set_ft b hb)) (Fits.same (j:=8) rfl (Fits.same (j:=9) rfl Fits.nil))))))))))
  have H18121f:=H18121.addFact (p:=CapR gs18121 cn18121 (grantG pg he l ((ffS sl:Nat):Int) mp xs ps con (UInt32.ofNat (if imE mp xs ps en sg=0 then pagesTo sg sg.length else []).length))∧DpTo w gs gs18121) ⟨hi18121,hd18121.mono HS.fr.size⟩
  refine ⟨⟨_,H18121f⟩,?_⟩
  exact xt 7 rfl (.tuple #[(vN (ffS sl)),(vN 0)]) H18121f (fun _ _ HX=>op_move rfl ⟨rfl,rfl⟩)<|xt 8 rfl (vN (ffS sl)) H18121f (fun _ _ HX=>op_extract rfl rfl ⟨rfl,rfl⟩)<|xt 9 rfl (vN 0) H18121f (fun _ _ HX=>op_extract rfl rfl ⟨rfl,rfl⟩)<|WH.cw hW (st6_7 b18201 gs18121 cn18121 v18081 w18121 (H18121f.sel [0,1,2,3,4,5,6,7,8,9,10,11,12,13,14,15,16,17,19,18] rfl rfl))
 have st6_3: ∀(v18081:Value) (wS:World),Owl.Own T w wS [a6_0,a6_1,a6_2,a6_3,a6_4,a6_5,a6_6,a6_7,a6_8,a6_9,a6_10,a6_11,a6_12,a6_13,a6_14,a6_15,a6_16,.row v18081 22 1 (if imE mp xs ps en sg=0 then pagesTo sg sg.length else []).length (List.map vU32 (if imE mp xs ps en sg=0 then pagesTo sg sg.length else []))]→W 7 (bz 13 63) (e6 [(20,(ptr x 0)),(22,(.agg #[(vU32 mp),ev,pv,(.bool con)])),(25,(vN (if imE mp xs ps en sg=0 then pagesTo sg sg.length else []).length))]) wS:=by
  intro v18081 wS HS
  rw [hW]
  refine wh2 6 10 ?_ ?_
  ·
   refine kH 6 rfl (op_callF Fa.C86 rfl ((admit_yes x k pk hx nv bv c pg hv he mb cn gs sl l mp ev pv xs ps con ((if imE mp xs ps en sg=0 then pagesTo sg sg.length else []).length) _ _ (HS.part [9,10,11,12,13,14,15,16,0,1] rfl rfl) hR h9 hhe hn hm (img_N h0 hB47) hff hw).mono (fun e w18121 hq=>?_)))
   obtain ⟨cn18121,gs18121,rfl,hi18121,hd18121,hq18121⟩:=hq
   refine ⟨_,rfl,?_⟩
   have H18121:Owl.Own T w w18121 [Ent.ar ev 2 xs.length (List.flatMap xtc xs),Ent.ar pv 1 ps.length (List.map vU16 ps),Ent.ar sv 3 sg.length (List.flatMap sgc sg),.blk b1 [(ptr x 0)] 47,.blk b2 [(vU32 mp),ev,pv,(.bool con),(vU32 en),sv] 43,.blk s4 [(.map (some mb4))] 165,.obj mb4 (mP .u32 (List.map Pg.me qs4) c4),Ent.bs 211 Pg.cells Pg.b qs4,.blk b3 [(vN 0)] 25,.blk x (xoC k (sl.set (ffS sl) (Slt.mk true ((if imE mp xs ps en sg=0 then pagesTo sg sg.length else []).length) none))) 146,Ent.bo k [(vU32 pk),hx,(ptr c 0),nv,bv,(vU32 0)],.blk c [(vU32 pg),hv,(.map (some mb))] 196,Ent.ar hv 1 he.length (List.map vU32 he),.obj mb (mP .i64 (List.map Gr.me gs18121) cn18121),Ent.bs 199 Gr.cells Gr.b gs18121,Ent.dp grD.list gs18121,Ent.dp (sltD 211).list (sl.set (ffS sl) (Slt.mk true ((if imE mp xs ps en sg=0 then pagesTo sg sg.length else []).length) none)),.row v18081 22 1 (if imE mp xs ps en sg=0 then pagesTo sg sg.length else []).length (List.map vU32 (if imE mp xs ps en sg=0 then pagesTo sg sg.length else []))]:=HS.splice [9,10,11,12,13,14,15,16,0,1] [.blk x (xoC k (sl.set (ffS sl) (Slt.mk true ((if imE mp xs ps en sg=0 then pagesTo sg sg.length else []).length) none))) 146,Ent.bo k [(vU32 pk),hx,(ptr c 0),nv,bv,(vU32 0)],.blk c [(vU32 pg),hv,(.map (some mb))] 196,Ent.ar hv 1 he.length (List.map vU32 he),.obj mb (mP .i64 (List.map Gr.me gs18121) cn18121),Ent.bs 199 Gr.cells Gr.b gs18121,Ent.dp grD.list gs18121,Ent.dp (sltD 211).list (sl.set (ffS sl) (Slt.mk true ((if imE mp xs ps en sg=0 then pagesTo sg sg.length else []).length) none)),Ent.ar ev 2 xs.length (List.flatMap xtc xs),Ent.ar pv 1 ps.length (List.map vU16 ps)] [] rfl rfl hq18121 (Fits.solid True.intro (Fits.same (j:=1) rfl (Fits.solid True.intro (Fits.same (j:=3) rfl (Fits.solid True.intro (Fits.solid True.intro (Fits.dpTo 6 rfl hd18121 (Fits.dpTo 7 rfl (fun b hb=>.inr (slt_set_ft b hb)) (Fits.same (j:=8) rfl (Fits.same (j:=9) rfl Fits.nil))))))))))
   have H18121f:=H18121.addFact (p:=CapR gs18121 cn18121 (grantG pg he l ((ffS sl:Nat):Int) mp xs ps con (UInt32.ofNat (if imE mp xs ps en sg=0 then pagesTo sg sg.length else []).length))∧DpTo w gs gs18121) ⟨hi18121,hd18121.mono HS.fr.size⟩
   refine ⟨⟨_,H18121f⟩,?_⟩
   exact xt 7 rfl (.tuple #[(vN (ffS sl)),(vN 0)]) H18121f (fun _ _ HX=>op_move rfl ⟨rfl,rfl⟩)<|xt 8 rfl (vN (ffS sl)) H18121f (fun _ _ HX=>op_extract rfl rfl ⟨rfl,rfl⟩)<|xt 9 rfl (vN 0) H18121f (fun _ _ HX=>op_extract rfl rfl ⟨rfl,rfl⟩)<|WH.cw hW (st6_5 gs18121 cn18121 v18081 w18121 H18121f)
  refine kH 10 rfl (op_alloc HS Fa.I3 (fun b18201 w18201 H18201=>(⟨⟨_,H18201⟩,?_⟩)))
  exact WH.cw hW (st6_6 b18201 v18081 w18201 H18201)
 have st6_4: ∀(b18201:Nat) (v18081:Value) (wS:World),Owl.Own T w wS [a6_0,a6_1,a6_2,a6_3,a6_4,a6_5,a6_6,a6_7,a6_8,a6_9,a6_10,a6_11,a6_12,a6_13,a6_14,a6_15,a6_16,.row v18081 22 1 (if imE mp xs ps en sg=0 then pagesTo sg sg.length else []).length (List.map vU32 (if imE mp xs ps en sg=0 then pagesTo sg sg.length else [])),.blk b18201 [(vN 0)] 3]→W 7 (bz 13 1055) (e6 [(7,(ptr b18201 0)),(20,(ptr x 0)),(22,(.agg #[(vU32 mp),ev,pv,(.bool con)])),(24,v18081)]) wS:=by
  intro b18201 v18081 wS HS
  rw [hW]
  refine wh1 5<|kH 5 rfl (op_lenA Tryz.underlying73 rfl (HS.arrR (i:=17) rfl) (⟨⟨_,HS⟩,?_⟩))
  exact WH.cw hW (st6_6 b18201 v18081 wS HS)
 have st6_1: ∀(v18081:Value) (wS:World),Owl.Own T w wS [a6_0,a6_1,a6_2,a6_3,a6_4,a6_5,a6_6,a6_7,a6_8,a6_9,a6_10,a6_11,a6_12,a6_13,a6_14,a6_15,a6_16,.row v18081 22 1 (if imE mp xs ps en sg=0 then pagesTo sg sg.length else []).length (List.map vU32 (if imE mp xs ps en sg=0 then pagesTo sg sg.length else []))]→W 8 (bz 13 31) (e6 [(20,(ptr x 0)),(22,(.agg #[(vU32 mp),ev,pv,(.bool con)])),(24,v18081)]) wS:=by
  intro v18081 wS HS
  rw [hW]
  refine wh2 5 10 ?_ ?_
  ·
   refine kH 5 rfl (op_lenA Tryz.underlying73 rfl (HS.arrR (i:=17) rfl) (⟨⟨_,HS⟩,?_⟩))
   exact WH.cw hW (st6_3 v18081 wS HS)
  refine kH 10 rfl (op_alloc HS Fa.I3 (fun b18201 w18201 H18201=>(⟨⟨_,H18201⟩,?_⟩)))
  exact WH.cw hW (st6_4 b18201 v18081 w18201 H18201)
 have st6_2: ∀(b18201:Nat) (wS:World),Owl.Own T w wS [a6_0,a6_1,a6_2,a6_3,a6_4,a6_5,a6_6,a6_7,a6_8,a6_9,a6_10,a6_11,a6_12,a6_13,a6_14,a6_15,a6_16,.blk b18201 [(vN 0)] 3]→W 8 (bz 13 1039) (e6 [(7,(ptr b18201 0)),(20,(ptr x 0)),(22,(.agg #[(vU32 mp),ev,pv,(.bool con)])),(23,(.agg #[(vU32 mp),ev,pv,(.bool con),(vU32 en),sv]))]) wS:=by
  intro b18201 wS HS
  rw [hW]
  refine wh1 4<|kH 4 rfl (op_callF Fa.C87 rfl ((ipgs_ok mp _ _ _ xs ps con en sg _ (HS.arrO (i:=0) rfl) (HS.arrO (i:=1) rfl) (HS.arrO (i:=2) rfl) (by omega) (by omega) (by omega) hB (by omega)).mono (fun e w18081 hq=>?_)))
  obtain ⟨v18081,rfl,hq18081⟩:=hq
  refine ⟨_,rfl,?_⟩
  have H18081:=HS.splice [] [] [.row v18081 22 1 (if imE mp xs ps en sg=0 then pagesTo sg sg.length else []).length (List.map vU32 (if imE mp xs ps en sg=0 then pagesTo sg sg.length else []))] rfl rfl hq18081 (Fits.solid True.intro Fits.nil)
  refine ⟨⟨_,H18081⟩,?_⟩
  exact WH.cw hW (st6_4 b18201 v18081 w18081 (H18081.sel [0,1,2,3,4,5,6,7,8,9,10,11,12,13,14,15,16,18,17] rfl rfl))
 have st6_0: ∀wS,Owl.Own T w wS [a6_0,a6_1,a6_2,a6_3,a6_4,a6_5,a6_6,a6_7,a6_8,a6_9,a6_10,a6_11,a6_12,a6_13,a6_14,a6_15,a6_16]→W 9 (bz 13 15) (e6 [(20,(ptr x 0)),(22,(.agg #[(vU32 mp),ev,pv,(.bool con)])),(23,(.agg #[(vU32 mp),ev,pv,(.bool con),(vU32 en),sv]))]) wS:=fun wS HS=>by
  rw [hW]
  refine wh2 4 10 ?_ ?_
  ·
   refine kH 4 rfl (op_callF Fa.C87 rfl ((ipgs_ok mp _ _ _ xs ps con en sg _ (HS.arrO (i:=0) rfl) (HS.arrO (i:=1) rfl) (HS.arrO (i:=2) rfl) (by omega) (by omega) (by omega) hB (by omega)).mono (fun e w18081 hq=>?_)))
   obtain ⟨v18081,rfl,hq18081⟩:=hq
   refine ⟨_,rfl,?_⟩
   have H18081:Owl.Own T w w18081 [Ent.ar ev 2 xs.length (List.flatMap xtc xs),Ent.ar pv 1 ps.length (List.map vU16 ps),Ent.ar sv 3 sg.length (List.flatMap sgc sg),.blk b1 [(ptr x 0)] 47,.blk b2 [(vU32 mp),ev,pv,(.bool con),(vU32 en),sv] 43,.blk s4 [(.map (some mb4))] 165,.obj mb4 (mP .u32 (List.map Pg.me qs4) c4),Ent.bs 211 Pg.cells Pg.b qs4,.blk b3 [(vN 0)] 25,.blk x (xoC k sl) 146,Ent.bo k [(vU32 pk),hx,(ptr c 0),nv,bv,(vU32 0)],.blk c [(vU32 pg),hv,(.map (some mb))] 196,Ent.ar hv 1 he.length (List.map vU32 he),.obj mb (mP .i64 (List.map Gr.me gs) cn),Ent.bs 199 Gr.cells Gr.b gs,Ent.dp grD.list gs,Ent.dp (sltD 211).list sl,.row v18081 22 1 (if imE mp xs ps en sg=0 then pagesTo sg sg.length else []).length (List.map vU32 (if imE mp xs ps en sg=0 then pagesTo sg sg.length else []))]:=HS.splice [] [] [.row v18081 22 1 (if imE mp xs ps en sg=0 then pagesTo sg sg.length else []).length (List.map vU32 (if imE mp xs ps en sg=0 then pagesTo sg sg.length else []))] rfl rfl hq18081 (Fits.solid True.intro Fits.nil)
   refine ⟨⟨_,H18081⟩,?_⟩
   exact WH.cw hW (st6_1 v18081 w18081 H18081)
  refine kH 10 rfl (op_alloc HS Fa.I3 (fun b18201 w18201 H18201=>(⟨⟨_,H18201⟩,?_⟩)))
  exact WH.cw hW (st6_2 b18201 w18201 H18201)
 have hq:=st6_0 w7 H7
 rw [hW] at hq ⊢
 exact WH.cv hq
end Go.Proofs.YtbjhccnffacbcaaGreat
