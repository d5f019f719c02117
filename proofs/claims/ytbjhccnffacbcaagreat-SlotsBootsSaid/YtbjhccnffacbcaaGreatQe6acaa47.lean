/- General lemmas and walks: WSlot5, WSlot6, WSlot7, WSlot8, WSlot9, WCap, WDem, WCap2, WCap3, WCap4, WCap5, WCap6, WCap7, WCap8, WCap9, WCap10, WCap11, WCap12. No condition but what each theorem names. -/
import Derived.Test.YtbjhccnffacbcaaGreatQ1314499c
import Derived.Test.YtbjhccnffacbcaaGreatQa8c57553
import Derived.Test.YtbjhccnffacbcaaGreatQ17bab6b1
set_option maxRecDepth 100000
set_option maxHeartbeats 8000000
namespace Go.Proofs.YtbjhccnffacbcaaGreat
open Go.Owl Go.Spec
theorem update_ok (s:Nat) (id:UInt32) (key:List UInt8) (each:Nat) (left:Int) (x:Nat) (k:Nat) (bv ev xv cv nv:Value) (pg:UInt32) (m n:Nat) (es:List Value) (B:List (List UInt8)) (v:UInt32) (t:List UInt8) (T:List Nat) (w:World) (H:Owl.Own T w w [.blk s [(ptr x 0),(vU32 id),(str key),(vN each),(vI left)] 95,Ent.bo x [(ptr k 0)],Ent.bo k [(vU32 pg),xv,cv,nv,bv],Ent.ar bv 1 m es,.row ev 9 1 n (List.map str B)]) (hid:id.toNat<m) (hev:es[id.toNat]?=some ev) (hn:B.length=n) (hB: ∀b∈B,b.length=64) (hc:2+each+each≤n) (hm:n<2^20) (hk:key.length<2^40) (h4:4≤n) (hL:left<2^63) (ht:t.length<2^31) :
  Calls Tryz.prog 17 #[(ptr s 0),(vU32 v),(str t)] w (fun e w'=>e=.returned (vN (updE (Sst.mk B left) each key v t).2)∧Owl.Own T w w' [.blk s [(ptr x 0),(vU32 id),(str key),(vN each),(vI (updE (Sst.mk B left) each key v t).1.left)] 95,Ent.bo x [(ptr k 0)],Ent.bo k [(vU32 pg),xv,cv,nv,bv],Ent.ar bv 1 m es,.row ev 9 1 n (List.map str (updE (Sst.mk B left) each key v t).1.B)]):=by
 refine enter Tryz.func17 rfl rfl<|ws<|wo (op_box H rfl rfl (fun b1 w1 H1=>(wa rfl<|wn<|WC.seq<|ws<|wo (op_load rfl (H1.cell (i:=5) rfl rfl) Tryz.underlying24 rfl<|wo (op_eqlPN Fa.PT24 rfl rfl<|wn<|WC.no rfl rfl<|WC.skip<|WQ.next<|ws<|wo (op_load rfl (H1.cell (i:=5) rfl rfl) Tryz.underlying24 rfl<|wo (cq H1 Fa.C13 rfl (current_ok s id key each left x k bv ev xv cv nv pg m n es B _ (H1.cellsAt (i:=0) rfl) (H1.cellsAtO (i:=1) rfl) (H1.cellsAtO (i:=2) rfl) (H1.arrO (i:=3) rfl) (H1.arrR (i:=4) rfl) hid hev hn hB hc hm hk) fun w2 H2=>(wm rfl<|we rfl rfl<|we rfl rfl<|we rfl rfl<|wa rfl<|wa rfl<|wa rfl<|wn<|WC.seq<|WC.block<|ws<|wm rfl<|wm rfl<|wo (op_leqU32 rfl rfl<|wa rfl<|wn (wE (v≤(curS B each key).v) (fun hb3 hc3=>?_) (fun hb3 hc3=>?_)))))))))))
 ·
  refine ws<|wa rfl<|wn<|WC.ret<|WQ.inRet<|WQ.thenRet<|WQ.out (.tmp rfl .nil) ?_
  rw [updE_1 (dT hb3)]
  exact ⟨rfl,H2.sel [0,1,2,3,4] rfl rfl⟩
 refine ws<|wm rfl<|wo (op_lenStr Tryz.underlying9 rfl<|wo (op_load rfl (H2.cell (i:=5) rfl rfl) Tryz.underlying24 rfl<|wo (cq H2 Fa.C15 rfl (room_ok s (ptr x 0) id key each left _ (H2.cellsAt (i:=0) rfl) (by omega)) fun w4 H4=>(wo (op_gtrN rfl rfl<|wa rfl<|wn (wE (t.length>(each * 64)) (fun hb5 hc5=>?_) (fun hb5 hc5=>?_)))))))
 ·
  refine ws<|wa rfl<|wn<|WC.ret<|WQ.inRet<|WQ.thenRet<|WQ.out (.tmp rfl .nil) ?_
  rw [updE_2 (dF hb3) (dT hb5)]
  exact ⟨rfl,H4.sel [0,1,2,3,4] rfl rfl⟩
 refine WC.skip<|WQ.inNormal<|WQ.next<|ws<|wo (op_load rfl (H4.cell (i:=5) rfl rfl) Tryz.underlying24 rfl<|wo (op_build (cs:=[_,_]) Fa.I97 Fa.PL97 rfl rfl<|wo (op_alloc H4 Fa.I97 (fun b6 w6 H6=>(wo (op_storeBW (i:=6) H6 rfl rfl rfl rfl rfl Fa.I97 (fun w7 H7=>(wn<|WC.cut (α:=Nat) (fun at_=>[(1,(vU32 v)),(2,(str t)),(3,(ptr b1 0)),(10,(ptr b6 0))]) (fun at_ w'=>(at_=(atS (slotN B each key 0) (slotN B each key 1)))∧Owl.Own T w w' [.blk s [(ptr x 0),(vU32 id),(str key),(vN each),(vI left)] 95,Ent.bo x [(ptr k 0)],Ent.bo k [(vU32 pg),xv,cv,nv,bv],Ent.ar bv 1 m es,.row ev 9 1 n (List.map str B),.blk b1 [(ptr s 0)] 24,.blk b6 [(ptr s 0),(vN at_)] 97]) ?_ ?_))))))))
 ·
  refine ws<|wo (op_load rfl (H7.cell (i:=5) rfl rfl) Tryz.underlying24 rfl<|wo (cq H7 Fa.C48 rfl (cur_ok s id key each left x k bv ev xv cv nv pg m n es B _ (H7.cellsAt (i:=0) rfl) (H7.cellsAtO (i:=1) rfl) (H7.cellsAtO (i:=2) rfl) (H7.arrO (i:=3) rfl) (H7.arrR (i:=4) rfl) hid hev hn hB hc hm hk) fun w8 H8=>(wm rfl<|we rfl rfl<|we rfl rfl<|wo (op_alloc H8 Fa.I97 (fun b9 w9 H9=>(wo (op_storeBW (i:=7) H9 rfl rfl rfl rfl rfl Fa.I97 (fun w10 H10=>(wa rfl<|wn<|ws<|wm rfl<|wm rfl (wV 43 (curIs (slotN B each key 0) (slotN B each key 1)) (fun hb11=>?_) (fun hb11=>?_)))))))))))
  ·
   refine wY hb11 (op_fieldAddr rfl Fa.F97_1<|wY hb11 (op_load rfl (H10.cell (i:=7) rfl rfl) Tryz.underlying3 rfl<|wY hb11 (op_eqlN (b:=0) rfl rfl<|wo (op_pickT rfl hb11 rfl<|wn (wE ((curN (slotN B each key 0) (slotN B each key 1))=0) (fun hb12 hc12=>?_) (fun hb12 hc12=>?_))))))
   ·
    exact WC.region<|wo (op_fieldAddr rfl Fa.F97_1<|wo (op_storeB (i:=6) H10 rfl rfl rfl rfl rfl Fa.I3 (fun w13 H13=>(WL.nil<|WQ.here 1 ⟨(by rw [atS,if_pos ⟨hb11,dT hb12⟩]),(H13.take 7)⟩ ⟨rfl,rfl,rfl,rfl,trivial⟩))))
   exact WC.skip<|WQ.here 0 ⟨(by rw [atS,if_neg (fun h=>dF hb12 h.2)]),(H10.take 7)⟩ ⟨rfl,rfl,rfl,rfl,trivial⟩
  exact wN hb11<|wN hb11<|wN hb11<|wo (op_pickF rfl hb11 rfl<|wn<|WC.no rfl rfl<|WC.skip<|WQ.here 0 ⟨(by rw [atS,if_neg (fun h=>by rw [hb11] at h; cases h.1)]),(H10.take 7)⟩ ⟨rfl,rfl,rfl,rfl,trivial⟩)
 rintro at_ w14 ⟨hae,H14⟩
 show WC _ _ _ _ _ [(1,(vU32 v)),(2,(str t)),(3,(ptr b1 0)),(10,(ptr b6 0))] _
 refine ws<|wo (op_load rfl (H14.cell (i:=5) rfl rfl) Tryz.underlying24 rfl<|wm rfl<|wm rfl<|wo (cq H14 Fa.C49 rfl (head_ok s (ptr x 0) id key each left v t _ (H14.cellsAt (i:=0) rfl) hk (by omega)) fun w15 H15=>(wo (op_alloc H15 Fa.I9 (fun b16 w16 H16=>(wo (op_storeB (i:=7) H16 rfl rfl rfl rfl rfl Fa.I9 (fun w17 H17=>(wn<|ws<|wa rfl<|wn<|ws<|wm rfl<|wo (op_makeFunc rfl rfl<|wo (op_buildSlice (cs:=[_]) H17 Tryz.underlying101 Fa.I23 rfl rfl rfl rfl (by decide) (by decide) (fun b18 w18 H18=>?_))))))))))))
 have H20:=H18.nilRow 23 1
 refine wo (op_append (i:=9) H20 Tryz.underlying101 Fa.I23 rfl rfl rfl rfl (Src.ofArr Tryz.underlying101 (H20.arrR (i:=8) rfl)) (by simp [Value.oneCell']) (by omega) (by omega) (fun v19 w19 H19=>(wa rfl<|wn<|WC.seq<|ws<|wo (op_alloc H19 Fa.I3 (fun b21 w21 H21=>(wo (op_storeB (i:=10) H21 rfl rfl rfl rfl rfl Fa.I3 (fun w22 H22=>(wn<|WC.block ?_)))))))))
 have H23:=H22.sel [0,1,2,3,4,5,6,7,9,10] rfl rfl
 have H24:Owl.Own T w w22 [.blk s [(ptr x 0),(vU32 id),(str key),(vN each),(vI left)] 95,Ent.bo x [(ptr k 0)],Ent.bo k [(vU32 pg),xv,cv,nv,bv],Ent.ar bv 1 m es,.row ev 9 1 n (List.map str B),.blk b1 [(ptr s 0)] 24,.blk b6 [(ptr s 0),(vN at_)] 97,.blk b16 [(str (hdrS key v t))] 9,.row v19 23 1 (0+1) ([]++[(.func (.func 50) #[] #[(ptr b1 0),(ptr b6 0)])]),.blk b21 [(vN 0)] 3,Ent.bs 3 (fun p:KPt=>[vN p.1]) (fun p:KPt=>p.2.1) [],Ent.bs 9 (fun p:KPt=>[str (pcT t p.1)]) (fun p:KPt=>p.2.2) []]:=(H23.bsNil 3 _ _).bsNil 9 _ _
 refine WC.loop (α:=Nat × Nat × List KPt × Value) (fun (i,b15,KP,v44)=>[(1,(vU32 v)),(2,(str t)),(3,(ptr b1 0)),(10,(ptr b6 0)),(13,(ptr b16 0)),(14,v44),(15,(ptr b15 0))]) (fun (i,b15,KP,v44) w'=>(i≤cntS t∧KP.map Prod.fst=List.range i)∧Owl.Own T w w' [.blk s [(ptr x 0),(vU32 id),(str key),(vN each),(vI left)] 95,Ent.bo x [(ptr k 0)],Ent.bo k [(vU32 pg),xv,cv,nv,bv],Ent.ar bv 1 m es,.row ev 9 1 n (List.map str B),.blk b1 [(ptr s 0)] 24,.blk b6 [(ptr s 0),(vN at_)] 97,.blk b16 [(str (hdrS key v t))] 9,.row v44 23 1 (i+1) ([(clV (Cl.mk 50 [ptr b1 0,ptr b6 0]))]++List.map (fun p:KPt=>clV (Cl.mk 52 [ptr b1 0,ptr b6 0,ptr p.2.1 0,ptr p.2.2 0])) KP),.blk b15 [(vN i)] 3,Ent.bs 3 (fun p:KPt=>[vN p.1]) (fun p:KPt=>p.2.1) KP,Ent.bs 9 (fun p:KPt=>[str (pcT t p.1)]) (fun p:KPt=>p.2.2) KP]) (fun (i,b15,KP,v44)=>cntS t-i) (0,b21,[],v19) ⟨⟨Nat.zero_le _,rfl⟩,H24⟩ ⟨rfl,rfl,rfl,rfl,rfl,rfl,rfl,trivial⟩ ?_
 rintro ⟨i,b15,KP,v44⟩ w25 ⟨⟨hi1,hkp⟩,H25⟩
 show WC _ _ _ _ _ [(1,(vU32 v)),(2,(str t)),(3,(ptr b1 0)),(10,(ptr b6 0)),(13,(ptr b16 0)),(14,v44),(15,(ptr b15 0))] _
 have hct:cntS t=(t.length+63) / 64:=rfl
 refine WC.seq<|ws<|wo (op_load rfl (H25.cell (i:=9) rfl rfl) Tryz.underlying3 rfl<|wo (op_mulN (b:=64) rfl rfl (by omega)<|wm rfl<|wo (op_lenStr Tryz.underlying9 rfl<|wo (op_lssN rfl rfl<|wn (wE ((i * 64)<t.length) (fun hb26 hc26=>?_) (fun hb26 hc26=>?_))))))
 ·
  exact WC.skip<|WQ.next<|WC.seq<|WC.block<|ws<|wm rfl<|wo (op_load rfl (H25.cell (i:=9) rfl rfl) Tryz.underlying3 rfl<|wo (op_mulN (b:=64) rfl rfl (by omega)<|wm rfl<|wo (op_lenStr Tryz.underlying9 rfl<|wo (op_load rfl (H25.cell (i:=9) rfl rfl) Tryz.underlying3 rfl<|wo (op_addN (b:=1) rfl rfl (by omega)<|wo (op_mulN (b:=64) rfl rfl (by omega)<|wo (op_minN rfl rfl<|wo (op_sliceStr Tryz.underlying9 rfl rfl rfl (by omega) (by omega)<|wo (op_alloc H25 Fa.I9 (fun b27 w27 H27=>(wo (op_storeB (i:=12) H27 rfl rfl rfl rfl rfl Fa.I9 (fun w28 H28=>(wn<|WC.region<|wm rfl<|wo (op_makeFunc rfl rfl<|wo (op_buildSlice (cs:=[_]) H28 Tryz.underlying101 Fa.I23 rfl rfl rfl rfl (by decide) (by decide) (fun b29 w29 H29=>(wo (op_append (i:=8) H29 Tryz.underlying101 Fa.I23 rfl rfl rfl rfl (Src.ofArr Tryz.underlying101 (H29.arrR (i:=13) rfl)) (by simp [Value.oneCell']) (by omega) (by omega) (fun v30 w30 H30=>(wa rfl<|WL.nil<|WQ.inNormal<|WQ.next<|WC.seq<|ws<|wo (op_load rfl (H30.cell (i:=9) rfl rfl) Tryz.underlying3 rfl<|wn<|WC.region<|wo (op_alloc H30 Fa.I3 (fun b31 w31 H31=>(wo (op_storeB (i:=14) H31 rfl rfl rfl rfl rfl Fa.I3 (fun w32 H32=>(wn<|WC.region<|wo (op_load rfl (H32.cell (i:=14) rfl rfl) Tryz.underlying3 rfl<|wo (op_addN (b:=1) rfl rfl (by omega)<|wo (op_storeB (i:=14) H32 rfl rfl rfl rfl rfl Fa.I3 (fun w33 H33=>(WL.nil<|WQ.round (i+1,b31,KP++[(i,b15,b27)],v30) ⟨⟨by omega,by rw [List.map_append,hkp,List.range_succ]; rfl⟩,((((H33.foldEnd (i:=10) (j:=9) (a:=(i,b15,b27)) rfl rfl rfl rfl rfl).foldEnd (i:=11) (j:=12) (a:=(i,b15,b27)) rfl rfl rfl rfl (by show [str (pcT t i)]=_; rw [←pcT_min]; rfl)).rowX (i:=8) (xs':=[(clV (Cl.mk 50 [ptr b1 0,ptr b6 0]))]++List.map (fun p:KPt=>clV (Cl.mk 52 [ptr b1 0,ptr b6 0,ptr p.2.1 0,ptr p.2.2 0])) (KP++[(i,b15,b27)])) rfl (by rw [List.map_append,←List.append_assoc]; rfl) rfl).sel [0,1,2,3,4,5,6,7,8,14,10,11] rfl rfl)⟩ ⟨rfl,rfl,rfl,rfl,rfl,rfl,rfl,trivial⟩ (by show cntS t-(i+1)<cntS t-i; omega))))))))))))))))))))))))))))))))))
 refine WC.exit<|WQ.thenExit<|WQ.thenExit<|WQ.inHere<|WQ.next<|ws<|wm rfl<|wo (op_makeFunc rfl rfl<|wo (op_buildSlice (cs:=[_]) H25 Tryz.underlying101 Fa.I23 rfl rfl rfl rfl (by decide) (by decide) (fun b34 w34 H34=>(wo (op_append (i:=8) H34 Tryz.underlying101 Fa.I23 rfl rfl rfl rfl (Src.ofArr Tryz.underlying101 (H34.arrR (i:=12) rfl)) (by simp [Value.oneCell']) (by omega) (by omega) (fun v35 w35 H35=>(wa rfl<|wn<|ws ?_)))))))
 have hie:i=cntS t:=by omega
 rw [hie] at hkp
 have hKP:=hkp
 have hat:at_=0∨at_=1:=by rw [hae]; exact atS_lt _ _
 have hcn:cntS t≤each:=cntS_le (dF hb5)
 have hsl:(stepsL 50 52 53 b1 b6 b16 KP).length=i+1+1:=by rw [steps_len (each:=each) (key:=key) (v:=v) (at_:=at_) hKP,wrs_len,hie]
 have H36:Owl.Own T w w35 [.blk s [(ptr x 0),(vU32 id),(str key),(vN each),(vI left)] 95,Ent.bo x [(ptr k 0)],Ent.bo k [(vU32 pg),xv,cv,nv,bv],Ent.ar bv 1 m es,.row ev 9 1 n (List.map str B),.blk b1 [(ptr s 0)] 24,.blk b6 [(ptr s 0),(vN at_)] 97,.blk b16 [(str (hdrS key v t))] 9,.row v35 23 1 (stepsL 50 52 53 b1 b6 b16 KP).length (List.map clV (stepsL 50 52 53 b1 b6 b16 KP)),.blk b15 [(vN i)] 3,Ent.bs 3 (fun p:KPt=>[vN p.1]) (fun p:KPt=>p.2.1) KP,Ent.bs 9 (fun p:KPt=>[str (pcT t p.1)]) (fun p:KPt=>p.2.2) KP,.row (.slice (some ⟨b34,0,none⟩) 1 1) 23 1 1 [(.func (.func 53) #[] #[(ptr b1 0),(ptr b6 0),(ptr b16 0)])]]:=Own.rowX (i:=8) H35 rfl (by rw [stepsL,List.map_append,List.map_append,List.map_map]; rfl) (by rw [hsl])
 refine wm rfl<|wo (op_callF Fa.C54 rfl ((all_upd s id key each left x k bv ev xv cv nv pg m n es B v35 b1 b6 b16 t v at_ KP _ _ (H36.part [0,1,2,3,4,5,6,7,8,10,11] rfl rfl) hid hev hn hc h4 hm hL hat hcn hKP).mono (fun e w37 hq=>?_)))
 obtain ⟨rfl,hq37⟩:=hq
 refine ⟨_,rfl,?_⟩
 have H37:=H36.splice [0,1,2,3,4,5,6,7,8,10,11] [.blk s [(ptr x 0),(vU32 id),(str key),(vN each),(vI (wrA (Sst.mk B left) (wrs each key v t at_)).1.left)] 95,Ent.bo x [(ptr k 0)],Ent.bo k [(vU32 pg),xv,cv,nv,bv],Ent.ar bv 1 m es,.row ev 9 1 n (List.map str (wrA (Sst.mk B left) (wrs each key v t at_)).1.B),.blk b1 [(ptr s 0)] 24,.blk b6 [(ptr s 0),(vN at_)] 97,.blk b16 [(str (hdrS key v t))] 9,.row v35 23 1 (stepsL 50 52 53 b1 b6 b16 KP).length (List.map clV (stepsL 50 52 53 b1 b6 b16 KP)),Ent.bs 3 (fun p:KPt=>[vN p.1]) (fun p:KPt=>p.2.1) KP,Ent.bs 9 (fun p:KPt=>[str (pcT t p.1)]) (fun p:KPt=>p.2.2) KP] [] rfl rfl hq37 (Fits.solid True.intro (Fits.same (j:=1) rfl (Fits.same (j:=2) rfl (Fits.same (j:=3) rfl (Fits.solid True.intro (Fits.solid True.intro (Fits.solid True.intro (Fits.solid True.intro (Fits.solid True.intro (Fits.same (j:=9) rfl (Fits.same (j:=10) rfl Fits.nil)))))))))))
 refine wa rfl<|wn<|WC.ret<|WQ.out (.tmp rfl .nil) ?_
 rw [updE_3 (dF hb3) (dF hb5) hae]
 exact ⟨rfl,H37.sel [0,1,2,3,4] rfl rfl⟩
theorem mul64_ok (x y:UInt64) (w:World) (h:x.toNat * y.toNat<2^64) :
  Calls Tryz.prog 169 #[vU64 x,vU64 y] w (fun e w'=>e=.returned (.tuple #[vU64 0,vU64 (x * y)])∧Fr [] w w'):=by
 refine (Any.bits_Mul (ρ:=Tryz.lays105_ren) { Tryz.lays105 with } x.toNat y.toNat x.toNat_lt y.toNat_lt w).mono (fun e w' h2=>⟨?_,by rw [h2.2]; exact Fr.refl _ _⟩)
 rw [h2.1]
 have e1:x.toNat * y.toNat / 18446744073709551616=0:=Nat.div_eq_of_lt h
 have e2:x.toNat * y.toNat%18446744073709551616=(x * y).toNat:=by rw [UInt64.toNat_mul]
 rw [e1,e2]; rfl
theorem clone32_ok (lv:Value) (l:List UInt32) (w:World) (hA:Arr w lv 1 l.length (List.map vU32 l)) (hn:l.length<2^40) :
  Calls Tryz.prog 127 #[lv] w (fun e w'=> ∃v,e=.returned v∧Owl.Own [] w w' [.row v 22 1 l.length (List.map vU32 l)]):=by
 refine enter Tryz.func127 rfl rfl ?_
 have H0:=Own.start w []
 refine ws<|wa rfl<|wn<|WC.seq<|ws<|wm rfl<|wo (op_eqlSN Tryz.underlying73 rfl (H0.arr hA) rfl<|wn (wC (isNilS lv) (fun hb1=>?_) (fun hb1=>?_)))
 ·
  refine ws<|wa rfl<|wn<|WC.ret<|WQ.thenRet<|WQ.out (.tmp rfl .nil) ?_
  obtain rfl:l=[]:=List.eq_nil_of_length_eq_zero (hA.isNil0 hb1).1
  exact ⟨_,rfl,(H0.sel [] rfl rfl).nilRow 22 1⟩
 refine WC.skip<|WQ.next<|ws<|wo (op_buildSlice (cs:=[]) H0 Tryz.underlying73 Fa.I22 rfl rfl rfl rfl (by decide) (by decide) (fun b2 w2 H2=>(wm rfl<|wo (op_append (i:=0) H2 Tryz.underlying73 Fa.I22 rfl rfl rfl rfl (Src.ofArr Tryz.underlying73 (H2.arr hA)) (by simp [Value.oneCell']) (by omega) (by omega) (fun v3 w3 H3=>(wa rfl<|wn<|WC.ret<|WQ.out (.tmp rfl .nil) ?_))))))
 have h:=H3.sel [0] rfl rfl
 rw [Nat.zero_add,List.nil_append] at h
 exact ⟨_,rfl,h⟩
theorem hardE_ok (pg:UInt32) (lv:Value) (he:List UInt32) (w:World) (hA:Arr w lv 1 he.length (List.map vU32 he)) (hn:he.length<2^40) :
  Calls Tryz.prog 168 #[(.agg #[(vU32 pg),lv])] w (fun e w'=>e=.returned (vN (hardE pg he))∧Fr [] w w'):=by
 refine enter Tryz.func168 rfl rfl ?_
 have H0:=Own.start w []
 refine ws<|wo (op_box H0 rfl rfl (fun b1 w1 H1=>(wa rfl<|wn<|WC.seq<|ws<|wo (op_fieldAddr rfl Fa.F75_0<|wo (op_load rfl (H1.cell (i:=0) rfl rfl) Tryz.underlying22 rfl<|wo (op_gtrU32 (b:=4096) rfl rfl<|wm rfl (wF 8 (pg>(4096:UInt32)) (fun hb2 hc2=>?_) (fun hb2 hc2=>?_))))))))
 ·
  exact wN hb2<|wN hb2<|wN hb2<|wN hb2<|wo (op_pickT rfl hb2 rfl<|wn<|WC.yes rfl rfl<|ws<|wa rfl<|wn<|WC.ret<|WQ.thenRet<|WQ.out (.tmp rfl .nil) (⟨by rw [hardE,if_pos (.inl (dT hb2))]; rfl,H1.fr⟩))
 refine wY hb2 (op_fieldAddr rfl Fa.F75_1<|wY hb2 (op_load rfl (H1.cell (i:=0) rfl rfl) Tryz.underlying73 rfl<|wY hb2 (op_lenA Tryz.underlying73 rfl (H1.arr hA)<|wY hb2 (op_gtrN (b:=16) rfl rfl<|wo (op_pickF rfl hb2 rfl<|wn (wE (he.length>16) (fun hb3 hc3=>?_) (fun hb3 hc3=>?_)))))))
 ·
  exact ws<|wa rfl<|wn<|WC.ret<|WQ.thenRet<|WQ.out (.tmp rfl .nil) (⟨by rw [hardE,if_pos (.inr (.inl (dT hb3)))]; rfl,H1.fr⟩)
 refine WC.skip<|WQ.next<|WC.seq<|ws<|wo (op_fieldAddr rfl Fa.F75_1<|wo (op_load rfl (H1.cell (i:=0) rfl rfl) Tryz.underlying73 rfl<|wo (op_lenA Tryz.underlying73 rfl (H1.arr hA)<|wm rfl<|wn<|WC.block<|WC.loop (α:=Nat) (fun i=>[(0,(.agg #[(vU32 pg),lv])),(1,(ptr b1 0)),(15,lv),(16,(vN he.length)),(17,(vN i))]) (fun i w'=>(i≤he.length∧(∀j,j<i→¬he.getD j 0>1024))∧Owl.Own [] w w' [.blk b1 [(vU32 pg),lv] 75]) (fun i=>he.length-i) 0 ⟨⟨Nat.zero_le _,fun j h=>by omega⟩,H1⟩ ⟨rfl,rfl,rfl,rfl,rfl,trivial⟩ ?_)))
 rintro i w4 ⟨⟨hi1,hok⟩,H4⟩
 show WC _ _ _ _ _ [(0,(.agg #[(vU32 pg),lv])),(1,(ptr b1 0)),(15,lv),(16,(vN he.length)),(17,(vN i))] _
 refine ws<|wo (op_lssN rfl rfl<|wn<|WC.seq (wE (i<he.length) (fun hb5 hc5=>?_) (fun hb5 hc5=>?_)))
 ·
  refine WC.skip<|WQ.next<|WC.seq<|WC.block<|ws<|wo (op_indexAddr1 Tryz.underlying73 Fa.I22 rfl (H4.arr hA) rfl (by omega)<|wo (op_load rfl ((H4.arr hA).at (get_map vU32 0 (Arr.ltM (H4.arr hA) (by omega)))) Tryz.underlying22 rfl<|wa rfl<|wn<|ws<|wm rfl<|wo (op_gtrU32 (b:=1024) rfl rfl<|wn (wE ((he.getD i 0)>(1024:UInt32)) (fun hb6 hc6=>?_) (fun hb6 hc6=>?_)))))
  ·
   exact ws<|wa rfl<|wn<|WC.ret<|WQ.inRet<|WQ.thenRet<|WQ.thenRet<|WQ.inRet<|WQ.thenRet<|WQ.out (.tmp rfl .nil) (⟨by rw [hardE,if_pos (.inr (.inr (any_yes (d:=0) (k:=i) (by omega) hb6)))]; rfl,H4.fr⟩)
  exact WC.skip<|WQ.inNormal<|WQ.next<|WC.region<|wo (op_addN (b:=1) rfl rfl (by omega)<|wm rfl<|WL.nil<|WQ.round (i+1) ⟨⟨by omega,fun j h=>by rcases Nat.lt_or_ge j i with h9 | h9; exact hok j h9; rw [show j=i by omega]; exact dF hb6⟩,H4⟩ ⟨rfl,rfl,rfl,rfl,rfl,trivial⟩ (by omega))
 exact WC.exit<|WQ.thenExit<|WQ.thenExit<|WQ.inHere<|WQ.next<|ws<|wa rfl<|wn<|WC.ret<|WQ.out (.tmp rfl .nil) (⟨by rw [hardE,if_neg (fun h=>h.elim (dF hb2) (fun h=>h.elim (dF hb3) (fun h=>by rw [any_no (p:=fun x:UInt32=>decide (x>1024)) (d:=0) (fun j h1=>decide_eq_false (hok j (by omega)))] at h; cases h)))]; rfl,H4.fr⟩)
theorem capsNew_ok (pg:UInt32) (lv:Value) (he:List UInt32) (w:World) (hA:Arr w lv 1 he.length (List.map vU32 he)) (hn:he.length<2^40) (hok0:hardE pg he=0) :
  Calls Tryz.prog 126 #[(.agg #[(vU32 pg),lv])] w (fun e w'=> ∃c v mb,e=.returned (.tuple #[ptr c 0,vN 0])∧Owl.Own [] w w' [.blk c [vU32 pg,v,.map (some mb)] 196,.row v 22 1 he.length (List.map vU32 he),.obj mb (mP .i64 [] 0)]):=by
 refine enter Tryz.func126 rfl rfl ?_
 have H0:=Own.start w []
 refine ws<|wo (op_box H0 rfl rfl (fun b1 w1 H1=>(wa rfl<|wa rfl<|wn<|WC.seq<|ws<|wo (op_loadS (vs:=[_,_]) rfl (H1.cells (i:=0) rfl rfl) Tryz.underlying75 rfl Fa.I75 rfl<|wo (cq H1 Fa.C168 rfl (hardE_ok pg _ he _ (H1.arr hA) hn) fun w2 H2=>(wa rfl<|wn<|ws<|wm rfl<|wo (op_neqN (b:=0) rfl rfl<|wn<|WC.no rfl (decide_eq_false (fun h=>h hok0))<|WC.skip<|WQ.next<|ws<|wo (op_fieldAddr rfl Fa.F75_1<|wo (op_load rfl (H2.cell (i:=0) rfl rfl) Tryz.underlying73 rfl<|wo (op_callF Fa.C127 rfl ((clone32_ok _ he _ (H2.arr hA) hn).mono (fun e w3 hq=>?_))))))))))))
 obtain ⟨v3,rfl,hq3⟩:=hq
 refine ⟨_,rfl,?_⟩
 have H3:=H2.splice [] [] [.row v3 22 1 he.length (List.map vU32 he)] rfl rfl hq3 (Fits.solid True.intro Fits.nil)
 exact wo (op_fieldAddr rfl Fa.F75_1<|wo (op_storeB (i:=0) H3 rfl rfl rfl rfl (Arr.one (H3.arrR (i:=1) rfl)) Fa.I73 (fun w4 H4=>(wn<|ws<|wo (op_loadS (vs:=[_,_]) rfl (H4.cells (i:=0) rfl rfl) Tryz.underlying75 rfl Fa.I75 rfl<|wo (op_makeMapP (kk:=.i64) H4 (fun b5 w5 H5=>(wo (op_build (cs:=[_,_,_]) Fa.I196 Fa.PL196 rfl rfl<|wo (op_box H5 rfl rfl (fun b6 w6 H6=>(wa rfl<|wa rfl<|wn<|WC.ret<|WQ.out (.tmp rfl (.tmp rfl .nil)) (⟨_,_,_,rfl,H6.sel [3,1,2] rfl rfl⟩)))))))))))))
theorem nicNew_ok  (w:World) :
  Calls Tryz.prog 128 #[] w (fun e w'=> ∃q mb,e=.returned (ptr q 0)∧Owl.Own [] w w' [.blk q [.map (some mb),.slice none 0 0,vN 0] 264,.obj mb (mP .u16 [] 0)]):=by
 refine enter Tryz.func128 rfl rfl ?_
 have H0:=Own.start w []
 exact ws<|wa rfl<|wn<|ws<|wo (op_makeMapP (kk:=.u16) H0 (fun b1 w1 H1=>(wo (op_build (cs:=[_,_,_]) Fa.I264 Fa.PL264 rfl rfl<|wo (op_box H1 rfl rfl (fun b2 w2 H2=>(wa rfl<|wn<|WC.ret<|WQ.out (.tmp rfl .nil) (⟨_,_,rfl,H2.sel [1,0] rfl rfl⟩))))))))
theorem repeatS_ok (lv:Value) (z:List UInt8) (c:Nat) (w:World) (hA:Arr w lv 1 1 (List.map str [z])) (hc:c<2^32) :
  Calls Tryz.prog 129 #[lv,(vN c)] w (fun e w'=> ∃v,e=.returned v∧Owl.Own [] w w' [.row v 9 1 c (List.map str (List.replicate c z))]):=by
 refine enter Tryz.func129 rfl rfl ?_
 have H0:=Own.start w []
 have hc1:(UInt64.ofNat 1).toNat=1:=rfl
 have hc2:(UInt64.ofNat c).toNat=c:=by rw [UInt64.toNat_ofNat']; exact Nat.mod_eq_of_lt (by omega)
 have hcc:(UInt64.ofNat 1 * UInt64.ofNat c).toNat=c:=by rw [UInt64.toNat_mul,hc1,hc2,Nat.one_mul]; exact Nat.mod_eq_of_lt (by omega)
 refine ws<|wa rfl<|wn<|WC.seq<|ws<|wm rfl<|wo (op_lssN (b:=0) rfl rfl<|wn<|WC.no rfl (decide_eq_false (by omega))<|WC.skip<|WQ.next<|ws<|wm rfl<|wo (op_lenA Tryz.underlying59 rfl (H0.arr hA)<|wo (op_convNU64 (hs:=Tryz.underlying3) (hd:=Tryz.underlying265) rfl<|wm rfl<|wo (op_convNU64 (hs:=Tryz.underlying3) (hd:=Tryz.underlying265) rfl<|wo (cq H0 Fa.C169 rfl (mul64_ok (UInt64.ofNat 1) (UInt64.ofNat c) _ (by rw [hc1,hc2]; omega)) fun w1 H1=>(wm rfl<|we rfl rfl<|we rfl rfl<|wa rfl<|wa rfl<|wn<|WC.seq<|ws<|wm rfl<|wo (op_gtrU64 (a:=0) (b:=0) rfl rfl<|wm rfl<|WL.yes rfl rfl rfl (decide_eq_false (by decide)) rfl (op_move rfl<|WL.yes rfl rfl rfl (decide_eq_false (by decide)) rfl (op_gtrU64 (b:=9223372036854775807) rfl rfl<|wo (op_pickF rfl (decide_eq_false (by decide)) rfl<|wn<|WC.no rfl (decide_eq_false (by rw [gt_iff_lt,UInt64.lt_iff_toNat_lt,hcc]; show ¬9223372036854775807<c; omega))<|WC.skip<|WQ.next<|ws<|wm rfl<|wo (op_convU64N (hs:=Tryz.underlying265) (hd:=Tryz.underlying3) rfl (by rw [hcc]; omega) ?_)))))))))))
 rw [hcc]
 refine wo (op_makeSliceM (f:=str) (c:=[]) H1 Tryz.underlying59 Fa.I9 rfl rfl (by omega) (by omega) (fun b2 w2 H2=>(wa rfl<|wn<|ws<|wm rfl<|wm rfl<|wo (op_copyM (i:=0) (f:=str) (l:=(List.replicate c [])) (r:=[z]) H2 Tryz.underlying59 Fa.I9 rfl rfl (SrcC.ofArr (H2.arr hA)) rfl (Sub.self (H2.arrR (i:=0) rfl)) (by omega) rfl (fun _=>rfl) (fun w3 H3=>(wa rfl<|wn<|WC.seq<|WC.block<|WC.loop (α:=Nat × List (List UInt8)) (fun (d,l1)=>[(7,(.slice (some ⟨b2,0,none⟩) c c)),(8,(vN d))]) (fun (d,l1) w'=>(d≤c∧(0<c→0<d)∧l1=List.replicate d z++List.replicate (c-d) [])∧Owl.Own [] w w' [.row (.slice (some ⟨b2,0,none⟩) c c) 9 1 c (List.map str l1)]) (fun (d,l1)=>c-d) (min 1 c,((List.replicate c []).take 0++([z].take (min 1 c)++(List.replicate c []).drop (0+(min 1 c))))) ⟨⟨by omega,by omega,by rcases Nat.eq_zero_or_pos c with h | h; subst h; rfl; rw [show min 1 c=1 by omega]; obtain ⟨q,rfl⟩: ∃q,c=q+1:=⟨c-1,by omega⟩; rfl⟩,H3⟩ ⟨rfl,rfl,trivial⟩ ?_))))))
 rintro ⟨d,l1⟩ w4 ⟨⟨hd1,hd2,hl1⟩,H4⟩
 show WC _ _ _ _ _ [(7,(.slice (some ⟨b2,0,none⟩) c c)),(8,(vN d))] _
 refine WC.seq<|ws<|wm rfl<|wm rfl<|wo (op_lenA Tryz.underlying59 rfl (H4.arrR (i:=0) rfl)<|wo (op_lssN rfl rfl<|wn (wE (d<c) (fun hb5 hc5=>?_) (fun hb5 hc5=>?_))))
 ·
  refine WC.skip<|WQ.next<|WC.block<|WC.held 10 rfl Fa.M H4 (fun w'=> ∃L',Owl.Own [] w w' ([]++L')) ?_
  intro w6 H6
  refine xt 0 rfl (vN d) H6 (fun _ _ HX=>op_move rfl ⟨rfl,rfl⟩)<|xt 1 rfl (.slice (some ⟨b2,0,none⟩) c c) H6 (fun _ _ HX=>op_move rfl ⟨rfl,rfl⟩)<|xt 2 rfl (vN d) H6 (fun _ _ HX=>op_move rfl ⟨rfl,rfl⟩)<|xt 4 rfl (.slice (some ⟨b2,0,none⟩) c c) H6 (fun _ _ HX=>op_move rfl ⟨rfl,rfl⟩)<|xt 5 rfl (vN d) H6 (fun _ _ HX=>op_move rfl ⟨rfl,rfl⟩)<|WH.named (fun W hW=>?_)
  let e9:List (Nat × Value)→List (Nat × Value):=fun r=>(7,(.slice (some ⟨b2,0,none⟩) c c))::(34,(vN d))::(35,(.slice (some ⟨b2,0,none⟩) c c))::(36,(vN c))::(37,(.bool (decide (d<c))))::r
  let a9_0:Ent:=.row (.slice (some ⟨b2,0,none⟩) c c) 9 1 c (List.map str l1)
  have st9_4: ∀wS,Owl.Own [] w wS [.row (.slice (some ⟨b2,0,none⟩) c c) 9 1 c (List.map str (l1.take d++((l1.take d).take (min d (c-d))++l1.drop (d+(min d (c-d))))))]→W 0 (bz 10 1023) (e9 [(8,(vN (d+(min d (c-d)))))]) wS:=fun wS HS=>by
   rw [hW]
   exact WH.done (by kernel_rfl)<|WQ.inNormal<|WQ.round ((d+(min d (c-d))),(l1.take d++((l1.take d).take (min d (c-d))++l1.drop (d+(min d (c-d)))))) ⟨⟨by omega,by omega,by rw [hl1]; exact repl_copy hd1 (by omega)⟩,HS⟩ ⟨rfl,rfl,trivial⟩ (by show c-(d+(min d (c-d)))<c-d; omega)
  have st9_3: ∀wS,Owl.Own [] w wS [a9_0]→W 3 (bz 10 127) (e9 [(8,(vN d)),(38,(vN d)),(41,(cutV (.slice (some ⟨b2,0,none⟩) c c) d c 1)),(44,(cutV (.slice (some ⟨b2,0,none⟩) c c) 0 d 1))]) wS:=fun wS HS=>by
   rw [hW]
   refine wh1 7<|kH 7 rfl (op_copyM (i:=0) (f:=str) (l:=l1) (r:=(l1.take d)) HS Tryz.underlying59 Fa.I9 rfl rfl (SrcC.ofArr (((HS.arrR (i:=0) rfl)).cutHiM (f:=str) (l:=l1) (b:=d) (by omega))) rfl (Sub.cut (a:=d) (b:=c) (HS.arrR (i:=0) rfl) (by omega) (by omega)) (by omega) rfl (fun _=>rfl) (fun w17141 H17141=>(⟨⟨_,H17141⟩,?_⟩)))
   exact xt 8 rfl (vN (d+(min d (c-d)))) H17141 (fun _ _ HX=>op_addN rfl rfl (by omega) ⟨rfl,rfl⟩)<|xt 9 rfl (vN (d+(min d (c-d)))) H17141 (fun _ _ HX=>op_assign rfl ⟨rfl,rfl⟩)<|WH.cw hW (st9_4 w17141 H17141)
  have st9_1: ∀wS,Owl.Own [] w wS [a9_0]→W 4 (bz 10 63) (e9 [(8,(vN d)),(38,(vN d)),(41,(cutV (.slice (some ⟨b2,0,none⟩) c c) d c 1)),(42,(.slice (some ⟨b2,0,none⟩) c c)),(43,(vN d))]) wS:=fun wS HS=>by
   rw [hW]
   refine wh1 6<|kH 6 rfl (op_cutHi Tryz.underlying59 Fa.I9 rfl (HS.arrR (i:=0) rfl) rfl (by omega) (⟨⟨_,HS⟩,?_⟩))
   exact WH.cw hW (st9_3 wS HS)
  have st9_2: ∀wS,Owl.Own [] w wS [a9_0]→W 4 (bz 10 119) (e9 [(8,(vN d)),(38,(vN d)),(39,(.slice (some ⟨b2,0,none⟩) c c)),(40,(vN d)),(44,(cutV (.slice (some ⟨b2,0,none⟩) c c) 0 d 1))]) wS:=fun wS HS=>by
   rw [hW]
   refine wh1 3<|kH 3 rfl (op_cutLo Tryz.underlying59 Fa.I9 rfl (HS.arrR (i:=0) rfl) rfl (by omega) (⟨⟨_,HS⟩,?_⟩))
   exact WH.cw hW (st9_3 wS HS)
  have st9_0: ∀wS,Owl.Own [] w wS [a9_0]→W 5 (bz 10 55) (e9 [(8,(vN d)),(38,(vN d)),(39,(.slice (some ⟨b2,0,none⟩) c c)),(40,(vN d)),(42,(.slice (some ⟨b2,0,none⟩) c c)),(43,(vN d))]) wS:=fun wS HS=>by
   rw [hW]
   refine wh2 3 6 ?_ ?_
   ·
    refine kH 3 rfl (op_cutLo Tryz.underlying59 Fa.I9 rfl (HS.arrR (i:=0) rfl) rfl (by omega) (⟨⟨_,HS⟩,?_⟩))
    exact WH.cw hW (st9_1 wS HS)
   refine kH 6 rfl (op_cutHi Tryz.underlying59 Fa.I9 rfl (HS.arrR (i:=0) rfl) rfl (by omega) (⟨⟨_,HS⟩,?_⟩))
   exact WH.cw hW (st9_2 wS HS)
  have hq:=st9_0 w6 H6
  rw [hW] at hq ⊢
  exact WH.cv hq
 refine WC.exit<|WQ.thenExit<|WQ.thenExit<|WQ.inHere<|WQ.next<|ws<|wm rfl<|wa rfl<|wn<|WC.ret<|WQ.out (.tmp rfl .nil) ?_
 obtain rfl:d=c:=by omega
 exact ⟨_,rfl,Own.rowEq (i:=0) (f:=str) (H4.sel [0] rfl rfl) rfl (by rw [hl1,Nat.sub_self,List.replicate_zero,List.append_nil])⟩
theorem callsNew_ok (pg:UInt32) (lv:Value) (a b:UInt32) (w:World) (hA:Arr w lv 1 2 (List.map vU32 [a,b])) (hok0:hardE pg [a,b]=0) :
    Calls Tryz.prog 83 #[(.agg #[(vU32 pg),lv])] w (fun e w'=> ∃k bv e0 e1 xv cv nv,e=.returned (.tuple #[ptr k 0,vN 0])∧(∀b'∈[k],w.heap.size≤b')∧(∀b'∈footA bv [e0,e1],w.heap.size≤b')∧(∀b'∈footA e0 (List.map str (List.replicate a.toNat (List.replicate 64 0))),w.heap.size≤b')∧Owl.Own [] w w' [Ent.bo k [(vU32 pg),xv,cv,nv,bv],Ent.ar bv 1 2 [e0,e1],.row e1 9 1 b.toNat (List.map str (List.replicate b.toNat (List.replicate 64 0))),Ent.ar e0 1 a.toNat (List.map str (List.replicate a.toNat (List.replicate 64 0)))]):=by
  refine enter Tryz.func83 rfl rfl ?_
  have H0:=Own.start w []
  refine ws<|wo (op_box H0 rfl rfl (fun b1 w1 H1=>(wa rfl<|wa rfl<|wn<|ws<|wo (op_loadS (vs:=[_,_]) rfl (H1.cells (i:=0) rfl rfl) Tryz.underlying75 rfl Fa.I75 rfl<|wo (op_callF Fa.C126 rfl ((capsNew_ok pg _ ([a,b]) _ (H1.arr hA) (by show 2<_; decide) hok0).mono (fun e w2 hq=>?_)))))))
  obtain ⟨c2,v2,mb2,rfl,hq2⟩:=hq
  refine ⟨_,rfl,?_⟩
  have H2:=H1.splice [] [] [.blk c2 [(vU32 pg),v2,(.map (some mb2))] 196,.row v2 22 1 ([a,b]).length (List.map vU32 ([a,b])),.obj mb2 (mP .i64 [] 0)] rfl rfl hq2 (Fits.solid True.intro (Fits.solid True.intro (Fits.solid True.intro Fits.nil)))
  refine wm rfl<|we rfl rfl<|we rfl rfl<|wa rfl<|wa rfl<|wn<|WC.seq<|ws<|wm rfl<|wo (op_neqN (b:=0) rfl rfl<|wn<|WC.no rfl (by decide)<|WC.skip<|WQ.next<|ws<|wo (op_fieldAddr rfl Fa.F75_1<|wo (op_load rfl (H2.cell (i:=0) rfl rfl) Tryz.underlying73 rfl<|wo (op_callF Fa.C127 rfl ((clone32_ok _ ([a,b]) _ (H2.arr hA) (by show 2<_; decide)).mono (fun e w3 hq=>?_))))))
  obtain ⟨v3,rfl,hq3⟩:=hq
  refine ⟨_,rfl,?_⟩
  have H3:=H2.splice [] [] [.row v3 22 1 ([a,b]).length (List.map vU32 [a,b])] rfl rfl hq3 (Fits.solid True.intro Fits.nil)
  refine wo (op_fieldAddr rfl Fa.F75_1<|wo (op_storeB (i:=0) H3 rfl rfl rfl rfl (Arr.one (H3.arrR (i:=4) rfl)) Fa.I73 (fun w4 H4=>(wn<|WC.seq<|WC.held 6 rfl Fa.M H4 (fun w'=> ∃L',Owl.Own [] w w' ([.blk b1 [(vU32 pg),v3] 75,.blk c2 [(vU32 pg),v2,(.map (some mb2))] 196,.row v2 22 1 ([a,b]).length (List.map vU32 ([a,b])),.obj mb2 (mP .i64 [] 0),.row v3 22 1 ([a,b]).length (List.map vU32 [a,b])]++L')) ?_))))
  intro w5 H5
  refine xt 0 rfl (.agg #[(vU32 pg),v3]) H5 (fun _ _ HX=>op_loadS (vs:=[_,_]) rfl (HX.cells (i:=0) rfl rfl) Tryz.underlying75 rfl Fa.I75 rfl ⟨rfl,rfl⟩)<|xt 1 rfl (ptr c2 0) H5 (fun _ _ HX=>op_move rfl ⟨rfl,rfl⟩)<|WH.named (fun W hW=>?_)
  let e5:List (Nat × Value)→List (Nat × Value):=fun r=>(0,(.agg #[(vU32 pg),lv]))::(1,(ptr b1 0))::(2,(.pointer none))::(3,(vN 0))::(4,(ptr c2 0))::(5,(vN 0))::(9,(.tuple #[(ptr c2 0),(vN 0)]))::(10,(.agg #[(vU32 pg),lv]))::(11,(.tuple #[(ptr c2 0),(vN 0)]))::(12,(ptr c2 0))::(13,(vN 0))::(14,(vN 0))::(15,(.bool (decide (0≠0))))::(17,(ptr b1 1))::(18,lv)::(19,v3)::(20,(ptr b1 1))::r
  let a5_0:Ent:=.blk b1 [(vU32 pg),v3] 75
  let a5_1:Ent:=.blk c2 [(vU32 pg),v2,(.map (some mb2))] 196
  let a5_2:Ent:=.row v2 22 1 ([a,b]).length (List.map vU32 ([a,b]))
  let a5_3:Ent:=.obj mb2 (mP .i64 [] 0)
  let a5_4:Ent:=.row v3 22 1 ([a,b]).length (List.map vU32 [a,b])
  have st5_2: ∀(b16081:Nat) (q16041:Nat) (mb16041:Nat) (wS:World),Owl.Own [] w wS [a5_0,a5_1,a5_2,a5_3,a5_4,.blk q16041 [(.map (some mb16041)),(.slice none 0 0),(vN 0)] 264,.obj mb16041 (mP .u16 [] 0),.blk b16081 [(vU32 pg),v3,(ptr c2 0),(ptr q16041 0),(.slice none 0 0),(vU32 0)] 193]→W 0 (bz 6 63) (e5 [(6,(ptr b16081 0))]) wS:=by
    intro b16081 q16041 mb16041 wS HS
    rw [hW]
    refine WH.done (by kernel_rfl)<|WQ.next<|WC.seq<|ws<|wo (op_fieldAddr rfl Fa.F75_1<|wo (op_load rfl (HS.cell (i:=0) rfl rfl) Tryz.underlying73 rfl<|wo (op_lenA Tryz.underlying73 rfl (HS.arrR (i:=4) rfl)<|wm rfl<|wn<|WC.block<|WC.unroll 2<|ws<|wo (op_lssN rfl rfl<|wn<|WC.seq<|WC.yes rfl rfl<|WC.skip<|WQ.next<|WC.seq<|WC.block<|ws<|wo (op_indexAddr1 Tryz.underlying73 Fa.I22 rfl (HS.arrR (i:=4) rfl) rfl (by simp)<|wo (op_load rfl ((HS.arrR (i:=4) rfl).at rfl) Tryz.underlying22 rfl<|wa rfl<|wn<|WC.held 16 rfl Fa.M HS (fun w'=> ∃L',Owl.Own [] w w' ([.blk b1 [(vU32 pg),v3] 75,.blk c2 [(vU32 pg),v2,(.map (some mb2))] 196,.row v2 22 1 ([a,b]).length (List.map vU32 ([a,b])),.obj mb2 (mP .i64 [] 0),.row v3 22 1 ([a,b]).length (List.map vU32 [a,b]),.blk q16041 [(.map (some mb16041)),(.slice none 0 0),(vN 0)] 264,.obj mb16041 (mP .u16 [] 0)]++L')) ?_))))))
    intro w7 H7
    refine xt 0 rfl (ptr b16081 0) H7 (fun _ _ HX=>op_move rfl ⟨rfl,rfl⟩)<|xt 1 rfl (ptr b16081 0) H7 (fun _ _ HX=>op_move rfl ⟨rfl,rfl⟩)<|xt 8 rfl (vU32 a) H7 (fun _ _ HX=>op_move rfl ⟨rfl,rfl⟩)<|xt 9 rfl (vN a.toNat) H7 (fun _ _ HX=>op_convU32N (hs:=Tryz.underlying22) (hd:=Tryz.underlying3) rfl ⟨rfl,rfl⟩)<|WH.named (fun W hW=>?_)
    let e9:List (Nat × Value)→List (Nat × Value):=fun r=>(0,(.agg #[(vU32 pg),lv]))::(1,(ptr b1 0))::(2,(.pointer none))::(3,(vN 0))::(4,(ptr c2 0))::(5,(vN 0))::(6,(ptr b16081 0))::(8,(vU32 a))::(9,(.tuple #[(ptr c2 0),(vN 0)]))::(10,(.agg #[(vU32 pg),lv]))::(11,(.tuple #[(ptr c2 0),(vN 0)]))::(12,(ptr c2 0))::(13,(vN 0))::(14,(vN 0))::(15,(.bool (decide (0≠0))))::(17,(ptr b1 1))::(18,lv)::(19,v3)::(20,(ptr b1 1))::(26,(ptr b1 1))::(27,v3)::(28,(vN ([a,b]).length))::(29,(vN 0))::(30,(.bool (decide (0<([a,b]).length))))::(31,(.pointer (some (sp v3 0))))::(32,(vU32 a))::r
    let a9_0:Ent:=.blk b1 [(vU32 pg),v3] 75
    let a9_1:Ent:=.blk c2 [(vU32 pg),v2,(.map (some mb2))] 196
    let a9_2:Ent:=.row v2 22 1 ([a,b]).length (List.map vU32 ([a,b]))
    let a9_3:Ent:=.obj mb2 (mP .i64 [] 0)
    let a9_4:Ent:=.row v3 22 1 ([a,b]).length (List.map vU32 [a,b])
    let a9_5:Ent:=.blk q16041 [(.map (some mb16041)),(.slice none 0 0),(vN 0)] 264
    let a9_6:Ent:=.obj mb16041 (mP .u16 [] 0)
    let a9_7:Ent:=.blk b16081 [(vU32 pg),v3,(ptr c2 0),(ptr q16041 0),(.slice none 0 0),(vU32 0)] 193
    have st9_20: ∀(v18241:Value) (b18101:Nat) (b18141:Nat) (v18201:Value) (b18221:Nat) (wS:World),Owl.Own [] w wS [a9_0,a9_1,a9_2,a9_3,a9_4,a9_5,a9_6,.blk b16081 [(vU32 pg),v3,(ptr c2 0),(ptr q16041 0),v18241,(vU32 0)] 193,.row (.slice (some ⟨b18101,0,none⟩) 64 64) 5 1 64 (List.map vU8 (List.replicate 64 0)),.row (.slice (some ⟨b18141,0,none⟩) 1 1) 9 1 1 (List.map str [(List.replicate 64 0)]),.row v18201 9 1 a.toNat (List.map str (List.replicate a.toNat (List.replicate 64 0))),.row (.slice (some ⟨b18221,0,none⟩) 1 1) 59 1 1 [v18201],.row v18241 59 1 (0+1) ([]++[v18201])]→W 0 (bz 16 65535) (e9 []) wS:=by
      intro v18241 b18101 b18141 v18201 b18221 wS HS
      rw [hW]
      refine WH.done (by kernel_rfl)<|WQ.inNormal<|WQ.next<|WC.region<|wo (op_addN (b:=1) rfl rfl (by omega)<|wm rfl<|WL.nil<|WQ.again<|ws<|wo (op_lssN rfl rfl<|wn<|WC.seq<|WC.yes rfl rfl<|WC.skip<|WQ.next<|WC.seq<|WC.block<|ws<|wo (op_indexAddr1 Tryz.underlying73 Fa.I22 rfl (HS.arrR (i:=4) rfl) rfl (by simp)<|wo (op_load rfl ((HS.arrR (i:=4) rfl).at rfl) Tryz.underlying22 rfl<|wa rfl<|wn<|WC.held 16 rfl Fa.M HS (fun w'=> ∃L',Owl.Own [] w w' ([.blk b1 [(vU32 pg),v3] 75,.blk c2 [(vU32 pg),v2,(.map (some mb2))] 196,.row v2 22 1 ([a,b]).length (List.map vU32 ([a,b])),.obj mb2 (mP .i64 [] 0),.row v3 22 1 ([a,b]).length (List.map vU32 [a,b]),.blk q16041 [(.map (some mb16041)),(.slice none 0 0),(vN 0)] 264,.obj mb16041 (mP .u16 [] 0)]++L')) ?_))))
      intro w9 H9
      refine xt 0 rfl (ptr b16081 0) H9 (fun _ _ HX=>op_move rfl ⟨rfl,rfl⟩)<|xt 1 rfl (ptr b16081 0) H9 (fun _ _ HX=>op_move rfl ⟨rfl,rfl⟩)<|xt 8 rfl (vU32 b) H9 (fun _ _ HX=>op_move rfl ⟨rfl,rfl⟩)<|xt 9 rfl (vN b.toNat) H9 (fun _ _ HX=>op_convU32N (hs:=Tryz.underlying22) (hd:=Tryz.underlying3) rfl ⟨rfl,rfl⟩)<|WH.named (fun W hW=>?_)
      let e9:List (Nat × Value)→List (Nat × Value):=fun r=>(0,(.agg #[(vU32 pg),lv]))::(1,(ptr b1 0))::(2,(.pointer none))::(3,(vN 0))::(4,(ptr c2 0))::(5,(vN 0))::(6,(ptr b16081 0))::(8,(vU32 b))::(9,(.tuple #[(ptr c2 0),(vN 0)]))::(10,(.agg #[(vU32 pg),lv]))::(11,(.tuple #[(ptr c2 0),(vN 0)]))::(12,(ptr c2 0))::(13,(vN 0))::(14,(vN 0))::(15,(.bool (decide (0≠0))))::(17,(ptr b1 1))::(18,lv)::(19,v3)::(20,(ptr b1 1))::(26,(ptr b1 1))::(27,v3)::(28,(vN ([a,b]).length))::(29,(vN (0+1)))::(30,(.bool (decide ((0+1)<([a,b]).length))))::(31,(.pointer (some (sp v3 (0+1)))))::(32,(vU32 b))::(48,(vN (0+1)))::r
      let a9_0:Ent:=.blk b1 [(vU32 pg),v3] 75
      let a9_1:Ent:=.blk c2 [(vU32 pg),v2,(.map (some mb2))] 196
      let a9_2:Ent:=.row v2 22 1 ([a,b]).length (List.map vU32 ([a,b]))
      let a9_3:Ent:=.obj mb2 (mP .i64 [] 0)
      let a9_4:Ent:=.row v3 22 1 ([a,b]).length (List.map vU32 [a,b])
      let a9_5:Ent:=.blk q16041 [(.map (some mb16041)),(.slice none 0 0),(vN 0)] 264
      let a9_6:Ent:=.obj mb16041 (mP .u16 [] 0)
      let a9_7:Ent:=.blk b16081 [(vU32 pg),v3,(ptr c2 0),(ptr q16041 0),v18241,(vU32 0)] 193
      let a9_8:Ent:=.row (.slice (some ⟨b18101,0,none⟩) 64 64) 5 1 64 (List.map vU8 (List.replicate 64 0))
      let a9_9:Ent:=.row (.slice (some ⟨b18141,0,none⟩) 1 1) 9 1 1 (List.map str [(List.replicate 64 0)])
      let a9_10:Ent:=.row v18201 9 1 a.toNat (List.map str (List.replicate a.toNat (List.replicate 64 0)))
      let a9_11:Ent:=.row (.slice (some ⟨b18221,0,none⟩) 1 1) 59 1 1 [v18201]
      let a9_12:Ent:=.row v18241 59 1 (0+1) ([]++[v18201])
      have st9_20: ∀(v20241:Value) (v20201:Value) (b20101:Nat) (b20141:Nat) (b20221:Nat) (wS:World),Owl.Own [] w wS [a9_0,a9_1,a9_2,a9_3,a9_4,a9_5,a9_6,.blk b16081 [(vU32 pg),v3,(ptr c2 0),(ptr q16041 0),v20241,(vU32 0)] 193,a9_8,a9_9,a9_10,a9_11,.row v20241 59 1 ((0+1)+1) (([]++[v18201])++[v20201]),.row (.slice (some ⟨b20101,0,none⟩) 64 64) 5 1 64 (List.map vU8 (List.replicate 64 0)),.row (.slice (some ⟨b20141,0,none⟩) 1 1) 9 1 1 (List.map str [(List.replicate 64 0)]),.row v20201 9 1 b.toNat (List.map str (List.replicate b.toNat (List.replicate 64 0))),.row (.slice (some ⟨b20221,0,none⟩) 1 1) 59 1 1 [v20201]]→W 0 (bz 16 65535) (e9 []) wS:=by
        intro v20241 v20201 b20101 b20141 b20221 wS HS
        rw [hW]
        refine WH.done (by kernel_rfl)<|WQ.inNormal<|WQ.next<|WC.region<|wo (op_addN (b:=1) rfl rfl (by omega)<|wm rfl<|WL.nil<|WQ.again<|ws<|wo (op_lssN rfl rfl<|wn<|WC.seq<|WC.no rfl rfl<|WC.exit<|WQ.thenExit<|WQ.thenExit<|WQ.inHere<|WQ.next<|ws<|wm rfl<|wa rfl<|wa rfl<|wn<|WC.ret<|WQ.out (.tmp rfl (.tmp rfl .nil)) ?_))
        have h:=(show Owl.Own [] w wS [.blk b1 [(vU32 pg),v3] 75,.blk c2 [(vU32 pg),v2,(.map (some mb2))] 196,.row v2 22 1 ([a,b]).length (List.map vU32 ([a,b])),.obj mb2 (mP .i64 [] 0),.row v3 22 1 ([a,b]).length (List.map vU32 [a,b]),.blk q16041 [(.map (some mb16041)),(.slice none 0 0),(vN 0)] 264,.obj mb16041 (mP .u16 [] 0),.blk b16081 [(vU32 pg),v3,(ptr c2 0),(ptr q16041 0),v20241,(vU32 0)] 193,.row (.slice (some ⟨b18101,0,none⟩) 64 64) 5 1 64 (List.map vU8 (List.replicate 64 0)),.row (.slice (some ⟨b18141,0,none⟩) 1 1) 9 1 1 (List.map str [(List.replicate 64 0)]),.row v18201 9 1 a.toNat (List.map str (List.replicate a.toNat (List.replicate 64 0))),.row (.slice (some ⟨b18221,0,none⟩) 1 1) 59 1 1 [v18201],.row v20241 59 1 ((0+1)+1) (([]++[v18201])++[v20201]),.row (.slice (some ⟨b20101,0,none⟩) 64 64) 5 1 64 (List.map vU8 (List.replicate 64 0)),.row (.slice (some ⟨b20141,0,none⟩) 1 1) 9 1 1 (List.map str [(List.replicate 64 0)]),.row v20201 9 1 b.toNat (List.map str (List.replicate b.toNat (List.replicate 64 0))),.row (.slice (some ⟨b20221,0,none⟩) 1 1) 59 1 1 [v20201]] from HS)
        refine ⟨b16081,v20241,v18201,v20201,v3,(ptr c2 0),(ptr q16041 0),rfl,fun b hb=>?_,fun b hb=>?_,fun b hb=>?_,(((h.toBo (i:=7) rfl 5 rfl).freeze (i:=12) rfl).freeze (i:=10) rfl).sel [7,12,15,10] rfl rfl⟩
        · rw [List.mem_singleton] at hb; subst hb; exact h.fresh0 (i:=7) rfl rfl
        · exact h.rowFresh (i:=12) rfl b hb
        · exact h.rowFresh (i:=10) rfl b hb
      have st9_19: ∀(v20241:Value) (v20201:Value) (b20101:Nat) (b20141:Nat) (b20221:Nat) (wS:World),Owl.Own [] w wS [a9_0,a9_1,a9_2,a9_3,a9_4,a9_5,a9_6,a9_7,a9_8,a9_9,a9_10,a9_11,.row v20241 59 1 ((0+1)+1) (([]++[v18201])++[v20201]),.row (.slice (some ⟨b20101,0,none⟩) 64 64) 5 1 64 (List.map vU8 (List.replicate 64 0)),.row (.slice (some ⟨b20141,0,none⟩) 1 1) 9 1 1 (List.map str [(List.replicate 64 0)]),.row v20201 9 1 b.toNat (List.map str (List.replicate b.toNat (List.replicate 64 0))),.row (.slice (some ⟨b20221,0,none⟩) 1 1) 59 1 1 [v20201]]→W 1 (bz 16 32767) (e9 [(45,v20241),(47,(ptr b16081 4))]) wS:=by
        intro v20241 v20201 b20101 b20141 b20221 wS HS
        rw [hW]
        refine wh1 15<|kH 15 rfl (op_storeB (i:=7) HS rfl rfl rfl rfl (Arr.one (HS.arrR (i:=12) rfl)) Fa.I191 (fun w20301 H20301=>(⟨⟨_,H20301⟩,?_⟩)))
        exact WH.cw hW (st9_20 v20241 v20201 b20101 b20141 b20221 w20301 H20301)
      have st9_18: ∀(v20241:Value) (v20201:Value) (b20101:Nat) (b20141:Nat) (b20221:Nat) (wS:World),Owl.Own [] w wS [a9_0,a9_1,a9_2,a9_3,a9_4,a9_5,a9_6,a9_7,a9_8,a9_9,a9_10,a9_11,.row v20241 59 1 ((0+1)+1) (([]++[v18201])++[v20201]),.row (.slice (some ⟨b20101,0,none⟩) 64 64) 5 1 64 (List.map vU8 (List.replicate 64 0)),.row (.slice (some ⟨b20141,0,none⟩) 1 1) 9 1 1 (List.map str [(List.replicate 64 0)]),.row v20201 9 1 b.toNat (List.map str (List.replicate b.toNat (List.replicate 64 0))),.row (.slice (some ⟨b20221,0,none⟩) 1 1) 59 1 1 [v20201]]→W 3 (bz 16 8191) (e9 [(33,(ptr b16081 0)),(45,v20241)]) wS:=by
        intro v20241 v20201 b20101 b20141 b20221 wS HS
        rw [hW]
        refine wh1 13<|kH 13 rfl (op_nilCheck rfl (⟨⟨_,HS⟩,?_⟩))
        exact xt 14 rfl (ptr b16081 4) HS (fun _ _ HX=>op_fieldAddr rfl Fa.F193_3 ⟨rfl,rfl⟩)<|WH.cw hW (st9_19 v20241 v20201 b20101 b20141 b20221 wS HS)
      have st9_17: ∀(b20221:Nat) (b20101:Nat) (b20141:Nat) (v20201:Value) (wS:World),Owl.Own [] w wS [a9_0,a9_1,a9_2,a9_3,a9_4,a9_5,a9_6,a9_7,a9_8,a9_9,a9_10,a9_11,a9_12,.row (.slice (some ⟨b20101,0,none⟩) 64 64) 5 1 64 (List.map vU8 (List.replicate 64 0)),.row (.slice (some ⟨b20141,0,none⟩) 1 1) 9 1 1 (List.map str [(List.replicate 64 0)]),.row v20201 9 1 b.toNat (List.map str (List.replicate b.toNat (List.replicate 64 0))),.row (.slice (some ⟨b20221,0,none⟩) 1 1) 59 1 1 [v20201]]→W 4 (bz 16 4095) (e9 [(33,(ptr b16081 0)),(37,v18241),(44,(.slice (some ⟨b20221,0,none⟩) 1 1))]) wS:=by
        intro b20221 b20101 b20141 v20201 wS HS
        rw [hW]
        refine wh1 12<|kH 12 rfl (op_append (i:=12) HS Tryz.underlying191 Fa.I59 rfl rfl rfl rfl (Src.ofArr Tryz.underlying191 (HS.arrR (i:=16) rfl)) (fun c hc=>by rw [List.mem_singleton.1 hc]; exact Arr.one (HS.arrR (i:=15) rfl)) (by omega) (by omega) (fun v20241 w20241 H20241=>?_))
        refine ⟨⟨_,H20241⟩,?_⟩
        exact WH.cw hW (st9_18 v20241 v20201 b20101 b20141 b20221 w20241 H20241)
      have st9_15: ∀(v20201:Value) (b20101:Nat) (b20141:Nat) (wS:World),Owl.Own [] w wS [a9_0,a9_1,a9_2,a9_3,a9_4,a9_5,a9_6,a9_7,a9_8,a9_9,a9_10,a9_11,a9_12,.row (.slice (some ⟨b20101,0,none⟩) 64 64) 5 1 64 (List.map vU8 (List.replicate 64 0)),.row (.slice (some ⟨b20141,0,none⟩) 1 1) 9 1 1 (List.map str [(List.replicate 64 0)]),.row v20201 9 1 b.toNat (List.map str (List.replicate b.toNat (List.replicate 64 0)))]→W 5 (bz 16 2047) (e9 [(33,(ptr b16081 0)),(37,v18241),(43,v20201)]) wS:=by
        intro v20201 b20101 b20141 wS HS
        rw [hW]
        refine wh1 11<|kH 11 rfl (op_buildSlice (cs:=[v20201]) HS Tryz.underlying191 Fa.I59 rfl rfl (by obtain ⟨_,_,e0,_⟩:=(HS.arrR (i:=15) rfl).form; rw [e0]; rfl) rfl (by decide) (by decide) (fun b20221 w20221 H20221=>?_))
        refine ⟨⟨_,H20221⟩,?_⟩
        exact WH.cw hW (st9_17 b20221 b20101 b20141 v20201 w20221 H20221)
      have st9_16: ∀(b20221:Nat) (b20101:Nat) (b20141:Nat) (v20201:Value) (wS:World),Owl.Own [] w wS [a9_0,a9_1,a9_2,a9_3,a9_4,a9_5,a9_6,a9_7,a9_8,a9_9,a9_10,a9_11,a9_12,.row (.slice (some ⟨b20101,0,none⟩) 64 64) 5 1 64 (List.map vU8 (List.replicate 64 0)),.row (.slice (some ⟨b20141,0,none⟩) 1 1) 9 1 1 (List.map str [(List.replicate 64 0)]),.row v20201 9 1 b.toNat (List.map str (List.replicate b.toNat (List.replicate 64 0))),.row (.slice (some ⟨b20221,0,none⟩) 1 1) 59 1 1 [v20201]]→W 5 (bz 16 4079) (e9 [(33,(ptr b16081 0)),(36,(ptr b16081 4)),(44,(.slice (some ⟨b20221,0,none⟩) 1 1))]) wS:=by
        intro b20221 b20101 b20141 v20201 wS HS
        rw [hW]
        refine wh1 4<|kH 4 rfl (op_load rfl (HS.cell (i:=7) rfl rfl) Tryz.underlying191 rfl (⟨⟨_,HS⟩,?_⟩))
        exact WH.cw hW (st9_17 b20221 b20101 b20141 v20201 wS HS)
      have st9_12: ∀(b20141:Nat) (b20101:Nat) (wS:World),Owl.Own [] w wS [a9_0,a9_1,a9_2,a9_3,a9_4,a9_5,a9_6,a9_7,a9_8,a9_9,a9_10,a9_11,a9_12,.row (.slice (some ⟨b20101,0,none⟩) 64 64) 5 1 64 (List.map vU8 (List.replicate 64 0)),.row (.slice (some ⟨b20141,0,none⟩) 1 1) 9 1 1 (List.map str [(List.replicate 64 0)])]→W 6 (bz 16 1023) (e9 [(33,(ptr b16081 0)),(37,v18241),(40,(.slice (some ⟨b20141,0,none⟩) 1 1)),(42,(vN b.toNat))]) wS:=by
        intro b20141 b20101 wS HS
        rw [hW]
        refine wh1 10<|kH 10 rfl (op_callF Fa.C129 rfl ((repeatS_ok _ (List.replicate 64 0) b.toNat _ (HS.arrR (i:=14) rfl) (UInt32.toNat_lt _)).mono (fun e w20201 hq=>?_)))
        obtain ⟨v20201,rfl,hq20201⟩:=hq
        refine ⟨_,rfl,?_⟩
        have H20201:=HS.splice [] [] [.row v20201 9 1 b.toNat (List.map str (List.replicate b.toNat (List.replicate 64 0)))] rfl rfl hq20201 (Fits.solid True.intro Fits.nil)
        refine ⟨⟨_,H20201⟩,?_⟩
        exact WH.cw hW (st9_15 v20201 b20101 b20141 w20201 H20201)
      have st9_13: ∀(v20201:Value) (b20101:Nat) (b20141:Nat) (wS:World),Owl.Own [] w wS [a9_0,a9_1,a9_2,a9_3,a9_4,a9_5,a9_6,a9_7,a9_8,a9_9,a9_10,a9_11,a9_12,.row (.slice (some ⟨b20101,0,none⟩) 64 64) 5 1 64 (List.map vU8 (List.replicate 64 0)),.row (.slice (some ⟨b20141,0,none⟩) 1 1) 9 1 1 (List.map str [(List.replicate 64 0)]),.row v20201 9 1 b.toNat (List.map str (List.replicate b.toNat (List.replicate 64 0)))]→W 6 (bz 16 2031) (e9 [(33,(ptr b16081 0)),(36,(ptr b16081 4)),(43,v20201)]) wS:=by
        intro v20201 b20101 b20141 wS HS
        rw [hW]
        refine wh2 4 11 ?_ ?_
        ·
          refine kH 4 rfl (op_load rfl (HS.cell (i:=7) rfl rfl) Tryz.underlying191 rfl (⟨⟨_,HS⟩,?_⟩))
          exact WH.cw hW (st9_15 v20201 b20101 b20141 wS HS)
        refine kH 11 rfl (op_buildSlice (cs:=[v20201]) HS Tryz.underlying191 Fa.I59 rfl rfl (by obtain ⟨_,_,e0,_⟩:=(HS.arrR (i:=15) rfl).form; rw [e0]; rfl) rfl (by decide) (by decide) (fun b20221 w20221 H20221=>?_))
        refine ⟨⟨_,H20221⟩,?_⟩
        exact WH.cw hW (st9_16 b20221 b20101 b20141 v20201 w20221 H20221)
      have st9_9: ∀(b20101:Nat) (wS:World),Owl.Own [] w wS [a9_0,a9_1,a9_2,a9_3,a9_4,a9_5,a9_6,a9_7,a9_8,a9_9,a9_10,a9_11,a9_12,.row (.slice (some ⟨b20101,0,none⟩) 64 64) 5 1 64 (List.map vU8 (List.replicate 64 0))]→W 7 (bz 16 895) (e9 [(33,(ptr b16081 0)),(37,v18241),(39,(str (List.replicate 64 0))),(42,(vN b.toNat))]) wS:=by
        intro b20101 wS HS
        rw [hW]
        refine wh1 7<|kH 7 rfl (op_buildSlice (cs:=[_]) HS Tryz.underlying59 Fa.I9 rfl rfl rfl rfl (by decide) (by decide) (fun b20141 w20141 H20141=>(⟨⟨_,H20141⟩,?_⟩)))
        exact WH.cw hW (st9_12 b20141 b20101 w20141 H20141)
      have st9_10: ∀(b20141:Nat) (b20101:Nat) (wS:World),Owl.Own [] w wS [a9_0,a9_1,a9_2,a9_3,a9_4,a9_5,a9_6,a9_7,a9_8,a9_9,a9_10,a9_11,a9_12,.row (.slice (some ⟨b20101,0,none⟩) 64 64) 5 1 64 (List.map vU8 (List.replicate 64 0)),.row (.slice (some ⟨b20141,0,none⟩) 1 1) 9 1 1 (List.map str [(List.replicate 64 0)])]→W 7 (bz 16 1007) (e9 [(33,(ptr b16081 0)),(36,(ptr b16081 4)),(40,(.slice (some ⟨b20141,0,none⟩) 1 1)),(42,(vN b.toNat))]) wS:=by
        intro b20141 b20101 wS HS
        rw [hW]
        refine wh2 4 10 ?_ ?_
        ·
          refine kH 4 rfl (op_load rfl (HS.cell (i:=7) rfl rfl) Tryz.underlying191 rfl (⟨⟨_,HS⟩,?_⟩))
          exact WH.cw hW (st9_12 b20141 b20101 wS HS)
        refine kH 10 rfl (op_callF Fa.C129 rfl ((repeatS_ok _ (List.replicate 64 0) b.toNat _ (HS.arrR (i:=14) rfl) (UInt32.toNat_lt _)).mono (fun e w20201 hq=>?_)))
        obtain ⟨v20201,rfl,hq20201⟩:=hq
        refine ⟨_,rfl,?_⟩
        have H20201:=HS.splice [] [] [.row v20201 9 1 b.toNat (List.map str (List.replicate b.toNat (List.replicate 64 0)))] rfl rfl hq20201 (Fits.solid True.intro Fits.nil)
        refine ⟨⟨_,H20201⟩,?_⟩
        exact WH.cw hW (st9_13 v20201 b20101 b20141 w20201 H20201)
      have st9_14: ∀(b20221:Nat) (b20101:Nat) (b20141:Nat) (v20201:Value) (wS:World),Owl.Own [] w wS [a9_0,a9_1,a9_2,a9_3,a9_4,a9_5,a9_6,a9_7,a9_8,a9_9,a9_10,a9_11,a9_12,.row (.slice (some ⟨b20101,0,none⟩) 64 64) 5 1 64 (List.map vU8 (List.replicate 64 0)),.row (.slice (some ⟨b20141,0,none⟩) 1 1) 9 1 1 (List.map str [(List.replicate 64 0)]),.row v20201 9 1 b.toNat (List.map str (List.replicate b.toNat (List.replicate 64 0))),.row (.slice (some ⟨b20221,0,none⟩) 1 1) 59 1 1 [v20201]]→W 7 (bz 16 4067) (e9 [(33,(ptr b16081 0)),(34,(ptr b16081 0)),(44,(.slice (some ⟨b20221,0,none⟩) 1 1))]) wS:=by
        intro b20221 b20101 b20141 v20201 wS HS
        rw [hW]
        refine wh1 2<|kH 2 rfl (op_nilCheck rfl (⟨⟨_,HS⟩,?_⟩))
        exact xt 3 rfl (ptr b16081 4) HS (fun _ _ HX=>op_fieldAddr rfl Fa.F193_3 ⟨rfl,rfl⟩)<|WH.cw hW (st9_16 b20221 b20101 b20141 v20201 wS HS)
      have st9_6: ∀(b20101:Nat) (wS:World),Owl.Own [] w wS [a9_0,a9_1,a9_2,a9_3,a9_4,a9_5,a9_6,a9_7,a9_8,a9_9,a9_10,a9_11,a9_12,.row (.slice (some ⟨b20101,0,none⟩) 64 64) 5 1 64 (List.map vU8 (List.replicate 64 0))]→W 8 (bz 16 831) (e9 [(33,(ptr b16081 0)),(37,v18241),(38,(.slice (some ⟨b20101,0,none⟩) 64 64)),(42,(vN b.toNat))]) wS:=by
        intro b20101 wS HS
        rw [hW]
        refine wh1 6<|kH 6 rfl (op_bytesStr (l:=(List.replicate 64 0)) Tryz.underlying114 Tryz.underlying5 Tryz.underlying9 rfl (HS.arrR (i:=13) rfl) rfl (⟨⟨_,HS⟩,?_⟩))
        exact WH.cw hW (st9_9 b20101 wS HS)
      have st9_7: ∀(b20101:Nat) (wS:World),Owl.Own [] w wS [a9_0,a9_1,a9_2,a9_3,a9_4,a9_5,a9_6,a9_7,a9_8,a9_9,a9_10,a9_11,a9_12,.row (.slice (some ⟨b20101,0,none⟩) 64 64) 5 1 64 (List.map vU8 (List.replicate 64 0))]→W 8 (bz 16 879) (e9 [(33,(ptr b16081 0)),(36,(ptr b16081 4)),(39,(str (List.replicate 64 0))),(42,(vN b.toNat))]) wS:=by
        intro b20101 wS HS
        rw [hW]
        refine wh2 4 7 ?_ ?_
        ·
          refine kH 4 rfl (op_load rfl (HS.cell (i:=7) rfl rfl) Tryz.underlying191 rfl (⟨⟨_,HS⟩,?_⟩))
          exact WH.cw hW (st9_9 b20101 wS HS)
        refine kH 7 rfl (op_buildSlice (cs:=[_]) HS Tryz.underlying59 Fa.I9 rfl rfl rfl rfl (by decide) (by decide) (fun b20141 w20141 H20141=>(⟨⟨_,H20141⟩,?_⟩)))
        exact WH.cw hW (st9_10 b20141 b20101 w20141 H20141)
      have st9_11: ∀(v20201:Value) (b20101:Nat) (b20141:Nat) (wS:World),Owl.Own [] w wS [a9_0,a9_1,a9_2,a9_3,a9_4,a9_5,a9_6,a9_7,a9_8,a9_9,a9_10,a9_11,a9_12,.row (.slice (some ⟨b20101,0,none⟩) 64 64) 5 1 64 (List.map vU8 (List.replicate 64 0)),.row (.slice (some ⟨b20141,0,none⟩) 1 1) 9 1 1 (List.map str [(List.replicate 64 0)]),.row v20201 9 1 b.toNat (List.map str (List.replicate b.toNat (List.replicate 64 0)))]→W 8 (bz 16 2019) (e9 [(33,(ptr b16081 0)),(34,(ptr b16081 0)),(43,v20201)]) wS:=by
        intro v20201 b20101 b20141 wS HS
        rw [hW]
        refine wh2 2 11 ?_ ?_
        ·
          refine kH 2 rfl (op_nilCheck rfl (⟨⟨_,HS⟩,?_⟩))
          exact xt 3 rfl (ptr b16081 4) HS (fun _ _ HX=>op_fieldAddr rfl Fa.F193_3 ⟨rfl,rfl⟩)<|WH.cw hW (st9_13 v20201 b20101 b20141 wS HS)
        refine kH 11 rfl (op_buildSlice (cs:=[v20201]) HS Tryz.underlying191 Fa.I59 rfl rfl (by obtain ⟨_,_,e0,_⟩:=(HS.arrR (i:=15) rfl).form; rw [e0]; rfl) rfl (by decide) (by decide) (fun b20221 w20221 H20221=>?_))
        refine ⟨⟨_,H20221⟩,?_⟩
        exact WH.cw hW (st9_14 b20221 b20101 b20141 v20201 w20221 H20221)
      have st9_3: ∀wS,Owl.Own [] w wS [a9_0,a9_1,a9_2,a9_3,a9_4,a9_5,a9_6,a9_7,a9_8,a9_9,a9_10,a9_11,a9_12]→W 9 (bz 16 799) (e9 [(33,(ptr b16081 0)),(37,v18241),(42,(vN b.toNat))]) wS:=fun wS HS=>by
        rw [hW]
        refine wh1 5<|kH 5 rfl (op_makeSliceM (f:=vU8) (c:=0) (m:=64) HS Tryz.underlying114 Fa.I5 rfl rfl (by omega) (by omega) (fun b20101 w20101 H20101=>(⟨⟨_,H20101⟩,?_⟩)))
        exact WH.cw hW (st9_6 b20101 w20101 H20101)
      have st9_4: ∀(b20101:Nat) (wS:World),Owl.Own [] w wS [a9_0,a9_1,a9_2,a9_3,a9_4,a9_5,a9_6,a9_7,a9_8,a9_9,a9_10,a9_11,a9_12,.row (.slice (some ⟨b20101,0,none⟩) 64 64) 5 1 64 (List.map vU8 (List.replicate 64 0))]→W 9 (bz 16 815) (e9 [(33,(ptr b16081 0)),(36,(ptr b16081 4)),(38,(.slice (some ⟨b20101,0,none⟩) 64 64)),(42,(vN b.toNat))]) wS:=by
        intro b20101 wS HS
        rw [hW]
        refine wh2 4 6 ?_ ?_
        ·
          refine kH 4 rfl (op_load rfl (HS.cell (i:=7) rfl rfl) Tryz.underlying191 rfl (⟨⟨_,HS⟩,?_⟩))
          exact WH.cw hW (st9_6 b20101 wS HS)
        refine kH 6 rfl (op_bytesStr (l:=(List.replicate 64 0)) Tryz.underlying114 Tryz.underlying5 Tryz.underlying9 rfl (HS.arrR (i:=13) rfl) rfl (⟨⟨_,HS⟩,?_⟩))
        exact WH.cw hW (st9_7 b20101 wS HS)
      have st9_8: ∀(b20141:Nat) (b20101:Nat) (wS:World),Owl.Own [] w wS [a9_0,a9_1,a9_2,a9_3,a9_4,a9_5,a9_6,a9_7,a9_8,a9_9,a9_10,a9_11,a9_12,.row (.slice (some ⟨b20101,0,none⟩) 64 64) 5 1 64 (List.map vU8 (List.replicate 64 0)),.row (.slice (some ⟨b20141,0,none⟩) 1 1) 9 1 1 (List.map str [(List.replicate 64 0)])]→W 9 (bz 16 995) (e9 [(33,(ptr b16081 0)),(34,(ptr b16081 0)),(40,(.slice (some ⟨b20141,0,none⟩) 1 1)),(42,(vN b.toNat))]) wS:=by
        intro b20141 b20101 wS HS
        rw [hW]
        refine wh2 2 10 ?_ ?_
        ·
          refine kH 2 rfl (op_nilCheck rfl (⟨⟨_,HS⟩,?_⟩))
          exact xt 3 rfl (ptr b16081 4) HS (fun _ _ HX=>op_fieldAddr rfl Fa.F193_3 ⟨rfl,rfl⟩)<|WH.cw hW (st9_10 b20141 b20101 wS HS)
        refine kH 10 rfl (op_callF Fa.C129 rfl ((repeatS_ok _ (List.replicate 64 0) b.toNat _ (HS.arrR (i:=14) rfl) (UInt32.toNat_lt _)).mono (fun e w20201 hq=>?_)))
        obtain ⟨v20201,rfl,hq20201⟩:=hq
        refine ⟨_,rfl,?_⟩
        have H20201:=HS.splice [] [] [.row v20201 9 1 b.toNat (List.map str (List.replicate b.toNat (List.replicate 64 0)))] rfl rfl hq20201 (Fits.solid True.intro Fits.nil)
        refine ⟨⟨_,H20201⟩,?_⟩
        exact WH.cw hW (st9_11 v20201 b20101 b20141 w20201 H20201)
      have st9_1: ∀wS,Owl.Own [] w wS [a9_0,a9_1,a9_2,a9_3,a9_4,a9_5,a9_6,a9_7,a9_8,a9_9,a9_10,a9_11,a9_12]→W 10 (bz 16 783) (e9 [(33,(ptr b16081 0)),(36,(ptr b16081 4)),(42,(vN b.toNat))]) wS:=fun wS HS=>by
        rw [hW]
        refine wh2 4 5 ?_ ?_
        ·
          refine kH 4 rfl (op_load rfl (HS.cell (i:=7) rfl rfl) Tryz.underlying191 rfl (⟨⟨_,HS⟩,?_⟩))
          exact WH.cw hW (st9_3 wS HS)
        refine kH 5 rfl (op_makeSliceM (f:=vU8) (c:=0) (m:=64) HS Tryz.underlying114 Fa.I5 rfl rfl (by omega) (by omega) (fun b20101 w20101 H20101=>(⟨⟨_,H20101⟩,?_⟩)))
        exact WH.cw hW (st9_4 b20101 w20101 H20101)
      have st9_5: ∀(b20101:Nat) (wS:World),Owl.Own [] w wS [a9_0,a9_1,a9_2,a9_3,a9_4,a9_5,a9_6,a9_7,a9_8,a9_9,a9_10,a9_11,a9_12,.row (.slice (some ⟨b20101,0,none⟩) 64 64) 5 1 64 (List.map vU8 (List.replicate 64 0))]→W 10 (bz 16 867) (e9 [(33,(ptr b16081 0)),(34,(ptr b16081 0)),(39,(str (List.replicate 64 0))),(42,(vN b.toNat))]) wS:=by
        intro b20101 wS HS
        rw [hW]
        refine wh2 2 7 ?_ ?_
        ·
          refine kH 2 rfl (op_nilCheck rfl (⟨⟨_,HS⟩,?_⟩))
          exact xt 3 rfl (ptr b16081 4) HS (fun _ _ HX=>op_fieldAddr rfl Fa.F193_3 ⟨rfl,rfl⟩)<|WH.cw hW (st9_7 b20101 wS HS)
        refine kH 7 rfl (op_buildSlice (cs:=[_]) HS Tryz.underlying59 Fa.I9 rfl rfl rfl rfl (by decide) (by decide) (fun b20141 w20141 H20141=>(⟨⟨_,H20141⟩,?_⟩)))
        exact WH.cw hW (st9_8 b20141 b20101 w20141 H20141)
      have st9_2: ∀(b20101:Nat) (wS:World),Owl.Own [] w wS [a9_0,a9_1,a9_2,a9_3,a9_4,a9_5,a9_6,a9_7,a9_8,a9_9,a9_10,a9_11,a9_12,.row (.slice (some ⟨b20101,0,none⟩) 64 64) 5 1 64 (List.map vU8 (List.replicate 64 0))]→W 11 (bz 16 803) (e9 [(33,(ptr b16081 0)),(34,(ptr b16081 0)),(38,(.slice (some ⟨b20101,0,none⟩) 64 64)),(42,(vN b.toNat))]) wS:=by
        intro b20101 wS HS
        rw [hW]
        refine wh2 2 6 ?_ ?_
        ·
          refine kH 2 rfl (op_nilCheck rfl (⟨⟨_,HS⟩,?_⟩))
          exact xt 3 rfl (ptr b16081 4) HS (fun _ _ HX=>op_fieldAddr rfl Fa.F193_3 ⟨rfl,rfl⟩)<|WH.cw hW (st9_4 b20101 wS HS)
        refine kH 6 rfl (op_bytesStr (l:=(List.replicate 64 0)) Tryz.underlying114 Tryz.underlying5 Tryz.underlying9 rfl (HS.arrR (i:=13) rfl) rfl (⟨⟨_,HS⟩,?_⟩))
        exact WH.cw hW (st9_5 b20101 wS HS)
      have st9_0: ∀wS,Owl.Own [] w wS [a9_0,a9_1,a9_2,a9_3,a9_4,a9_5,a9_6,a9_7,a9_8,a9_9,a9_10,a9_11,a9_12]→W 12 (bz 16 771) (e9 [(33,(ptr b16081 0)),(34,(ptr b16081 0)),(42,(vN b.toNat))]) wS:=fun wS HS=>by
        rw [hW]
        refine wh2 2 5 ?_ ?_
        ·
          refine kH 2 rfl (op_nilCheck rfl (⟨⟨_,HS⟩,?_⟩))
          exact xt 3 rfl (ptr b16081 4) HS (fun _ _ HX=>op_fieldAddr rfl Fa.F193_3 ⟨rfl,rfl⟩)<|WH.cw hW (st9_1 wS HS)
        refine kH 5 rfl (op_makeSliceM (f:=vU8) (c:=0) (m:=64) HS Tryz.underlying114 Fa.I5 rfl rfl (by omega) (by omega) (fun b20101 w20101 H20101=>(⟨⟨_,H20101⟩,?_⟩)))
        exact WH.cw hW (st9_2 b20101 w20101 H20101)
      have hq:=st9_0 w9 H9
      rw [hW] at hq ⊢
      exact WH.cv hq
    have st9_19: ∀(v18241:Value) (b18101:Nat) (b18141:Nat) (v18201:Value) (b18221:Nat) (wS:World),Owl.Own [] w wS [a9_0,a9_1,a9_2,a9_3,a9_4,a9_5,a9_6,a9_7,.row (.slice (some ⟨b18101,0,none⟩) 64 64) 5 1 64 (List.map vU8 (List.replicate 64 0)),.row (.slice (some ⟨b18141,0,none⟩) 1 1) 9 1 1 (List.map str [(List.replicate 64 0)]),.row v18201 9 1 a.toNat (List.map str (List.replicate a.toNat (List.replicate 64 0))),.row (.slice (some ⟨b18221,0,none⟩) 1 1) 59 1 1 [v18201],.row v18241 59 1 (0+1) ([]++[v18201])]→W 1 (bz 16 32767) (e9 [(45,v18241),(47,(ptr b16081 4))]) wS:=by
      intro v18241 b18101 b18141 v18201 b18221 wS HS
      rw [hW]
      refine wh1 15<|kH 15 rfl (op_storeB (i:=7) HS rfl rfl rfl rfl (Arr.one (HS.arrR (i:=12) rfl)) Fa.I191 (fun w18301 H18301=>(⟨⟨_,H18301⟩,?_⟩)))
      exact WH.cw hW (st9_20 v18241 b18101 b18141 v18201 b18221 w18301 H18301)
    have st9_18: ∀(v18241:Value) (b18101:Nat) (b18141:Nat) (v18201:Value) (b18221:Nat) (wS:World),Owl.Own [] w wS [a9_0,a9_1,a9_2,a9_3,a9_4,a9_5,a9_6,a9_7,.row (.slice (some ⟨b18101,0,none⟩) 64 64) 5 1 64 (List.map vU8 (List.replicate 64 0)),.row (.slice (some ⟨b18141,0,none⟩) 1 1) 9 1 1 (List.map str [(List.replicate 64 0)]),.row v18201 9 1 a.toNat (List.map str (List.replicate a.toNat (List.replicate 64 0))),.row (.slice (some ⟨b18221,0,none⟩) 1 1) 59 1 1 [v18201],.row v18241 59 1 (0+1) ([]++[v18201])]→W 3 (bz 16 8191) (e9 [(33,(ptr b16081 0)),(45,v18241)]) wS:=by
      intro v18241 b18101 b18141 v18201 b18221 wS HS
      rw [hW]
      refine wh1 13<|kH 13 rfl (op_nilCheck rfl (⟨⟨_,HS⟩,?_⟩))
      exact xt 14 rfl (ptr b16081 4) HS (fun _ _ HX=>op_fieldAddr rfl Fa.F193_3 ⟨rfl,rfl⟩)<|WH.cw hW (st9_19 v18241 b18101 b18141 v18201 b18221 wS HS)
    have st9_17: ∀(b18221:Nat) (b18101:Nat) (b18141:Nat) (v18201:Value) (wS:World),Owl.Own [] w wS [a9_0,a9_1,a9_2,a9_3,a9_4,a9_5,a9_6,a9_7,.row (.slice (some ⟨b18101,0,none⟩) 64 64) 5 1 64 (List.map vU8 (List.replicate 64 0)),.row (.slice (some ⟨b18141,0,none⟩) 1 1) 9 1 1 (List.map str [(List.replicate 64 0)]),.row v18201 9 1 a.toNat (List.map str (List.replicate a.toNat (List.replicate 64 0))),.row (.slice (some ⟨b18221,0,none⟩) 1 1) 59 1 1 [v18201]]→W 4 (bz 16 4095) (e9 [(33,(ptr b16081 0)),(37,(.slice none 0 0)),(44,(.slice (some ⟨b18221,0,none⟩) 1 1))]) wS:=by
      intro b18221 b18101 b18141 v18201 wS HS
      rw [hW]
      refine wh1 12 ?_
      have H18242:=HS.nilRow 59 1
      refine kH 12 rfl (op_append (i:=12) H18242 Tryz.underlying191 Fa.I59 rfl rfl rfl rfl (Src.ofArr Tryz.underlying191 (H18242.arrR (i:=11) rfl)) (fun c hc=>by rw [List.mem_singleton.1 hc]; exact Arr.one (H18242.arrR (i:=10) rfl)) (by omega) (by omega) (fun v18241 w18241 H18241=>?_))
      refine ⟨⟨_,H18241⟩,?_⟩
      exact WH.cw hW (st9_18 v18241 b18101 b18141 v18201 b18221 w18241 H18241)
    have st9_15: ∀(v18201:Value) (b18101:Nat) (b18141:Nat) (wS:World),Owl.Own [] w wS [a9_0,a9_1,a9_2,a9_3,a9_4,a9_5,a9_6,a9_7,.row (.slice (some ⟨b18101,0,none⟩) 64 64) 5 1 64 (List.map vU8 (List.replicate 64 0)),.row (.slice (some ⟨b18141,0,none⟩) 1 1) 9 1 1 (List.map str [(List.replicate 64 0)]),.row v18201 9 1 a.toNat (List.map str (List.replicate a.toNat (List.replicate 64 0)))]→W 5 (bz 16 2047) (e9 [(33,(ptr b16081 0)),(37,(.slice none 0 0)),(43,v18201)]) wS:=by
      intro v18201 b18101 b18141 wS HS
      rw [hW]
      refine wh1 11<|kH 11 rfl (op_buildSlice (cs:=[v18201]) HS Tryz.underlying191 Fa.I59 rfl rfl (by obtain ⟨_,_,e0,_⟩:=(HS.arrR (i:=10) rfl).form; rw [e0]; rfl) rfl (by decide) (by decide) (fun b18221 w18221 H18221=>?_))
      refine ⟨⟨_,H18221⟩,?_⟩
      exact WH.cw hW (st9_17 b18221 b18101 b18141 v18201 w18221 H18221)
    have st9_16: ∀(b18221:Nat) (b18101:Nat) (b18141:Nat) (v18201:Value) (wS:World),Owl.Own [] w wS [a9_0,a9_1,a9_2,a9_3,a9_4,a9_5,a9_6,a9_7,.row (.slice (some ⟨b18101,0,none⟩) 64 64) 5 1 64 (List.map vU8 (List.replicate 64 0)),.row (.slice (some ⟨b18141,0,none⟩) 1 1) 9 1 1 (List.map str [(List.replicate 64 0)]),.row v18201 9 1 a.toNat (List.map str (List.replicate a.toNat (List.replicate 64 0))),.row (.slice (some ⟨b18221,0,none⟩) 1 1) 59 1 1 [v18201]]→W 5 (bz 16 4079) (e9 [(33,(ptr b16081 0)),(36,(ptr b16081 4)),(44,(.slice (some ⟨b18221,0,none⟩) 1 1))]) wS:=by
      intro b18221 b18101 b18141 v18201 wS HS
      rw [hW]
      refine wh1 4<|kH 4 rfl (op_load rfl (HS.cell (i:=7) rfl rfl) Tryz.underlying191 rfl (⟨⟨_,HS⟩,?_⟩))
      exact WH.cw hW (st9_17 b18221 b18101 b18141 v18201 wS HS)
    have st9_12: ∀(b18141:Nat) (b18101:Nat) (wS:World),Owl.Own [] w wS [a9_0,a9_1,a9_2,a9_3,a9_4,a9_5,a9_6,a9_7,.row (.slice (some ⟨b18101,0,none⟩) 64 64) 5 1 64 (List.map vU8 (List.replicate 64 0)),.row (.slice (some ⟨b18141,0,none⟩) 1 1) 9 1 1 (List.map str [(List.replicate 64 0)])]→W 6 (bz 16 1023) (e9 [(33,(ptr b16081 0)),(37,(.slice none 0 0)),(40,(.slice (some ⟨b18141,0,none⟩) 1 1)),(42,(vN a.toNat))]) wS:=by
      intro b18141 b18101 wS HS
      rw [hW]
      refine wh1 10<|kH 10 rfl (op_callF Fa.C129 rfl ((repeatS_ok _ (List.replicate 64 0) a.toNat _ (HS.arrR (i:=9) rfl) (UInt32.toNat_lt _)).mono (fun e w18201 hq=>?_)))
      obtain ⟨v18201,rfl,hq18201⟩:=hq
      refine ⟨_,rfl,?_⟩
      have H18201:=HS.splice [] [] [.row v18201 9 1 a.toNat (List.map str (List.replicate a.toNat (List.replicate 64 0)))] rfl rfl hq18201 (Fits.solid True.intro Fits.nil)
      refine ⟨⟨_,H18201⟩,?_⟩
      exact WH.cw hW (st9_15 v18201 b18101 b18141 w18201 H18201)
    have st9_13: ∀(v18201:Value) (b18101:Nat) (b18141:Nat) (wS:World),Owl.Own [] w wS [a9_0,a9_1,a9_2,a9_3,a9_4,a9_5,a9_6,a9_7,.row (.slice (some ⟨b18101,0,none⟩) 64 64) 5 1 64 (List.map vU8 (List.replicate 64 0)),.row (.slice (some ⟨b18141,0,none⟩) 1 1) 9 1 1 (List.map str [(List.replicate 64 0)]),.row v18201 9 1 a.toNat (List.map str (List.replicate a.toNat (List.replicate 64 0)))]→W 6 (bz 16 2031) (e9 [(33,(ptr b16081 0)),(36,(ptr b16081 4)),(43,v18201)]) wS:=by
      intro v18201 b18101 b18141 wS HS
      rw [hW]
      refine wh2 4 11 ?_ ?_
      ·
        refine kH 4 rfl (op_load rfl (HS.cell (i:=7) rfl rfl) Tryz.underlying191 rfl (⟨⟨_,HS⟩,?_⟩))
        exact WH.cw hW (st9_15 v18201 b18101 b18141 wS HS)
      refine kH 11 rfl (op_buildSlice (cs:=[v18201]) HS Tryz.underlying191 Fa.I59 rfl rfl (by obtain ⟨_,_,e0,_⟩:=(HS.arrR (i:=10) rfl).form; rw [e0]; rfl) rfl (by decide) (by decide) (fun b18221 w18221 H18221=>?_))
      refine ⟨⟨_,H18221⟩,?_⟩
      exact WH.cw hW (st9_16 b18221 b18101 b18141 v18201 w18221 H18221)
    have st9_9: ∀(b18101:Nat) (wS:World),Owl.Own [] w wS [a9_0,a9_1,a9_2,a9_3,a9_4,a9_5,a9_6,a9_7,.row (.slice (some ⟨b18101,0,none⟩) 64 64) 5 1 64 (List.map vU8 (List.replicate 64 0))]→W 7 (bz 16 895) (e9 [(33,(ptr b16081 0)),(37,(.slice none 0 0)),(39,(str (List.replicate 64 0))),(42,(vN a.toNat))]) wS:=by
      intro b18101 wS HS
      rw [hW]
      refine wh1 7<|kH 7 rfl (op_buildSlice (cs:=[_]) HS Tryz.underlying59 Fa.I9 rfl rfl rfl rfl (by decide) (by decide) (fun b18141 w18141 H18141=>(⟨⟨_,H18141⟩,?_⟩)))
      exact WH.cw hW (st9_12 b18141 b18101 w18141 H18141)
    have st9_10: ∀(b18141:Nat) (b18101:Nat) (wS:World),Owl.Own [] w wS [a9_0,a9_1,a9_2,a9_3,a9_4,a9_5,a9_6,a9_7,.row (.slice (some ⟨b18101,0,none⟩) 64 64) 5 1 64 (List.map vU8 (List.replicate 64 0)),.row (.slice (some ⟨b18141,0,none⟩) 1 1) 9 1 1 (List.map str [(List.replicate 64 0)])]→W 7 (bz 16 1007) (e9 [(33,(ptr b16081 0)),(36,(ptr b16081 4)),(40,(.slice (some ⟨b18141,0,none⟩) 1 1)),(42,(vN a.toNat))]) wS:=by
      intro b18141 b18101 wS HS
      rw [hW]
      refine wh2 4 10 ?_ ?_
      ·
        refine kH 4 rfl (op_load rfl (HS.cell (i:=7) rfl rfl) Tryz.underlying191 rfl (⟨⟨_,HS⟩,?_⟩))
        exact WH.cw hW (st9_12 b18141 b18101 wS HS)
      refine kH 10 rfl (op_callF Fa.C129 rfl ((repeatS_ok _ (List.replicate 64 0) a.toNat _ (HS.arrR (i:=9) rfl) (UInt32.toNat_lt _)).mono (fun e w18201 hq=>?_)))
      obtain ⟨v18201,rfl,hq18201⟩:=hq
      refine ⟨_,rfl,?_⟩
      have H18201:=HS.splice [] [] [.row v18201 9 1 a.toNat (List.map str (List.replicate a.toNat (List.replicate 64 0)))] rfl rfl hq18201 (Fits.solid True.intro Fits.nil)
      refine ⟨⟨_,H18201⟩,?_⟩
      exact WH.cw hW (st9_13 v18201 b18101 b18141 w18201 H18201)
    have st9_14: ∀(b18221:Nat) (b18101:Nat) (b18141:Nat) (v18201:Value) (wS:World),Owl.Own [] w wS [a9_0,a9_1,a9_2,a9_3,a9_4,a9_5,a9_6,a9_7,.row (.slice (some ⟨b18101,0,none⟩) 64 64) 5 1 64 (List.map vU8 (List.replicate 64 0)),.row (.slice (some ⟨b18141,0,none⟩) 1 1) 9 1 1 (List.map str [(List.replicate 64 0)]),.row v18201 9 1 a.toNat (List.map str (List.replicate a.toNat (List.replicate 64 0))),.row (.slice (some ⟨b18221,0,none⟩) 1 1) 59 1 1 [v18201]]→W 7 (bz 16 4067) (e9 [(33,(ptr b16081 0)),(34,(ptr b16081 0)),(44,(.slice (some ⟨b18221,0,none⟩) 1 1))]) wS:=by
      intro b18221 b18101 b18141 v18201 wS HS
      rw [hW]
      refine wh1 2<|kH 2 rfl (op_nilCheck rfl (⟨⟨_,HS⟩,?_⟩))
      exact xt 3 rfl (ptr b16081 4) HS (fun _ _ HX=>op_fieldAddr rfl Fa.F193_3 ⟨rfl,rfl⟩)<|WH.cw hW (st9_16 b18221 b18101 b18141 v18201 wS HS)
    have st9_6: ∀(b18101:Nat) (wS:World),Owl.Own [] w wS [a9_0,a9_1,a9_2,a9_3,a9_4,a9_5,a9_6,a9_7,.row (.slice (some ⟨b18101,0,none⟩) 64 64) 5 1 64 (List.map vU8 (List.replicate 64 0))]→W 8 (bz 16 831) (e9 [(33,(ptr b16081 0)),(37,(.slice none 0 0)),(38,(.slice (some ⟨b18101,0,none⟩) 64 64)),(42,(vN a.toNat))]) wS:=by
      intro b18101 wS HS
      rw [hW]
      refine wh1 6<|kH 6 rfl (op_bytesStr (l:=(List.replicate 64 0)) Tryz.underlying114 Tryz.underlying5 Tryz.underlying9 rfl (HS.arrR (i:=8) rfl) rfl (⟨⟨_,HS⟩,?_⟩))
      exact WH.cw hW (st9_9 b18101 wS HS)
    have st9_7: ∀(b18101:Nat) (wS:World),Owl.Own [] w wS [a9_0,a9_1,a9_2,a9_3,a9_4,a9_5,a9_6,a9_7,.row (.slice (some ⟨b18101,0,none⟩) 64 64) 5 1 64 (List.map vU8 (List.replicate 64 0))]→W 8 (bz 16 879) (e9 [(33,(ptr b16081 0)),(36,(ptr b16081 4)),(39,(str (List.replicate 64 0))),(42,(vN a.toNat))]) wS:=by
      intro b18101 wS HS
      rw [hW]
      refine wh2 4 7 ?_ ?_
      ·
        refine kH 4 rfl (op_load rfl (HS.cell (i:=7) rfl rfl) Tryz.underlying191 rfl (⟨⟨_,HS⟩,?_⟩))
        exact WH.cw hW (st9_9 b18101 wS HS)
      refine kH 7 rfl (op_buildSlice (cs:=[_]) HS Tryz.underlying59 Fa.I9 rfl rfl rfl rfl (by decide) (by decide) (fun b18141 w18141 H18141=>(⟨⟨_,H18141⟩,?_⟩)))
      exact WH.cw hW (st9_10 b18141 b18101 w18141 H18141)
    have st9_11: ∀(v18201:Value) (b18101:Nat) (b18141:Nat) (wS:World),Owl.Own [] w wS [a9_0,a9_1,a9_2,a9_3,a9_4,a9_5,a9_6,a9_7,.row (.slice (some ⟨b18101,0,none⟩) 64 64) 5 1 64 (List.map vU8 (List.replicate 64 0)),.row (.slice (some ⟨b18141,0,none⟩) 1 1) 9 1 1 (List.map str [(List.replicate 64 0)]),.row v18201 9 1 a.toNat (List.map str (List.replicate a.toNat (List.replicate 64 0)))]→W 8 (bz 16 2019) (e9 [(33,(ptr b16081 0)),(34,(ptr b16081 0)),(43,v18201)]) wS:=by
      intro v18201 b18101 b18141 wS HS
      rw [hW]
      refine wh2 2 11 ?_ ?_
      ·
        refine kH 2 rfl (op_nilCheck rfl (⟨⟨_,HS⟩,?_⟩))
        exact xt 3 rfl (ptr b16081 4) HS (fun _ _ HX=>op_fieldAddr rfl Fa.F193_3 ⟨rfl,rfl⟩)<|WH.cw hW (st9_13 v18201 b18101 b18141 wS HS)
      refine kH 11 rfl (op_buildSlice (cs:=[v18201]) HS Tryz.underlying191 Fa.I59 rfl rfl (by obtain ⟨_,_,e0,_⟩:=(HS.arrR (i:=10) rfl).form; rw [e0]; rfl) rfl (by decide) (by decide) (fun b18221 w18221 H18221=>?_))
      refine ⟨⟨_,H18221⟩,?_⟩
      exact WH.cw hW (st9_14 b18221 b18101 b18141 v18201 w18221 H18221)
    have st9_3: ∀wS,Owl.Own [] w wS [a9_0,a9_1,a9_2,a9_3,a9_4,a9_5,a9_6,a9_7]→W 9 (bz 16 799) (e9 [(33,(ptr b16081 0)),(37,(.slice none 0 0)),(42,(vN a.toNat))]) wS:=fun wS HS=>by
      rw [hW]
      refine wh1 5<|kH 5 rfl (op_makeSliceM (f:=vU8) (c:=0) (m:=64) HS Tryz.underlying114 Fa.I5 rfl rfl (by omega) (by omega) (fun b18101 w18101 H18101=>(⟨⟨_,H18101⟩,?_⟩)))
      exact WH.cw hW (st9_6 b18101 w18101 H18101)
    have st9_4: ∀(b18101:Nat) (wS:World),Owl.Own [] w wS [a9_0,a9_1,a9_2,a9_3,a9_4,a9_5,a9_6,a9_7,.row (.slice (some ⟨b18101,0,none⟩) 64 64) 5 1 64 (List.map vU8 (List.replicate 64 0))]→W 9 (bz 16 815) (e9 [(33,(ptr b16081 0)),(36,(ptr b16081 4)),(38,(.slice (some ⟨b18101,0,none⟩) 64 64)),(42,(vN a.toNat))]) wS:=by
      intro b18101 wS HS
      rw [hW]
      refine wh2 4 6 ?_ ?_
      ·
        refine kH 4 rfl (op_load rfl (HS.cell (i:=7) rfl rfl) Tryz.underlying191 rfl (⟨⟨_,HS⟩,?_⟩))
        exact WH.cw hW (st9_6 b18101 wS HS)
      refine kH 6 rfl (op_bytesStr (l:=(List.replicate 64 0)) Tryz.underlying114 Tryz.underlying5 Tryz.underlying9 rfl (HS.arrR (i:=8) rfl) rfl (⟨⟨_,HS⟩,?_⟩))
      exact WH.cw hW (st9_7 b18101 wS HS)
    have st9_8: ∀(b18141:Nat) (b18101:Nat) (wS:World),Owl.Own [] w wS [a9_0,a9_1,a9_2,a9_3,a9_4,a9_5,a9_6,a9_7,.row (.slice (some ⟨b18101,0,none⟩) 64 64) 5 1 64 (List.map vU8 (List.replicate 64 0)),.row (.slice (some ⟨b18141,0,none⟩) 1 1) 9 1 1 (List.map str [(List.replicate 64 0)])]→W 9 (bz 16 995) (e9 [(33,(ptr b16081 0)),(34,(ptr b16081 0)),(40,(.slice (some ⟨b18141,0,none⟩) 1 1)),(42,(vN a.toNat))]) wS:=by
      intro b18141 b18101 wS HS
      rw [hW]
      refine wh2 2 10 ?_ ?_
      ·
        refine kH 2 rfl (op_nilCheck rfl (⟨⟨_,HS⟩,?_⟩))
        exact xt 3 rfl (ptr b16081 4) HS (fun _ _ HX=>op_fieldAddr rfl Fa.F193_3 ⟨rfl,rfl⟩)<|WH.cw hW (st9_10 b18141 b18101 wS HS)
      refine kH 10 rfl (op_callF Fa.C129 rfl ((repeatS_ok _ (List.replicate 64 0) a.toNat _ (HS.arrR (i:=9) rfl) (UInt32.toNat_lt _)).mono (fun e w18201 hq=>?_)))
      obtain ⟨v18201,rfl,hq18201⟩:=hq
      refine ⟨_,rfl,?_⟩
      have H18201:=HS.splice [] [] [.row v18201 9 1 a.toNat (List.map str (List.replicate a.toNat (List.replicate 64 0)))] rfl rfl hq18201 (Fits.solid True.intro Fits.nil)
      refine ⟨⟨_,H18201⟩,?_⟩
      exact WH.cw hW (st9_11 v18201 b18101 b18141 w18201 H18201)
    have st9_1: ∀wS,Owl.Own [] w wS [a9_0,a9_1,a9_2,a9_3,a9_4,a9_5,a9_6,a9_7]→W 10 (bz 16 783) (e9 [(33,(ptr b16081 0)),(36,(ptr b16081 4)),(42,(vN a.toNat))]) wS:=fun wS HS=>by
      rw [hW]
      refine wh2 4 5 ?_ ?_
      ·
        refine kH 4 rfl (op_load rfl (HS.cell (i:=7) rfl rfl) Tryz.underlying191 rfl (⟨⟨_,HS⟩,?_⟩))
        exact WH.cw hW (st9_3 wS HS)
      refine kH 5 rfl (op_makeSliceM (f:=vU8) (c:=0) (m:=64) HS Tryz.underlying114 Fa.I5 rfl rfl (by omega) (by omega) (fun b18101 w18101 H18101=>(⟨⟨_,H18101⟩,?_⟩)))
      exact WH.cw hW (st9_4 b18101 w18101 H18101)
    have st9_5: ∀(b18101:Nat) (wS:World),Owl.Own [] w wS [a9_0,a9_1,a9_2,a9_3,a9_4,a9_5,a9_6,a9_7,.row (.slice (some ⟨b18101,0,none⟩) 64 64) 5 1 64 (List.map vU8 (List.replicate 64 0))]→W 10 (bz 16 867) (e9 [(33,(ptr b16081 0)),(34,(ptr b16081 0)),(39,(str (List.replicate 64 0))),(42,(vN a.toNat))]) wS:=by
      intro b18101 wS HS
      rw [hW]
      refine wh2 2 7 ?_ ?_
      ·
        refine kH 2 rfl (op_nilCheck rfl (⟨⟨_,HS⟩,?_⟩))
        exact xt 3 rfl (ptr b16081 4) HS (fun _ _ HX=>op_fieldAddr rfl Fa.F193_3 ⟨rfl,rfl⟩)<|WH.cw hW (st9_7 b18101 wS HS)
      refine kH 7 rfl (op_buildSlice (cs:=[_]) HS Tryz.underlying59 Fa.I9 rfl rfl rfl rfl (by decide) (by decide) (fun b18141 w18141 H18141=>(⟨⟨_,H18141⟩,?_⟩)))
      exact WH.cw hW (st9_8 b18141 b18101 w18141 H18141)
    have st9_2: ∀(b18101:Nat) (wS:World),Owl.Own [] w wS [a9_0,a9_1,a9_2,a9_3,a9_4,a9_5,a9_6,a9_7,.row (.slice (some ⟨b18101,0,none⟩) 64 64) 5 1 64 (List.map vU8 (List.replicate 64 0))]→W 11 (bz 16 803) (e9 [(33,(ptr b16081 0)),(34,(ptr b16081 0)),(38,(.slice (some ⟨b18101,0,none⟩) 64 64)),(42,(vN a.toNat))]) wS:=by
      intro b18101 wS HS
      rw [hW]
      refine wh2 2 6 ?_ ?_
      ·
        refine kH 2 rfl (op_nilCheck rfl (⟨⟨_,HS⟩,?_⟩))
        exact xt 3 rfl (ptr b16081 4) HS (fun _ _ HX=>op_fieldAddr rfl Fa.F193_3 ⟨rfl,rfl⟩)<|WH.cw hW (st9_4 b18101 wS HS)
      refine kH 6 rfl (op_bytesStr (l:=(List.replicate 64 0)) Tryz.underlying114 Tryz.underlying5 Tryz.underlying9 rfl (HS.arrR (i:=8) rfl) rfl (⟨⟨_,HS⟩,?_⟩))
      exact WH.cw hW (st9_5 b18101 wS HS)
    have st9_0: ∀wS,Owl.Own [] w wS [a9_0,a9_1,a9_2,a9_3,a9_4,a9_5,a9_6,a9_7]→W 12 (bz 16 771) (e9 [(33,(ptr b16081 0)),(34,(ptr b16081 0)),(42,(vN a.toNat))]) wS:=fun wS HS=>by
      rw [hW]
      refine wh2 2 5 ?_ ?_
      ·
        refine kH 2 rfl (op_nilCheck rfl (⟨⟨_,HS⟩,?_⟩))
        exact xt 3 rfl (ptr b16081 4) HS (fun _ _ HX=>op_fieldAddr rfl Fa.F193_3 ⟨rfl,rfl⟩)<|WH.cw hW (st9_1 wS HS)
      refine kH 5 rfl (op_makeSliceM (f:=vU8) (c:=0) (m:=64) HS Tryz.underlying114 Fa.I5 rfl rfl (by omega) (by omega) (fun b18101 w18101 H18101=>(⟨⟨_,H18101⟩,?_⟩)))
      exact WH.cw hW (st9_2 b18101 w18101 H18101)
    have hq:=st9_0 w7 H7
    rw [hW] at hq ⊢
    exact WH.cv hq
  have st5_1: ∀(q16041:Nat) (mb16041:Nat) (wS:World),Owl.Own [] w wS [a5_0,a5_1,a5_2,a5_3,a5_4,.blk q16041 [(.map (some mb16041)),(.slice none 0 0),(vN 0)] 264,.obj mb16041 (mP .u16 [] 0)]→W 2 (bz 6 15) (e5 [(24,(.agg #[(vU32 pg),v3,(ptr c2 0),(ptr q16041 0),(.slice none 0 0),(vU32 0)]))]) wS:=by
    intro q16041 mb16041 wS HS
    rw [hW]
    refine wh1 4<|kH 4 rfl (op_box HS rfl rfl (fun b16081 w16081 H16081=>(⟨⟨_,H16081⟩,?_⟩)))
    exact xt 5 rfl (ptr b16081 0) H16081 (fun _ _ HX=>op_assign rfl ⟨rfl,rfl⟩)<|WH.cw hW (st5_2 b16081 q16041 mb16041 w16081 H16081)
  have st5_0: ∀wS,Owl.Own [] w wS [a5_0,a5_1,a5_2,a5_3,a5_4]→W 4 (bz 6 3) (e5 [(21,(.agg #[(vU32 pg),v3])),(22,(ptr c2 0))]) wS:=fun wS HS=>by
    rw [hW]
    refine wh1 2<|kH 2 rfl (op_callF Fa.C128 rfl ((nicNew_ok _).mono (fun e w16041 hq=>?_)))
    obtain ⟨q16041,mb16041,rfl,hq16041⟩:=hq
    refine ⟨_,rfl,?_⟩
    have H16041:=HS.splice [] [] [.blk q16041 [(.map (some mb16041)),(.slice none 0 0),(vN 0)] 264,.obj mb16041 (mP .u16 [] 0)] rfl rfl hq16041 (Fits.solid True.intro (Fits.solid True.intro Fits.nil))
    refine ⟨⟨_,H16041⟩,?_⟩
    exact xt 3 rfl (.agg #[(vU32 pg),v3,(ptr c2 0),(ptr q16041 0),(.slice none 0 0),(vU32 0)]) H16041 (fun _ _ HX=>op_build (cs:=[_,_,_,_,_,_]) Fa.I193 Fa.PL193 rfl rfl ⟨rfl,rfl⟩)<|WH.cw hW (st5_1 q16041 mb16041 w16041 H16041)
  have hq:=st5_0 w5 H5
  rw [hW] at hq ⊢
  exact WH.cv hq
theorem exoNew_ok (pg:UInt32) (lv:Value) (a b:UInt32) (w:World) (hA:Arr w lv 1 2 (List.map vU32 [a,b])) (hok0:hardE pg [a,b]=0) :
  Calls Tryz.prog 37 #[(.agg #[(vU32 pg),lv])] w (fun e w'=> ∃x k bv e0 e1 xv cv nv,e=.returned (.tuple #[ptr x 0,vN 0])∧(∀b'∈[k],w.heap.size≤b')∧(∀b'∈footA bv [e0,e1],w.heap.size≤b')∧(∀b'∈footA e0 (List.map str (List.replicate a.toNat (List.replicate 64 0))),w.heap.size≤b')∧(∀b'∈[x],w.heap.size≤b')∧Owl.Own [] w w' [Ent.bo x [(ptr k 0)],Ent.bo k [(vU32 pg),xv,cv,nv,bv],Ent.ar bv 1 2 [e0,e1],.row e1 9 1 b.toNat (List.map str (List.replicate b.toNat (List.replicate 64 0))),Ent.ar e0 1 a.toNat (List.map str (List.replicate a.toNat (List.replicate 64 0)))]):=by
 refine enter Tryz.func37 rfl rfl ?_
 have H0:=Own.start w []
 refine ws<|wo (op_box H0 rfl rfl (fun b1 w1 H1=>(wa rfl<|wa rfl<|wn<|ws<|wo (op_loadS (vs:=[_,_]) rfl (H1.cells (i:=0) rfl rfl) Tryz.underlying75 rfl Fa.I75 rfl<|wo (op_callF Fa.C83 rfl ((callsNew_ok pg _ a b _ (H1.arr hA) hok0).mono (fun e w2 hq=>?_)))))))
 obtain ⟨k2,bv2,e02,e12,xv2,cv2,nv2,rfl,hf02,hf12,hf22,hq2⟩:=hq
 refine ⟨_,rfl,?_⟩
 have H2:=H1.splice [] [] [Ent.bo k2 [(vU32 pg),xv2,cv2,nv2,bv2],Ent.ar bv2 1 2 [e02,e12],.row e12 9 1 b.toNat (List.map str (List.replicate b.toNat (List.replicate 64 0))),Ent.ar e02 1 a.toNat (List.map str (List.replicate a.toNat (List.replicate 64 0)))] rfl rfl hq2 (Fits.fresh hf02 (Fits.fresh hf12 (Fits.solid True.intro (Fits.fresh hf22 Fits.nil))))
 refine wm rfl<|we rfl rfl<|we rfl rfl<|wa rfl<|wa rfl<|wn<|WC.seq<|ws<|wm rfl<|wo (op_neqN (b:=0) rfl rfl<|wn<|WC.no rfl (by decide)<|WC.skip<|WQ.next<|ws ?_)
 have hs:w.heap.size≤w1.heap.size:=H1.fr.size
 refine wm rfl<|wo (op_build (cs:=[_,_,_,_,_,_,_,_,_,_,_,_,_,_,_,_,_,_,_,_,_,_,_,_,_,_,_,_,_]) Fa.I146 Fa.PL146 rfl rfl<|wo (op_box H2 rfl rfl (fun b3 w3 H3=>(wa rfl<|wa rfl<|wn<|WC.ret<|WQ.out (.tmp rfl (.tmp rfl .nil)) ?_))))
 have h:=(show Owl.Own [] w w3 [.blk b1 [(vU32 pg),lv] 75,Ent.bo k2 [(vU32 pg),xv2,cv2,nv2,bv2],Ent.ar bv2 1 2 [e02,e12],.row e12 9 1 b.toNat (List.map str (List.replicate b.toNat (List.replicate 64 0))),Ent.ar e02 1 a.toNat (List.map str (List.replicate a.toNat (List.replicate 64 0))),.blk b3 [(ptr k2 0),(.bool false),(vN 0),(.pointer none),(.bool false),(vN 0),(.pointer none),(.bool false),(vN 0),(.pointer none),(.bool false),(vN 0),(.pointer none),(.bool false),(vN 0),(.pointer none),(.bool false),(vN 0),(.pointer none),(.bool false),(vN 0),(.pointer none),(.bool false),(vN 0),(.pointer none),(.bool false),(vN 0),(.pointer none),(.slice none 0 0)] 146] from H3)
 exact ⟨_,_,_,_,_,_,_,_,rfl,up hf02 hs,up hf12 hs,up hf22 hs,(fun b hb=>by rw [List.mem_singleton] at hb; subst hb; exact h.fresh0 (i:=5) rfl rfl),(h.toBo (i:=5) rfl 1 rfl).sel [5,1,2,3,4] rfl rfl⟩
theorem xblk_any (x:Nat) (k:Nat) (bv ev xv cv nv:Value) (pg:UInt32) (m n:Nat) (es:List Value) (B:List (List UInt8)) (id:UInt32) (j:Nat) (w:World) (hX:cellsAt w x [(ptr k 0)]) (hK:cellsAt w k [(vU32 pg),xv,cv,nv,bv]) (hV:Arr w bv 1 m es) (hE:Arr w ev 1 n (List.map str B)) (hid:id.toNat<m) (hev:es[id.toNat]?=some ev) (hj2:j<2^32) :
    Calls Tryz.prog 29 #[ptr x 0,vU32 id,vU32 (UInt32.ofNat j)] w (fun e w'=>e=.returned (.tuple #[str (bAt B n j),vN (bE n j)])∧Fr [] w w'):=by
  by_cases hj:j<n
  · rw [bAt,bE,if_pos hj,if_pos hj]
    exact xblk_in x k bv ev xv cv nv pg m n es B id j w hX hK hV hE hid hev hj hj2
  · rw [bAt,bE,if_neg hj,if_neg hj]
    exact xblk_out x k bv ev xv cv nv pg m n es B id j w hX hK hV hE hid hev hj hj2
theorem new44_ok (x:Nat) (k:Nat) (bv ev xv cv nv:Value) (pg:UInt32) (m n:Nat) (es:List Value) (B:List (List UInt8)) (id:UInt32) (key:List UInt8) (w:World) (hX:cellsAt w x [(ptr k 0)]) (hK:cellsAt w k [(vU32 pg),xv,cv,nv,bv]) (hV:Arr w bv 1 m es) (hE:Arr w ev 1 n (List.map str B)) (hid:id.toNat<m) (hev:es[id.toNat]?=some ev) (h4:4≤n) (hm:n≤1024) :
  Calls Tryz.prog 11 #[(ptr x 0),(vU32 id),(str key)] w (fun e w'=> ∃s,e=.returned (.tuple #[ptr s 0,vN 0])∧Owl.Own [] w w' [.blk s [ptr x 0,vU32 id,str key,vN ((n-2) / 2),vI (-1)] 95]):=by
 refine enter Tryz.func11 rfl rfl ?_
 have H0:=(((((Own.start w []).oldB hX).oldB hK).oldA hV).oldA hE)
 refine ws<|wa rfl<|wa rfl<|wn<|WC.seq<|ws<|wm rfl<|wo (op_eqlPN Fa.PT47 rfl rfl<|wn<|WC.no rfl rfl<|WC.skip<|WQ.next<|ws<|wa rfl<|wn<|WC.cut (α:=Unit) (fun _=>[(0,(ptr x 0)),(1,(vU32 id)),(2,(str key)),(8,(vN n))]) (fun _ w'=>Owl.Own [] w w' [Ent.bo x [(ptr k 0)],Ent.bo k [(vU32 pg),xv,cv,nv,bv],Ent.ar bv 1 m es,Ent.ar ev 1 n (List.map str B)]) ?_ ?_)
 ·
  refine WC.block<|WC.loop (α:=Nat) (fun u=>[(0,(ptr x 0)),(1,(vU32 id)),(2,(str key)),(8,(vN u))]) (fun u w'=>(u≤n)∧Owl.Own [] w w' [Ent.bo x [(ptr k 0)],Ent.bo k [(vU32 pg),xv,cv,nv,bv],Ent.ar bv 1 m es,Ent.ar ev 1 n (List.map str B)]) (fun u=>n-u) 0 ⟨(Nat.zero_le _),H0⟩ ⟨rfl,rfl,rfl,rfl,trivial⟩ ?_
  rintro u w1 ⟨hinv,H1⟩
  show WC _ _ _ _ _ [(0,(ptr x 0)),(1,(vU32 id)),(2,(str key)),(8,(vN u))] _
  refine WC.seq<|ws<|wm rfl<|wo (op_lssN (b:=1024) rfl rfl<|wn (wE (u<1024) (fun hb2 hc2=>?_) (fun hb2 hc2=>?_)))
  ·
   refine WC.skip<|WQ.next<|WC.block<|WC.seq<|ws<|wm rfl<|wm rfl<|wm rfl<|wo (op_convNU32 (hs:=Tryz.underlying3) (hd:=Tryz.underlying22) rfl<|wo (cq H1 Fa.C29 rfl (xblk_any x k bv ev xv cv nv pg m n es B id u _ (H1.cellsAtO (i:=0) rfl) (H1.cellsAtO (i:=1) rfl) (H1.arrO (i:=2) rfl) (H1.arrO (i:=3) rfl) hid hev (by omega)) fun w3 H3=>(wm rfl<|we rfl rfl<|we rfl rfl<|wa rfl<|wa rfl<|wn<|ws<|wm rfl<|wo (op_neqN (b:=0) rfl rfl<|wn (wE ((bE n u)≠0) (fun hb4 hc4=>?_) (fun hb4 hc4=>?_))))))
   ·
    exact WC.exit<|WQ.thenExit<|WQ.inPass rfl<|WQ.thenExit<|WQ.inHere<|WQ.here () H3 ⟨rfl,rfl,rfl,(by rw [show u=n by have:=bE_1 (dT hb4); omega]; rfl),trivial⟩
   exact WC.skip<|WQ.next<|WC.region<|wm rfl<|wo (op_addN (b:=1) rfl rfl (by omega)<|wa rfl<|WL.nil<|WQ.inNormal<|WQ.round (u+1) ⟨(by have:=bE_0 (dF hb4); omega),H3⟩ ⟨rfl,rfl,rfl,rfl,trivial⟩ (by have:=bE_0 (dF hb4); omega))
  exact WC.exit<|WQ.thenExit<|WQ.thenExit<|WQ.inHere<|WQ.here () H1 ⟨rfl,rfl,rfl,(by rw [show u=n by omega]; rfl),trivial⟩
 rintro _ w5 H5
 show WC _ _ _ _ _ [(0,(ptr x 0)),(1,(vU32 id)),(2,(str key)),(8,(vN n))] _
 exact WC.seq<|ws<|wm rfl<|wo (op_lssN (b:=4) rfl rfl<|wn<|WC.no rfl (decide_eq_false (by omega))<|WC.skip<|WQ.next<|ws<|wm rfl<|wm rfl<|wm rfl<|wm rfl<|wo (op_subN (b:=2) rfl rfl (by omega) (by omega)<|wo (op_quoN (b:=2) rfl rfl (by omega) (by omega)<|wo (op_build (cs:=[_,_,_,_,_]) Fa.I95 Fa.PL95 rfl rfl<|wo (op_box H5 rfl rfl (fun b6 w6 H6=>(wa rfl<|wa rfl<|wn<|WC.ret<|WQ.out (.tmp rfl (.tmp rfl .nil)) (⟨_,rfl,H6.sel [4] rfl rfl⟩))))))))
theorem new44_no (x:Nat) (k:Nat) (bv ev xv cv nv:Value) (pg:UInt32) (m n:Nat) (es:List Value) (B:List (List UInt8)) (id:UInt32) (key:List UInt8) (w:World) (hX:cellsAt w x [(ptr k 0)]) (hK:cellsAt w k [(vU32 pg),xv,cv,nv,bv]) (hV:Arr w bv 1 m es) (hE:Arr w ev 1 n (List.map str B)) (hid:id.toNat<m) (hev:es[id.toNat]?=some ev) (h4:n<4) (_hm:n≤1024) :
  Calls Tryz.prog 11 #[(ptr x 0),(vU32 id),(str key)] w (fun e w'=>e=.returned (.tuple #[.pointer none,vN 2])∧Fr [] w w'):=by
 refine enter Tryz.func11 rfl rfl ?_
 have H0:=(((((Own.start w []).oldB hX).oldB hK).oldA hV).oldA hE)
 refine ws<|wa rfl<|wa rfl<|wn<|WC.seq<|ws<|wm rfl<|wo (op_eqlPN Fa.PT47 rfl rfl<|wn<|WC.no rfl rfl<|WC.skip<|WQ.next<|ws<|wa rfl<|wn<|WC.cut (α:=Unit) (fun _=>[(0,(ptr x 0)),(1,(vU32 id)),(2,(str key)),(8,(vN n))]) (fun _ w'=>Owl.Own [] w w' [Ent.bo x [(ptr k 0)],Ent.bo k [(vU32 pg),xv,cv,nv,bv],Ent.ar bv 1 m es,Ent.ar ev 1 n (List.map str B)]) ?_ ?_)
 ·
  refine WC.block<|WC.loop (α:=Nat) (fun u=>[(0,(ptr x 0)),(1,(vU32 id)),(2,(str key)),(8,(vN u))]) (fun u w'=>(u≤n)∧Owl.Own [] w w' [Ent.bo x [(ptr k 0)],Ent.bo k [(vU32 pg),xv,cv,nv,bv],Ent.ar bv 1 m es,Ent.ar ev 1 n (List.map str B)]) (fun u=>n-u) 0 ⟨(Nat.zero_le _),H0⟩ ⟨rfl,rfl,rfl,rfl,trivial⟩ ?_
  rintro u w1 ⟨hinv,H1⟩
  show WC _ _ _ _ _ [(0,(ptr x 0)),(1,(vU32 id)),(2,(str key)),(8,(vN u))] _
  refine WC.seq<|ws<|wm rfl<|wo (op_lssN (b:=1024) rfl rfl<|wn (wE (u<1024) (fun hb2 hc2=>?_) (fun hb2 hc2=>?_)))
  ·
   refine WC.skip<|WQ.next<|WC.block<|WC.seq<|ws<|wm rfl<|wm rfl<|wm rfl<|wo (op_convNU32 (hs:=Tryz.underlying3) (hd:=Tryz.underlying22) rfl<|wo (cq H1 Fa.C29 rfl (xblk_any x k bv ev xv cv nv pg m n es B id u _ (H1.cellsAtO (i:=0) rfl) (H1.cellsAtO (i:=1) rfl) (H1.arrO (i:=2) rfl) (H1.arrO (i:=3) rfl) hid hev (by omega)) fun w3 H3=>(wm rfl<|we rfl rfl<|we rfl rfl<|wa rfl<|wa rfl<|wn<|ws<|wm rfl<|wo (op_neqN (b:=0) rfl rfl<|wn (wE ((bE n u)≠0) (fun hb4 hc4=>?_) (fun hb4 hc4=>?_))))))
   ·
    exact WC.exit<|WQ.thenExit<|WQ.inPass rfl<|WQ.thenExit<|WQ.inHere<|WQ.here () H3 ⟨rfl,rfl,rfl,(by rw [show u=n by have:=bE_1 (dT hb4); omega]; rfl),trivial⟩
   exact WC.skip<|WQ.next<|WC.region<|wm rfl<|wo (op_addN (b:=1) rfl rfl (by omega)<|wa rfl<|WL.nil<|WQ.inNormal<|WQ.round (u+1) ⟨(by have:=bE_0 (dF hb4); omega),H3⟩ ⟨rfl,rfl,rfl,rfl,trivial⟩ (by have:=bE_0 (dF hb4); omega))
  exact WC.exit<|WQ.thenExit<|WQ.thenExit<|WQ.inHere<|WQ.here () H1 ⟨rfl,rfl,rfl,(by rw [show u=n by omega]; rfl),trivial⟩
 rintro _ w5 H5
 show WC _ _ _ _ _ [(0,(ptr x 0)),(1,(vU32 id)),(2,(str key)),(8,(vN n))] _
 exact WC.seq<|ws<|wm rfl<|wo (op_lssN (b:=4) rfl rfl<|wn<|WC.yes rfl (decide_eq_true (by omega))<|ws<|wa rfl<|wa rfl<|wn<|WC.ret<|WQ.thenRet<|WQ.out (.tmp rfl (.tmp rfl .nil)) (⟨rfl,H5.fr⟩))
theorem made_ok (nb:UInt32) (key:List UInt8) (w:World) (h4:4≤nb.toNat) (hm:nb.toNat≤1024) :
  Calls Tryz.prog 20 #[(vU32 nb),(str key)] w (fun e w'=> ∃s x k bv e0 e1 xv cv nv,e=.returned (.tuple #[ptr x 0,ptr s 0])∧(∀b'∈[k],w.heap.size≤b')∧(∀b'∈footA bv [e0,e1],w.heap.size≤b')∧(∀b'∈footA e0 (List.map str (List.replicate (1:UInt32).toNat (List.replicate 64 0))),w.heap.size≤b')∧(∀b'∈[x],w.heap.size≤b')∧Owl.Own [] w w' [.blk s [(ptr x 0),(vU32 1),(str key),(vN ((nb.toNat-2) / 2)),(vI (-1))] 95,Ent.bo x [(ptr k 0)],Ent.bo k [(vU32 40),xv,cv,nv,bv],Ent.ar bv 1 2 [e0,e1],.row e1 9 1 nb.toNat (List.map str (List.replicate nb.toNat (List.replicate 64 0))),Ent.ar e0 1 (1:UInt32).toNat (List.map str (List.replicate (1:UInt32).toNat (List.replicate 64 0)))]):=by
 refine enter Tryz.func20 rfl rfl ?_
 have H0:Owl.Own [] w w []:=Own.start w []
 refine ws<|wa rfl<|wa rfl<|wn<|ws<|wm rfl<|wo (op_buildSlice (cs:=[_,_]) H0 Tryz.underlying73 Fa.I22 rfl rfl rfl rfl (by decide) (by decide) (fun b1 w1 H1=>(wo (op_build (cs:=[_,_]) Fa.I75 Fa.PL75 rfl rfl<|wo (op_callF Fa.C37 rfl ((exoNew_ok 40 _ 1 nb _ (H1.arrR (i:=0) rfl) (hard_made hm)).mono (fun e w2 hq=>?_)))))))
 obtain ⟨x2,k2,bv2,e02,e12,xv2,cv2,nv2,rfl,hf02,hf12,hf22,hf32,hq2⟩:=hq
 refine ⟨_,rfl,?_⟩
 have H2:Owl.Own [] w w2 [.row (.slice (some ⟨b1,0,none⟩) 2 2) 22 1 2 (List.map vU32 [1,nb]),Ent.bo x2 [(ptr k2 0)],Ent.bo k2 [(vU32 40),xv2,cv2,nv2,bv2],Ent.ar bv2 1 2 [e02,e12],.row e12 9 1 nb.toNat (List.map str (List.replicate nb.toNat (List.replicate 64 0))),Ent.ar e02 1 (1:UInt32).toNat (List.map str (List.replicate (1:UInt32).toNat (List.replicate 64 0)))]:=H1.splice [] [] [Ent.bo x2 [(ptr k2 0)],Ent.bo k2 [(vU32 40),xv2,cv2,nv2,bv2],Ent.ar bv2 1 2 [e02,e12],.row e12 9 1 nb.toNat (List.map str (List.replicate nb.toNat (List.replicate 64 0))),Ent.ar e02 1 (1:UInt32).toNat (List.map str (List.replicate (1:UInt32).toNat (List.replicate 64 0)))] rfl rfl hq2 (Fits.fresh hf32 (Fits.fresh hf02 (Fits.fresh hf12 (Fits.solid True.intro (Fits.fresh hf22 Fits.nil)))))
 refine wm rfl<|we rfl rfl<|we rfl rfl<|wa rfl<|wa rfl<|wn<|WC.seq<|ws ?_
 have hs:w.heap.size≤w1.heap.size:=H1.fr.size
 refine wm rfl<|wo (op_neqN (b:=0) rfl rfl<|wm rfl<|WL.yes rfl rfl rfl (by decide) rfl (op_move rfl<|WL.yes rfl rfl rfl (by decide) rfl (op_eqlPN Fa.PT47 rfl rfl<|wo (op_pickF rfl (by decide) rfl<|wn<|WC.no rfl rfl<|WC.skip<|WQ.next<|ws<|wm rfl<|wm rfl<|wo (op_callF Fa.C11 rfl ((new44_ok x2 k2 bv2 e12 xv2 cv2 nv2 40 2 nb.toNat ([e02,e12]) (List.replicate nb.toNat (List.replicate 64 0)) 1 key _ (H2.cellsAtO (i:=1) rfl) (H2.cellsAtO (i:=2) rfl) (H2.arrO (i:=3) rfl) (H2.arrR (i:=4) rfl) (by decide) rfl (by omega) (by omega)).mono (fun e w3 hq=>?_)))))))
 obtain ⟨s3,rfl,hq3⟩:=hq
 refine ⟨_,rfl,?_⟩
 have H3:Owl.Own [] w w3 [.row (.slice (some ⟨b1,0,none⟩) 2 2) 22 1 2 (List.map vU32 [1,nb]),Ent.bo x2 [(ptr k2 0)],Ent.bo k2 [(vU32 40),xv2,cv2,nv2,bv2],Ent.ar bv2 1 2 [e02,e12],.row e12 9 1 nb.toNat (List.map str (List.replicate nb.toNat (List.replicate 64 0))),Ent.ar e02 1 (1:UInt32).toNat (List.map str (List.replicate (1:UInt32).toNat (List.replicate 64 0))),.blk s3 [(ptr x2 0),(vU32 1),(str key),(vN ((nb.toNat-2) / 2)),(vI (-1))] 95]:=H2.splice [] [] [.blk s3 [(ptr x2 0),(vU32 1),(str key),(vN ((nb.toNat-2) / 2)),(vI (-1))] 95] rfl rfl hq3 (Fits.solid True.intro Fits.nil)
 exact wm rfl<|we rfl rfl<|we rfl rfl<|wa rfl<|wa rfl<|wn<|WC.seq<|ws<|wm rfl<|wo (op_neqN (b:=0) rfl rfl<|wn<|WC.no rfl (by decide)<|WC.skip<|WQ.next<|ws<|wm rfl<|wm rfl<|wa rfl<|wa rfl<|wn<|WC.ret<|WQ.out (.tmp rfl (.tmp rfl .nil)) (⟨_,_,_,_,_,_,_,_,_,rfl,up hf02 hs,up hf12 hs,up hf22 hs,up hf32 hs,H3.sel [6,1,2,3,4,5] rfl rfl⟩))
theorem alive44_ok  (w:World) :
  Calls Tryz.prog 10 #[] w (fun e w'=>e=.returned (.bool true)∧Fr [] w w'):=by
 refine enter Tryz.func10 rfl rfl ?_
 have H0:Owl.Own [] w w []:=Own.start w []
 refine ws<|wa rfl<|wn<|ws<|wo (op_callF Fa.C20 rfl ((made_ok 6 ([107]) _ (by decide) (by decide)).mono (fun e w1 hq=>?_)))
 obtain ⟨s1,x1,k1,bv1,e01,e11,xv1,cv1,nv1,rfl,hf01,hf11,hf21,hf31,hq1⟩:=hq
 refine ⟨_,rfl,?_⟩
 have H1:Owl.Own [] w w1 [.blk s1 [(ptr x1 0),(vU32 1),(str [107]),(vN (((6:UInt32).toNat-2) / 2)),(vI (-1))] 95,Ent.bo x1 [(ptr k1 0)],Ent.bo k1 [(vU32 40),xv1,cv1,nv1,bv1],Ent.ar bv1 1 2 [e01,e11],.row e11 9 1 (6:UInt32).toNat (List.map str (List.replicate (6:UInt32).toNat (List.replicate 64 0))),Ent.ar e01 1 (1:UInt32).toNat (List.map str (List.replicate (1:UInt32).toNat (List.replicate 64 0)))]:=H0.splice [] [] [.blk s1 [(ptr x1 0),(vU32 1),(str [107]),(vN (((6:UInt32).toNat-2) / 2)),(vI (-1))] 95,Ent.bo x1 [(ptr k1 0)],Ent.bo k1 [(vU32 40),xv1,cv1,nv1,bv1],Ent.ar bv1 1 2 [e01,e11],.row e11 9 1 (6:UInt32).toNat (List.map str (List.replicate (6:UInt32).toNat (List.replicate 64 0))),Ent.ar e01 1 (1:UInt32).toNat (List.map str (List.replicate (1:UInt32).toNat (List.replicate 64 0)))] rfl rfl hq1 (Fits.solid True.intro (Fits.fresh hf31 (Fits.fresh hf01 (Fits.fresh hf11 (Fits.solid True.intro (Fits.fresh hf21 Fits.nil))))))
 refine wm rfl<|we rfl rfl<|we rfl rfl<|wa rfl<|wa rfl<|wn<|WC.seq<|ws<|wm rfl<|wo (op_eqlPN Fa.PT24 rfl rfl<|wn<|WC.no rfl rfl<|WC.skip<|WQ.next<|ws<|wm rfl<|wo (op_callF Fa.C17 rfl ((update_ok s1 1 ([107]) (((6:UInt32).toNat-2) / 2) (-1) x1 k1 bv1 e11 xv1 cv1 nv1 40 2 ((6:UInt32).toNat) ([e01,e11]) (List.replicate (6:UInt32).toNat (List.replicate 64 0)) 1 ([97]) _ _ (H1.part [0,1,2,3,4] rfl rfl) (by decide) rfl ((SOK.new (6:UInt32).toNat)).len ((SOK.new (6:UInt32).toNat)).all (by decide) (by decide) (by decide) (by decide) (by decide) (by decide)).mono (fun e w2 hq=>?_))))
 obtain ⟨rfl,hq2⟩:=hq
 refine ⟨_,rfl,?_⟩
 have H2:Owl.Own [] w w2 [.blk s1 [(ptr x1 0),(vU32 1),(str [107]),(vN (((6:UInt32).toNat-2) / 2)),(vI (updE (Sst.mk (List.replicate (6:UInt32).toNat (List.replicate 64 0)) (-1)) (((6:UInt32).toNat-2) / 2) ([107]) 1 ([97])).1.left)] 95,Ent.bo x1 [(ptr k1 0)],Ent.bo k1 [(vU32 40),xv1,cv1,nv1,bv1],Ent.ar bv1 1 2 [e01,e11],.row e11 9 1 (6:UInt32).toNat (List.map str (updE (Sst.mk (List.replicate (6:UInt32).toNat (List.replicate 64 0)) (-1)) (((6:UInt32).toNat-2) / 2) ([107]) 1 ([97])).1.B),Ent.ar e01 1 (1:UInt32).toNat (List.map str (List.replicate (1:UInt32).toNat (List.replicate 64 0)))]:=H1.splice [0,1,2,3,4] [.blk s1 [(ptr x1 0),(vU32 1),(str [107]),(vN (((6:UInt32).toNat-2) / 2)),(vI (updE (Sst.mk (List.replicate (6:UInt32).toNat (List.replicate 64 0)) (-1)) (((6:UInt32).toNat-2) / 2) ([107]) 1 ([97])).1.left)] 95,Ent.bo x1 [(ptr k1 0)],Ent.bo k1 [(vU32 40),xv1,cv1,nv1,bv1],Ent.ar bv1 1 2 [e01,e11],.row e11 9 1 (6:UInt32).toNat (List.map str (updE (Sst.mk (List.replicate (6:UInt32).toNat (List.replicate 64 0)) (-1)) (((6:UInt32).toNat-2) / 2) ([107]) 1 ([97])).1.B)] [] rfl rfl hq2 (Fits.solid True.intro (Fits.same (j:=1) rfl (Fits.same (j:=2) rfl (Fits.same (j:=3) rfl (Fits.solid True.intro Fits.nil)))))
 refine wm rfl<|wo (op_callF Fa.C17 rfl ((update_ok s1 1 ([107]) (((6:UInt32).toNat-2) / 2) ((updE (Sst.mk (List.replicate (6:UInt32).toNat (List.replicate 64 0)) (-1)) (((6:UInt32).toNat-2) / 2) ([107]) 1 ([97])).1.left) x1 k1 bv1 e11 xv1 cv1 nv1 40 2 ((6:UInt32).toNat) ([e01,e11]) ((updE (Sst.mk (List.replicate (6:UInt32).toNat (List.replicate 64 0)) (-1)) (((6:UInt32).toNat-2) / 2) ([107]) 1 ([97])).1.B) 1 ([98]) _ _ (H2.part [0,1,2,3,4] rfl rfl) (by decide) rfl ((SOK.upd (SOK.new (6:UInt32).toNat))).len ((SOK.upd (SOK.new (6:UInt32).toNat))).all (by decide) (by decide) (by decide) (by decide) (updE_left (by decide)) (by decide)).mono (fun e w3 hq=>?_)))
 obtain ⟨rfl,hq3⟩:=hq
 refine ⟨_,rfl,?_⟩
 have H3:Owl.Own [] w w3 [.blk s1 [(ptr x1 0),(vU32 1),(str [107]),(vN (((6:UInt32).toNat-2) / 2)),(vI (updE (Sst.mk ((updE (Sst.mk (List.replicate (6:UInt32).toNat (List.replicate 64 0)) (-1)) (((6:UInt32).toNat-2) / 2) ([107]) 1 ([97])).1.B) ((updE (Sst.mk (List.replicate (6:UInt32).toNat (List.replicate 64 0)) (-1)) (((6:UInt32).toNat-2) / 2) ([107]) 1 ([97])).1.left)) (((6:UInt32).toNat-2) / 2) ([107]) 1 ([98])).1.left)] 95,Ent.bo x1 [(ptr k1 0)],Ent.bo k1 [(vU32 40),xv1,cv1,nv1,bv1],Ent.ar bv1 1 2 [e01,e11],.row e11 9 1 (6:UInt32).toNat (List.map str (updE (Sst.mk ((updE (Sst.mk (List.replicate (6:UInt32).toNat (List.replicate 64 0)) (-1)) (((6:UInt32).toNat-2) / 2) ([107]) 1 ([97])).1.B) ((updE (Sst.mk (List.replicate (6:UInt32).toNat (List.replicate 64 0)) (-1)) (((6:UInt32).toNat-2) / 2) ([107]) 1 ([97])).1.left)) (((6:UInt32).toNat-2) / 2) ([107]) 1 ([98])).1.B),Ent.ar e01 1 (1:UInt32).toNat (List.map str (List.replicate (1:UInt32).toNat (List.replicate 64 0)))]:=H2.splice [0,1,2,3,4] [.blk s1 [(ptr x1 0),(vU32 1),(str [107]),(vN (((6:UInt32).toNat-2) / 2)),(vI (updE (Sst.mk ((updE (Sst.mk (List.replicate (6:UInt32).toNat (List.replicate 64 0)) (-1)) (((6:UInt32).toNat-2) / 2) ([107]) 1 ([97])).1.B) ((updE (Sst.mk (List.replicate (6:UInt32).toNat (List.replicate 64 0)) (-1)) (((6:UInt32).toNat-2) / 2) ([107]) 1 ([97])).1.left)) (((6:UInt32).toNat-2) / 2) ([107]) 1 ([98])).1.left)] 95,Ent.bo x1 [(ptr k1 0)],Ent.bo k1 [(vU32 40),xv1,cv1,nv1,bv1],Ent.ar bv1 1 2 [e01,e11],.row e11 9 1 (6:UInt32).toNat (List.map str (updE (Sst.mk ((updE (Sst.mk (List.replicate (6:UInt32).toNat (List.replicate 64 0)) (-1)) (((6:UInt32).toNat-2) / 2) ([107]) 1 ([97])).1.B) ((updE (Sst.mk (List.replicate (6:UInt32).toNat (List.replicate 64 0)) (-1)) (((6:UInt32).toNat-2) / 2) ([107]) 1 ([97])).1.left)) (((6:UInt32).toNat-2) / 2) ([107]) 1 ([98])).1.B)] [] rfl rfl hq3 (Fits.solid True.intro (Fits.same (j:=1) rfl (Fits.same (j:=2) rfl (Fits.same (j:=3) rfl (Fits.solid True.intro Fits.nil)))))
 refine wa rfl<|wa rfl<|wn<|ws<|wm rfl<|wo (op_callF Fa.C16 rfl ((fuse_ok s1 (ptr x1 0) rfl 1 ([107]) (((6:UInt32).toNat-2) / 2) ((updE (Sst.mk ((updE (Sst.mk (List.replicate (6:UInt32).toNat (List.replicate 64 0)) (-1)) (((6:UInt32).toNat-2) / 2) ([107]) 1 ([97])).1.B) ((updE (Sst.mk (List.replicate (6:UInt32).toNat (List.replicate 64 0)) (-1)) (((6:UInt32).toNat-2) / 2) ([107]) 1 ([97])).1.left)) (((6:UInt32).toNat-2) / 2) ([107]) 1 ([98])).1.left) (2:Int) _ _ (H3.part [0] rfl rfl)).mono (fun e w4 hq=>?_)))
 obtain ⟨rfl,hq4⟩:=hq
 refine ⟨_,rfl,?_⟩
 have H4:Owl.Own [] w w4 [.blk s1 [(ptr x1 0),(vU32 1),(str [107]),(vN (((6:UInt32).toNat-2) / 2)),(vI (max (2:Int) (-1)))] 95,Ent.bo x1 [(ptr k1 0)],Ent.bo k1 [(vU32 40),xv1,cv1,nv1,bv1],Ent.ar bv1 1 2 [e01,e11],.row e11 9 1 (6:UInt32).toNat (List.map str (updE (Sst.mk ((updE (Sst.mk (List.replicate (6:UInt32).toNat (List.replicate 64 0)) (-1)) (((6:UInt32).toNat-2) / 2) ([107]) 1 ([97])).1.B) ((updE (Sst.mk (List.replicate (6:UInt32).toNat (List.replicate 64 0)) (-1)) (((6:UInt32).toNat-2) / 2) ([107]) 1 ([97])).1.left)) (((6:UInt32).toNat-2) / 2) ([107]) 1 ([98])).1.B),Ent.ar e01 1 (1:UInt32).toNat (List.map str (List.replicate (1:UInt32).toNat (List.replicate 64 0)))]:=H3.splice [0] [.blk s1 [(ptr x1 0),(vU32 1),(str [107]),(vN (((6:UInt32).toNat-2) / 2)),(vI (max (2:Int) (-1)))] 95] [] rfl rfl hq4 (Fits.solid True.intro Fits.nil)
 refine wn<|ws<|wm rfl<|wo (op_callF Fa.C17 rfl ((update_ok s1 1 ([107]) (((6:UInt32).toNat-2) / 2) (max (2:Int) (-1)) x1 k1 bv1 e11 xv1 cv1 nv1 40 2 ((6:UInt32).toNat) ([e01,e11]) ((updE (Sst.mk ((updE (Sst.mk (List.replicate (6:UInt32).toNat (List.replicate 64 0)) (-1)) (((6:UInt32).toNat-2) / 2) ([107]) 1 ([97])).1.B) ((updE (Sst.mk (List.replicate (6:UInt32).toNat (List.replicate 64 0)) (-1)) (((6:UInt32).toNat-2) / 2) ([107]) 1 ([97])).1.left)) (((6:UInt32).toNat-2) / 2) ([107]) 1 ([98])).1.B) 2 ([98]) _ _ (H4.part [0,1,2,3,4] rfl rfl) (by decide) rfl ((SOK.upd (SOK.upd (SOK.new (6:UInt32).toNat)))).len ((SOK.upd (SOK.upd (SOK.new (6:UInt32).toNat)))).all (by decide) (by decide) (by decide) (by decide) (max_left (by decide)) (by decide)).mono (fun e w5 hq=>?_)))
 obtain ⟨rfl,hq5⟩:=hq
 refine ⟨_,rfl,?_⟩
 have H5:Owl.Own [] w w5 [.blk s1 [(ptr x1 0),(vU32 1),(str [107]),(vN (((6:UInt32).toNat-2) / 2)),(vI (updE (Sst.mk ((updE (Sst.mk ((updE (Sst.mk (List.replicate (6:UInt32).toNat (List.replicate 64 0)) (-1)) (((6:UInt32).toNat-2) / 2) ([107]) 1 ([97])).1.B) ((updE (Sst.mk (List.replicate (6:UInt32).toNat (List.replicate 64 0)) (-1)) (((6:UInt32).toNat-2) / 2) ([107]) 1 ([97])).1.left)) (((6:UInt32).toNat-2) / 2) ([107]) 1 ([98])).1.B) (max (2:Int) (-1))) (((6:UInt32).toNat-2) / 2) ([107]) 2 ([98])).1.left)] 95,Ent.bo x1 [(ptr k1 0)],Ent.bo k1 [(vU32 40),xv1,cv1,nv1,bv1],Ent.ar bv1 1 2 [e01,e11],.row e11 9 1 (6:UInt32).toNat (List.map str (updE (Sst.mk ((updE (Sst.mk ((updE (Sst.mk (List.replicate (6:UInt32).toNat (List.replicate 64 0)) (-1)) (((6:UInt32).toNat-2) / 2) ([107]) 1 ([97])).1.B) ((updE (Sst.mk (List.replicate (6:UInt32).toNat (List.replicate 64 0)) (-1)) (((6:UInt32).toNat-2) / 2) ([107]) 1 ([97])).1.left)) (((6:UInt32).toNat-2) / 2) ([107]) 1 ([98])).1.B) (max (2:Int) (-1))) (((6:UInt32).toNat-2) / 2) ([107]) 2 ([98])).1.B),Ent.ar e01 1 (1:UInt32).toNat (List.map str (List.replicate (1:UInt32).toNat (List.replicate 64 0)))]:=H4.splice [0,1,2,3,4] [.blk s1 [(ptr x1 0),(vU32 1),(str [107]),(vN (((6:UInt32).toNat-2) / 2)),(vI (updE (Sst.mk ((updE (Sst.mk ((updE (Sst.mk (List.replicate (6:UInt32).toNat (List.replicate 64 0)) (-1)) (((6:UInt32).toNat-2) / 2) ([107]) 1 ([97])).1.B) ((updE (Sst.mk (List.replicate (6:UInt32).toNat (List.replicate 64 0)) (-1)) (((6:UInt32).toNat-2) / 2) ([107]) 1 ([97])).1.left)) (((6:UInt32).toNat-2) / 2) ([107]) 1 ([98])).1.B) (max (2:Int) (-1))) (((6:UInt32).toNat-2) / 2) ([107]) 2 ([98])).1.left)] 95,Ent.bo x1 [(ptr k1 0)],Ent.bo k1 [(vU32 40),xv1,cv1,nv1,bv1],Ent.ar bv1 1 2 [e01,e11],.row e11 9 1 (6:UInt32).toNat (List.map str (updE (Sst.mk ((updE (Sst.mk ((updE (Sst.mk (List.replicate (6:UInt32).toNat (List.replicate 64 0)) (-1)) (((6:UInt32).toNat-2) / 2) ([107]) 1 ([97])).1.B) ((updE (Sst.mk (List.replicate (6:UInt32).toNat (List.replicate 64 0)) (-1)) (((6:UInt32).toNat-2) / 2) ([107]) 1 ([97])).1.left)) (((6:UInt32).toNat-2) / 2) ([107]) 1 ([98])).1.B) (max (2:Int) (-1))) (((6:UInt32).toNat-2) / 2) ([107]) 2 ([98])).1.B)] [] rfl rfl hq5 (Fits.solid True.intro (Fits.same (j:=1) rfl (Fits.same (j:=2) rfl (Fits.same (j:=3) rfl (Fits.solid True.intro Fits.nil)))))
 refine wa rfl<|wn<|ws<|wm rfl<|wo (cq H5 Fa.C13 rfl (current_ok s1 1 ([107]) (((6:UInt32).toNat-2) / 2) ((updE (Sst.mk ((updE (Sst.mk ((updE (Sst.mk (List.replicate (6:UInt32).toNat (List.replicate 64 0)) (-1)) (((6:UInt32).toNat-2) / 2) ([107]) 1 ([97])).1.B) ((updE (Sst.mk (List.replicate (6:UInt32).toNat (List.replicate 64 0)) (-1)) (((6:UInt32).toNat-2) / 2) ([107]) 1 ([97])).1.left)) (((6:UInt32).toNat-2) / 2) ([107]) 1 ([98])).1.B) (max (2:Int) (-1))) (((6:UInt32).toNat-2) / 2) ([107]) 2 ([98])).1.left) x1 k1 bv1 e11 xv1 cv1 nv1 40 2 ((6:UInt32).toNat) ([e01,e11]) ((updE (Sst.mk ((updE (Sst.mk ((updE (Sst.mk (List.replicate (6:UInt32).toNat (List.replicate 64 0)) (-1)) (((6:UInt32).toNat-2) / 2) ([107]) 1 ([97])).1.B) ((updE (Sst.mk (List.replicate (6:UInt32).toNat (List.replicate 64 0)) (-1)) (((6:UInt32).toNat-2) / 2) ([107]) 1 ([97])).1.left)) (((6:UInt32).toNat-2) / 2) ([107]) 1 ([98])).1.B) (max (2:Int) (-1))) (((6:UInt32).toNat-2) / 2) ([107]) 2 ([98])).1.B) _ (H5.cellsAt (i:=0) rfl) (H5.cellsAtO (i:=1) rfl) (H5.cellsAtO (i:=2) rfl) (H5.arrO (i:=3) rfl) (H5.arrR (i:=4) rfl) (by decide) rfl ((SOK.upd (SOK.upd (SOK.upd (SOK.new (6:UInt32).toNat))))).len ((SOK.upd (SOK.upd (SOK.upd (SOK.new (6:UInt32).toNat))))).all (by decide) (by decide) (by decide)) fun w6 H6=>(wm rfl<|we rfl rfl<|we rfl rfl<|we rfl rfl<|wa rfl<|wa rfl<|wa rfl<|wn<|ws<|wm rfl<|wo (op_callF Fa.C16 rfl ((fuse_ok s1 (ptr x1 0) rfl 1 ([107]) (((6:UInt32).toNat-2) / 2) ((updE (Sst.mk ((updE (Sst.mk ((updE (Sst.mk (List.replicate (6:UInt32).toNat (List.replicate 64 0)) (-1)) (((6:UInt32).toNat-2) / 2) ([107]) 1 ([97])).1.B) ((updE (Sst.mk (List.replicate (6:UInt32).toNat (List.replicate 64 0)) (-1)) (((6:UInt32).toNat-2) / 2) ([107]) 1 ([97])).1.left)) (((6:UInt32).toNat-2) / 2) ([107]) 1 ([98])).1.B) (max (2:Int) (-1))) (((6:UInt32).toNat-2) / 2) ([107]) 2 ([98])).1.left) (-1) _ _ (H6.part [0] rfl rfl)).mono (fun e w7 hq=>?_)))))
 obtain ⟨rfl,hq7⟩:=hq
 refine ⟨_,rfl,?_⟩
 have H7:Owl.Own [] w w7 [.blk s1 [(ptr x1 0),(vU32 1),(str [107]),(vN (((6:UInt32).toNat-2) / 2)),(vI (max (-1) (-1)))] 95,Ent.bo x1 [(ptr k1 0)],Ent.bo k1 [(vU32 40),xv1,cv1,nv1,bv1],Ent.ar bv1 1 2 [e01,e11],.row e11 9 1 (6:UInt32).toNat (List.map str (updE (Sst.mk ((updE (Sst.mk ((updE (Sst.mk (List.replicate (6:UInt32).toNat (List.replicate 64 0)) (-1)) (((6:UInt32).toNat-2) / 2) ([107]) 1 ([97])).1.B) ((updE (Sst.mk (List.replicate (6:UInt32).toNat (List.replicate 64 0)) (-1)) (((6:UInt32).toNat-2) / 2) ([107]) 1 ([97])).1.left)) (((6:UInt32).toNat-2) / 2) ([107]) 1 ([98])).1.B) (max (2:Int) (-1))) (((6:UInt32).toNat-2) / 2) ([107]) 2 ([98])).1.B),Ent.ar e01 1 (1:UInt32).toNat (List.map str (List.replicate (1:UInt32).toNat (List.replicate 64 0)))]:=H6.splice [0] [.blk s1 [(ptr x1 0),(vU32 1),(str [107]),(vN (((6:UInt32).toNat-2) / 2)),(vI (max (-1) (-1)))] 95] [] rfl rfl hq7 (Fits.solid True.intro Fits.nil)
 refine wn<|ws<|wm rfl<|wo (op_callF Fa.C17 rfl ((update_ok s1 1 ([107]) (((6:UInt32).toNat-2) / 2) (max (-1) (-1)) x1 k1 bv1 e11 xv1 cv1 nv1 40 2 ((6:UInt32).toNat) ([e01,e11]) ((updE (Sst.mk ((updE (Sst.mk ((updE (Sst.mk (List.replicate (6:UInt32).toNat (List.replicate 64 0)) (-1)) (((6:UInt32).toNat-2) / 2) ([107]) 1 ([97])).1.B) ((updE (Sst.mk (List.replicate (6:UInt32).toNat (List.replicate 64 0)) (-1)) (((6:UInt32).toNat-2) / 2) ([107]) 1 ([97])).1.left)) (((6:UInt32).toNat-2) / 2) ([107]) 1 ([98])).1.B) (max (2:Int) (-1))) (((6:UInt32).toNat-2) / 2) ([107]) 2 ([98])).1.B) 2 ([98]) _ _ (H7.part [0,1,2,3,4] rfl rfl) (by decide) rfl ((SOK.upd (SOK.upd (SOK.upd (SOK.new (6:UInt32).toNat))))).len ((SOK.upd (SOK.upd (SOK.upd (SOK.new (6:UInt32).toNat))))).all (by decide) (by decide) (by decide) (by decide) (max_left (by decide)) (by decide)).mono (fun e w8 hq=>?_)))
 obtain ⟨rfl,hq8⟩:=hq
 refine ⟨_,rfl,?_⟩
 have H8:Owl.Own [] w w8 [.blk s1 [(ptr x1 0),(vU32 1),(str [107]),(vN (((6:UInt32).toNat-2) / 2)),(vI (updE (Sst.mk ((updE (Sst.mk ((updE (Sst.mk ((updE (Sst.mk (List.replicate (6:UInt32).toNat (List.replicate 64 0)) (-1)) (((6:UInt32).toNat-2) / 2) ([107]) 1 ([97])).1.B) ((updE (Sst.mk (List.replicate (6:UInt32).toNat (List.replicate 64 0)) (-1)) (((6:UInt32).toNat-2) / 2) ([107]) 1 ([97])).1.left)) (((6:UInt32).toNat-2) / 2) ([107]) 1 ([98])).1.B) (max (2:Int) (-1))) (((6:UInt32).toNat-2) / 2) ([107]) 2 ([98])).1.B) (max (-1) (-1))) (((6:UInt32).toNat-2) / 2) ([107]) 2 ([98])).1.left)] 95,Ent.bo x1 [(ptr k1 0)],Ent.bo k1 [(vU32 40),xv1,cv1,nv1,bv1],Ent.ar bv1 1 2 [e01,e11],.row e11 9 1 (6:UInt32).toNat (List.map str (updE (Sst.mk ((updE (Sst.mk ((updE (Sst.mk ((updE (Sst.mk (List.replicate (6:UInt32).toNat (List.replicate 64 0)) (-1)) (((6:UInt32).toNat-2) / 2) ([107]) 1 ([97])).1.B) ((updE (Sst.mk (List.replicate (6:UInt32).toNat (List.replicate 64 0)) (-1)) (((6:UInt32).toNat-2) / 2) ([107]) 1 ([97])).1.left)) (((6:UInt32).toNat-2) / 2) ([107]) 1 ([98])).1.B) (max (2:Int) (-1))) (((6:UInt32).toNat-2) / 2) ([107]) 2 ([98])).1.B) (max (-1) (-1))) (((6:UInt32).toNat-2) / 2) ([107]) 2 ([98])).1.B),Ent.ar e01 1 (1:UInt32).toNat (List.map str (List.replicate (1:UInt32).toNat (List.replicate 64 0)))]:=H7.splice [0,1,2,3,4] [.blk s1 [(ptr x1 0),(vU32 1),(str [107]),(vN (((6:UInt32).toNat-2) / 2)),(vI (updE (Sst.mk ((updE (Sst.mk ((updE (Sst.mk ((updE (Sst.mk (List.replicate (6:UInt32).toNat (List.replicate 64 0)) (-1)) (((6:UInt32).toNat-2) / 2) ([107]) 1 ([97])).1.B) ((updE (Sst.mk (List.replicate (6:UInt32).toNat (List.replicate 64 0)) (-1)) (((6:UInt32).toNat-2) / 2) ([107]) 1 ([97])).1.left)) (((6:UInt32).toNat-2) / 2) ([107]) 1 ([98])).1.B) (max (2:Int) (-1))) (((6:UInt32).toNat-2) / 2) ([107]) 2 ([98])).1.B) (max (-1) (-1))) (((6:UInt32).toNat-2) / 2) ([107]) 2 ([98])).1.left)] 95,Ent.bo x1 [(ptr k1 0)],Ent.bo k1 [(vU32 40),xv1,cv1,nv1,bv1],Ent.ar bv1 1 2 [e01,e11],.row e11 9 1 (6:UInt32).toNat (List.map str (updE (Sst.mk ((updE (Sst.mk ((updE (Sst.mk ((updE (Sst.mk (List.replicate (6:UInt32).toNat (List.replicate 64 0)) (-1)) (((6:UInt32).toNat-2) / 2) ([107]) 1 ([97])).1.B) ((updE (Sst.mk (List.replicate (6:UInt32).toNat (List.replicate 64 0)) (-1)) (((6:UInt32).toNat-2) / 2) ([107]) 1 ([97])).1.left)) (((6:UInt32).toNat-2) / 2) ([107]) 1 ([98])).1.B) (max (2:Int) (-1))) (((6:UInt32).toNat-2) / 2) ([107]) 2 ([98])).1.B) (max (-1) (-1))) (((6:UInt32).toNat-2) / 2) ([107]) 2 ([98])).1.B)] [] rfl rfl hq8 (Fits.solid True.intro (Fits.same (j:=1) rfl (Fits.same (j:=2) rfl (Fits.same (j:=3) rfl (Fits.solid True.intro Fits.nil)))))
 refine wa rfl<|wn<|ws<|wm rfl<|wo (cq H8 Fa.C12 rfl (slot_ok s1 1 ([107]) (((6:UInt32).toNat-2) / 2) ((updE (Sst.mk ((updE (Sst.mk ((updE (Sst.mk ((updE (Sst.mk (List.replicate (6:UInt32).toNat (List.replicate 64 0)) (-1)) (((6:UInt32).toNat-2) / 2) ([107]) 1 ([97])).1.B) ((updE (Sst.mk (List.replicate (6:UInt32).toNat (List.replicate 64 0)) (-1)) (((6:UInt32).toNat-2) / 2) ([107]) 1 ([97])).1.left)) (((6:UInt32).toNat-2) / 2) ([107]) 1 ([98])).1.B) (max (2:Int) (-1))) (((6:UInt32).toNat-2) / 2) ([107]) 2 ([98])).1.B) (max (-1) (-1))) (((6:UInt32).toNat-2) / 2) ([107]) 2 ([98])).1.left) x1 k1 bv1 e11 xv1 cv1 nv1 40 2 ((6:UInt32).toNat) ([e01,e11]) ((updE (Sst.mk ((updE (Sst.mk ((updE (Sst.mk ((updE (Sst.mk (List.replicate (6:UInt32).toNat (List.replicate 64 0)) (-1)) (((6:UInt32).toNat-2) / 2) ([107]) 1 ([97])).1.B) ((updE (Sst.mk (List.replicate (6:UInt32).toNat (List.replicate 64 0)) (-1)) (((6:UInt32).toNat-2) / 2) ([107]) 1 ([97])).1.left)) (((6:UInt32).toNat-2) / 2) ([107]) 1 ([98])).1.B) (max (2:Int) (-1))) (((6:UInt32).toNat-2) / 2) ([107]) 2 ([98])).1.B) (max (-1) (-1))) (((6:UInt32).toNat-2) / 2) ([107]) 2 ([98])).1.B) 1 _ (H8.cellsAt (i:=0) rfl) (H8.cellsAtO (i:=1) rfl) (H8.cellsAtO (i:=2) rfl) (H8.arrO (i:=3) rfl) (H8.arrR (i:=4) rfl) (by decide) rfl ((SOK.upd (SOK.upd (SOK.upd (SOK.upd (SOK.new (6:UInt32).toNat)))))).len ((SOK.upd (SOK.upd (SOK.upd (SOK.upd (SOK.new (6:UInt32).toNat)))))).all (by decide) (by decide) (by decide) (by decide)) fun w9 H9=>(wm rfl<|we rfl rfl<|we rfl rfl<|we rfl rfl<|wa rfl<|wa rfl<|wa rfl<|wn<|ws<|wm rfl<|wo (cq H9 Fa.C11 rfl (new44_no x1 k1 bv1 e01 xv1 cv1 nv1 40 2 ((1:UInt32).toNat) ([e01,e11]) (List.replicate (1:UInt32).toNat (List.replicate 64 0)) 0 ([107]) _ (H9.cellsAtO (i:=1) rfl) (H9.cellsAtO (i:=2) rfl) (H9.arrO (i:=3) rfl) (H9.arrO (i:=5) rfl) (by decide) rfl (by decide) (by decide)) fun w10 H10=>(wm rfl<|we rfl rfl<|we rfl rfl<|wa rfl<|wa rfl<|wn<|ws<|wm rfl<|wo (cq H10 Fa.C15 rfl (room_ok s1 (ptr x1 0) 1 ([107]) (((6:UInt32).toNat-2) / 2) ((updE (Sst.mk ((updE (Sst.mk ((updE (Sst.mk ((updE (Sst.mk (List.replicate (6:UInt32).toNat (List.replicate 64 0)) (-1)) (((6:UInt32).toNat-2) / 2) ([107]) 1 ([97])).1.B) ((updE (Sst.mk (List.replicate (6:UInt32).toNat (List.replicate 64 0)) (-1)) (((6:UInt32).toNat-2) / 2) ([107]) 1 ([97])).1.left)) (((6:UInt32).toNat-2) / 2) ([107]) 1 ([98])).1.B) (max (2:Int) (-1))) (((6:UInt32).toNat-2) / 2) ([107]) 2 ([98])).1.B) (max (-1) (-1))) (((6:UInt32).toNat-2) / 2) ([107]) 2 ([98])).1.left) _ (H10.cellsAt (i:=0) rfl) (by decide)) fun w11 H11=>(wo (op_eqlN (b:=128) rfl rfl<|wm rfl<|wY rfl (op_move rfl<|wY rfl (op_eqlN (b:=0) rfl rfl<|wo (op_pickT rfl rfl rfl<|wm rfl<|WL.yes rfl rfl rfl (decide_eq_true (al44 (n:=(6:UInt32).toNat) (each:=((6:UInt32).toNat-2) / 2) (key:=[107]) rfl rfl).1) rfl (op_move rfl<|WL.yes rfl rfl rfl (decide_eq_true (al44 (n:=(6:UInt32).toNat) (each:=((6:UInt32).toNat-2) / 2) (key:=[107]) rfl rfl).1) rfl (op_eqlN (b:=440) rfl rfl<|wo (op_pickT rfl (decide_eq_true (al44 (n:=(6:UInt32).toNat) (each:=((6:UInt32).toNat-2) / 2) (key:=[107]) rfl rfl).1) rfl<|wm rfl<|WL.yes rfl rfl rfl (decide_eq_true (al44 (n:=(6:UInt32).toNat) (each:=((6:UInt32).toNat-2) / 2) (key:=[107]) rfl rfl).2.1) rfl (op_move rfl<|WL.yes rfl rfl rfl (decide_eq_true (al44 (n:=(6:UInt32).toNat) (each:=((6:UInt32).toNat-2) / 2) (key:=[107]) rfl rfl).2.1) rfl (op_eqlN (b:=441) rfl rfl<|wo (op_pickT rfl (decide_eq_true (al44 (n:=(6:UInt32).toNat) (each:=((6:UInt32).toNat-2) / 2) (key:=[107]) rfl rfl).2.1) rfl<|wm rfl<|WL.yes rfl rfl rfl (decide_eq_true (al44 (n:=(6:UInt32).toNat) (each:=((6:UInt32).toNat-2) / 2) (key:=[107]) rfl rfl).2.2.1) rfl (op_move rfl<|WL.yes rfl rfl rfl (decide_eq_true (al44 (n:=(6:UInt32).toNat) (each:=((6:UInt32).toNat-2) / 2) (key:=[107]) rfl rfl).2.2.1) rfl (op_eqlU32 (b:=1) rfl rfl<|wo (op_pickT rfl (decide_eq_true (al44 (n:=(6:UInt32).toNat) (each:=((6:UInt32).toNat-2) / 2) (key:=[107]) rfl rfl).2.2.1) rfl<|wm rfl<|WL.yes rfl rfl rfl (decide_eq_true (by rw [(al44 (n:=(6:UInt32).toNat) (each:=((6:UInt32).toNat-2) / 2) (key:=[107]) rfl rfl).2.2.2.1])) rfl (op_move rfl ?_))))))))))))))))))))
 refine WL.yes rfl rfl rfl (decide_eq_true (by rw [(al44 (n:=(6:UInt32).toNat) (each:=((6:UInt32).toNat-2) / 2) (key:=[107]) rfl rfl).2.2.2.1])) rfl (op_eqlStr rfl rfl ?_)
 refine wo (op_pickT rfl (decide_eq_true (by rw [(al44 (n:=(6:UInt32).toNat) (each:=((6:UInt32).toNat-2) / 2) (key:=[107]) rfl rfl).2.2.2.1])) rfl ?_)
 refine wm rfl<|WL.yes rfl rfl rfl (decide_eq_true (by rw [(al44 (n:=(6:UInt32).toNat) (each:=((6:UInt32).toNat-2) / 2) (key:=[107]) rfl rfl).2.2.2.1])) rfl (op_move rfl ?_)
 refine wo (op_pickT rfl (decide_eq_true (by rw [(al44 (n:=(6:UInt32).toNat) (each:=((6:UInt32).toNat-2) / 2) (key:=[107]) rfl rfl).2.2.2.1])) rfl ?_)
 refine wm rfl<|WL.yes rfl rfl rfl (by rw [(al44 (n:=(6:UInt32).toNat) (each:=((6:UInt32).toNat-2) / 2) (key:=[107]) rfl rfl).2.2.2.1]) rfl (op_move rfl ?_)
 refine WL.yes rfl rfl rfl (by rw [(al44 (n:=(6:UInt32).toNat) (each:=((6:UInt32).toNat-2) / 2) (key:=[107]) rfl rfl).2.2.2.1]) rfl (op_eqlN (b:=0) rfl rfl ?_)
 refine wo (op_pickT rfl (by rw [(al44 (n:=(6:UInt32).toNat) (each:=((6:UInt32).toNat-2) / 2) (key:=[107]) rfl rfl).2.2.2.1]) rfl ?_)
 refine wm rfl<|WL.yes rfl rfl rfl (decide_eq_true (al44 (n:=(6:UInt32).toNat) (each:=((6:UInt32).toNat-2) / 2) (key:=[107]) rfl rfl).2.2.2.2.1) rfl (op_move rfl<|WL.yes rfl rfl rfl (decide_eq_true (al44 (n:=(6:UInt32).toNat) (each:=((6:UInt32).toNat-2) / 2) (key:=[107]) rfl rfl).2.2.2.2.1) rfl (op_eqlU32 (b:=2) rfl rfl<|wo (op_pickT rfl (decide_eq_true (al44 (n:=(6:UInt32).toNat) (each:=((6:UInt32).toNat-2) / 2) (key:=[107]) rfl rfl).2.2.2.2.1) rfl<|wm rfl<|WL.yes rfl rfl rfl (decide_eq_true (by rw [(al44 (n:=(6:UInt32).toNat) (each:=((6:UInt32).toNat-2) / 2) (key:=[107]) rfl rfl).2.2.2.2.2])) rfl (op_move rfl ?_))))
 refine WL.yes rfl rfl rfl (decide_eq_true (by rw [(al44 (n:=(6:UInt32).toNat) (each:=((6:UInt32).toNat-2) / 2) (key:=[107]) rfl rfl).2.2.2.2.2])) rfl (op_eqlStr rfl rfl ?_)
 refine wo (op_pickT rfl (decide_eq_true (by rw [(al44 (n:=(6:UInt32).toNat) (each:=((6:UInt32).toNat-2) / 2) (key:=[107]) rfl rfl).2.2.2.2.2])) rfl ?_)
 refine wm rfl<|WL.yes rfl rfl rfl (decide_eq_true (by rw [(al44 (n:=(6:UInt32).toNat) (each:=((6:UInt32).toNat-2) / 2) (key:=[107]) rfl rfl).2.2.2.2.2])) rfl (op_move rfl ?_)
 refine wo (op_pickT rfl (decide_eq_true (by rw [(al44 (n:=(6:UInt32).toNat) (each:=((6:UInt32).toNat-2) / 2) (key:=[107]) rfl rfl).2.2.2.2.2])) rfl ?_)
 refine wm rfl<|WL.yes rfl rfl rfl (by rw [(al44 (n:=(6:UInt32).toNat) (each:=((6:UInt32).toNat-2) / 2) (key:=[107]) rfl rfl).2.2.2.2.2]) rfl (op_move rfl ?_)
 refine WL.yes rfl rfl rfl (by rw [(al44 (n:=(6:UInt32).toNat) (each:=((6:UInt32).toNat-2) / 2) (key:=[107]) rfl rfl).2.2.2.2.2]) rfl (op_eqlN (b:=2) rfl rfl ?_)
 refine wo (op_pickT rfl (by rw [(al44 (n:=(6:UInt32).toNat) (each:=((6:UInt32).toNat-2) / 2) (key:=[107]) rfl rfl).2.2.2.2.2]) rfl ?_)
 exact wa rfl<|wn<|WC.ret<|WQ.out (.tmp rfl .nil) (⟨rfl,H11.fr⟩)
theorem free_ok (c:Nat) (pg:UInt32) (hv:Value) (he:List UInt32) (mb cn:Nat) (gs:List Gr) (w:World) (hC:cellsAt w c [(vU32 pg),hv,(.map (some mb))]) (hH:Arr w hv 1 he.length (List.map vU32 he)) (hM:w.heap[mb]?=some (mP .i64 (List.map Gr.me gs) cn)) (hG:BsOK 199 Gr.cells Gr.b gs w) (hS:grD.list.ok w gs) (hME:MEok (List.map Gr.me gs) cn)  :
  Calls Tryz.prog 60 #[(ptr c 0)] w (fun e w'=>e=.returned (vU32 (freeS pg gs))∧Fr [] w w'):=by
 refine enter Tryz.func60 rfl rfl ?_
 have H0:=((((((Own.start w []).oldB hC).oldA hH).mpOld hM).bsOld hG).dpOld hS)
 refine ws<|wa rfl<|wn<|WC.seq<|ws<|wm rfl<|wo (op_eqlPN Fa.PT110 rfl rfl<|wn<|WC.no rfl rfl<|WC.skip<|WQ.next<|ws<|wm rfl<|wo (op_nilCheck rfl<|wo (op_fieldAddr rfl Fa.F196_0<|wo (op_fieldAddr rfl Fa.F75_0<|wo (op_load rfl (H0.cellO (i:=0) rfl rfl) Tryz.underlying22 rfl<|wa rfl<|wn<|WC.seq<|ws<|wm rfl<|wo (op_nilCheck rfl<|wo (op_fieldAddr rfl Fa.F196_1<|wo (op_load rfl (H0.cellO (i:=0) rfl rfl) Tryz.underlying194 rfl<|wo (op_rangeP H0 (H0.mpO (i:=2) rfl) Tryz.underlying194 rfl (fun b1 w1 H1=>(wn<|WC.block<|WC.loop (α:=List Gr × List Gr) (fun (sn,rst)=>[(0,(ptr c 0)),(3,(vU32 (freeS pg sn))),(17,(ptr b1 0))]) (fun (sn,rst) w'=>(gs.Perm (sn++rst))∧Owl.Own [] w w' [Ent.bo c [(vU32 pg),hv,(.map (some mb))],Ent.ar hv 1 he.length (List.map vU32 he),Ent.mo .i64 mb (List.map Gr.me gs) cn,Ent.bsO 199 Gr.cells Gr.b gs,Ent.dp grD.list gs,.obj b1 (itO mb cn (List.map Gr.me sn))]) (fun (sn,rst)=>rst.length) ([],gs) ⟨(List.Perm.refl _),H1⟩ ⟨rfl,(by rw [freeS_nil]; rfl),rfl,trivial⟩ ?_)))))))))))
 rintro ⟨sn,rst⟩ w2 ⟨hpm,H2⟩
 show WC _ _ _ _ _ [(0,(ptr c 0)),(3,(vU32 (freeS pg sn))),(17,(ptr b1 0))] _
 refine ws<|wo (op_nextG (i:=5) (sn:=sn) (rest:=rst) H2 rfl (H2.mpO (i:=2) rfl) hME hpm rfl (fun h0=>?_) (fun g3 rs3 hl3 hp3 w3 H3=>?_))
 ·
  exact we rfl rfl<|wn<|WC.seq<|WC.no rfl rfl<|WC.exit<|WQ.thenExit<|WQ.thenExit<|WQ.inHere<|WQ.next<|ws<|wm rfl<|wa rfl<|wn<|WC.ret<|WQ.out (.tmp rfl .nil) (⟨by rw [h0,List.append_nil] at hpm; rw [freeS_perm hpm]; rfl,H2.fr⟩)
 have H4:=(((H3.bsView (i:=3) (a:=g3) rfl (hp3.mem_iff.2 (by simp))).dpView (i:=4) (a:=g3) rfl (hp3.mem_iff.2 (by simp)) (fun w h=>h.1) (fun b hb=>List.mem_append.2 (.inl hb))).dpView (i:=4) (a:=g3) rfl (hp3.mem_iff.2 (by simp)) (fun w h=>h.2) (fun b hb=>List.mem_append.2 (.inr hb)))
 refine we rfl rfl<|wn<|WC.seq<|WC.yes rfl rfl<|WC.skip<|WQ.next<|WC.block<|ws<|wo (op_entryG (i:=5) (sn:=sn) (g:=g3) H4 rfl (H4.mpO (i:=2) rfl) hME hp3 rfl<|we rfl rfl<|wa rfl<|wn<|WC.draw 13 Fa.M H4 (mh rfl<|mh rfl<|oh (fun w1 H1=>op_nilCheck rfl zr)<|oh (fun w1 H1=>op_fieldAddr rfl Fa.F199_0 zr)<|oh (fun w1 H1=>op_fieldAddr rfl Fa.F40_0 zr)<|oh (fun w1 H1=>op_load rfl (H1.cellO (i:=6) rfl rfl) Tryz.underlying22 rfl zr)<|mh rfl<|oh (fun w1 H1=>op_nilCheck rfl zr)<|oh (fun w1 H1=>op_fieldAddr rfl Fa.F199_1 zr)<|oh (fun w1 H1=>op_load rfl (H1.cellO (i:=6) rfl rfl) Tryz.underlying22 rfl zr)<|oh (fun w1 H1=>op_addU32 rfl rfl zr)<|oh (fun w1 H1=>op_subU32 rfl rfl zr)<|ah rfl  HW.nil) (by kernel_rfl) ?_)
 intro β5 w5 H5
 exact WL.nil<|WQ.inNormal<|WQ.round ((sn++[g3]),rs3) ⟨hp3,(H5.take 6)⟩ ⟨rfl,(by rw [freeS_snoc]; rfl),rfl,trivial⟩ (by show rs3.length<rst.length; omega)
theorem xtbad_ok (x:Xt) (w:World) :
  Calls Tryz.prog 136 #[(.agg #[(vU32 x.id),(vU32 x.bl)])] w (fun e w'=>e=.returned (.bool (xtBad x))∧Fr [] w w'):=by
 refine enter Tryz.func136 rfl rfl ?_
 have H0:=Own.start w []
 refine ws<|wo (op_box H0 rfl rfl (fun b1 w1 H1=>(wa rfl<|wn<|ws<|wo (op_fieldAddr rfl Fa.F207_0<|wo (op_load rfl (H1.cell (i:=0) rfl rfl) Tryz.underlying22 rfl<|wo (op_geqU32 (b:=16) rfl rfl<|wm rfl (wF 6 (x.id≥(16:UInt32)) (fun hb2 hc2=>?_) (fun hb2 hc2=>?_))))))))
 ·
  exact wN hb2<|wN hb2<|wN hb2<|wo (op_pickT rfl hb2 rfl<|wm rfl<|wN rfl<|wN rfl<|wN rfl<|wo (op_pickT rfl rfl rfl<|wa rfl<|wn<|WC.ret<|WQ.out (.tmp rfl .nil) (⟨by (rw [xtBad,hb2])<;>rfl,H1.fr⟩)))
 refine wY hb2 (op_fieldAddr rfl Fa.F207_1<|wY hb2 (op_load rfl (H1.cell (i:=0) rfl rfl) Tryz.underlying22 rfl<|wY hb2 (op_lssU32 (b:=1) rfl rfl<|wo (op_pickF rfl hb2 rfl<|wm rfl (wF 11 (x.bl<(1:UInt32)) (fun hb3 hc3=>?_) (fun hb3 hc3=>?_))))))
 ·
  exact wN hb3<|wN hb3<|wN hb3<|wo (op_pickT rfl hb3 rfl<|wa rfl<|wn<|WC.ret<|WQ.out (.tmp rfl .nil) (⟨by (rw [xtBad,hb2,hb3])<;>rfl,H1.fr⟩))
 exact wY hb3 (op_fieldAddr rfl Fa.F207_1<|wY hb3 (op_load rfl (H1.cell (i:=0) rfl rfl) Tryz.underlying22 rfl<|wY hb3 (op_gtrU32 (b:=1024) rfl rfl<|wo (op_pickF rfl hb3 rfl<|wa rfl<|wn<|WC.ret<|WQ.out (.tmp rfl .nil) (⟨by (rw [xtBad,hb2,hb3])<;>rfl,H1.fr⟩)))))
theorem xtlt_ok (x y:Xt) (w:World) :
  Calls Tryz.prog 138 #[(.agg #[(vU32 x.id),(vU32 x.bl)]),(.agg #[(vU32 y.id),(vU32 y.bl)])] w (fun e w'=>e=.returned (.bool (xtLt x y))∧Fr [] w w'):=by
 refine enter Tryz.func138 rfl rfl ?_
 have H0:=Own.start w []
 exact ws<|wo (op_box H0 rfl rfl (fun b1 w1 H1=>(wo (op_box H1 rfl rfl (fun b2 w2 H2=>(wa rfl<|wn<|ws<|wo (op_fieldAddr rfl Fa.F207_0<|wo (op_load rfl (H2.cell (i:=0) rfl rfl) Tryz.underlying22 rfl<|wo (op_fieldAddr rfl Fa.F207_0<|wo (op_load rfl (H2.cell (i:=1) rfl rfl) Tryz.underlying22 rfl<|wo (op_lssU32 rfl rfl<|wa rfl<|wn<|WC.ret<|WQ.out (.tmp rfl .nil) (⟨rfl,H2.fr⟩))))))))))))
theorem u16lt_ok (x y:UInt16) (w:World) :
  Calls Tryz.prog 140 #[(vU16 x),(vU16 y)] w (fun e w'=>e=.returned (.bool (u16Lt x y))∧Fr [] w w'):=by
 refine enter Tryz.func140 rfl rfl ?_
 have H0:=Own.start w []
 exact ws<|wa rfl<|wn<|ws<|wm rfl<|wm rfl<|wo (op_lssU16 rfl rfl<|wa rfl<|wn<|WC.ret<|WQ.out (.tmp rfl .nil) (⟨rfl,H0.fr⟩))
theorem idxX_ok (lv:Value) (l:List Xt) (w:World) (hA:Arr w lv 2 l.length (List.flatMap xtc l)) (hn:l.length<2^47) :
  Calls Tryz.prog 177 #[lv,(.func (.func 136) #[] #[])] w (fun e w'=>e=.returned (vI (fidx xtBad l))∧Fr [] w w'):=by
 refine enter Tryz.func177 rfl rfl ?_
 have H0:=Own.start w []
 refine ws<|wa rfl<|wn<|WC.seq<|ws<|wm rfl<|wo (op_lenA Tryz.underlying37 rfl (H0.arr hA)<|wm rfl<|wn<|WC.block<|WC.loop (α:=Nat) (fun k=>[(0,lv),(1,(.func (.func 136) #[] #[])),(7,(vN l.length)),(8,(vN k))]) (fun k w'=>(k≤l.length∧(∀j,j<k→xtBad (l.getD j Xt.zero)=false))∧Owl.Own [] w w' []) (fun k=>l.length-k) 0 ⟨⟨Nat.zero_le _,fun j h=>by omega⟩,H0⟩ ⟨rfl,rfl,rfl,rfl,trivial⟩ ?_)
 rintro k w1 ⟨⟨hk1,hok⟩,H1⟩
 show WC _ _ _ _ _ [(0,lv),(1,(.func (.func 136) #[] #[])),(7,(vN l.length)),(8,(vN k))] _
 refine ws<|wo (op_lssN rfl rfl<|wn<|WC.seq (wE (k<l.length) (fun hb2 hc2=>?_) (fun hb2 hc2=>?_)))
 ·
  refine WC.skip<|WQ.next<|WC.seq<|WC.block<|ws<|wm rfl<|wa rfl<|wn<|ws<|wm rfl<|wm rfl<|wm rfl<|wo (op_indexAddr Tryz.underlying37 Fa.I207 rfl (H1.arr hA) rfl (by omega)<|wo (op_loadSP (vs:=xtc (l.getD k Xt.zero)) rfl (Arr.atsF (H1.arr hA) (fun _=>rfl) (by decide) Xt.zero (by omega)) Tryz.underlying207 rfl Fa.I207 rfl<|wo (op_call (f:=136) rfl Fa.C136 rfl ((xtbad_ok (l.getD k Xt.zero) _).mono (fun e w3 hq=>?_)))))
  obtain ⟨rfl,hf3⟩:=hq
  refine ⟨_,rfl,?_⟩
  have H3:=H1.fr' hf3
  refine wn (wC (xtBad (l.getD k Xt.zero)) (fun hb4=>?_) (fun hb4=>?_))
  ·
   exact ws<|wm rfl<|wa rfl<|wn<|WC.ret<|WQ.inRet<|WQ.thenRet<|WQ.thenRet<|WQ.inRet<|WQ.thenRet<|WQ.out (.tmp rfl .nil) (⟨by rw [fidx_yes (d:=Xt.zero) (by omega) hok hb4]; rfl,H3.fr⟩)
  exact WC.skip<|WQ.inNormal<|WQ.next<|WC.region<|wo (op_addN (b:=1) rfl rfl (by omega)<|wm rfl<|WL.nil<|WQ.round (k+1) ⟨⟨by omega,allPrev hok hb4⟩,H3⟩ ⟨rfl,rfl,rfl,rfl,trivial⟩ (by omega))
 exact WC.exit<|WQ.thenExit<|WQ.thenExit<|WQ.inHere<|WQ.next<|ws<|wa rfl<|wn<|WC.ret<|WQ.out (.tmp rfl .nil) (⟨by rw [fidx_no (d:=Xt.zero) (fun j hj=>hok j (by omega))]; rfl,H1.fr⟩)
theorem idx16_ok (lv:Value) (l:List UInt16) (y:UInt16) (w:World) (hA:Arr w lv 1 l.length (List.map vU16 l)) (hn:l.length<2^47) :
  Calls Tryz.prog 178 #[lv,(vU16 y)] w (fun e w'=>e=.returned (vI (fidx (u16Is y) l))∧Fr [] w w'):=by
 refine enter Tryz.func178 rfl rfl ?_
 have H0:=Own.start w []
 refine ws<|wa rfl<|wn<|WC.seq<|ws<|wm rfl<|wo (op_lenA Tryz.underlying38 rfl (H0.arr hA)<|wm rfl<|wn<|WC.block<|WC.loop (α:=Nat) (fun k=>[(0,lv),(1,(vU16 y)),(7,(vN l.length)),(8,(vN k))]) (fun k w'=>(k≤l.length∧(∀j,j<k→(u16Is y) (l.getD j 0)=false))∧Owl.Own [] w w' []) (fun k=>l.length-k) 0 ⟨⟨Nat.zero_le _,fun j h=>by omega⟩,H0⟩ ⟨rfl,rfl,rfl,rfl,trivial⟩ ?_)
 rintro k w1 ⟨⟨hk1,hok⟩,H1⟩
 show WC _ _ _ _ _ [(0,lv),(1,(vU16 y)),(7,(vN l.length)),(8,(vN k))] _
 refine ws<|wo (op_lssN rfl rfl<|wn<|WC.seq (wE (k<l.length) (fun hb2 hc2=>?_) (fun hb2 hc2=>?_)))
 ·
  refine WC.skip<|WQ.next<|WC.seq<|WC.block<|ws<|wm rfl<|wa rfl<|wn<|ws<|wm rfl<|wm rfl<|wm rfl<|wo (op_indexAddr1 Tryz.underlying38 Fa.I203 rfl (H1.arr hA) rfl (by omega)<|wo (op_load rfl ((H1.arr hA).at (get_map vU16 0 (Arr.ltM (H1.arr hA) (by omega)))) Tryz.underlying203 rfl<|wo (op_eqlU16 rfl rfl<|wn (wE (y=(l.getD k 0)) (fun hb3 hc3=>?_) (fun hb3 hc3=>?_)))))
  ·
   exact ws<|wm rfl<|wa rfl<|wn<|WC.ret<|WQ.inRet<|WQ.thenRet<|WQ.thenRet<|WQ.inRet<|WQ.thenRet<|WQ.out (.tmp rfl .nil) (⟨by rw [fidx_yes (d:=0) (by omega) hok hb3]; rfl,H1.fr⟩)
  exact WC.skip<|WQ.inNormal<|WQ.next<|WC.region<|wo (op_addN (b:=1) rfl rfl (by omega)<|wm rfl<|WL.nil<|WQ.round (k+1) ⟨⟨by omega,allPrev hok hb3⟩,H1⟩ ⟨rfl,rfl,rfl,rfl,trivial⟩ (by omega))
 exact WC.exit<|WQ.thenExit<|WQ.thenExit<|WQ.inHere<|WQ.next<|ws<|wa rfl<|wn<|WC.ret<|WQ.out (.tmp rfl .nil) (⟨by rw [fidx_no (d:=0) (fun j hj=>hok j (by omega))]; rfl,H1.fr⟩)
theorem idx8_ok (lv:Value) (l:List UInt8) (y:UInt8) (w:World) (hA:Arr w lv 1 l.length (List.map vU8 l)) (hn:l.length<2^47) :
  Calls Tryz.prog 179 #[lv,(vU8 y)] w (fun e w'=>e=.returned (vI (fidx (u8Is y) l))∧Fr [] w w'):=by
 refine enter Tryz.func179 rfl rfl ?_
 have H0:=Own.start w []
 refine ws<|wa rfl<|wn<|WC.seq<|ws<|wm rfl<|wo (op_lenA Tryz.underlying114 rfl (H0.arr hA)<|wm rfl<|wn<|WC.block<|WC.loop (α:=Nat) (fun k=>[(0,lv),(1,(vU8 y)),(7,(vN l.length)),(8,(vN k))]) (fun k w'=>(k≤l.length∧(∀j,j<k→(u8Is y) (l.getD j 0)=false))∧Owl.Own [] w w' []) (fun k=>l.length-k) 0 ⟨⟨Nat.zero_le _,fun j h=>by omega⟩,H0⟩ ⟨rfl,rfl,rfl,rfl,trivial⟩ ?_)
 rintro k w1 ⟨⟨hk1,hok⟩,H1⟩
 show WC _ _ _ _ _ [(0,lv),(1,(vU8 y)),(7,(vN l.length)),(8,(vN k))] _
 refine ws<|wo (op_lssN rfl rfl<|wn<|WC.seq (wE (k<l.length) (fun hb2 hc2=>?_) (fun hb2 hc2=>?_)))
 ·
  refine WC.skip<|WQ.next<|WC.seq<|WC.block<|ws<|wm rfl<|wa rfl<|wn<|ws<|wm rfl<|wm rfl<|wm rfl<|wo (op_indexAddr1 Tryz.underlying114 Fa.I5 rfl (H1.arr hA) rfl (by omega)<|wo (op_load rfl ((H1.arr hA).at (get_map vU8 0 (Arr.ltM (H1.arr hA) (by omega)))) Tryz.underlying5 rfl<|wo (op_eqlU8 rfl rfl<|wn (wE (y=(l.getD k 0)) (fun hb3 hc3=>?_) (fun hb3 hc3=>?_)))))
  ·
   exact ws<|wm rfl<|wa rfl<|wn<|WC.ret<|WQ.inRet<|WQ.thenRet<|WQ.thenRet<|WQ.inRet<|WQ.thenRet<|WQ.out (.tmp rfl .nil) (⟨by rw [fidx_yes (d:=0) (by omega) hok hb3]; rfl,H1.fr⟩)
  exact WC.skip<|WQ.inNormal<|WQ.next<|WC.region<|wo (op_addN (b:=1) rfl rfl (by omega)<|wm rfl<|WL.nil<|WQ.round (k+1) ⟨⟨by omega,allPrev hok hb3⟩,H1⟩ ⟨rfl,rfl,rfl,rfl,trivial⟩ (by omega))
 exact WC.exit<|WQ.thenExit<|WQ.thenExit<|WQ.inHere<|WQ.next<|ws<|wa rfl<|wn<|WC.ret<|WQ.out (.tmp rfl .nil) (⟨by rw [fidx_no (d:=0) (fun j hj=>hok j (by omega))]; rfl,H1.fr⟩)
theorem conX_ok (lv:Value) (l:List Xt) (w:World) (hA:Arr w lv 2 l.length (List.flatMap xtc l)) (hn:l.length<2^47) :
  Calls Tryz.prog 135 #[lv,(.func (.func 136) #[] #[])] w (fun e w'=>e=.returned (.bool (l.any xtBad))∧Fr [] w w'):=by
 refine enter Tryz.func135 rfl rfl ?_
 have H0:=Own.start w []
 exact ws<|wa rfl<|wn<|ws<|wm rfl<|wm rfl<|wo (cq H0 Fa.C177 rfl (idxX_ok _ l _ (H0.arr hA) (by omega)) fun w1 H1=>(wo (op_geqI (b:=(0:Int)) rfl rfl<|wa rfl<|wn<|WC.ret<|WQ.out (.tmp rfl .nil) (⟨by rw [←fidx_any]; rfl,H1.fr⟩))))
theorem con16_ok (lv:Value) (l:List UInt16) (y:UInt16) (w:World) (hA:Arr w lv 1 l.length (List.map vU16 l)) (hn:l.length<2^47) :
  Calls Tryz.prog 141 #[lv,(vU16 y)] w (fun e w'=>e=.returned (.bool (l.any (u16Is y)))∧Fr [] w w'):=by
 refine enter Tryz.func141 rfl rfl ?_
 have H0:=Own.start w []
 exact ws<|wa rfl<|wn<|ws<|wm rfl<|wm rfl<|wo (cq H0 Fa.C178 rfl (idx16_ok _ l y _ (H0.arr hA) (by omega)) fun w1 H1=>(wo (op_geqI (b:=(0:Int)) rfl rfl<|wa rfl<|wn<|WC.ret<|WQ.out (.tmp rfl .nil) (⟨by rw [←fidx_any]; rfl,H1.fr⟩))))
theorem con8_ok (lv:Value) (l:List UInt8) (y:UInt8) (w:World) (hA:Arr w lv 1 l.length (List.map vU8 l)) (hn:l.length<2^47) :
  Calls Tryz.prog 142 #[lv,(vU8 y)] w (fun e w'=>e=.returned (.bool (l.any (u8Is y)))∧Fr [] w w'):=by
 refine enter Tryz.func142 rfl rfl ?_
 have H0:=Own.start w []
 exact ws<|wa rfl<|wn<|ws<|wm rfl<|wm rfl<|wo (cq H0 Fa.C179 rfl (idx8_ok _ l y _ (H0.arr hA) (by omega)) fun w1 H1=>(wo (op_geqI (b:=(0:Int)) rfl rfl<|wa rfl<|wn<|WC.ret<|WQ.out (.tmp rfl .nil) (⟨by rw [←fidx_any]; rfl,H1.fr⟩))))
theorem risX_ok (lv:Value) (l:List Xt) (w:World) (hA:Arr w lv 2 l.length (List.flatMap xtc l)) (hn:l.length<2^47) :
  Calls Tryz.prog 137 #[lv,(.func (.func 138) #[] #[])] w (fun e w'=>e=.returned (.bool (ris xtLt l))∧Fr [] w w'):=by
 refine enter Tryz.func137 rfl rfl ?_
 have H0:=Own.start w []
 refine ws<|wa rfl<|wn<|WC.seq<|ws<|wm rfl<|wo (op_lenA Tryz.underlying37 rfl (H0.arr hA)<|wo (op_subI (a:=((l.length:Nat):Int)) (b:=((1:Nat):Int)) rfl rfl (by omega)<|wm rfl<|wn<|WC.block<|WC.loop (α:=Nat) (fun k=>[(0,lv),(1,(.func (.func 138) #[] #[])),(8,(vI (((l.length:Nat):Int)-((1:Nat):Int)))),(9,(vN k))]) (fun k w'=>(k≤l.length∧(∀j,j<k→xtLt (l.getD j Xt.zero) (l.getD (j+1) Xt.zero)=true))∧Owl.Own [] w w' []) (fun k=>l.length-k) 0 ⟨⟨Nat.zero_le _,fun j h=>by omega⟩,H0⟩ ⟨rfl,rfl,rfl,rfl,trivial⟩ ?_))
 rintro k w1 ⟨⟨hk1,hok⟩,H1⟩
 show WC _ _ _ _ _ [(0,lv),(1,(.func (.func 138) #[] #[])),(8,(vI (((l.length:Nat):Int)-((1:Nat):Int)))),(9,(vN k))] _
 refine ws<|wo (op_lssI rfl rfl<|wn<|WC.seq (wE ((k:Int)<(((l.length:Nat):Int)-((1:Nat):Int))) (fun hb2 hc2=>?_) (fun hb2 hc2=>?_)))
 ·
  refine WC.skip<|WQ.next<|WC.seq<|WC.block<|ws<|wm rfl<|wa rfl<|wn<|WC.seq<|WC.draw 12 Fa.M H1 (mh rfl<|mh rfl<|mh rfl<|oh (fun w1 H1=>op_indexAddr Tryz.underlying37 Fa.I207 rfl (H1.arr hA) rfl (by omega) zr)<|oh (fun w1 H1=>op_loadSP (vs:=xtc (l.getD k Xt.zero)) rfl (Arr.atsF (H1.arr hA) (fun _=>rfl) (by decide) Xt.zero (by omega)) Tryz.underlying207 rfl Fa.I207 rfl zr)<|mh rfl<|mh rfl<|oh (fun w1 H1=>op_addN (b:=1) rfl rfl (by omega) zr)<|oh (fun w1 H1=>op_indexAddr Tryz.underlying37 Fa.I207 rfl (H1.arr hA) rfl (by omega) zr)<|oh (fun w1 H1=>op_loadSP (vs:=xtc (l.getD (k+1) Xt.zero)) rfl (Arr.atsF (H1.arr hA) (fun _=>rfl) (by decide) Xt.zero (by omega)) Tryz.underlying207 rfl Fa.I207 rfl zr)<|oh (fun w1 H1=>op_call (f:=138) rfl Fa.C138 rfl ((xtlt_ok (l.getD k Xt.zero) (l.getD (k+1) Xt.zero) _).mono (fun e w2 hq=>⟨_,hq.1,rfl,hq.2⟩)))<|oh (fun w1 H1=>op_not rfl zr)  HW.nil) (by kernel_rfl) ?_
  intro β4 w4 H4
  refine wn (wC (!(xtLt (l.getD k Xt.zero) (l.getD (k+1) Xt.zero))) (fun hb5=>?_) (fun hb5=>?_))
  ·
   have hn5:=(Bool.not_eq_true' _).mp hb5
   exact ws<|wa rfl<|wn<|WC.ret<|WQ.inRet<|WQ.thenRet<|WQ.thenRet<|WQ.inRet<|WQ.thenRet<|WQ.out (.tmp rfl .nil) (⟨by rw [ris_no (d:=Xt.zero) (k:=k) (by omega) (by simpa using hb5)]; rfl,H4.fr⟩)
  have hn5:=(Bool.not_eq_false' _).mp hb5
  exact WC.skip<|WQ.inNormal<|WQ.next<|WC.region<|wo (op_addN (b:=1) rfl rfl (by omega)<|wm rfl<|WL.nil<|WQ.round (k+1) ⟨⟨by omega,allPrev hok (by simpa using hb5)⟩,H4⟩ ⟨rfl,rfl,rfl,rfl,trivial⟩ (by omega))
 exact WC.exit<|WQ.thenExit<|WQ.thenExit<|WQ.inHere<|WQ.next<|ws<|wa rfl<|wn<|WC.ret<|WQ.out (.tmp rfl .nil) (⟨by rw [ris_yes (d:=Xt.zero) (fun j hj=>hok j (by omega))]; rfl,H1.fr⟩)
theorem ris16_ok (lv:Value) (l:List UInt16) (w:World) (hA:Arr w lv 1 l.length (List.map vU16 l)) (hn:l.length<2^47) :
  Calls Tryz.prog 139 #[lv,(.func (.func 140) #[] #[])] w (fun e w'=>e=.returned (.bool (ris u16Lt l))∧Fr [] w w'):=by
 refine enter Tryz.func139 rfl rfl ?_
 have H0:=Own.start w []
 refine ws<|wa rfl<|wn<|WC.seq<|ws<|wm rfl<|wo (op_lenA Tryz.underlying38 rfl (H0.arr hA)<|wo (op_subI (a:=((l.length:Nat):Int)) (b:=((1:Nat):Int)) rfl rfl (by omega)<|wm rfl<|wn<|WC.block<|WC.loop (α:=Nat) (fun k=>[(0,lv),(1,(.func (.func 140) #[] #[])),(8,(vI (((l.length:Nat):Int)-((1:Nat):Int)))),(9,(vN k))]) (fun k w'=>(k≤l.length∧(∀j,j<k→u16Lt (l.getD j 0) (l.getD (j+1) 0)=true))∧Owl.Own [] w w' []) (fun k=>l.length-k) 0 ⟨⟨Nat.zero_le _,fun j h=>by omega⟩,H0⟩ ⟨rfl,rfl,rfl,rfl,trivial⟩ ?_))
 rintro k w1 ⟨⟨hk1,hok⟩,H1⟩
 show WC _ _ _ _ _ [(0,lv),(1,(.func (.func 140) #[] #[])),(8,(vI (((l.length:Nat):Int)-((1:Nat):Int)))),(9,(vN k))] _
 refine ws<|wo (op_lssI rfl rfl<|wn<|WC.seq (wE ((k:Int)<(((l.length:Nat):Int)-((1:Nat):Int))) (fun hb2 hc2=>?_) (fun hb2 hc2=>?_)))
 ·
  refine WC.skip<|WQ.next<|WC.seq<|WC.block<|ws<|wm rfl<|wa rfl<|wn<|WC.seq<|WC.draw 12 Fa.M H1 (mh rfl<|mh rfl<|mh rfl<|oh (fun w1 H1=>op_indexAddr1 Tryz.underlying38 Fa.I203 rfl (H1.arr hA) rfl (by omega) zr)<|oh (fun w1 H1=>op_load rfl ((H1.arr hA).at (get_map vU16 0 (Arr.ltM (H1.arr hA) (by omega)))) Tryz.underlying203 rfl zr)<|mh rfl<|mh rfl<|oh (fun w1 H1=>op_addN (b:=1) rfl rfl (by omega) zr)<|oh (fun w1 H1=>op_indexAddr1 Tryz.underlying38 Fa.I203 rfl (H1.arr hA) rfl (by omega) zr)<|oh (fun w1 H1=>op_load rfl ((H1.arr hA).at (get_map vU16 0 (Arr.ltM (H1.arr hA) (by omega)))) Tryz.underlying203 rfl zr)<|oh (fun w1 H1=>op_call (f:=140) rfl Fa.C140 rfl ((u16lt_ok (l.getD k 0) (l.getD (k+1) 0) _).mono (fun e w2 hq=>⟨_,hq.1,rfl,hq.2⟩)))<|oh (fun w1 H1=>op_not rfl zr)  HW.nil) (by kernel_rfl) ?_
  intro β4 w4 H4
  refine wn (wC (!(u16Lt (l.getD k 0) (l.getD (k+1) 0))) (fun hb5=>?_) (fun hb5=>?_))
  ·
   have hn5:=(Bool.not_eq_true' _).mp hb5
   exact ws<|wa rfl<|wn<|WC.ret<|WQ.inRet<|WQ.thenRet<|WQ.thenRet<|WQ.inRet<|WQ.thenRet<|WQ.out (.tmp rfl .nil) (⟨by rw [ris_no (d:=0) (k:=k) (by omega) (by simpa using hb5)]; rfl,H4.fr⟩)
  have hn5:=(Bool.not_eq_false' _).mp hb5
  exact WC.skip<|WQ.inNormal<|WQ.next<|WC.region<|wo (op_addN (b:=1) rfl rfl (by omega)<|wm rfl<|WL.nil<|WQ.round (k+1) ⟨⟨by omega,allPrev hok (by simpa using hb5)⟩,H4⟩ ⟨rfl,rfl,rfl,rfl,trivial⟩ (by omega))
 exact WC.exit<|WQ.thenExit<|WQ.thenExit<|WQ.inHere<|WQ.next<|ws<|wa rfl<|wn<|WC.ret<|WQ.out (.tmp rfl .nil) (⟨by rw [ris_yes (d:=0) (fun j hj=>hok j (by omega))]; rfl,H1.fr⟩)
theorem dcheck_ok (pg:UInt32) (ev pv:Value) (xs:List Xt) (ps:List UInt16) (con:Bool) (w:World) (hE:Arr w ev 2 xs.length (List.flatMap xtc xs)) (hP:Arr w pv 1 ps.length (List.map vU16 ps)) (hn:xs.length<2^47) (hm:ps.length<2^47) :
  Calls Tryz.prog 90 #[(.agg #[(vU32 pg),ev,pv,(.bool con)])] w (fun e w'=>e=.returned (vN (mfE pg xs ps))∧Fr [] w w'):=by
 refine enter Tryz.func90 rfl rfl ?_
 have H0:=Own.start w []
 refine ws<|wo (op_box H0 rfl rfl (fun b1 w1 H1=>(wa rfl<|wn<|ws<|wo (op_fieldAddr rfl Fa.F40_1<|wo (op_load rfl (H1.cell (i:=0) rfl rfl) Tryz.underlying37 rfl<|wo (cq H1 Fa.C135 rfl (conX_ok _ xs _ (H1.arr hE) (by omega)) fun w2 H2=>(wa rfl<|wn<|WC.seq<|ws<|wm rfl<|wm rfl (wV 8 (xs.any xtBad) (fun hb3=>?_) (fun hb3=>?_)))))))))
 ·
  exact wN hb3<|wN hb3<|wN hb3<|wN hb3<|wo (op_pickT rfl hb3 rfl<|wm rfl<|wN rfl<|wN rfl<|wN rfl<|wN rfl<|wo (op_pickT rfl rfl rfl<|wm rfl<|wN rfl<|wN rfl<|wN rfl<|wo (op_pickT rfl rfl rfl<|wm rfl<|wN rfl<|wN rfl<|wN rfl<|wN rfl<|wo (op_pickT rfl rfl rfl<|wm rfl<|wN rfl<|wN rfl<|wN rfl<|wo (op_pickT rfl rfl rfl<|wn<|WC.yes rfl rfl<|ws<|wa rfl<|wn<|WC.ret<|WQ.thenRet<|WQ.out (.tmp rfl .nil) (⟨by (rw [mfE,mfMay,hb3])<;>rfl,H2.fr⟩))))))
 refine wY hb3 (op_fieldAddr rfl Fa.F40_1<|wY hb3 (op_load rfl (H2.cell (i:=0) rfl rfl) Tryz.underlying37 rfl<|wY hb3 (cq H2 Fa.C137 rfl (risX_ok _ xs _ (H2.arr hE) (by omega)) fun w4 H4=>(wY hb3 (op_not rfl<|wo (op_pickF rfl hb3 rfl<|wm rfl (wV 14 (!(ris xtLt xs)) (fun hb5=>?_) (fun hb5=>?_))))))))
 ·
  have hn5:=(Bool.not_eq_true' _).mp hb5
  exact wN hb5<|wN hb5<|wN hb5<|wN hb5<|wo (op_pickT rfl hb5 rfl<|wm rfl<|wN rfl<|wN rfl<|wN rfl<|wo (op_pickT rfl rfl rfl<|wm rfl<|wN rfl<|wN rfl<|wN rfl<|wN rfl<|wo (op_pickT rfl rfl rfl<|wm rfl<|wN rfl<|wN rfl<|wN rfl<|wo (op_pickT rfl rfl rfl<|wn<|WC.yes rfl rfl<|ws<|wa rfl<|wn<|WC.ret<|WQ.thenRet<|WQ.out (.tmp rfl .nil) (⟨by (rw [mfE,mfMay,hb3,hn5])<;>rfl,H4.fr⟩)))))
 have hn5:=(Bool.not_eq_false' _).mp hb5
 refine wY hb5 (op_fieldAddr rfl Fa.F40_2<|wY hb5 (op_load rfl (H4.cell (i:=0) rfl rfl) Tryz.underlying38 rfl<|wY hb5 (cq H4 Fa.C139 rfl (ris16_ok _ ps _ (H4.arr hP) (by omega)) fun w6 H6=>(wY hb5 (op_not rfl<|wo (op_pickF rfl hb5 rfl<|wm rfl (wV 20 (!(ris u16Lt ps)) (fun hb7=>?_) (fun hb7=>?_))))))))
 ·
  have hn7:=(Bool.not_eq_true' _).mp hb7
  exact wN hb7<|wN hb7<|wN hb7<|wo (op_pickT rfl hb7 rfl<|wm rfl<|wN rfl<|wN rfl<|wN rfl<|wN rfl<|wo (op_pickT rfl rfl rfl<|wm rfl<|wN rfl<|wN rfl<|wN rfl<|wo (op_pickT rfl rfl rfl<|wn<|WC.yes rfl rfl<|ws<|wa rfl<|wn<|WC.ret<|WQ.thenRet<|WQ.out (.tmp rfl .nil) (⟨by (rw [mfE,mfMay,hb3,hn5,hn7])<;>rfl,H6.fr⟩))))
 have hn7:=(Bool.not_eq_false' _).mp hb7
 refine wY hb7 (op_fieldAddr rfl Fa.F40_2<|wY hb7 (op_load rfl (H6.cell (i:=0) rfl rfl) Tryz.underlying38 rfl<|wY hb7 (cq H6 Fa.C141 rfl (con16_ok _ ps 0 _ (H6.arr hP) (by omega)) fun w8 H8=>(wo (op_pickF rfl hb7 rfl<|wm rfl (wV 25 (ps.any (u16Is 0)) (fun hb9=>?_) (fun hb9=>?_)))))))
 ·
  exact wN hb9<|wN hb9<|wN hb9<|wN hb9<|wo (op_pickT rfl hb9 rfl<|wm rfl<|wN rfl<|wN rfl<|wN rfl<|wo (op_pickT rfl rfl rfl<|wn<|WC.yes rfl rfl<|ws<|wa rfl<|wn<|WC.ret<|WQ.thenRet<|WQ.out (.tmp rfl .nil) (⟨by (rw [mfE,mfMay,hb3,hn5,hn7,hb9])<;>rfl,H8.fr⟩)))
 refine wY hb9 (op_fieldAddr rfl Fa.F40_2<|wY hb9 (op_load rfl (H8.cell (i:=0) rfl rfl) Tryz.underlying38 rfl<|wY hb9 (op_lenA Tryz.underlying38 rfl (H8.arr hP)<|wY hb9 (op_gtrN (b:=16) rfl rfl<|wo (op_pickF rfl hb9 rfl<|wm rfl (wF 31 (ps.length>16) (fun hb10 hc10=>?_) (fun hb10 hc10=>?_)))))))
 ·
  exact wN hb10<|wN hb10<|wN hb10<|wo (op_pickT rfl hb10 rfl<|wn<|WC.yes rfl rfl<|ws<|wa rfl<|wn<|WC.ret<|WQ.thenRet<|WQ.out (.tmp rfl .nil) (⟨by (rw [mfE,mfMay,hb3,hn5,hn7,hb9,hb10])<;>rfl,H8.fr⟩))
 refine wY hb10 (op_fieldAddr rfl Fa.F40_0<|wY hb10 (op_load rfl (H8.cell (i:=0) rfl rfl) Tryz.underlying22 rfl<|wY hb10 (op_gtrU32 (b:=1024) rfl rfl<|wo (op_pickF rfl hb10 rfl<|wn (wE (pg>(1024:UInt32)) (fun hb11 hc11=>?_) (fun hb11 hc11=>?_))))))
 ·
  exact ws<|wa rfl<|wn<|WC.ret<|WQ.thenRet<|WQ.out (.tmp rfl .nil) (⟨by (rw [mfE,mfMay,hb3,hn5,hn7,hb9,hb10,hb11])<;>rfl,H8.fr⟩)
 exact WC.skip<|WQ.next<|ws<|wa rfl<|wn<|WC.ret<|WQ.out (.tmp rfl .nil) (⟨by (rw [mfE,mfMay,hb3,hn5,hn7,hb9,hb10,hb11])<;>rfl,H8.fr⟩)
theorem none_ok (c:Nat) (pg:UInt32) (hv:Value) (he:List UInt32) (mb cn:Nat) (gs:List Gr) (mp:UInt32) (ev pv:Value) (xs:List Xt) (ps:List UInt16) (con:Bool) (w:World) (hC:cellsAt w c [(vU32 pg),hv,(.map (some mb))]) (hH:Arr w hv 1 he.length (List.map vU32 he)) (hM:w.heap[mb]?=some (mP .i64 (List.map Gr.me gs) cn)) (hG:BsOK 199 Gr.cells Gr.b gs w) (hS:grD.list.ok w gs) (_hME:MEok (List.map Gr.me gs) cn) (hE:Arr w ev 2 xs.length (List.flatMap xtc xs)) (_hP:Arr w pv 1 ps.length (List.map vU16 ps)) (hn:xs.length<2^40) (_hm:ps.length<2^40) (_hhe:he.length<2^32) :
  Calls Tryz.prog 208 #[(ptr c 0),(.agg #[(vU32 mp),ev,pv,(.bool con)])] w (fun e w'=>e=.returned (vN (noneE he xs))∧Fr [] w w'):=by
 refine enter Tryz.func208 rfl rfl ?_
 have H0:=((((((Own.start w []).oldB hC).oldA hH).mpOld hM).bsOld hG).dpOld hS)
 refine ws<|wo (op_box H0 rfl rfl (fun b1 w1 H1=>(wa rfl<|wn<|WC.seq<|ws<|wo (op_fieldAddr rfl Fa.F40_1<|wo (op_load rfl (H1.cell (i:=5) rfl rfl) Tryz.underlying37 rfl<|wo (op_lenA Tryz.underlying37 rfl (H1.arr hE)<|wm rfl<|wn<|WC.block<|WC.loop (α:=Nat) (fun k=>[(0,(ptr c 0)),(8,ev),(9,(vN xs.length)),(10,(vN k))]) (fun k w'=>(k≤xs.length∧(∀j,j<k→¬(xs.getD j Xt.zero).id.toNat≥he.length))∧Owl.Own [] w w' [Ent.bo c [(vU32 pg),hv,(.map (some mb))],Ent.ar hv 1 he.length (List.map vU32 he),Ent.mo .i64 mb (List.map Gr.me gs) cn,Ent.bsO 199 Gr.cells Gr.b gs,Ent.dp grD.list gs,.blk b1 [(vU32 mp),ev,pv,(.bool con)] 40]) (fun k=>xs.length-k) 0 ⟨⟨Nat.zero_le _,fun j h=>by omega⟩,H1⟩ ⟨rfl,rfl,rfl,rfl,trivial⟩ ?_))))))
 rintro k w2 ⟨⟨hk1,hok⟩,H2⟩
 show WC _ _ _ _ _ [(0,(ptr c 0)),(8,ev),(9,(vN xs.length)),(10,(vN k))] _
 refine ws<|wo (op_lssN rfl rfl<|wn<|WC.seq (wE (k<xs.length) (fun hb3 hc3=>?_) (fun hb3 hc3=>?_)))
 ·
  refine WC.skip<|WQ.next<|WC.seq<|WC.block<|ws<|wo (op_indexAddr Tryz.underlying37 Fa.I207 rfl (H2.arr hE) rfl (by omega)<|wo (op_loadSP (vs:=xtc (xs.getD k Xt.zero)) rfl (Arr.atsF (H2.arr hE) (fun _=>rfl) (by decide) Xt.zero (by omega)) Tryz.underlying207 rfl Fa.I207 rfl<|wo (op_alloc H2 Fa.I207 (fun b4 w4 H4=>(wo (op_storeBW (i:=6) H4 rfl rfl rfl rfl rfl Fa.I207 (fun w5 H5=>(wn<|WC.seq<|WC.draw 10 Fa.M H5 (oh (fun w1 H1=>op_fieldAddr rfl Fa.F207_0 zr)<|oh (fun w1 H1=>op_load rfl (H1.cell (i:=6) rfl rfl) Tryz.underlying22 rfl zr)<|oh (fun w1 H1=>op_convU32N (hs:=Tryz.underlying22) (hd:=Tryz.underlying3) rfl zr)<|mh rfl<|oh (fun w1 H1=>op_nilCheck rfl zr)<|oh (fun w1 H1=>op_fieldAddr rfl Fa.F196_0 zr)<|oh (fun w1 H1=>op_fieldAddr rfl Fa.F75_1 zr)<|oh (fun w1 H1=>op_load rfl (H1.cellO (i:=0) rfl rfl) Tryz.underlying73 rfl zr)<|oh (fun w1 H1=>op_lenA Tryz.underlying73 rfl (H1.arrO (i:=1) rfl) zr)<|oh (fun w1 H1=>op_geqN rfl rfl zr)  HW.nil) (by kernel_rfl) ?_))))))))
  intro β6 w6 H6
  refine wn (wE ((xs.getD k Xt.zero).id.toNat≥he.length) (fun hb7 hc7=>?_) (fun hb7 hc7=>?_))
  ·
   exact ws<|wa rfl<|wn<|WC.ret<|WQ.inRet<|WQ.thenRet<|WQ.thenRet<|WQ.inRet<|WQ.thenRet<|WQ.out (.tmp rfl .nil) (⟨by rw [noneE_yes (k:=k) (by omega) (dT hb7)]; rfl,H6.fr⟩)
  exact WC.skip<|WQ.inNormal<|WQ.next<|WC.region<|wo (op_addN (b:=1) rfl rfl (by omega)<|wm rfl<|WL.nil<|WQ.round (k+1) ⟨⟨by omega,fun j h=>by rcases Nat.lt_or_ge j k with h9 | h9; exact hok j h9; rw [show j=k by omega]; exact dF hb7⟩,(H6.take 6)⟩ ⟨rfl,rfl,rfl,rfl,trivial⟩ (by omega))
 exact WC.exit<|WQ.thenExit<|WQ.thenExit<|WQ.inHere<|WQ.next<|ws<|wa rfl<|wn<|WC.ret<|WQ.out (.tmp rfl .nil) (⟨by rw [noneE_no (fun j hj=>hok j (by omega))]; rfl,H2.fr⟩)
theorem long_ok (c:Nat) (pg:UInt32) (hv:Value) (he:List UInt32) (mb cn:Nat) (gs:List Gr) (mp:UInt32) (ev pv:Value) (xs:List Xt) (ps:List UInt16) (con:Bool) (w:World) (hC:cellsAt w c [(vU32 pg),hv,(.map (some mb))]) (hH:Arr w hv 1 he.length (List.map vU32 he)) (hM:w.heap[mb]?=some (mP .i64 (List.map Gr.me gs) cn)) (hG:BsOK 199 Gr.cells Gr.b gs w) (hS:grD.list.ok w gs) (_hME:MEok (List.map Gr.me gs) cn) (hE:Arr w ev 2 xs.length (List.flatMap xtc xs)) (_hP:Arr w pv 1 ps.length (List.map vU16 ps)) (hn:xs.length<2^40) (_hm:ps.length<2^40) (_hhe:he.length<2^32) :
  Calls Tryz.prog 209 #[(ptr c 0),(.agg #[(vU32 mp),ev,pv,(.bool con)])] w (fun e w'=>e=.returned (vN (longE he xs))∧Fr [] w w'):=by
 refine enter Tryz.func209 rfl rfl ?_
 have H0:=((((((Own.start w []).oldB hC).oldA hH).mpOld hM).bsOld hG).dpOld hS)
 refine ws<|wo (op_box H0 rfl rfl (fun b1 w1 H1=>(wa rfl<|wn<|WC.seq<|ws<|wo (op_fieldAddr rfl Fa.F40_1<|wo (op_load rfl (H1.cell (i:=5) rfl rfl) Tryz.underlying37 rfl<|wo (op_lenA Tryz.underlying37 rfl (H1.arr hE)<|wm rfl<|wn<|WC.block<|WC.loop (α:=Nat) (fun k=>[(0,(ptr c 0)),(8,ev),(9,(vN xs.length)),(10,(vN k))]) (fun k w'=>(k≤xs.length∧(∀j,j<k→longX he (xs.getD j Xt.zero)=false))∧Owl.Own [] w w' [Ent.bo c [(vU32 pg),hv,(.map (some mb))],Ent.ar hv 1 he.length (List.map vU32 he),Ent.mo .i64 mb (List.map Gr.me gs) cn,Ent.bsO 199 Gr.cells Gr.b gs,Ent.dp grD.list gs,.blk b1 [(vU32 mp),ev,pv,(.bool con)] 40]) (fun k=>xs.length-k) 0 ⟨⟨Nat.zero_le _,fun j h=>by omega⟩,H1⟩ ⟨rfl,rfl,rfl,rfl,trivial⟩ ?_))))))
 rintro k w2 ⟨⟨hk1,hok⟩,H2⟩
 show WC _ _ _ _ _ [(0,(ptr c 0)),(8,ev),(9,(vN xs.length)),(10,(vN k))] _
 refine ws<|wo (op_lssN rfl rfl<|wn<|WC.seq (wE (k<xs.length) (fun hb3 hc3=>?_) (fun hb3 hc3=>?_)))
 ·
  refine WC.skip<|WQ.next<|WC.seq<|WC.block<|ws<|wo (op_indexAddr Tryz.underlying37 Fa.I207 rfl (H2.arr hE) rfl (by omega)<|wo (op_loadSP (vs:=xtc (xs.getD k Xt.zero)) rfl (Arr.atsF (H2.arr hE) (fun _=>rfl) (by decide) Xt.zero (by omega)) Tryz.underlying207 rfl Fa.I207 rfl<|wo (op_alloc H2 Fa.I207 (fun b4 w4 H4=>(wo (op_storeBW (i:=6) H4 rfl rfl rfl rfl rfl Fa.I207 (fun w5 H5=>(wn<|WC.seq (wG ((xs.getD k Xt.zero).id.toNat<he.length) (fun hb6 hc6=>?_) (fun hb6 hc6=>?_))))))))))
  ·
   refine WC.draw 24 Fa.M H5 (oh (fun w1 H1=>op_fieldAddr rfl Fa.F207_0 zr)<|oh (fun w1 H1=>op_load rfl (H1.cell (i:=6) rfl rfl) Tryz.underlying22 rfl zr)<|oh (fun w1 H1=>op_convU32N (hs:=Tryz.underlying22) (hd:=Tryz.underlying3) rfl zr)<|mh rfl<|oh (fun w1 H1=>op_nilCheck rfl zr)<|oh (fun w1 H1=>op_fieldAddr rfl Fa.F196_0 zr)<|oh (fun w1 H1=>op_fieldAddr rfl Fa.F75_1 zr)<|oh (fun w1 H1=>op_load rfl (H1.cellO (i:=0) rfl rfl) Tryz.underlying73 rfl zr)<|oh (fun w1 H1=>op_lenA Tryz.underlying73 rfl (H1.arrO (i:=1) rfl) zr)<|oh (fun w1 H1=>op_lssN rfl rfl zr)<|mh rfl<|yh hb6 (fun w1 H1=>op_fieldAddr rfl Fa.F207_1 zr)<|yh hb6 (fun w1 H1=>op_load rfl (H1.cell (i:=6) rfl rfl) Tryz.underlying22 rfl zr)<|yh hb6 (fun w1 H1=>op_move rfl zr)<|yh hb6 (fun w1 H1=>op_nilCheck rfl zr)<|yh hb6 (fun w1 H1=>op_fieldAddr rfl Fa.F196_0 zr)<|yh hb6 (fun w1 H1=>op_fieldAddr rfl Fa.F75_1 zr)<|yh hb6 (fun w1 H1=>op_load rfl (H1.cellO (i:=0) rfl rfl) Tryz.underlying73 rfl zr)<|yh hb6 (fun w1 H1=>op_fieldAddr rfl Fa.F207_0 zr)<|yh hb6 (fun w1 H1=>op_load rfl (H1.cell (i:=6) rfl rfl) Tryz.underlying22 rfl zr)<|yh hb6 (fun w1 H1=>op_indexAddr1 Tryz.underlying73 Fa.I22 rfl (H1.arrO (i:=1) rfl) rfl (by omega) zr)<|yh hb6 (fun w1 H1=>op_load rfl ((H1.arrO (i:=1) rfl).at (get_map vU32 0 (Arr.ltM (H1.arrO (i:=1) rfl) (by omega)))) Tryz.underlying22 rfl zr)<|yh hb6 (fun w1 H1=>op_gtrU32 rfl rfl zr)<|oh (fun w1 H1=>op_pickT rfl hb6 rfl zr)  HW.nil) (by kernel_rfl) ?_
   intro β7 w7 H7
   refine wn (wE ((xs.getD k Xt.zero).bl>(he.getD (xs.getD k Xt.zero).id.toNat 0)) (fun hb8 hc8=>?_) (fun hb8 hc8=>?_))
   ·
    exact ws<|wa rfl<|wn<|WC.ret<|WQ.inRet<|WQ.thenRet<|WQ.thenRet<|WQ.inRet<|WQ.thenRet<|WQ.out (.tmp rfl .nil) (⟨by rw [longE_yes (k:=k) (by omega) (by rw [longX,hb6,hb8]; rfl)]; rfl,H7.fr⟩)
   exact WC.skip<|WQ.inNormal<|WQ.next<|WC.region<|wo (op_addN (b:=1) rfl rfl (by omega)<|wm rfl<|WL.nil<|WQ.round (k+1) ⟨⟨by omega,fun j h=>by rcases Nat.lt_or_ge j k with h9 | h9; exact hok j h9; rw [show j=k by omega]; exact (by rw [longX,hb6,hb8]; rfl)⟩,(H7.take 6)⟩ ⟨rfl,rfl,rfl,rfl,trivial⟩ (by omega))
  refine WC.draw 24 Fa.M H5 (oh (fun w1 H1=>op_fieldAddr rfl Fa.F207_0 zr)<|oh (fun w1 H1=>op_load rfl (H1.cell (i:=6) rfl rfl) Tryz.underlying22 rfl zr)<|oh (fun w1 H1=>op_convU32N (hs:=Tryz.underlying22) (hd:=Tryz.underlying3) rfl zr)<|mh rfl<|oh (fun w1 H1=>op_nilCheck rfl zr)<|oh (fun w1 H1=>op_fieldAddr rfl Fa.F196_0 zr)<|oh (fun w1 H1=>op_fieldAddr rfl Fa.F75_1 zr)<|oh (fun w1 H1=>op_load rfl (H1.cellO (i:=0) rfl rfl) Tryz.underlying73 rfl zr)<|oh (fun w1 H1=>op_lenA Tryz.underlying73 rfl (H1.arrO (i:=1) rfl) zr)<|oh (fun w1 H1=>op_lssN rfl rfl zr)<|mh rfl<|nh hb6<|nh hb6<|nh hb6<|nh hb6<|nh hb6<|nh hb6<|nh hb6<|nh hb6<|nh hb6<|nh hb6<|nh hb6<|nh hb6<|oh (fun w1 H1=>op_pickF rfl hb6 rfl zr)  HW.nil) (by kernel_rfl) ?_
  intro β9 w9 H9
  exact wn<|WC.no rfl rfl<|WC.skip<|WQ.inNormal<|WQ.next<|WC.region<|wo (op_addN (b:=1) rfl rfl (by omega)<|wm rfl<|WL.nil<|WQ.round (k+1) ⟨⟨by omega,fun j h=>by rcases Nat.lt_or_ge j k with h9 | h9; exact hok j h9; rw [show j=k by omega]; exact (by rw [longX,hb6]; rfl)⟩,(H9.take 6)⟩ ⟨rfl,rfl,rfl,rfl,trivial⟩ (by omega))
 exact WC.exit<|WQ.thenExit<|WQ.thenExit<|WQ.inHere<|WQ.next<|ws<|wa rfl<|wn<|WC.ret<|WQ.out (.tmp rfl .nil) (⟨by rw [longE_no (fun j hj=>hok j (by omega))]; rfl,H2.fr⟩)
theorem extent_ok (mp:UInt32) (ev pv:Value) (xs:List Xt) (ps:List UInt16) (con:Bool) (id:UInt32) (w:World) (hE:Arr w ev 2 xs.length (List.flatMap xtc xs)) (_hP:Arr w pv 1 ps.length (List.map vU16 ps)) (hn:xs.length<2^40) (_hm:ps.length<2^40) :
  Calls Tryz.prog 235 #[(.agg #[(vU32 mp),ev,pv,(.bool con)]),(vU32 id)] w (fun e w'=>e=.returned (.tuple #[.agg #[vU32 (extG xs id).id,vU32 (extG xs id).bl],.bool (hasX xs id)])∧Fr [] w w'):=by
 refine enter Tryz.func235 rfl rfl ?_
 have H0:=Own.start w []
 refine ws<|wo (op_box H0 rfl rfl (fun b1 w1 H1=>(wo (op_alloc H1 Fa.I207 (fun b2 w2 H2=>(wa rfl<|wn<|WC.seq<|ws<|wo (op_fieldAddr rfl Fa.F40_1<|wo (op_load rfl (H2.cell (i:=0) rfl rfl) Tryz.underlying37 rfl<|wo (op_lenA Tryz.underlying37 rfl (H2.arr hE)<|wm rfl<|wn<|WC.block<|WC.loop (α:=Nat) (fun k=>[(0,(.agg #[(vU32 mp),ev,pv,(.bool con)])),(1,(vU32 id)),(4,(ptr b2 0)),(9,ev),(10,(vN xs.length)),(11,(vN k))]) (fun k w'=>(k≤xs.length∧(∀j,j<k→xtIs id (xs.getD j Xt.zero)=false))∧Owl.Own [] w w' [.blk b1 [(vU32 mp),ev,pv,(.bool con)] 40,.blk b2 [(vU32 0),(vU32 0)] 207]) (fun k=>xs.length-k) 0 ⟨⟨Nat.zero_le _,fun j h=>by omega⟩,H2⟩ ⟨rfl,rfl,rfl,rfl,rfl,rfl,trivial⟩ ?_)))))))))
 rintro k w3 ⟨⟨hk1,hok⟩,H3⟩
 show WC _ _ _ _ _ [(0,(.agg #[(vU32 mp),ev,pv,(.bool con)])),(1,(vU32 id)),(4,(ptr b2 0)),(9,ev),(10,(vN xs.length)),(11,(vN k))] _
 refine ws<|wo (op_lssN rfl rfl<|wn<|WC.seq (wE (k<xs.length) (fun hb4 hc4=>?_) (fun hb4 hc4=>?_)))
 ·
  refine WC.skip<|WQ.next<|WC.seq<|WC.block<|ws<|wo (op_indexAddr Tryz.underlying37 Fa.I207 rfl (H3.arr hE) rfl (by omega)<|wo (op_loadSP (vs:=xtc (xs.getD k Xt.zero)) rfl (Arr.atsF (H3.arr hE) (fun _=>rfl) (by decide) Xt.zero (by omega)) Tryz.underlying207 rfl Fa.I207 rfl<|wo (op_alloc H3 Fa.I207 (fun b5 w5 H5=>(wo (op_storeBW (i:=2) H5 rfl rfl rfl rfl rfl Fa.I207 (fun w6 H6=>(wn<|ws<|wo (op_fieldAddr rfl Fa.F207_0<|wo (op_load rfl (H6.cell (i:=2) rfl rfl) Tryz.underlying22 rfl<|wm rfl<|wo (op_eqlU32 rfl rfl<|wn (wE ((xs.getD k Xt.zero).id=id) (fun hb7 hc7=>?_) (fun hb7 hc7=>?_)))))))))))))
  ·
   exact ws<|wo (op_loadS (vs:=[_,_]) rfl (H6.cells (i:=2) rfl rfl) Tryz.underlying207 rfl Fa.I207 rfl<|wo (op_storeBW (i:=1) H6 rfl rfl rfl rfl rfl Fa.I207 (fun w8 H8=>(wa rfl<|wn<|WC.ret<|WQ.inRet<|WQ.thenRet<|WQ.thenRet<|WQ.inRet<|WQ.thenRet<|WQ.out (.cell rfl (run_loadVarS (vs:=[_,_]) (H8.cells (i:=1) rfl rfl) Tryz.underlying207 rfl Fa.I207 rfl) (.tmp rfl .nil)) (⟨by rw [(extG_yes (k:=k) (by omega) hok hb7).1,(extG_yes (k:=k) (by omega) hok hb7).2]; rfl,H8.fr⟩)))))
  exact WC.skip<|WQ.inNormal<|WQ.next<|WC.region<|wo (op_addN (b:=1) rfl rfl (by omega)<|wm rfl<|WL.nil<|WQ.round (k+1) ⟨⟨by omega,allPrev hok hb7⟩,(H6.take 2)⟩ ⟨rfl,rfl,rfl,rfl,rfl,rfl,trivial⟩ (by omega))
 exact WC.exit<|WQ.thenExit<|WQ.thenExit<|WQ.inHere<|WQ.next<|ws<|wo (op_build (cs:=[_,_]) Fa.I207 Fa.PL207 rfl rfl<|wo (op_storeBW (i:=1) H3 rfl rfl rfl rfl rfl Fa.I207 (fun w9 H9=>(wa rfl<|wn<|WC.ret<|WQ.out (.cell rfl (run_loadVarS (vs:=[_,_]) (H9.cells (i:=1) rfl rfl) Tryz.underlying207 rfl Fa.I207 rfl) (.tmp rfl .nil)) (⟨by rw [(extG_no (fun j hj=>hok j (by omega))).1,(extG_no (fun j hj=>hok j (by omega))).2]; rfl,H9.fr⟩)))))
theorem busyP_ok (y:UInt16) (cb:Nat) (g:Gr) (w:World) (hCb:cellsAt w cb [(ptr g.b 0)]) (hGb:cellsAt w g.b [(vU32 g.pg),g.ev,g.pv,(.bool g.con),(vU32 g.pp),(vU32 g.tk)]) (hGe:Arr w g.ev 2 g.xs.length (List.flatMap xtc g.xs)) (hGp:Arr w g.pv 1 g.ps.length (List.map vU16 g.ps)) (hgp:g.ps.length<2^40) :
  Calls Tryz.prog 234 #[(vU16 y),(ptr cb 0)] w (fun e w'=>e=.returned (.bool (busyQ g y))∧Fr [] w w'):=by
 refine enter Tryz.func234 rfl rfl ?_
 have H0:=(((((Own.start w []).oldB hCb).oldB hGb).oldA hGe).oldA hGp)
 exact ws<|wa rfl<|wn<|ws<|wo (op_load rfl (H0.cellO (i:=0) rfl rfl) Tryz.underlying197 rfl<|wo (op_nilCheck rfl<|wo (op_fieldAddr rfl Fa.F199_0<|wo (op_fieldAddr rfl Fa.F40_2<|wo (op_load rfl (H0.cellO (i:=1) rfl rfl) Tryz.underlying38 rfl<|wm rfl<|wo (cq H0 Fa.C141 rfl (con16_ok _ g.ps y _ (H0.arrO (i:=3) rfl) (by omega)) fun w1 H1=>(wa rfl<|wn<|WC.ret<|WQ.out (.tmp rfl .nil) (⟨rfl,H1.fr⟩))))))))
theorem idxB_ok (cb:Nat) (g:Gr) (lv:Value) (l:List UInt16) (w:World) (hA:Arr w lv 1 l.length (List.map vU16 l)) (hCb:cellsAt w cb [(ptr g.b 0)]) (hGb:cellsAt w g.b [(vU32 g.pg),g.ev,g.pv,(.bool g.con),(vU32 g.pp),(vU32 g.tk)]) (hGe:Arr w g.ev 2 g.xs.length (List.flatMap xtc g.xs)) (hGp:Arr w g.pv 1 g.ps.length (List.map vU16 g.ps)) (hgp:g.ps.length<2^40) (hn:l.length<2^40) :
  Calls Tryz.prog 248 #[lv,(.func (.func 234) #[] #[(ptr cb 0)])] w (fun e w'=>e=.returned (vI (fidx (busyQ g) l))∧Fr [] w w'):=by
 refine enter Tryz.func248 rfl rfl ?_
 have H0:=(((((Own.start w []).oldB hCb).oldB hGb).oldA hGe).oldA hGp)
 refine ws<|wa rfl<|wn<|WC.seq<|ws<|wm rfl<|wo (op_lenA Tryz.underlying38 rfl (H0.arr hA)<|wm rfl<|wn<|WC.block<|WC.loop (α:=Nat) (fun k=>[(0,lv),(1,(.func (.func 234) #[] #[(ptr cb 0)])),(7,(vN l.length)),(8,(vN k))]) (fun k w'=>(k≤l.length∧(∀j,j<k→busyQ g (l.getD j 0)=false))∧Owl.Own [] w w' [Ent.bo cb [(ptr g.b 0)],Ent.bo g.b [(vU32 g.pg),g.ev,g.pv,(.bool g.con),(vU32 g.pp),(vU32 g.tk)],Ent.ar g.ev 2 g.xs.length (List.flatMap xtc g.xs),Ent.ar g.pv 1 g.ps.length (List.map vU16 g.ps)]) (fun k=>l.length-k) 0 ⟨⟨Nat.zero_le _,fun j h=>by omega⟩,H0⟩ ⟨rfl,rfl,rfl,rfl,trivial⟩ ?_)
 rintro k w1 ⟨⟨hk1,hok⟩,H1⟩
 show WC _ _ _ _ _ [(0,lv),(1,(.func (.func 234) #[] #[(ptr cb 0)])),(7,(vN l.length)),(8,(vN k))] _
 refine ws<|wo (op_lssN rfl rfl<|wn<|WC.seq (wE (k<l.length) (fun hb2 hc2=>?_) (fun hb2 hc2=>?_)))
 ·
  refine WC.skip<|WQ.next<|WC.seq<|WC.block<|ws<|wm rfl<|wa rfl<|wn<|ws<|wm rfl<|wm rfl<|wm rfl<|wo (op_indexAddr1 Tryz.underlying38 Fa.I203 rfl (H1.arr hA) rfl (by omega)<|wo (op_load rfl ((H1.arr hA).at (get_map vU16 0 (Arr.ltM (H1.arr hA) (by omega)))) Tryz.underlying203 rfl<|wo (op_call (f:=234) rfl Fa.C234 rfl ((busyP_ok (l.getD k 0) cb g _ (H1.cellsAtO (i:=0) rfl) (H1.cellsAtO (i:=1) rfl) (H1.arrO (i:=2) rfl) (H1.arrO (i:=3) rfl) hgp).mono (fun e w3 hq=>?_)))))
  obtain ⟨rfl,hf3⟩:=hq
  refine ⟨_,rfl,?_⟩
  have H3:=H1.fr' hf3
  refine wn (wC (busyQ g (l.getD k 0)) (fun hb4=>?_) (fun hb4=>?_))
  ·
   exact ws<|wm rfl<|wa rfl<|wn<|WC.ret<|WQ.inRet<|WQ.thenRet<|WQ.thenRet<|WQ.inRet<|WQ.thenRet<|WQ.out (.tmp rfl .nil) (⟨by rw [fidx_yes (d:=0) (by omega) hok hb4]; rfl,H3.fr⟩)
  exact WC.skip<|WQ.inNormal<|WQ.next<|WC.region<|wo (op_addN (b:=1) rfl rfl (by omega)<|wm rfl<|WL.nil<|WQ.round (k+1) ⟨⟨by omega,allPrev hok hb4⟩,H3⟩ ⟨rfl,rfl,rfl,rfl,trivial⟩ (by omega))
 exact WC.exit<|WQ.thenExit<|WQ.thenExit<|WQ.inHere<|WQ.next<|ws<|wa rfl<|wn<|WC.ret<|WQ.out (.tmp rfl .nil) (⟨by rw [fidx_no (d:=0) (fun j hj=>hok j (by omega))]; rfl,H1.fr⟩)
theorem conB_ok (cb:Nat) (g:Gr) (lv:Value) (l:List UInt16) (w:World) (hA:Arr w lv 1 l.length (List.map vU16 l)) (hCb:cellsAt w cb [(ptr g.b 0)]) (hGb:cellsAt w g.b [(vU32 g.pg),g.ev,g.pv,(.bool g.con),(vU32 g.pp),(vU32 g.tk)]) (hGe:Arr w g.ev 2 g.xs.length (List.flatMap xtc g.xs)) (hGp:Arr w g.pv 1 g.ps.length (List.map vU16 g.ps)) (hgp:g.ps.length<2^40) (hn:l.length<2^40) :
  Calls Tryz.prog 233 #[lv,(.func (.func 234) #[] #[(ptr cb 0)])] w (fun e w'=>e=.returned (.bool (l.any (busyQ g)))∧Fr [] w w'):=by
 refine enter Tryz.func233 rfl rfl ?_
 have H0:=(((((Own.start w []).oldB hCb).oldB hGb).oldA hGe).oldA hGp)
 exact ws<|wa rfl<|wn<|ws<|wm rfl<|wm rfl<|wo (cq H0 Fa.C248 rfl (idxB_ok cb g _ l _ (H0.arr hA) (H0.cellsAtO (i:=0) rfl) (H0.cellsAtO (i:=1) rfl) (H0.arrO (i:=2) rfl) (H0.arrO (i:=3) rfl) hgp hn) fun w1 H1=>(wo (op_geqI (b:=(0:Int)) rfl rfl<|wa rfl<|wn<|WC.ret<|WQ.out (.tmp rfl .nil) (⟨by rw [←fidx_any]; rfl,H1.fr⟩))))
theorem busy_ok (c:Nat) (pg:UInt32) (hv:Value) (he:List UInt32) (mb cn:Nat) (gs:List Gr) (mp:UInt32) (ev pv:Value) (xs:List Xt) (ps:List UInt16) (con:Bool) (w:World) (hC:cellsAt w c [(vU32 pg),hv,(.map (some mb))]) (hH:Arr w hv 1 he.length (List.map vU32 he)) (hM:w.heap[mb]?=some (mP .i64 (List.map Gr.me gs) cn)) (hG:BsOK 199 Gr.cells Gr.b gs w) (hS:grD.list.ok w gs) (hME:MEok (List.map Gr.me gs) cn) (hfit: ∀g∈gs,g.ps.length<2^40∧g.xs.length<2^40) (hE:Arr w ev 2 xs.length (List.flatMap xtc xs)) (hP:Arr w pv 1 ps.length (List.map vU16 ps)) (hn:xs.length<2^40) (hm:ps.length<2^40) (_hhe:he.length<2^32) :
    Calls Tryz.prog 210 #[(ptr c 0),(.agg #[(vU32 mp),ev,pv,(.bool con)])] w (fun e w'=>e=.returned (vN (busyE gs xs ps))∧Fr [] w w'):=by
  refine enter Tryz.func210 rfl rfl ?_
  have H0:=((((((Own.start w []).oldB hC).oldA hH).mpOld hM).bsOld hG).dpOld hS)
  refine ws<|wo (op_box H0 rfl rfl (fun b1 w1 H1=>(wa rfl<|wn<|WC.seq<|ws<|wm rfl<|wo (op_nilCheck rfl<|wo (op_fieldAddr rfl Fa.F196_1<|wo (op_load rfl (H1.cellO (i:=0) rfl rfl) Tryz.underlying194 rfl<|wo (op_rangeP H1 (H1.mpO (i:=2) rfl) Tryz.underlying194 rfl (fun b2 w2 H2=>(wn<|WC.block<|WC.loop (α:=List Gr × List Gr) (fun (sn,rst)=>[(3,(ptr b1 0)),(15,(ptr b2 0))]) (fun (sn,rst) w'=>(gs.Perm (sn++rst)∧∀g∈sn,busyG xs ps g=false)∧Owl.Own [] w w' [Ent.bo c [(vU32 pg),hv,(.map (some mb))],Ent.ar hv 1 he.length (List.map vU32 he),Ent.mo .i64 mb (List.map Gr.me gs) cn,Ent.bsO 199 Gr.cells Gr.b gs,Ent.dp grD.list gs,.blk b1 [(vU32 mp),ev,pv,(.bool con)] 40,.obj b2 (itO mb cn (List.map Gr.me sn))]) (fun (sn,rst)=>rst.length) ([],gs) ⟨⟨List.Perm.refl _,fun g h=>(by cases h)⟩,H2⟩ ⟨rfl,rfl,trivial⟩ ?_)))))))))
  rintro ⟨sn,rst⟩ w3 ⟨⟨hpm,hno⟩,H3⟩
  show WC _ _ _ _ _ [(3,(ptr b1 0)),(15,(ptr b2 0))] _
  refine ws<|wo (op_nextG (i:=6) (sn:=sn) (rest:=rst) H3 rfl (H3.mpO (i:=2) rfl) hME hpm rfl (fun h0=>?_) (fun g4 rs4 hl4 hp4 w4 H4=>?_))
  ·
    exact we rfl rfl<|wn<|WC.seq<|WC.no rfl rfl<|WC.exit<|WQ.thenExit<|WQ.thenExit<|WQ.inHere<|WQ.next<|ws<|wa rfl<|wn<|WC.ret<|WQ.out (.tmp rfl .nil) (⟨by rw [h0,List.append_nil] at hpm; rw [busyE_no hpm hno]; rfl,H3.fr⟩)
  have H5:=(((H4.bsView (i:=3) (a:=g4) rfl (hp4.mem_iff.2 (by simp))).dpView (i:=4) (a:=g4) rfl (hp4.mem_iff.2 (by simp)) (fun w h=>h.1) (fun b hb=>List.mem_append.2 (.inl hb))).dpView (i:=4) (a:=g4) rfl (hp4.mem_iff.2 (by simp)) (fun w h=>h.2) (fun b hb=>List.mem_append.2 (.inr hb)))
  have hgf:=hfit g4 (hp4.mem_iff.2 (by simp))
  have hgp:=hgf.1
  have hgx:=hgf.2
  refine we rfl rfl<|wn<|WC.seq<|WC.yes rfl rfl<|WC.skip<|WQ.next<|WC.block<|ws<|wo (op_entryG (i:=6) (sn:=sn) (g:=g4) H5 rfl (H5.mpO (i:=2) rfl) hME hp4 rfl<|we rfl rfl<|wo (op_alloc H5 Fa.I197 (fun b6 w6 H6=>(wo (op_storeB (i:=10) H6 rfl rfl rfl rfl rfl Fa.I197 (fun w7 H7=>(wn<|WC.seq<|ws<|wo (op_fieldAddr rfl Fa.F40_2<|wo (op_load rfl (H7.cell (i:=5) rfl rfl) Tryz.underlying38 rfl<|wo (op_makeFunc rfl rfl<|wo (cq H7 Fa.C233 rfl (conB_ok b6 g4 _ ps _ (H7.arr hP) (H7.cellsAt (i:=10) rfl) (H7.cellsAtO (i:=7) rfl) (H7.arrO (i:=8) rfl) (H7.arrO (i:=9) rfl) hgp hm) fun w8 H8=>(wn (wC (ps.any (busyQ g4)) (fun hb9=>?_) (fun hb9=>?_))))))))))))))
  ·
    exact ws<|wa rfl<|wn<|WC.ret<|WQ.thenRet<|WQ.inRet<|WQ.thenRet<|WQ.inRet<|WQ.thenRet<|WQ.out (.tmp rfl .nil) (⟨by rw [busyE_yes (g:=g4) (hp4.mem_iff.2 (by simp)) (by rw [busyG,hb9]; rfl)]; rfl,H8.fr⟩)
  refine WC.skip<|WQ.next<|ws<|wo (op_fieldAddr rfl Fa.F40_1<|wo (op_load rfl (H8.cell (i:=5) rfl rfl) Tryz.underlying37 rfl<|wo (op_lenA Tryz.underlying37 rfl (H8.arr hE)<|wm rfl<|wn<|WC.block<|WC.loop (α:=Nat) (fun k=>[(3,(ptr b1 0)),(6,(ptr b6 0)),(15,(ptr b2 0)),(25,ev),(26,(vN xs.length)),(27,(vN k))]) (fun k w'=>(k≤xs.length∧(∀j,j<k→busyX g4 (xs.getD j Xt.zero)=false))∧Owl.Own [] w w' [Ent.bo c [(vU32 pg),hv,(.map (some mb))],Ent.ar hv 1 he.length (List.map vU32 he),Ent.mo .i64 mb (List.map Gr.me gs) cn,Ent.bsO 199 Gr.cells Gr.b gs,Ent.dp grD.list gs,.blk b1 [(vU32 mp),ev,pv,(.bool con)] 40,.obj b2 (itO mb cn (List.map Gr.me (sn++[g4]))),Ent.bo g4.b [(vU32 g4.pg),g4.ev,g4.pv,(.bool g4.con),(vU32 g4.pp),(vU32 g4.tk)],Ent.ar g4.ev 2 g4.xs.length (List.flatMap xtc g4.xs),Ent.ar g4.pv 1 g4.ps.length (List.map vU16 g4.ps),.blk b6 [(ptr g4.b 0)] 197]) (fun k=>xs.length-k) 0 ⟨⟨Nat.zero_le _,fun j h=>by omega⟩,H8⟩ ⟨rfl,rfl,rfl,rfl,rfl,rfl,trivial⟩ ?_)))
  rintro k w10 ⟨⟨hk1,hok⟩,H10⟩
  show WC _ _ _ _ _ [(3,(ptr b1 0)),(6,(ptr b6 0)),(15,(ptr b2 0)),(25,ev),(26,(vN xs.length)),(27,(vN k))] _
  refine ws<|wo (op_lssN rfl rfl<|wn<|WC.seq (wE (k<xs.length) (fun hb11 hc11=>?_) (fun hb11 hc11=>?_)))
  ·
    refine WC.skip<|WQ.next<|WC.seq<|WC.block<|ws<|wo (op_indexAddr Tryz.underlying37 Fa.I207 rfl (H10.arr hE) rfl (by omega)<|wo (op_loadSP (vs:=xtc (xs.getD k Xt.zero)) rfl (Arr.atsF (H10.arr hE) (fun _=>rfl) (by decide) Xt.zero (by omega)) Tryz.underlying207 rfl Fa.I207 rfl<|wo (op_alloc H10 Fa.I207 (fun b12 w12 H12=>(wo (op_storeBW (i:=11) H12 rfl rfl rfl rfl rfl Fa.I207 (fun w13 H13=>(wn<|WC.seq<|WC.held 13 rfl Fa.M H13 (fun w'=> ∃L',Owl.Own [] w w' ([Ent.bo c [(vU32 pg),hv,(.map (some mb))],Ent.ar hv 1 he.length (List.map vU32 he),Ent.mo .i64 mb (List.map Gr.me gs) cn,Ent.bsO 199 Gr.cells Gr.b gs,Ent.dp grD.list gs,.blk b1 [(vU32 mp),ev,pv,(.bool con)] 40,.obj b2 (itO mb cn (List.map Gr.me (sn++[g4]))),Ent.bo g4.b [(vU32 g4.pg),g4.ev,g4.pv,(.bool g4.con),(vU32 g4.pp),(vU32 g4.tk)],Ent.ar g4.ev 2 g4.xs.length (List.flatMap xtc g4.xs),Ent.ar g4.pv 1 g4.ps.length (List.map vU16 g4.ps),.blk b6 [(ptr g4.b 0)] 197,.blk b12 [(vU32 (xs.getD k Xt.zero).id),(vU32 (xs.getD k Xt.zero).bl)] 207]++L')) ?_))))))))
    intro w14 H14
    refine xt 0 rfl (ptr g4.b 0) H14 (fun _ _ HX=>op_load rfl (HX.cell (i:=10) rfl rfl) Tryz.underlying197 rfl ⟨rfl,rfl⟩)<|xt 4 rfl (ptr b12 0) H14 (fun _ _ HX=>op_fieldAddr rfl Fa.F207_0 ⟨rfl,rfl⟩)<|xt 5 rfl (vU32 (xs.getD k Xt.zero).id) H14 (fun _ _ HX=>op_load rfl (HX.cell (i:=11) rfl rfl) Tryz.underlying22 rfl ⟨rfl,rfl⟩)<|WH.named (fun W hW=>?_)
    let e9:List (Nat × Value)→List (Nat × Value):=fun r=>(3,(ptr b1 0))::(6,(ptr b6 0))::(8,(ptr b12 0))::(15,(ptr b2 0))::(25,ev)::(26,(vN xs.length))::(27,(vN k))::(28,(.bool (decide (k<xs.length))))::(29,(.pointer (some (sp ev (k * 2)))))::(30,(.agg #[(vU32 (xs.getD k Xt.zero).id),(vU32 (xs.getD k Xt.zero).bl)]))::r
    let a9_0:Ent:=Ent.bo c [(vU32 pg),hv,(.map (some mb))]
    let a9_1:Ent:=Ent.ar hv 1 he.length (List.map vU32 he)
    let a9_2:Ent:=Ent.mo .i64 mb (List.map Gr.me gs) cn
    let a9_3:Ent:=Ent.bsO 199 Gr.cells Gr.b gs
    let a9_4:Ent:=Ent.dp grD.list gs
    let a9_5:Ent:=.blk b1 [(vU32 mp),ev,pv,(.bool con)] 40
    let a9_6:Ent:=.obj b2 (itO mb cn (List.map Gr.me (sn++[g4])))
    let a9_7:Ent:=Ent.bo g4.b [(vU32 g4.pg),g4.ev,g4.pv,(.bool g4.con),(vU32 g4.pp),(vU32 g4.tk)]
    let a9_8:Ent:=Ent.ar g4.ev 2 g4.xs.length (List.flatMap xtc g4.xs)
    let a9_9:Ent:=Ent.ar g4.pv 1 g4.ps.length (List.map vU16 g4.ps)
    let a9_10:Ent:=.blk b6 [(ptr g4.b 0)] 197
    let a9_11:Ent:=.blk b12 [(vU32 (xs.getD k Xt.zero).id),(vU32 (xs.getD k Xt.zero).bl)] 207
    have st9_6: ∀(b25201:Nat) (wS:World),Owl.Own [] w wS [a9_0,a9_1,a9_2,a9_3,a9_4,a9_5,a9_6,a9_7,a9_8,a9_9,a9_10,a9_11,.blk b25201 [(vU32 (extG g4.xs ((xs.getD k Xt.zero).id)).id),(vU32 (extG g4.xs ((xs.getD k Xt.zero).id)).bl)] 207]→W 0 (bz 13 8191) (e9 [(10,(.bool (hasX g4.xs ((xs.getD k Xt.zero).id))))]) wS:=by
      intro b25201 wS HS
      rw [hW]
      refine WH.done (by kernel_rfl)<|WQ.next<|ws<|wm rfl<|wn (wC (hasX g4.xs ((xs.getD k Xt.zero).id)) (fun hb16=>?_) (fun hb16=>?_))
      ·
        exact ws<|wa rfl<|wn<|WC.ret<|WQ.inRet<|WQ.thenRet<|WQ.thenRet<|WQ.inRet<|WQ.inRet<|WQ.thenRet<|WQ.inRet<|WQ.thenRet<|WQ.out (.tmp rfl .nil) (⟨by rw [busyE_yes (g:=g4) (hp4.mem_iff.2 (by simp)) (by rw [busyG,any_yes (p:=busyX g4) (d:=Xt.zero) (k:=k) (by omega) hb16,Bool.or_true])]; rfl,HS.fr⟩)
      exact WC.skip<|WQ.inNormal<|WQ.next<|WC.region<|wo (op_addN (b:=1) rfl rfl (by omega)<|wm rfl<|WL.nil<|WQ.round (k+1) ⟨⟨by omega,allPrev hok hb16⟩,(HS.take 11)⟩ ⟨rfl,rfl,rfl,rfl,rfl,rfl,trivial⟩ (by omega))
    have st9_5: ∀(b25201:Nat) (wS:World),Owl.Own [] w wS [a9_0,a9_1,a9_2,a9_3,a9_4,a9_5,a9_6,a9_7,a9_8,a9_9,a9_10,a9_11,.blk b25201 [(vU32 0),(vU32 0)] 207]→W 2 (bz 13 2047) (e9 [(9,(ptr b25201 0)),(39,(.agg #[(vU32 (extG g4.xs ((xs.getD k Xt.zero).id)).id),(vU32 (extG g4.xs ((xs.getD k Xt.zero).id)).bl)])),(40,(.bool (hasX g4.xs ((xs.getD k Xt.zero).id))))]) wS:=by
      intro b25201 wS HS
      rw [hW]
      refine wh1 11<|kH 11 rfl (op_storeBW (i:=12) HS rfl rfl rfl rfl rfl Fa.I207 (fun w25221 H25221=>(⟨⟨_,H25221⟩,?_⟩)))
      exact xt 12 rfl (.bool (hasX g4.xs ((xs.getD k Xt.zero).id))) H25221 (fun _ _ HX=>op_assign rfl ⟨rfl,rfl⟩)<|WH.cw hW (st9_6 b25201 w25221 H25221)
    have st9_3: ∀wS,Owl.Own [] w wS [a9_0,a9_1,a9_2,a9_3,a9_4,a9_5,a9_6,a9_7,a9_8,a9_9,a9_10,a9_11]→W 3 (bz 13 1023) (e9 [(39,(.agg #[(vU32 (extG g4.xs ((xs.getD k Xt.zero).id)).id),(vU32 (extG g4.xs ((xs.getD k Xt.zero).id)).bl)])),(40,(.bool (hasX g4.xs ((xs.getD k Xt.zero).id))))]) wS:=fun wS HS=>by
      rw [hW]
      refine wh1 10<|kH 10 rfl (op_alloc HS Fa.I207 (fun b25201 w25201 H25201=>(⟨⟨_,H25201⟩,?_⟩)))
      exact WH.cw hW (st9_5 b25201 w25201 H25201)
    have st9_4: ∀(b25201:Nat) (wS:World),Owl.Own [] w wS [a9_0,a9_1,a9_2,a9_3,a9_4,a9_5,a9_6,a9_7,a9_8,a9_9,a9_10,a9_11,.blk b25201 [(vU32 0),(vU32 0)] 207]→W 6 (bz 13 1087) (e9 [(9,(ptr b25201 0)),(35,(.agg #[(vU32 g4.pg),g4.ev,g4.pv,(.bool g4.con)])),(37,(vU32 (xs.getD k Xt.zero).id))]) wS:=by
      intro b25201 wS HS
      rw [hW]
      refine wh1 6<|kH 6 rfl (op_callF Fa.C235 rfl ((extent_ok g4.pg _ _ g4.xs g4.ps g4.con ((xs.getD k Xt.zero).id) _ (HS.arrO (i:=8) rfl) (HS.arrO (i:=9) rfl) (by omega) (by omega)).mono (fun e w25121 hq=>?_)))
      obtain ⟨rfl,hf25121⟩:=hq
      refine ⟨_,rfl,?_⟩
      have H25121:=HS.fr' hf25121
      refine ⟨⟨_,H25121⟩,?_⟩
      exact xt 7 rfl (.tuple #[(.agg #[(vU32 (extG g4.xs ((xs.getD k Xt.zero).id)).id),(vU32 (extG g4.xs ((xs.getD k Xt.zero).id)).bl)]),(.bool (hasX g4.xs ((xs.getD k Xt.zero).id)))]) H25121 (fun _ _ HX=>op_move rfl ⟨rfl,rfl⟩)<|xt 8 rfl (.agg #[(vU32 (extG g4.xs ((xs.getD k Xt.zero).id)).id),(vU32 (extG g4.xs ((xs.getD k Xt.zero).id)).bl)]) H25121 (fun _ _ HX=>op_extract rfl rfl ⟨rfl,rfl⟩)<|xt 9 rfl (.bool (hasX g4.xs ((xs.getD k Xt.zero).id))) H25121 (fun _ _ HX=>op_extract rfl rfl ⟨rfl,rfl⟩)<|WH.cw hW (st9_5 b25201 w25121 H25121)
    have st9_1: ∀wS,Owl.Own [] w wS [a9_0,a9_1,a9_2,a9_3,a9_4,a9_5,a9_6,a9_7,a9_8,a9_9,a9_10,a9_11]→W 7 (bz 13 63) (e9 [(35,(.agg #[(vU32 g4.pg),g4.ev,g4.pv,(.bool g4.con)])),(37,(vU32 (xs.getD k Xt.zero).id))]) wS:=fun wS HS=>by
      rw [hW]
      refine wh2 6 10 ?_ ?_
      ·
        refine kH 6 rfl (cq HS Fa.C235 rfl (extent_ok g4.pg _ _ g4.xs g4.ps g4.con ((xs.getD k Xt.zero).id) _ (HS.arrO (i:=8) rfl) (HS.arrO (i:=9) rfl) (by omega) (by omega)) fun w25121 H25121=>(⟨⟨_,H25121⟩,?_⟩))
        exact xt 7 rfl (.tuple #[(.agg #[(vU32 (extG g4.xs ((xs.getD k Xt.zero).id)).id),(vU32 (extG g4.xs ((xs.getD k Xt.zero).id)).bl)]),(.bool (hasX g4.xs ((xs.getD k Xt.zero).id)))]) H25121 (fun _ _ HX=>op_move rfl ⟨rfl,rfl⟩)<|xt 8 rfl (.agg #[(vU32 (extG g4.xs ((xs.getD k Xt.zero).id)).id),(vU32 (extG g4.xs ((xs.getD k Xt.zero).id)).bl)]) H25121 (fun _ _ HX=>op_extract rfl rfl ⟨rfl,rfl⟩)<|xt 9 rfl (.bool (hasX g4.xs ((xs.getD k Xt.zero).id))) H25121 (fun _ _ HX=>op_extract rfl rfl ⟨rfl,rfl⟩)<|WH.cw hW (st9_3 w25121 H25121)
      refine kH 10 rfl (op_alloc HS Fa.I207 (fun b25201 w25201 H25201=>(⟨⟨_,H25201⟩,?_⟩)))
      exact WH.cw hW (st9_4 b25201 w25201 H25201)
    have st9_2: ∀(b25201:Nat) (wS:World),Owl.Own [] w wS [a9_0,a9_1,a9_2,a9_3,a9_4,a9_5,a9_6,a9_7,a9_8,a9_9,a9_10,a9_11,.blk b25201 [(vU32 0),(vU32 0)] 207]→W 9 (bz 13 1073) (e9 [(9,(ptr b25201 0)),(32,(ptr g4.b 0)),(37,(vU32 (xs.getD k Xt.zero).id))]) wS:=by
      intro b25201 wS HS
      rw [hW]
      refine wh1 1<|kH 1 rfl (op_nilCheck rfl (⟨⟨_,HS⟩,?_⟩))
      exact xt 2 rfl (ptr g4.b 0) HS (fun _ _ HX=>op_fieldAddr rfl Fa.F199_0 ⟨rfl,rfl⟩)<|xt 3 rfl (.agg #[(vU32 g4.pg),g4.ev,g4.pv,(.bool g4.con)]) HS (fun _ _ HX=>op_loadS (vs:=[_,_,_,_]) rfl (HX.cellsO (i:=7) rfl rfl) Tryz.underlying40 rfl Fa.I40 rfl ⟨rfl,rfl⟩)<|WH.cw hW (st9_4 b25201 wS HS)
    have st9_0: ∀wS,Owl.Own [] w wS [a9_0,a9_1,a9_2,a9_3,a9_4,a9_5,a9_6,a9_7,a9_8,a9_9,a9_10,a9_11]→W 10 (bz 13 49) (e9 [(32,(ptr g4.b 0)),(37,(vU32 (xs.getD k Xt.zero).id))]) wS:=fun wS HS=>by
      rw [hW]
      refine wh2 1 10 ?_ ?_
      ·
        refine kH 1 rfl (op_nilCheck rfl (⟨⟨_,HS⟩,?_⟩))
        exact xt 2 rfl (ptr g4.b 0) HS (fun _ _ HX=>op_fieldAddr rfl Fa.F199_0 ⟨rfl,rfl⟩)<|xt 3 rfl (.agg #[(vU32 g4.pg),g4.ev,g4.pv,(.bool g4.con)]) HS (fun _ _ HX=>op_loadS (vs:=[_,_,_,_]) rfl (HX.cellsO (i:=7) rfl rfl) Tryz.underlying40 rfl Fa.I40 rfl ⟨rfl,rfl⟩)<|WH.cw hW (st9_1 wS HS)
      refine kH 10 rfl (op_alloc HS Fa.I207 (fun b25201 w25201 H25201=>(⟨⟨_,H25201⟩,?_⟩)))
      exact WH.cw hW (st9_2 b25201 w25201 H25201)
    have hq:=st9_0 w14 H14
    rw [hW] at hq ⊢
    exact WH.cv hq
  refine WC.exit<|WQ.thenExit<|WQ.thenExit<|WQ.inHere<|WQ.inNormal ?_
  exact WQ.round ((sn++[g4]),rs4) ⟨⟨hp4,fun g' hg'=>by
    rcases List.mem_append.1 hg' with h9 | h9
    · exact hno g' h9
    · rw [List.mem_singleton] at h9; subst h9; rw [busyG,hb9,any_no (d:=Xt.zero) (fun j hj=>hok j (by omega))]; rfl⟩,(H10.take 7)⟩ ⟨rfl,rfl,trivial⟩ (by show rs4.length<rst.length; omega)
theorem full_ok (c:Nat) (pg:UInt32) (hv:Value) (he:List UInt32) (mb cn:Nat) (gs:List Gr) (mp:UInt32) (ev pv:Value) (xs:List Xt) (ps:List UInt16) (con:Bool) (pb:Nat) (pages:UInt32) (w:World) (hC:cellsAt w c [(vU32 pg),hv,(.map (some mb))]) (hH:Arr w hv 1 he.length (List.map vU32 he)) (hM:w.heap[mb]?=some (mP .i64 (List.map Gr.me gs) cn)) (hG:BsOK 199 Gr.cells Gr.b gs w) (hS:grD.list.ok w gs) (hPb:cellsAt w pb [(vU32 pages)]) (hME:MEok (List.map Gr.me gs) cn) (_hE:Arr w ev 2 xs.length (List.flatMap xtc xs)) (_hP:Arr w pv 1 ps.length (List.map vU16 ps)) :
  Calls Tryz.prog 173 #[(ptr c 0),(.agg #[(vU32 mp),ev,pv,(.bool con)]),(ptr pb 0)] w (fun e w'=>e=.returned (vN (fullE pg gs mp pages))∧Fr [] w w'):=by
 refine enter Tryz.func173 rfl rfl ?_
 have H0:=(((((((Own.start w []).oldB hC).oldA hH).mpOld hM).bsOld hG).dpOld hS).oldB hPb)
 refine ws<|wo (op_box H0 rfl rfl (fun b1 w1 H1=>(wa rfl<|wn<|WC.seq<|WC.seq<|WC.draw 7 Fa.M H1 (oh (fun w1 H1=>op_fieldAddr rfl Fa.F40_0 zr)<|oh (fun w1 H1=>op_load rfl (H1.cell (i:=6) rfl rfl) Tryz.underlying22 rfl zr)<|oh (fun w1 H1=>op_load rfl (H1.cellO (i:=5) rfl rfl) Tryz.underlying22 rfl zr)<|oh (fun w1 H1=>op_addU32 rfl rfl zr)<|mh rfl<|oh (fun w1 H1=>op_callF Fa.C60 rfl ((free_ok c pg hv he mb cn gs _ (H1.cellsAtO (i:=0) rfl) (H1.arrO (i:=1) rfl) (H1.mpO (i:=2) rfl) (H1.bsR (i:=3) rfl) (H1.dpO (i:=4) rfl) hME).mono (fun e w2 hq=>⟨_,hq.1,rfl,hq.2⟩)))<|oh (fun w1 H1=>op_gtrU32 rfl rfl zr)  HW.nil) (by kernel_rfl) ?_)))
 intro β3 w3 H3
 refine wn (wE ((mp+pages)>(freeS pg gs)) (fun hb4 hc4=>?_) (fun hb4 hc4=>?_))
 ·
  exact ws<|wa rfl<|wn<|WC.ret<|WQ.thenRet<|WQ.out (.tmp rfl .nil) (⟨by rw [fullE,if_pos (dT hb4)]; rfl,H3.fr⟩)
 exact WC.skip<|WQ.next<|ws<|wa rfl<|wn<|WC.ret<|WQ.out (.tmp rfl .nil) (⟨by rw [fullE,if_neg (dF hb4)]; rfl,H3.fr⟩)
theorem each_ok (c:Nat) (pg:UInt32) (hv:Value) (he:List UInt32) (mb cn:Nat) (gs:List Gr) (mp:UInt32) (ev pv:Value) (xs:List Xt) (ps:List UInt16) (con:Bool) (pb:Nat) (pages:UInt32) (lv:Value) (w:World) (hC:cellsAt w c [(vU32 pg),hv,(.map (some mb))]) (hH:Arr w hv 1 he.length (List.map vU32 he)) (hM:w.heap[mb]?=some (mP .i64 (List.map Gr.me gs) cn)) (hG:BsOK 199 Gr.cells Gr.b gs w) (hS:grD.list.ok w gs) (hPb:cellsAt w pb [(vU32 pages)]) (hME:MEok (List.map Gr.me gs) cn) (hfit: ∀g∈gs,g.ps.length<2^40∧g.xs.length<2^40) (hE:Arr w ev 2 xs.length (List.flatMap xtc xs)) (hP:Arr w pv 1 ps.length (List.map vU16 ps)) (hn:xs.length<2^40) (hm:ps.length<2^40) (hhe:he.length<2^32) (hL:Arr w lv 1 4 [(.func (.func 208) #[] #[]),(.func (.func 209) #[] #[]),(.func (.func 210) #[] #[]),(.func (.func 173) #[] #[(ptr pb 0)])]) :
  Calls Tryz.prog 207 #[(ptr c 0),(.agg #[(vU32 mp),ev,pv,(.bool con)]),lv] w (fun e w'=>e=.returned (vN (whyE pg he gs mp xs ps pages))∧Fr [] w w'):=by
 refine enter Tryz.func207 rfl rfl ?_
 have H0:=(((((((Own.start w []).oldB hC).oldA hH).mpOld hM).bsOld hG).dpOld hS).oldB hPb)
 refine ws<|wo (op_box H0 rfl rfl (fun b1 w1 H1=>(wa rfl<|wn<|WC.seq<|ws<|wm rfl<|wo (op_lenA Tryz.underlying332 rfl (H1.arr hL)<|wm rfl<|wn<|WC.block<|WC.unroll 4<|ws<|wo (op_lssN rfl rfl<|wn<|WC.seq<|WC.yes rfl rfl<|WC.skip<|WQ.next<|WC.seq<|WC.block<|ws<|wo (op_indexAddr1 Tryz.underlying332 Fa.I308 rfl (H1.arr hL) rfl (by simp)<|wo (op_load rfl ((H1.arr hL).at rfl) Tryz.underlying308 rfl<|wa rfl<|wn<|ws<|wm rfl<|wm rfl<|wo (op_loadS (vs:=[_,_,_,_]) rfl (H1.cells (i:=6) rfl rfl) Tryz.underlying40 rfl Fa.I40 rfl<|wo (op_call (f:=208) rfl Fa.C208 rfl ((none_ok c pg hv he mb cn gs mp _ _ xs ps con _ (H1.cellsAtO (i:=0) rfl) (H1.arrO (i:=1) rfl) (H1.mpO (i:=2) rfl) (H1.bsR (i:=3) rfl) (H1.dpO (i:=4) rfl) hME (H1.arr hE) (H1.arr hP) hn hm hhe).mono (fun e w2 hq=>?_)))))))))))
 obtain ⟨rfl,hf2⟩:=hq
 refine ⟨_,rfl,?_⟩
 have H2:=H1.fr' hf2
 refine wa rfl<|wn<|ws<|wm rfl<|wo (op_neqN (b:=0) rfl rfl<|wn (wE ((noneE he xs)≠0) (fun hb3 hc3=>?_) (fun hb3 hc3=>?_)))
 ·
  exact ws<|wm rfl<|wa rfl<|wn<|WC.ret<|WQ.inRet<|WQ.thenRet<|WQ.thenRet<|WQ.inRet<|WQ.thenRet<|WQ.out (.tmp rfl .nil) (⟨by rw [whyE,if_pos (dT hb3)]; rfl,H2.fr⟩)
 refine WC.skip<|WQ.inNormal<|WQ.next<|WC.region<|wo (op_addN (b:=1) rfl rfl (by simp)<|wm rfl<|WL.nil<|WQ.again<|ws<|wo (op_lssN rfl rfl<|wn<|WC.seq<|WC.yes rfl rfl<|WC.skip<|WQ.next<|WC.seq<|WC.block<|ws<|wo (op_indexAddr1 Tryz.underlying332 Fa.I308 rfl (H2.arr hL) rfl (by simp)<|wo (op_load rfl ((H2.arr hL).at rfl) Tryz.underlying308 rfl<|wa rfl<|wn<|ws<|wm rfl<|wm rfl<|wo (op_loadS (vs:=[_,_,_,_]) rfl (H2.cells (i:=6) rfl rfl) Tryz.underlying40 rfl Fa.I40 rfl<|wo (op_call (f:=209) rfl Fa.C209 rfl ((long_ok c pg hv he mb cn gs mp _ _ xs ps con _ (H2.cellsAtO (i:=0) rfl) (H2.arrO (i:=1) rfl) (H2.mpO (i:=2) rfl) (H2.bsR (i:=3) rfl) (H2.dpO (i:=4) rfl) hME (H2.arr hE) (H2.arr hP) hn hm hhe).mono (fun e w4 hq=>?_))))))))
 obtain ⟨rfl,hf4⟩:=hq
 refine ⟨_,rfl,?_⟩
 have H4:=H2.fr' hf4
 refine wa rfl<|wn<|ws<|wm rfl<|wo (op_neqN (b:=0) rfl rfl<|wn (wE ((longE he xs)≠0) (fun hb5 hc5=>?_) (fun hb5 hc5=>?_)))
 ·
  exact ws<|wm rfl<|wa rfl<|wn<|WC.ret<|WQ.inRet<|WQ.thenRet<|WQ.thenRet<|WQ.inRet<|WQ.thenRet<|WQ.out (.tmp rfl .nil) (⟨by rw [whyE,if_neg (dF hb3),if_pos (dT hb5)]; rfl,H4.fr⟩)
 refine WC.skip<|WQ.inNormal<|WQ.next<|WC.region<|wo (op_addN (b:=1) rfl rfl (by simp)<|wm rfl<|WL.nil<|WQ.again<|ws<|wo (op_lssN rfl rfl<|wn<|WC.seq<|WC.yes rfl rfl<|WC.skip<|WQ.next<|WC.seq<|WC.block<|ws<|wo (op_indexAddr1 Tryz.underlying332 Fa.I308 rfl (H4.arr hL) rfl (by simp)<|wo (op_load rfl ((H4.arr hL).at rfl) Tryz.underlying308 rfl<|wa rfl<|wn<|ws<|wm rfl<|wm rfl<|wo (op_loadS (vs:=[_,_,_,_]) rfl (H4.cells (i:=6) rfl rfl) Tryz.underlying40 rfl Fa.I40 rfl<|wo (op_call (f:=210) rfl Fa.C210 rfl ((busy_ok c pg hv he mb cn gs mp _ _ xs ps con _ (H4.cellsAtO (i:=0) rfl) (H4.arrO (i:=1) rfl) (H4.mpO (i:=2) rfl) (H4.bsR (i:=3) rfl) (H4.dpO (i:=4) rfl) hME hfit (H4.arr hE) (H4.arr hP) hn hm hhe).mono (fun e w6 hq=>?_))))))))
 obtain ⟨rfl,hf6⟩:=hq
 refine ⟨_,rfl,?_⟩
 have H6:=H4.fr' hf6
 refine wa rfl<|wn<|ws<|wm rfl<|wo (op_neqN (b:=0) rfl rfl<|wn (wE ((busyE gs xs ps)≠0) (fun hb7 hc7=>?_) (fun hb7 hc7=>?_)))
 ·
  exact ws<|wm rfl<|wa rfl<|wn<|WC.ret<|WQ.inRet<|WQ.thenRet<|WQ.thenRet<|WQ.inRet<|WQ.thenRet<|WQ.out (.tmp rfl .nil) (⟨by rw [whyE,if_neg (dF hb3),if_neg (dF hb5),if_pos (dT hb7)]; rfl,H6.fr⟩)
 refine WC.skip<|WQ.inNormal<|WQ.next<|WC.region<|wo (op_addN (b:=1) rfl rfl (by simp)<|wm rfl<|WL.nil<|WQ.again<|ws<|wo (op_lssN rfl rfl<|wn<|WC.seq<|WC.yes rfl rfl<|WC.skip<|WQ.next<|WC.seq<|WC.block<|ws<|wo (op_indexAddr1 Tryz.underlying332 Fa.I308 rfl (H6.arr hL) rfl (by simp)<|wo (op_load rfl ((H6.arr hL).at rfl) Tryz.underlying308 rfl<|wa rfl<|wn<|ws<|wm rfl<|wm rfl<|wo (op_loadS (vs:=[_,_,_,_]) rfl (H6.cells (i:=6) rfl rfl) Tryz.underlying40 rfl Fa.I40 rfl<|wo (op_call (f:=173) rfl Fa.C173 rfl ((full_ok c pg hv he mb cn gs mp _ _ xs ps con pb pages _ (H6.cellsAtO (i:=0) rfl) (H6.arrO (i:=1) rfl) (H6.mpO (i:=2) rfl) (H6.bsR (i:=3) rfl) (H6.dpO (i:=4) rfl) (H6.cellsAtO (i:=5) rfl) hME (H6.arr hE) (H6.arr hP)).mono (fun e w8 hq=>?_))))))))
 obtain ⟨rfl,hf8⟩:=hq
 refine ⟨_,rfl,?_⟩
 have H8:=H6.fr' hf8
 refine wa rfl<|wn<|ws<|wm rfl<|wo (op_neqN (b:=0) rfl rfl<|wn (wE ((fullE pg gs mp pages)≠0) (fun hb9 hc9=>?_) (fun hb9 hc9=>?_)))
 ·
  exact ws<|wm rfl<|wa rfl<|wn<|WC.ret<|WQ.inRet<|WQ.thenRet<|WQ.thenRet<|WQ.inRet<|WQ.thenRet<|WQ.out (.tmp rfl .nil) (⟨by rw [whyE,if_neg (dF hb3),if_neg (dF hb5),if_neg (dF hb7)]; rfl,H8.fr⟩)
 exact WC.skip<|WQ.inNormal<|WQ.next<|WC.region<|wo (op_addN (b:=1) rfl rfl (by simp)<|wm rfl<|WL.nil<|WQ.again<|ws<|wo (op_lssN rfl rfl<|wn<|WC.seq<|WC.no rfl rfl<|WC.exit<|WQ.thenExit<|WQ.thenExit<|WQ.inHere<|WQ.next<|ws<|wa rfl<|wn<|WC.ret<|WQ.out (.tmp rfl .nil) (⟨by rw [whyE,if_neg (dF hb3),if_neg (dF hb5),if_neg (dF hb7),show fullE pg gs mp pages=0 from Classical.not_not.1 (dF hb9)]; rfl,H8.fr⟩)))
theorem call_ok (c:Nat) (pg:UInt32) (hv:Value) (he:List UInt32) (mb cn:Nat) (gs:List Gr) (mp:UInt32) (ev pv:Value) (xs:List Xt) (ps:List UInt16) (con:Bool) (pb:Nat) (pages:UInt32) (w:World) (hC:cellsAt w c [(vU32 pg),hv,(.map (some mb))]) (hH:Arr w hv 1 he.length (List.map vU32 he)) (hM:w.heap[mb]?=some (mP .i64 (List.map Gr.me gs) cn)) (hG:BsOK 199 Gr.cells Gr.b gs w) (hS:grD.list.ok w gs) (hPb:cellsAt w pb [(vU32 pages)]) (hME:MEok (List.map Gr.me gs) cn) (hfit: ∀g∈gs,g.ps.length<2^40∧g.xs.length<2^40) (hE:Arr w ev 2 xs.length (List.flatMap xtc xs)) (hP:Arr w pv 1 ps.length (List.map vU16 ps)) (hn:xs.length<2^40) (hm:ps.length<2^40) (hhe:he.length<2^32) :
  Calls Tryz.prog 174 #[(ptr c 0),(.agg #[(vU32 mp),ev,pv,(.bool con)]),(.func (.func 173) #[] #[(ptr pb 0)])] w (fun e w'=>e=.returned (vN (whyE pg he gs mp xs ps pages))∧Fr [] w w'):=by
 refine enter Tryz.func174 rfl rfl ?_
 have H0:=(((((((Own.start w []).oldB hC).oldA hH).mpOld hM).bsOld hG).dpOld hS).oldB hPb)
 exact ws<|wo (op_box H0 rfl rfl (fun b1 w1 H1=>(wa rfl<|wn<|ws<|wm rfl<|wo (op_loadS (vs:=[_,_,_,_]) rfl (H1.cells (i:=6) rfl rfl) Tryz.underlying40 rfl Fa.I40 rfl<|wm rfl<|wo (op_buildSlice (cs:=[_,_,_,_]) H1 Tryz.underlying332 Fa.I308 rfl rfl rfl rfl (by decide) (by decide) (fun b2 w2 H2=>(wo (cq H2 Fa.C207 rfl (each_ok c pg hv he mb cn gs mp _ _ xs ps con pb pages _ _ (H2.cellsAtO (i:=0) rfl) (H2.arrO (i:=1) rfl) (H2.mpO (i:=2) rfl) (H2.bsR (i:=3) rfl) (H2.dpO (i:=4) rfl) (H2.cellsAtO (i:=5) rfl) hME hfit (H2.arr hE) (H2.arr hP) hn hm hhe (H2.arrR (i:=7) rfl)) fun w3 H3=>(wa rfl<|wn<|WC.ret<|WQ.out (.tmp rfl .nil) (⟨rfl,H3.fr⟩))))))))))
theorem cloneX_ok (lv:Value) (l:List Xt) (w:World) (hA:Arr w lv 2 l.length (List.flatMap xtc l)) (hn:l.length<2^40) :
  Calls Tryz.prog 171 #[lv] w (fun e w'=> ∃v,e=.returned v∧Owl.Own [] w w' [.row v 207 2 l.length (List.flatMap xtc l)]):=by
 refine enter Tryz.func171 rfl rfl ?_
 have H0:=Own.start w []
 refine ws<|wa rfl<|wn<|WC.seq<|ws<|wm rfl<|wo (op_eqlSN Tryz.underlying37 rfl (H0.arr hA) rfl<|wn (wC (isNilS lv) (fun hb1=>?_) (fun hb1=>?_)))
 ·
  refine ws<|wa rfl<|wn<|WC.ret<|WQ.thenRet<|WQ.out (.tmp rfl .nil) ?_
  obtain rfl:l=[]:=List.eq_nil_of_length_eq_zero (hA.isNil0 hb1).1
  exact ⟨_,rfl,(H0.sel [] rfl rfl).nilRow 207 2⟩
 refine WC.skip<|WQ.next<|ws<|wo (op_buildSlice (cs:=[]) H0 Tryz.underlying37 Fa.I207 rfl rfl rfl rfl (by decide) (by decide) (fun b2 w2 H2=>(wm rfl<|wo (op_appendF (f:=xtc) (l:=[]) (l':=l) (i:=0) H2 Tryz.underlying37 Fa.I207 rfl rfl rfl rfl (Src.ofArr Tryz.underlying37 (H2.arr hA)) (one_flat (fun _=>by simp [xtc,Value.oneCell'])) (by omega) (by omega) (fun v3 w3 H3=>(wa rfl<|wn<|WC.ret<|WQ.out (.tmp rfl .nil) ?_))))))
 have h:=H3.sel [0] rfl rfl
 rw [Nat.zero_add,List.nil_append] at h
 exact ⟨_,rfl,h⟩
theorem clone16_ok (lv:Value) (l:List UInt16) (w:World) (hA:Arr w lv 1 l.length (List.map vU16 l)) (hn:l.length<2^40) :
  Calls Tryz.prog 172 #[lv] w (fun e w'=> ∃v,e=.returned v∧Owl.Own [] w w' [.row v 203 1 l.length (List.map vU16 l)]):=by
 refine enter Tryz.func172 rfl rfl ?_
 have H0:=Own.start w []
 refine ws<|wa rfl<|wn<|WC.seq<|ws<|wm rfl<|wo (op_eqlSN Tryz.underlying38 rfl (H0.arr hA) rfl<|wn (wC (isNilS lv) (fun hb1=>?_) (fun hb1=>?_)))
 ·
  refine ws<|wa rfl<|wn<|WC.ret<|WQ.thenRet<|WQ.out (.tmp rfl .nil) ?_
  obtain rfl:l=[]:=List.eq_nil_of_length_eq_zero (hA.isNil0 hb1).1
  exact ⟨_,rfl,(H0.sel [] rfl rfl).nilRow 203 1⟩
 refine WC.skip<|WQ.next<|ws<|wo (op_buildSlice (cs:=[]) H0 Tryz.underlying38 Fa.I203 rfl rfl rfl rfl (by decide) (by decide) (fun b2 w2 H2=>(wm rfl<|wo (op_append (i:=0) H2 Tryz.underlying38 Fa.I203 rfl rfl rfl rfl (Src.ofArr Tryz.underlying38 (H2.arr hA)) (by simp [Value.oneCell']) (by omega) (by omega) (fun v3 w3 H3=>(wa rfl<|wn<|WC.ret<|WQ.out (.tmp rfl .nil) ?_))))))
 have h:=H3.sel [0] rfl rfl
 rw [Nat.zero_add,List.nil_append] at h
 exact ⟨_,rfl,h⟩
theorem grant_no (c:Nat) (pg:UInt32) (hv:Value) (he:List UInt32) (mb cn:Nat) (gs:List Gr) (en:Nat) (mp:UInt32) (ev pv:Value) (xs:List Xt) (ps:List UInt16) (con:Bool) (pages:UInt32) (T:List Nat) (w:World) (H:Owl.Own T w w [.blk c [(vU32 pg),hv,(.map (some mb))] 196,Ent.ar hv 1 he.length (List.map vU32 he),.obj mb (mP .i64 (List.map Gr.me gs) cn),Ent.bs 199 Gr.cells Gr.b gs,Ent.dp grD.list gs,Ent.ar ev 2 xs.length (List.flatMap xtc xs),Ent.ar pv 1 ps.length (List.map vU16 ps)]) (hME:MEok (List.map Gr.me gs) cn) (h1:1≤en) (h8:en≤8) (hn:xs.length<2^40) (hm:ps.length<2^40) (hhe:he.length<2^32) (hfit: ∀g∈gs,g.ps.length<2^40∧g.xs.length<2^40) (hmf:mfE mp xs ps=0) (hpg:¬pages>4096) (no: ∀g∈gs,(g.e:Int)≠(en:Int)) (hw:(whyE pg he gs mp xs ps pages)≠0) :
  Calls Tryz.prog 132 #[(ptr c 0),(vN en),(.agg #[(vU32 mp),ev,pv,(.bool con)]),(vU32 pages)] w (fun e w'=>e=.returned (vN (whyE pg he gs mp xs ps pages))∧Owl.Own T w w' [.blk c [(vU32 pg),hv,(.map (some mb))] 196,Ent.ar hv 1 he.length (List.map vU32 he),.obj mb (mP .i64 (List.map Gr.me gs) cn),Ent.bs 199 Gr.cells Gr.b gs,Ent.dp grD.list gs,Ent.ar ev 2 xs.length (List.flatMap xtc xs),Ent.ar pv 1 ps.length (List.map vU16 ps)]):=by
 exact enter Tryz.func132 rfl rfl<|ws<|wo (op_box H rfl rfl (fun b1 w1 H1=>(wo (op_box H1 rfl rfl (fun b2 w2 H2=>(wa rfl<|wn<|WC.seq<|WC.block<|ws<|wm rfl<|wo (op_eqlPN Fa.PT110 rfl rfl<|wa rfl<|wn<|WC.no rfl rfl<|ws<|wm rfl<|wo (op_lssN (b:=1) rfl rfl<|wm rfl<|WL.yes rfl rfl rfl (decide_eq_false (by omega)) rfl (op_move rfl<|WL.yes rfl rfl rfl (decide_eq_false (by omega)) rfl (op_gtrN (b:=8) rfl rfl<|wo (op_pickF rfl (decide_eq_false (by omega)) rfl<|wm rfl<|WL.yes rfl rfl rfl (decide_eq_false (by omega)) rfl (op_loadS (vs:=[_,_,_,_]) rfl (H2.cells (i:=7) rfl rfl) Tryz.underlying40 rfl Fa.I40 rfl<|WL.yes rfl rfl rfl (decide_eq_false (by omega)) rfl (cq H2 Fa.C90 rfl (dcheck_ok mp _ _ xs ps con _ (H2.arrO (i:=5) rfl) (H2.arrO (i:=6) rfl) (by omega) (by omega)) fun w3 H3=>(WL.yes rfl rfl rfl (decide_eq_false (by omega)) rfl (op_neqN (b:=0) rfl rfl<|wo (op_pickF rfl (decide_eq_false (by omega)) rfl<|wm rfl<|WL.yes rfl rfl rfl (decide_eq_false (fun h=>h hmf)) rfl (op_load rfl (H3.cell (i:=8) rfl rfl) Tryz.underlying22 rfl<|WL.yes rfl rfl rfl (decide_eq_false (fun h=>h hmf)) rfl (op_gtrU32 (b:=4096) rfl rfl<|wo (op_pickF rfl (decide_eq_false (fun h=>h hmf)) rfl<|wa rfl<|wn<|WC.no rfl (decide_eq_false hpg)<|ws<|wm rfl<|wo (op_nilCheck rfl<|wo (op_fieldAddr rfl Fa.F196_1<|wo (op_load rfl (H3.cell (i:=0) rfl rfl) Tryz.underlying194 rfl<|wm rfl<|wo (op_lookG_no (H3.mp (i:=2) rfl) no Tryz.underlying194 Tryz.underlying3 Fa.Z197 rfl rfl<|wo (op_neqPN Fa.PT197 rfl rfl<|wa rfl<|wn<|WC.no rfl rfl<|WC.skip<|WQ.inNormal<|WQ.next<|ws<|wo (op_makeFunc rfl rfl<|wa rfl<|wn<|WC.seq<|ws<|wm rfl<|wo (op_loadS (vs:=[_,_,_,_]) rfl (H3.cells (i:=7) rfl rfl) Tryz.underlying40 rfl Fa.I40 rfl<|wm rfl<|wo (cq H3 Fa.C174 rfl (call_ok c pg hv he mb cn gs mp _ _ xs ps con b2 pages _ (H3.cellsAt (i:=0) rfl) (H3.arrO (i:=1) rfl) (H3.mp (i:=2) rfl) (H3.bsG (i:=3) rfl) (H3.dpO (i:=4) rfl) (H3.cellsAt (i:=8) rfl) hME hfit (H3.arrO (i:=5) rfl) (H3.arrO (i:=6) rfl) hn hm hhe) fun w4 H4=>(wa rfl<|wn<|ws<|wm rfl<|wo (op_neqN (b:=0) rfl rfl<|wn<|WC.yes rfl (decide_eq_true hw)<|ws<|wm rfl<|wa rfl<|wn<|WC.ret<|WQ.thenRet<|WQ.out (.tmp rfl .nil) (⟨rfl,H4.sel [0,1,2,3,4,5,6] rfl rfl⟩))))))))))))))))))))))))))))))
theorem grant_have (c:Nat) (pg:UInt32) (hv:Value) (he:List UInt32) (mb cn:Nat) (gs:List Gr) (en:Nat) (mp:UInt32) (ev pv:Value) (xs:List Xt) (ps:List UInt16) (con:Bool) (pages:UInt32) (g:Gr) (T:List Nat) (w:World) (H:Owl.Own T w w [.blk c [(vU32 pg),hv,(.map (some mb))] 196,Ent.ar hv 1 he.length (List.map vU32 he),.obj mb (mP .i64 (List.map Gr.me gs) cn),Ent.bs 199 Gr.cells Gr.b gs,Ent.dp grD.list gs,Ent.ar ev 2 xs.length (List.flatMap xtc xs),Ent.ar pv 1 ps.length (List.map vU16 ps)]) (hME:MEok (List.map Gr.me gs) cn) (h1:1≤en) (h8:en≤8) (hn:xs.length<2^40) (hm:ps.length<2^40) (_hhe:he.length<2^32) (_hfit: ∀g∈gs,g.ps.length<2^40∧g.xs.length<2^40) (hmf:mfE mp xs ps=0) (hpg:¬pages>4096) (hg:g∈gs) (hge:(g.e:Int)=(en:Int)) :
  Calls Tryz.prog 132 #[(ptr c 0),(vN en),(.agg #[(vU32 mp),ev,pv,(.bool con)]),(vU32 pages)] w (fun e w'=>e=.returned (vN 9)∧Owl.Own T w w' [.blk c [(vU32 pg),hv,(.map (some mb))] 196,Ent.ar hv 1 he.length (List.map vU32 he),.obj mb (mP .i64 (List.map Gr.me gs) cn),Ent.bs 199 Gr.cells Gr.b gs,Ent.dp grD.list gs,Ent.ar ev 2 xs.length (List.flatMap xtc xs),Ent.ar pv 1 ps.length (List.map vU16 ps)]):=by
 exact enter Tryz.func132 rfl rfl<|ws<|wo (op_box H rfl rfl (fun b1 w1 H1=>(wo (op_box H1 rfl rfl (fun b2 w2 H2=>(wa rfl<|wn<|WC.seq<|WC.block<|ws<|wm rfl<|wo (op_eqlPN Fa.PT110 rfl rfl<|wa rfl<|wn<|WC.no rfl rfl<|ws<|wm rfl<|wo (op_lssN (b:=1) rfl rfl<|wm rfl<|WL.yes rfl rfl rfl (decide_eq_false (by omega)) rfl (op_move rfl<|WL.yes rfl rfl rfl (decide_eq_false (by omega)) rfl (op_gtrN (b:=8) rfl rfl<|wo (op_pickF rfl (decide_eq_false (by omega)) rfl<|wm rfl<|WL.yes rfl rfl rfl (decide_eq_false (by omega)) rfl (op_loadS (vs:=[_,_,_,_]) rfl (H2.cells (i:=7) rfl rfl) Tryz.underlying40 rfl Fa.I40 rfl<|WL.yes rfl rfl rfl (decide_eq_false (by omega)) rfl (cq H2 Fa.C90 rfl (dcheck_ok mp _ _ xs ps con _ (H2.arrO (i:=5) rfl) (H2.arrO (i:=6) rfl) (by omega) (by omega)) fun w3 H3=>(WL.yes rfl rfl rfl (decide_eq_false (by omega)) rfl (op_neqN (b:=0) rfl rfl<|wo (op_pickF rfl (decide_eq_false (by omega)) rfl<|wm rfl<|WL.yes rfl rfl rfl (decide_eq_false (fun h=>h hmf)) rfl (op_load rfl (H3.cell (i:=8) rfl rfl) Tryz.underlying22 rfl<|WL.yes rfl rfl rfl (decide_eq_false (fun h=>h hmf)) rfl (op_gtrU32 (b:=4096) rfl rfl<|wo (op_pickF rfl (decide_eq_false (fun h=>h hmf)) rfl<|wa rfl<|wn<|WC.no rfl (decide_eq_false hpg)<|ws<|wm rfl<|wo (op_nilCheck rfl<|wo (op_fieldAddr rfl Fa.F196_1<|wo (op_load rfl (H3.cell (i:=0) rfl rfl) Tryz.underlying194 rfl<|wm rfl<|wo (op_lookG_some (g:=g) (H3.mp (i:=2) rfl) hME hg hge Tryz.underlying194 Tryz.underlying3 rfl rfl<|wo (op_neqPN Fa.PT197 rfl rfl<|wa rfl<|wn<|WC.yes rfl rfl<|ws<|wa rfl<|wn<|WC.ret<|WQ.inRet<|WQ.thenRet<|WQ.out (.tmp rfl .nil) (⟨rfl,H3.sel [0,1,2,3,4,5,6] rfl rfl⟩)))))))))))))))))))))))))
theorem grant_yes (c:Nat) (pg:UInt32) (hv:Value) (he:List UInt32) (mb cn:Nat) (gs:List Gr) (en:Nat) (mp:UInt32) (ev pv:Value) (xs:List Xt) (ps:List UInt16) (con:Bool) (pages:UInt32) (T:List Nat) (w:World) (H:Owl.Own T w w [.blk c [(vU32 pg),hv,(.map (some mb))] 196,Ent.ar hv 1 he.length (List.map vU32 he),.obj mb (mP .i64 (List.map Gr.me gs) cn),Ent.bs 199 Gr.cells Gr.b gs,Ent.dp grD.list gs,Ent.ar ev 2 xs.length (List.flatMap xtc xs),Ent.ar pv 1 ps.length (List.map vU16 ps)]) (hME:MEok (List.map Gr.me gs) cn) (h1:1≤en) (h8:en≤8) (hn:xs.length<2^40) (hm:ps.length<2^40) (hhe:he.length<2^32) (hfit: ∀g∈gs,g.ps.length<2^40∧g.xs.length<2^40) (hmf:mfE mp xs ps=0) (hpg:¬pages>4096) (no: ∀g∈gs,(g.e:Int)≠(en:Int)) (hw:(whyE pg he gs mp xs ps pages)=0) (hT: ∀b∈T,b=c∨b=mb∨b∈List.map Gr.b gs) :
    Calls Tryz.prog 132 #[(ptr c 0),(vN en),(.agg #[(vU32 mp),ev,pv,(.bool con)]),(vU32 pages)] w (fun e w'=> ∃b v1 v2,e=.returned (vN 0)∧(∀x∈grD.ft (Gr.mk en b cn mp v1 xs v2 ps con pages 0),w.heap.size≤x)∧Owl.Own T w w' [.blk c [(vU32 pg),hv,(.map (some mb))] 196,Ent.ar hv 1 he.length (List.map vU32 he),.obj mb (mP .i64 (List.map Gr.me (gs++[(Gr.mk en b cn mp v1 xs v2 ps con pages 0)])) (cn+1)),Ent.bs 199 Gr.cells Gr.b (gs++[(Gr.mk en b cn mp v1 xs v2 ps con pages 0)]),Ent.dp grD.list (gs++[(Gr.mk en b cn mp v1 xs v2 ps con pages 0)]),Ent.ar ev 2 xs.length (List.flatMap xtc xs),Ent.ar pv 1 ps.length (List.map vU16 ps)]):=by
  refine enter Tryz.func132 rfl rfl<|ws<|wo (op_box H rfl rfl (fun b1 w1 H1=>(wo (op_box H1 rfl rfl (fun b2 w2 H2=>(wa rfl<|wn<|WC.seq<|WC.block<|ws<|wm rfl<|wo (op_eqlPN Fa.PT110 rfl rfl<|wa rfl<|wn<|WC.no rfl rfl<|ws<|wm rfl<|wo (op_lssN (b:=1) rfl rfl<|wm rfl<|WL.yes rfl rfl rfl (decide_eq_false (by omega)) rfl (op_move rfl<|WL.yes rfl rfl rfl (decide_eq_false (by omega)) rfl (op_gtrN (b:=8) rfl rfl<|wo (op_pickF rfl (decide_eq_false (by omega)) rfl<|wm rfl<|WL.yes rfl rfl rfl (decide_eq_false (by omega)) rfl (op_loadS (vs:=[_,_,_,_]) rfl (H2.cells (i:=7) rfl rfl) Tryz.underlying40 rfl Fa.I40 rfl<|WL.yes rfl rfl rfl (decide_eq_false (by omega)) rfl (cq H2 Fa.C90 rfl (dcheck_ok mp _ _ xs ps con _ (H2.arrO (i:=5) rfl) (H2.arrO (i:=6) rfl) (by omega) (by omega)) fun w3 H3=>(WL.yes rfl rfl rfl (decide_eq_false (by omega)) rfl (op_neqN (b:=0) rfl rfl<|wo (op_pickF rfl (decide_eq_false (by omega)) rfl<|wm rfl<|WL.yes rfl rfl rfl (decide_eq_false (fun h=>h hmf)) rfl (op_load rfl (H3.cell (i:=8) rfl rfl) Tryz.underlying22 rfl<|WL.yes rfl rfl rfl (decide_eq_false (fun h=>h hmf)) rfl (op_gtrU32 (b:=4096) rfl rfl<|wo (op_pickF rfl (decide_eq_false (fun h=>h hmf)) rfl<|wa rfl<|wn<|WC.no rfl (decide_eq_false hpg)<|ws<|wm rfl<|wo (op_nilCheck rfl<|wo (op_fieldAddr rfl Fa.F196_1<|wo (op_load rfl (H3.cell (i:=0) rfl rfl) Tryz.underlying194 rfl<|wm rfl<|wo (op_lookG_no (H3.mp (i:=2) rfl) no Tryz.underlying194 Tryz.underlying3 Fa.Z197 rfl rfl<|wo (op_neqPN Fa.PT197 rfl rfl<|wa rfl<|wn<|WC.no rfl rfl<|WC.skip<|WQ.inNormal<|WQ.next<|ws<|wo (op_makeFunc rfl rfl<|wa rfl<|wn<|WC.seq<|ws<|wm rfl<|wo (op_loadS (vs:=[_,_,_,_]) rfl (H3.cells (i:=7) rfl rfl) Tryz.underlying40 rfl Fa.I40 rfl<|wm rfl<|wo (cq H3 Fa.C174 rfl (call_ok c pg hv he mb cn gs mp _ _ xs ps con b2 pages _ (H3.cellsAt (i:=0) rfl) (H3.arrO (i:=1) rfl) (H3.mp (i:=2) rfl) (H3.bsG (i:=3) rfl) (H3.dpO (i:=4) rfl) (H3.cellsAt (i:=8) rfl) hME hfit (H3.arrO (i:=5) rfl) (H3.arrO (i:=6) rfl) hn hm hhe) fun w4 H4=>(wa rfl<|wn<|ws<|wm rfl<|wo (op_neqN (b:=0) rfl rfl<|wn<|WC.no rfl (decide_eq_false (fun h=>h hw))<|WC.skip<|WQ.next<|WC.seq<|WC.draw 7 Fa.M H4 (oh (fun w1 H1=>op_fieldAddr rfl Fa.F40_1 zr)<|oh (fun w1 H1=>op_load rfl (H1.cell (i:=7) rfl rfl) Tryz.underlying37 rfl zr)<|HW.flt (mk:=fun bq=>bq.2) (ent:=fun bq=>.row bq.2 207 2 xs.length (List.flatMap xtc xs)) rfl (fun w1 H1=>op_callF Fa.C171 rfl ((cloneX_ok _ xs _ (H1.arrO (i:=5) rfl) (by omega)).mono (fun e w2 ⟨v,he,hO⟩=>⟨_,he,(0,v),rfl,hO,True.intro⟩)))<|oh (fun w1 H1=>op_fieldAddr rfl Fa.F40_2 zr)<|oh (fun w1 H1=>op_load rfl (H1.cell (i:=7) rfl rfl) Tryz.underlying38 rfl zr)<|HW.flt (mk:=fun bq=>bq.2) (ent:=fun bq=>.row bq.2 203 1 ps.length (List.map vU16 ps)) rfl (fun w1 H1=>op_callF Fa.C172 rfl ((clone16_ok _ ps _ (H1.arrO (i:=6) rfl) (by omega)).mono (fun e w2 ⟨v,he,hO⟩=>⟨_,he,(0,v),rfl,hO,True.intro⟩)))<|oh (fun w1 H1=>op_fieldAddr rfl Fa.F40_1 zr)  HW.nil) (by kernel_rfl) ?_)))))))))))))))))))))))))))))
  intro β7 w7 H7
  refine wo (op_storeB (i:=7) H7 rfl rfl rfl rfl (Arr.one (H7.arrR (i:=9) rfl)) Fa.I37 (fun w8 H8=>(wo (op_fieldAddr rfl Fa.F40_2<|wo (op_storeB (i:=7) H8 rfl rfl rfl rfl (Arr.one (H8.arrR (i:=10) rfl)) Fa.I38 (fun w9 H9=>(wn<|WC.seq<|WC.draw 9 Fa.M H9 (mh rfl<|oh (fun w1 H1=>op_nilCheck rfl zr)<|oh (fun w1 H1=>op_fieldAddr rfl Fa.F196_1 zr)<|oh (fun w1 H1=>op_load rfl (H1.cell (i:=0) rfl rfl) Tryz.underlying194 rfl zr)<|mh rfl<|oh (fun w1 H1=>op_loadS (vs:=[_,_,_,_]) rfl (H1.cells (i:=7) rfl rfl) Tryz.underlying40 rfl Fa.I40 rfl zr)<|oh (fun w1 H1=>op_load rfl (H1.cell (i:=8) rfl rfl) Tryz.underlying22 rfl zr)<|oh (fun w1 H1=>op_build (cs:=[_,_,_,_,_,_]) Fa.I199 Fa.PL199 rfl rfl zr)<|HW.flt (mk:=fun bq=>ptr bq.1 0) (ent:=fun bq=>.blk bq.1 _ _) rfl (fun w1 _=>op_box (Own.start w1 []) rfl rfl (fun bq w2 H2=>⟨(bq,undef),rfl,H2,True.intro⟩))  HW.nil) (by kernel_rfl) ?_)))))))
  intro β10 w10 H10
  refine wo (op_updP (i:=2) (k:=en) H10 rfl Tryz.underlying194 Tryz.underlying3 (fun x hx hk=>by obtain ⟨g,hg,rfl⟩:=List.mem_map.1 hx; exact no g hg (by show ((Gr.me g).k:Int)=_; omega)) rfl rfl rfl (fun w11 H11=>?_))
  refine wn<|ws<|wa rfl<|wn<|WC.ret<|WQ.out (.tmp rfl .nil) ?_
  have h:=H11
  rw [show List.map Gr.me gs++[ME.mk en (β10 8).1 cn]=List.map Gr.me (gs++[(Gr.mk en (β10 8).1 cn mp (β7 2).2 xs (β7 5).2 ps con pages 0)]) from by rw [List.map_append]; rfl] at h
  have h2:=h.fold (i:=3) (j:=11) (f:=Gr.cells) (bl:=Gr.b) (a:=(Gr.mk en (β10 8).1 cn mp (β7 2).2 xs (β7 5).2 ps con pages 0)) (l1:=gs) (l2:=[]) (by rw [List.append_nil]; rfl) rfl rfl rfl rfl
  have hz1:=h2.rowFreshT (i:=9) rfl (fun b hb=>by
    rcases hT b hb with h9 | h9 | h9
    · exact ⟨0,_,rfl,by decide,congrArg some h9.symm⟩
    · exact ⟨2,_,rfl,by decide,congrArg some h9.symm⟩
    · exact ⟨3,_,rfl,by decide,by show b∈List.map Gr.b (gs++[_]); rw [List.map_append]; exact List.mem_append.2 (.inl h9)⟩)
  have hz2:=h2.rowFreshT (i:=10) rfl (fun b hb=>by
    rcases hT b hb with h9 | h9 | h9
    · exact ⟨0,_,rfl,by decide,congrArg some h9.symm⟩
    · exact ⟨2,_,rfl,by decide,congrArg some h9.symm⟩
    · exact ⟨3,_,rfl,by decide,by show b∈List.map Gr.b (gs++[_]); rw [List.map_append]; exact List.mem_append.2 (.inl h9)⟩)
  have h3:=(h2.freeze (i:=9) rfl).freeze (i:=10) rfl
  have h4:=h3.join (i:=9) (j:=10) (sr:=grD.st (Gr.mk en (β10 8).1 cn mp (β7 2).2 xs (β7 5).2 ps con pages 0)) rfl rfl (fun p q=>⟨p,q⟩) (fun b hb=>List.mem_append.1 hb)
  have h5:=Own.dpSnoc (D:=grD) (l:=gs) (a:=(Gr.mk en (β10 8).1 cn mp (β7 2).2 xs (β7 5).2 ps con pages 0)) (i:=4) (j:=12) h4 rfl rfl
  exact ⟨_,_,_,rfl,fun x hx=>(List.mem_append.1 hx).elim (hz1 x) (hz2 x),h5.sel [0,1,2,3,13,5,6] rfl rfl⟩
end Go.Proofs.YtbjhccnffacbcaaGreat
