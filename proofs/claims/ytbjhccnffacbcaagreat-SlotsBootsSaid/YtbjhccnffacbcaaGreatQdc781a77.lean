/- General lemmas and walks: WSeal, WSeal2, WImg14, WImg15, WSeal3, WSpc, WSpc2, WSpc3, WSpc4, WSpc5, WSeq, WSeq2, USort, USort2, USort3. No condition but what each theorem names. -/
import Derived.Test.YtbjhccnffacbcaaGreatQ1314499c
import Derived.Test.YtbjhccnffacbcaaGreatQd1c35747
import Derived.Test.YtbjhccnffacbcaaGreatQ17bab6b1
import Derived.Test.YtbjhccnffacbcaaGreatQa8c57553
import Derived.Test.YtbjhccnffacbcaaGreatQ8b263436
set_option maxRecDepth 100000
set_option maxHeartbeats 8000000
namespace Go.Proofs.YtbjhccnffacbcaaGreat
open Go.Owl Go.Spec
theorem stag_ok (key:List UInt8) (lv:Value) (ls:List (List UInt8)) (w:World) (hA:Arr w lv 1 ls.length (List.map str ls)) (hk:key.length<140737488351300) (ht:ls.length+(List.flatten ls).length<2^39) :
  Calls Tryz.prog 114 #[(str key),lv] w (fun e w'=>e=.returned (str (mac key (List.flatten ls)))∧Fr [] w w'):=by
 refine enter Tryz.func114 rfl rfl ?_
 have H0:=Own.start w []
 refine ws<|wa rfl<|wn<|ws<|wm rfl<|wo (op_callF Fa.C153 rfl ((macnew_ok key _ (by omega)).mono (fun e w1 hq=>?_)))
 obtain ⟨m1,q1,v1,rfl,hq1⟩:=hq
 refine ⟨_,rfl,?_⟩
 have H1:=H0.splice [] [] [.blk m1 [(ptr q1 0),(str (blockM key))] 293,.blk q1 [(vU32 (hst (xorL (blockM key) 54)).a),(vU32 (hst (xorL (blockM key) 54)).b),(vU32 (hst (xorL (blockM key) 54)).c),(vU32 (hst (xorL (blockM key) 54)).d),(vU32 (hst (xorL (blockM key) 54)).e),(vU32 (hst (xorL (blockM key) 54)).f),(vU32 (hst (xorL (blockM key) 54)).g),(vU32 (hst (xorL (blockM key) 54)).h),v1,(vN (xorL (blockM key) 54).length)] 325,.row v1 5 1 (hrest (xorL (blockM key) 54)).length (List.map vU8 (hrest (xorL (blockM key) 54)))] rfl rfl hq1 (Fits.solid True.intro (Fits.solid True.intro (Fits.solid True.intro Fits.nil)))
 refine wa rfl<|wn<|ws<|wm rfl<|wm rfl<|wo (op_callF Fa.C154 rfl ((macw_ok m1 q1 v1 lv (blockM key) (xorL (blockM key) 54) ls _ _ (H1.part [0,1,2] rfl rfl) (fun w1 hf=>(fun w1 hf=>hA.fr hf (by simp)) w1 (H1.frPart (I:=[0,1,2]) rfl hf)) (by first | (rw [List.length_append,xorL_length,blockM_length]; omega) | (rw [xorL_length,blockM_length]; omega)) (by omega)).mono (fun e w2 hq=>?_)))
 obtain ⟨v2,rfl,hq2⟩:=hq
 refine ⟨_,rfl,?_⟩
 have H2:=H1.splice [0,1,2] [.blk m1 [(ptr q1 0),(str (blockM key))] 293,.blk q1 [(vU32 (hst ((xorL (blockM key) 54)++ls.flatten)).a),(vU32 (hst ((xorL (blockM key) 54)++ls.flatten)).b),(vU32 (hst ((xorL (blockM key) 54)++ls.flatten)).c),(vU32 (hst ((xorL (blockM key) 54)++ls.flatten)).d),(vU32 (hst ((xorL (blockM key) 54)++ls.flatten)).e),(vU32 (hst ((xorL (blockM key) 54)++ls.flatten)).f),(vU32 (hst ((xorL (blockM key) 54)++ls.flatten)).g),(vU32 (hst ((xorL (blockM key) 54)++ls.flatten)).h),v2,(vN ((xorL (blockM key) 54)++ls.flatten).length)] 325,.row v2 5 1 (hrest ((xorL (blockM key) 54)++ls.flatten)).length (List.map vU8 (hrest ((xorL (blockM key) 54)++ls.flatten)))] [] rfl rfl hq2 (Fits.solid True.intro (Fits.solid True.intro (Fits.solid True.intro Fits.nil)))
 refine wn<|ws<|wm rfl<|wo (cq H2 Fa.C155 rfl (macs_ok m1 q1 v2 (blockM key) ((xorL (blockM key) 54)++ls.flatten) _ (H2.cellsAt (i:=0) rfl) (H2.cellsAt (i:=1) rfl) (H2.arrR (i:=2) rfl) (by first | (rw [List.length_append,xorL_length,blockM_length]; omega) | (rw [xorL_length,blockM_length]; omega)) (by rw [blockM_length]; decide)) fun w3 H3=>?_)
 exact wa rfl<|wn<|WC.ret<|WQ.out (.tmp rfl .nil) (⟨by simp [tup,mac],H3.fr⟩)
theorem sseal_ok (key:List UInt8) (pg:UInt32) (ev pv sv:Value) (xs:List Xt) (ps:List UInt16) (con:Bool) (en:UInt32) (sg:List Sg) (w:World) (hE:Arr w ev 2 xs.length (List.flatMap xtc xs)) (hP:Arr w pv 1 ps.length (List.map vU16 ps)) (hS:Arr w sv 3 sg.length (List.flatMap sgc sg)) (hk:key.length<140737488351300) (bx:xs.length≤2^20) (bp:ps.length≤2^20) (bs:sg.length≤2^10) (bb: ∀x∈sg,x.b.length≤2^30) (hL:(imB pg xs ps con en sg).length<2^38) :
  Calls Tryz.prog 55 #[(.agg #[(vU32 pg),ev,pv,(.bool con),(vU32 en),sv,(str key)])] w (fun e w'=>e=.returned (.tuple #[str (slS key pg xs ps con en sg),vN (imE pg xs ps en sg)])∧Fr [] w w'):=by
 refine enter Tryz.func55 rfl rfl ?_
 have H0:=Own.start w []
 refine ws<|wo (op_box H0 rfl rfl (fun b1 w1 H1=>(wa rfl<|wa rfl<|wn<|ws<|wo (op_fieldAddr rfl Fa.F105_0<|wo (op_loadS (vs:=[_,_,_,_,_,_]) rfl (H1.cells (i:=0) rfl rfl) Tryz.underlying43 rfl Fa.I43 rfl<|wo (cq H1 Fa.C113 rfl (iput_ok pg _ _ _ xs ps con en sg _ (H1.arr hE) (H1.arr hP) (H1.arr hS) bx bp bs bb) fun w2 H2=>(wm rfl<|we rfl rfl<|we rfl rfl<|wa rfl<|wa rfl<|wn<|WC.seq<|ws<|wo (op_fieldAddr rfl Fa.F105_0<|wo (op_fieldAddr rfl Fa.F43_2<|wo (op_load rfl (H2.cell (i:=0) rfl rfl) Tryz.underlying41 rfl<|wo (op_lenA Tryz.underlying41 rfl (H2.arr hS)<|wo (op_eqlN (b:=0) rfl rfl<|wm rfl (wF 17 (sg.length=0) (fun hb3 hc3=>?_) (fun hb3 hc3=>?_))))))))))))))
 ·
  refine wN hb3<|wN hb3<|wo (op_pickT rfl hb3 rfl<|wn<|WC.yes rfl rfl<|ws<|wa rfl<|wa rfl<|wn<|WC.ret<|WQ.thenRet<|WQ.out (.tmp rfl (.tmp rfl .nil)) ?_)
  have h2:=imE_nil (pg:=pg) (xs:=xs) (ps:=ps) (en:=en) hc3
  rw [slS,h2,if_neg (by decide)]
  exact ⟨rfl,H2.fr⟩
 refine wY hb3 (op_move rfl<|wY hb3 (op_neqN (b:=0) rfl rfl<|wo (op_pickF rfl hb3 rfl<|wn (wE ((imE pg xs ps en sg)≠0) (fun hb4 hc4=>?_) (fun hb4 hc4=>?_)))))
 ·
  refine ws<|wa rfl<|wa rfl<|wn<|WC.ret<|WQ.thenRet<|WQ.out (.tmp rfl (.tmp rfl .nil)) ?_
  rw [slS,if_neg hc4,imE_2 hc4]
  exact ⟨rfl,H2.fr⟩
 refine WC.skip<|WQ.next<|ws<|wm rfl<|wo (op_fieldAddr rfl Fa.F105_1<|wo (op_load rfl (H2.cell (i:=0) rfl rfl) Tryz.underlying9 rfl<|wm rfl<|wo (op_buildSlice (cs:=[_]) H2 Tryz.underlying59 Fa.I9 rfl rfl rfl rfl (by decide) (by decide) (fun b5 w5 H5=>(wo (cq H5 Fa.C114 rfl (stag_ok key _ ([(imB pg xs ps con en sg)]) _ (H5.arrR (i:=1) rfl) hk (by simp only [List.flatten_cons,List.flatten_nil,List.append_nil,List.length_cons,List.length_nil]; omega)) fun w6 H6=>(wo (op_addStr rfl rfl (by rw [mac_length]; omega)<|wa rfl<|wa rfl<|wn<|WC.ret<|WQ.out (.tmp rfl (.tmp rfl .nil)) ?_))))))))
 have h0:=Decidable.not_not.mp hc4
 rw [slS,if_pos h0,h0]
 exact ⟨by simp [tup],H6.fr⟩
theorem seal_ok (key:List UInt8) (pg:UInt32) (ev pv sv:Value) (xs:List Xt) (ps:List UInt16) (con:Bool) (en:UInt32) (sg:List Sg) (w:World) (hE:Arr w ev 2 xs.length (List.flatMap xtc xs)) (hP:Arr w pv 1 ps.length (List.map vU16 ps)) (hS:Arr w sv 3 sg.length (List.flatMap sgc sg)) (hk:key.length<140737488351300) (bx:xs.length≤2^20) (bp:ps.length≤2^20) (bs:sg.length≤2^10) (bb: ∀x∈sg,x.b.length≤2^30) (hL:(imB pg xs ps con en sg).length<2^38) :
  Calls Tryz.prog 18 #[(str key),(.agg #[(vU32 pg),ev,pv,(.bool con),(vU32 en),sv])] w (fun e w'=>e=.returned (.tuple #[str (slS key pg xs ps con en sg),vN (imE pg xs ps en sg)])∧Fr [] w w'):=by
 refine enter Tryz.func18 rfl rfl ?_
 have H0:=Own.start w []
 exact ws<|wo (op_box H0 rfl rfl (fun b1 w1 H1=>(wa rfl<|wa rfl<|wn<|ws<|wo (op_loadS (vs:=[_,_,_,_,_,_]) rfl (H1.cells (i:=0) rfl rfl) Tryz.underlying43 rfl Fa.I43 rfl<|wm rfl<|wo (op_build (cs:=[_,_,_,_,_,_,_]) Fa.I105 Fa.PL105 rfl rfl<|wo (cq H1 Fa.C55 rfl (sseal_ok key pg _ _ _ xs ps con en sg _ (H1.arr hE) (H1.arr hP) (H1.arr hS) hk bx bp bs bb hL) fun w2 H2=>(we rfl rfl<|we rfl rfl<|wa rfl<|wa rfl<|wn<|WC.ret<|WQ.out (.tmp rfl (.tmp rfl .nil)) (⟨rfl,H2.fr⟩))))))))
theorem sopen_ok (key s:List UInt8) (w:World) (hk:key.length<2^40) (hs:s.length<2^38) :
  Calls Tryz.prog 57 #[(str key),(str s)] w (fun e w'=> ∃v u q,e=.returned (.tuple #[.agg #[vU32 (opI key s).pg,v,u,.bool (opI key s).c,vU32 (opI key s).en,q],vN (opC key s)])∧Owl.Own [] w w' [.row v 207 2 (opI key s).xs.length (List.flatMap xtc (opI key s).xs),.row u 203 1 (opI key s).ps.length (List.map vU16 (opI key s).ps),.row q 116 3 (opI key s).sg.length (List.flatMap sgc (opI key s).sg)]):=by
 refine enter Tryz.func57 rfl rfl ?_
 have H0:=Own.start w []
 refine ws<|wo (op_alloc H0 Fa.I43 (fun b1 w1 H1=>(wa rfl<|wn<|ws<|wm rfl<|wo (op_lenStr Tryz.underlying9 rfl<|wo (op_subI (a:=((s.length:Nat):Int)) (b:=((32:Nat):Int)) rfl rfl (by omega)<|wa rfl<|wn<|WC.seq<|ws<|wm rfl<|wo (op_lssI (b:=(0:Int)) rfl rfl<|wn (wE ((((s.length:Nat):Int)-((32:Nat):Int))<(0:Int)) (fun hb2 hc2=>?_) (fun hb2 hc2=>?_))))))))
 ·
  refine ws<|wo (op_build (cs:=[_,_,_,_,_,_]) Fa.I43 Fa.PL43 rfl rfl<|wo (op_storeBW (i:=0) H1 rfl rfl rfl rfl rfl Fa.I43 (fun w3 H3=>(wa rfl<|wn<|WC.ret<|WQ.thenRet<|WQ.out (.cell rfl (run_loadVarS (vs:=[_,_,_,_,_,_]) (H3.cells (i:=0) rfl rfl) Tryz.underlying43 rfl Fa.I43 rfl) (.tmp rfl .nil)) ?_))))
  have hb:=op_short (key:=key) (s:=s) (by omega)
  rw [hb.1,hb.2]
  exact ⟨.slice none 0 0,.slice none 0 0,.slice none 0 0,rfl,(((H3.sel [] rfl rfl).nilRow 207 2).nilRow 203 1).nilRow 116 3⟩
 have hln:¬s.length<32:=by omega
 rw [show ((s.length:Nat):Int)-((32:Nat):Int)=((s.length-32:Nat):Int) by omega]
 refine WC.skip<|WQ.next<|WC.seq<|WC.seq<|WC.draw 9 Fa.M H1 (mh rfl<|mh rfl<|mh rfl<|oh (fun w1 H1=>op_sliceStrHi Tryz.underlying9 rfl rfl (by omega) zr)<|mh rfl<|mh rfl<|oh (fun w1 H1=>op_sliceStrLo Tryz.underlying9 rfl rfl (by omega) zr)<|oh (fun w1 H1=>op_callF Fa.C115 rfl ((mcheck_ok key (s.take (s.length-32)) (s.drop (s.length-32)) _ (by omega) (by rw [List.length_take]; omega)).mono (fun e w2 hq=>⟨_,hq.1,rfl,hq.2⟩)))<|oh (fun w1 H1=>op_not rfl zr)  HW.nil) (by kernel_rfl) ?_
 intro β5 w5 H5
 refine wn (wC (!(decide ((s.drop (s.length-32))=mac key (s.take (s.length-32))))) (fun hb6=>?_) (fun hb6=>?_))
 ·
  have hn6:=(Bool.not_eq_true' _).mp hb6
  refine ws<|wo (op_build (cs:=[_,_,_,_,_,_]) Fa.I43 Fa.PL43 rfl rfl<|wo (op_storeBW (i:=0) H5 rfl rfl rfl rfl rfl Fa.I43 (fun w7 H7=>(wa rfl<|wn<|WC.ret<|WQ.thenRet<|WQ.out (.cell rfl (run_loadVarS (vs:=[_,_,_,_,_,_]) (H7.cells (i:=0) rfl rfl) Tryz.underlying43 rfl Fa.I43 rfl) (.tmp rfl .nil)) ?_))))
  have hb:=op_tag (key:=key) hln (dF (by simpa using hn6))
  rw [hb.1,hb.2]
  exact ⟨.slice none 0 0,.slice none 0 0,.slice none 0 0,rfl,(((H7.sel [] rfl rfl).nilRow 207 2).nilRow 203 1).nilRow 116 3⟩
 have hn6:=(Bool.not_eq_false' _).mp hb6
 refine WC.skip<|WQ.next<|ws<|wm rfl<|wm rfl<|wo (op_sliceStrHi Tryz.underlying9 rfl rfl (by omega)<|wo (op_callF Fa.C116 rfl ((iget_ok (s.take (s.length-32)) _ (by rw [List.length_take]; omega)).mono (fun e w8 hq=>?_))))
 obtain ⟨v8,u8,q8,rfl,hq8⟩:=hq
 refine ⟨_,rfl,?_⟩
 have H8:=H5.splice [] [] [.row v8 207 2 (imG (s.take (s.length-32))).xs.length (List.flatMap xtc (imG (s.take (s.length-32))).xs),.row u8 203 1 (imG (s.take (s.length-32))).ps.length (List.map vU16 (imG (s.take (s.length-32))).ps),.row q8 116 3 (imG (s.take (s.length-32))).sg.length (List.flatMap sgc (imG (s.take (s.length-32))).sg)] rfl rfl hq8 (Fits.solid True.intro (Fits.solid True.intro (Fits.solid True.intro Fits.nil)))
 refine we rfl rfl<|we rfl rfl<|wo (op_storeBW (i:=0) H8 rfl rfl rfl rfl (one_cons rfl (one_cons (Arr.one (H8.arrR (i:=1) rfl)) (one_cons (Arr.one (H8.arrR (i:=2) rfl)) (one_cons rfl (one_cons rfl (one_cons (Arr.one (H8.arrR (i:=3) rfl)) one_nil)))))) Fa.I43 (fun w9 H9=>(wa rfl<|wn<|WC.ret<|WQ.out (.cell rfl (run_loadVarS (vs:=[_,_,_,_,_,_]) (H9.cells (i:=0) rfl rfl) Tryz.underlying43 rfl Fa.I43 rfl) (.tmp rfl .nil)) ?_)))
 have hb:=op_get (key:=key) hln (dT (by simpa using hn6))
 rw [hb.1,hb.2]
 exact ⟨v8,u8,q8,rfl,H9.sel [1,2,3] rfl rfl⟩
theorem spNew_ok  (w:World) :
  Calls Tryz.prog 73 #[] w (fun e w'=> ∃s mb,e=.returned (ptr s 0)∧Owl.Own [] w w' [.blk s [(.map (some mb))] 165,.obj mb (mP .u32 (List.map Pg.me []) 0),Ent.bs 211 Pg.cells Pg.b []]):=by
 refine enter Tryz.func73 rfl rfl ?_
 have H0:=Own.start w []
 exact ws<|wa rfl<|wn<|ws<|wo (op_makeMapP (kk:=.u32) H0 (fun b1 w1 H1=>(wo (op_build (cs:=[_]) Fa.I165 Fa.PL165 rfl rfl<|wo (op_box H1 rfl rfl (fun b2 w2 H2=>(wa rfl<|wn<|WC.ret<|WQ.out (.tmp rfl .nil) (⟨_,_,rfl,((H2.bsNil 211 Pg.cells Pg.b).sel [1,0,2] rfl rfl)⟩))))))))
theorem smay_ok (a:UInt32) (w:World) :
  Calls Tryz.prog 165 #[(vU32 a)] w (fun e w'=>e=.returned (.bool (mayA a))∧Fr [] w w'):=by
 refine enter Tryz.func165 rfl rfl ?_
 have H0:=Own.start w []
 refine ws<|wa rfl<|wn<|ws<|wm rfl<|wo (op_remU32 (b:=256) rfl rfl (by decide)<|wo (op_eqlU32 (b:=0) rfl rfl<|wm rfl (wF 6 ((a%(256:UInt32))=(0:UInt32)) (fun hb1 hc1=>?_) (fun hb1 hc1=>?_))))
 ·
  exact wY hb1 (op_move rfl<|wY hb1 (op_geqU32 (b:=1048576) rfl rfl<|wY hb1 (op_not rfl<|wo (op_pickT rfl hb1 rfl<|wa rfl<|wn<|WC.ret<|WQ.out (.tmp rfl .nil) (⟨by rw [mayA,hb1]; rfl,H0.fr⟩)))))
 exact wN hb1<|wN hb1<|wN hb1<|wo (op_pickF rfl hb1 rfl<|wa rfl<|wn<|WC.ret<|WQ.out (.tmp rfl .nil) (⟨by rw [mayA,hb1]; rfl,H0.fr⟩))
theorem at_no (s mb c:Nat) (ps:List Pg) (a:UInt64) (w:World) (hS:cellsAt w s [(.map (some mb))]) (hM:w.heap[mb]?=some (mP .u32 (List.map Pg.me ps) c)) (_hME:MEok (List.map Pg.me ps) c) (no: ∀g∈ps,g.a≠pgA (UInt32.ofNat a.toNat)) (hb:¬a≥1048576) :
  Calls Tryz.prog 124 #[(ptr s 0),(vU64 a)] w (fun e w'=>e=.returned (.pointer none)∧Fr [] w w'):=by
 refine enter Tryz.func124 rfl rfl ?_
 have H0:=(((Own.start w []).oldB hS).mpOld hM)
 refine ws<|wa rfl<|wn<|WC.seq<|ws<|wm rfl<|wo (op_geqU64 (b:=1048576) rfl rfl<|wn<|WC.no rfl (decide_eq_false hb)<|WC.skip<|WQ.next<|ws<|wm rfl<|wo (op_nilCheck rfl<|wo (op_fieldAddr rfl Fa.F165_0<|wo (op_load rfl (H0.cellO (i:=0) rfl rfl) Tryz.underlying162 rfl<|wm rfl<|wo (op_convU64U32 (hs:=Tryz.underlying154) (hd:=Tryz.underlying22) rfl<|wo (op_quoU32 (b:=256) rfl rfl (by decide)<|wo (op_mulU32 (b:=256) rfl rfl<|wo (op_lookG_no (H0.mpO (i:=1) rfl) (fun g hg h=>no g hg (by rw [show (Pg.me g).k=g.a.toNat from rfl] at h; exact UInt32.toNat_inj.1 (Int.ofNat.inj h))) Tryz.underlying162 Tryz.underlying22 Fa.Z163 rfl rfl ?_))))))))
 exact wa rfl<|wn<|WC.ret<|WQ.out (.tmp rfl .nil) (⟨rfl,H0.fr⟩)
theorem at_some (s mb c:Nat) (ps:List Pg) (a:UInt64) (g:Pg) (w:World) (hS:cellsAt w s [(.map (some mb))]) (hM:w.heap[mb]?=some (mP .u32 (List.map Pg.me ps) c)) (hME:MEok (List.map Pg.me ps) c) (hg:g∈ps) (hge:g.a=pgA (UInt32.ofNat a.toNat)) (hb:¬a≥1048576) :
  Calls Tryz.prog 124 #[(ptr s 0),(vU64 a)] w (fun e w'=>e=.returned (ptr g.b 0)∧Fr [] w w'):=by
 refine enter Tryz.func124 rfl rfl ?_
 have H0:=(((Own.start w []).oldB hS).mpOld hM)
 refine ws<|wa rfl<|wn<|WC.seq<|ws<|wm rfl<|wo (op_geqU64 (b:=1048576) rfl rfl<|wn<|WC.no rfl (decide_eq_false hb)<|WC.skip<|WQ.next<|ws<|wm rfl<|wo (op_nilCheck rfl<|wo (op_fieldAddr rfl Fa.F165_0<|wo (op_load rfl (H0.cellO (i:=0) rfl rfl) Tryz.underlying162 rfl<|wm rfl<|wo (op_convU64U32 (hs:=Tryz.underlying154) (hd:=Tryz.underlying22) rfl<|wo (op_quoU32 (b:=256) rfl rfl (by decide)<|wo (op_mulU32 (b:=256) rfl rfl<|wo (op_lookG_some (g:=g) (H0.mpO (i:=1) rfl) hME hg (by rw [show (Pg.me g).k=g.a.toNat from rfl,hge]; rfl) Tryz.underlying162 Tryz.underlying22 rfl rfl ?_))))))))
 exact wa rfl<|wn<|WC.ret<|WQ.out (.tmp rfl .nil) (⟨rfl,H0.fr⟩)
theorem fits_ok (s mb c:Nat) (ps:List Pg) (a:UInt32) (n:Nat) (w:World) (hS:cellsAt w s [(.map (some mb))]) (hM:w.heap[mb]?=some (mP .u32 (List.map Pg.me ps) c)) (hP:BsOK 211 Pg.cells Pg.b ps w) (hME:MEok (List.map Pg.me ps) c) (hin:inS a n) (hall: ∀k,k<n→∃g∈ps,g.a=pgA (a+UInt32.ofNat k)) :
  Calls Tryz.prog 167 #[(ptr s 0),(vU32 a),(vN n),(vU8 0)] w (fun e w'=>e=.returned (vN 0)∧Fr [] w w'):=by
 refine enter Tryz.func167 rfl rfl ?_
 have H0:=((((Own.start w []).oldB hS).mpOld hM).bsOld hP)
 have hnn:n≤1048576:=Nat.le_trans (Nat.le_add_left _ _) hin
 refine ws<|wa rfl<|wn<|WC.seq<|ws<|wm rfl<|wm rfl<|wn<|WC.block<|WC.loop (α:=Nat) (fun k=>[(0,(ptr s 0)),(1,(vU32 a)),(2,(vN n)),(3,(vU8 0)),(12,(vN n)),(13,(vN k))]) (fun k w'=>(k≤n)∧Owl.Own [] w w' [Ent.bo s [(.map (some mb))],Ent.mo .u32 mb (List.map Pg.me ps) c,Ent.bsO 211 Pg.cells Pg.b ps]) (fun k=>n-k) 0 ⟨(Nat.zero_le _),H0⟩ ⟨rfl,rfl,rfl,rfl,rfl,rfl,trivial⟩ ?_
 rintro k w1 ⟨hk1,H1⟩
 show WC _ _ _ _ _ [(0,(ptr s 0)),(1,(vU32 a)),(2,(vN n)),(3,(vU8 0)),(12,(vN n)),(13,(vN k))] _
 refine ws<|wo (op_lssN rfl rfl<|wn<|WC.seq (wE (k<n) (fun hb2 hc2=>?_) (fun hb2 hc2=>?_)))
 ·
  refine WC.skip<|WQ.next<|WC.seq<|WC.block<|ws ?_
  have hk:k<n:=dT hb2
  obtain ⟨gk,hgk,hge⟩:=hall k hk
  rw [←addr32 hin hk] at hge
  refine wm rfl<|wa rfl<|wn<|ws<|wm rfl<|wo (op_convU32U64 (hs:=Tryz.underlying22) (hd:=Tryz.underlying154) rfl<|wm rfl<|wo (op_convNU64 (hs:=Tryz.underlying3) (hd:=Tryz.underlying154) rfl<|wo (op_addU64 rfl rfl<|wa rfl<|wn<|ws<|wm rfl<|wm rfl ?_)))
  have H3:=(H1.bsView (i:=2) (a:=gk) rfl hgk)
  exact wo (cq H3 Fa.C124 rfl (at_some s mb c ps ((UInt64.ofNat a.toNat)+(UInt64.ofNat k)) gk _ (H3.cellsAtO (i:=0) rfl) (H3.mpO (i:=1) rfl) hME hgk hge (addr_lt hin hk)) fun w4 H4=>(wa rfl<|wn<|ws<|wm rfl<|wo (op_eqlPN Fa.PT163 rfl rfl<|wm rfl<|wY rfl (op_move rfl<|wY rfl (op_nilCheck rfl<|wY rfl (op_fieldAddr rfl Fa.F211_0<|wY rfl (op_load rfl (H4.cellO (i:=3) rfl rfl) Tryz.underlying5 rfl<|wY rfl (op_move rfl<|wY rfl (op_andU8 (b:=0) rfl rfl<|wY rfl (op_move rfl<|wY rfl (op_neqU8 (b:=0) rfl rfl<|wo (op_pickF rfl rfl rfl<|wn<|WC.no rfl (by rw [UInt8.and_zero]; rfl)<|WC.skip<|WQ.inNormal<|WQ.next<|WC.region<|wo (op_addN (b:=1) rfl rfl (by omega)<|wm rfl<|WL.nil<|WQ.round (k+1) ⟨(by omega),(H4.take 3)⟩ ⟨rfl,rfl,rfl,rfl,rfl,rfl,trivial⟩ (by omega))))))))))))))
 exact WC.exit<|WQ.thenExit<|WQ.thenExit<|WQ.inHere<|WQ.next<|ws<|wa rfl<|wn<|WC.ret<|WQ.out (.tmp rfl .nil) (⟨rfl,H1.fr⟩)
theorem sput_ok (s mb c:Nat) (ps:List Pg) (a:UInt32) (x:List UInt8) (T:List Nat) (w:World) (H:Owl.Own T w w [.blk s [(.map (some mb))] 165,.obj mb (mP .u32 (List.map Pg.me ps) c),Ent.bs 211 Pg.cells Pg.b ps]) (hME:MEok (List.map Pg.me ps) c) (hin:inS a x.length) (hall: ∀k,k<x.length→∃g∈ps,g.a=pgA (a+UInt32.ofNat k)) (hlen: ∀g∈ps,g.bs.length=256) :
  Calls Tryz.prog 166 #[(ptr s 0),(vU32 a),(str x),(vU8 0)] w (fun e w'=>e=.returned (vN 0)∧Owl.Own T w w' [.blk s [(.map (some mb))] 165,.obj mb (mP .u32 (List.map Pg.me (putN ps a x x.length)) c),Ent.bs 211 Pg.cells Pg.b (putN ps a x x.length)]):=by
 refine enter Tryz.func166 rfl rfl ?_
 have hnn:x.length≤1048576:=Nat.le_trans (Nat.le_add_left _ _) hin
 refine ws<|wa rfl<|wn<|WC.seq<|ws<|wm rfl<|wm rfl<|wm rfl<|wo (op_lenStr Tryz.underlying9 rfl<|wm rfl<|wo (op_callF Fa.C167 rfl ((fits_ok s mb c ps a x.length _ (H.cellsAt (i:=0) rfl) (H.mp (i:=1) rfl) (H.bsG (i:=2) rfl) hME hin hall).mono (fun e w1 hq=>?_))))
 obtain ⟨rfl,hf1⟩:=hq
 refine ⟨_,rfl,?_⟩
 have H1:=H.fr' hf1
 refine wa rfl<|wn<|ws<|wm rfl<|wo (op_neqN (b:=0) rfl rfl<|wn<|WC.no rfl (by decide)<|WC.skip<|WQ.next<|WC.seq<|ws<|wm rfl<|wo (op_strBytes H1 Tryz.underlying9 Tryz.underlying5 Tryz.underlying114 rfl (by omega) (fun v2 w2 H2=>(wo (op_lenA Tryz.underlying114 rfl (H2.arrR (i:=3) rfl)<|wm rfl<|wn<|WC.block<|WC.loop (α:=Nat) (fun k=>[(0,(ptr s 0)),(1,(vU32 a)),(3,(vU8 0)),(24,v2),(25,(vN x.length)),(26,(vN k))]) (fun k w'=>(k≤x.length)∧Owl.Own T w w' [.blk s [(.map (some mb))] 165,.obj mb (mP .u32 (List.map Pg.me (putN ps a x k)) c),Ent.bs 211 Pg.cells Pg.b (putN ps a x k),.row v2 5 1 x.length (List.map vU8 x)]) (fun k=>x.length-k) 0 ⟨(Nat.zero_le _),H2⟩ ⟨rfl,rfl,rfl,rfl,rfl,rfl,trivial⟩ ?_)))))
 rintro k w3 ⟨hk1,H3⟩
 show WC _ _ _ _ _ [(0,(ptr s 0)),(1,(vU32 a)),(3,(vU8 0)),(24,v2),(25,(vN x.length)),(26,(vN k))] _
 refine ws<|wo (op_lssN rfl rfl<|wn<|WC.seq (wE (k<x.length) (fun hb4 hc4=>?_) (fun hb4 hc4=>?_)))
 ·
  refine WC.skip<|WQ.next<|WC.seq<|WC.block<|ws<|wm rfl<|wo (op_indexAddr1 Tryz.underlying114 Fa.I5 rfl (H3.arrR (i:=3) rfl) rfl (by omega)<|wo (op_load rfl ((H3.arrR (i:=3) rfl).at (get_map vU8 0 (Arr.ltM (H3.arrR (i:=3) rfl) (by omega)))) Tryz.underlying5 rfl<|wa rfl<|wa rfl<|wn<|ws<|wm rfl<|wm rfl<|wo (op_convNU32 (hs:=Tryz.underlying3) (hd:=Tryz.underlying22) rfl<|wo (op_addU32 rfl rfl<|wa rfl<|wn<|ws<|wm rfl<|wm rfl ?_))))
  have hk:k<x.length:=dT hb4
  obtain ⟨gk,hgk,hgq⟩:=putN_has (a:=a) (s:=x) (k:=k) (hall k hk)
  have hgl:=putN_len (a:=a) (s:=x) hlen k gk hgk
  obtain ⟨l1,l2,e8⟩:=List.append_of_mem hgk
  have H5:Owl.Own T w w3 [.blk s [(.map (some mb))] 165,.obj mb (mP .u32 (List.map Pg.me (putN ps a x k)) c),Ent.bs 211 Pg.cells Pg.b (l1++l2),.row v2 5 1 x.length (List.map vU8 x),.blk gk.b ([(vU8 gk.pm)]++(List.map vU8 gk.bs)) 211]:=H3.focus (i:=2) (l1:=l1) (l2:=l2) (a:=gk) (f:=Pg.cells) (bl:=Pg.b) (congrArg (fun z=>some (Ent.bs 211 Pg.cells Pg.b z)) e8)
  refine wo (op_convU32U64 (hs:=Tryz.underlying22) (hd:=Tryz.underlying154) rfl<|wo (cq H5 Fa.C124 rfl (at_some s mb c (putN ps a x k) (UInt64.ofNat (a+(UInt32.ofNat k)).toNat) gk _ (H5.cellsAt (i:=0) rfl) (H5.mp (i:=1) rfl) (by rw [putN_me]; exact hME) hgk (by rw [back32]; exact hgq) (addr_lt32 hin hk)) fun w6 H6=>(wa rfl<|wn<|ws<|wm rfl<|wo (op_neqPN Fa.PT163 rfl rfl<|wn<|WC.yes rfl rfl<|WC.region<|wm rfl<|wm rfl<|wo (op_remU32 (b:=256) rfl rfl (by decide)<|wm rfl<|wo (op_nilCheck rfl<|wo (op_fieldAddr rfl Fa.F211_1<|wo (op_indexAddrA1 Tryz.underlying209 Fa.I5 rfl rfl (by rw [pgMod]; exact Nat.mod_lt _ (by decide)) ?_))))))))
  refine wo (op_storeB (i:=4) H6 rfl rfl rfl (by have h9:=Nat.mod_lt (a+UInt32.ofNat k).toNat (show 0<256 by decide); rw [←pgMod] at h9; rw [Nat.blt_eq]; simp [hgl]; omega) rfl Fa.I5 (fun w7 H7q=>?_))
  have H7:Owl.Own T w w7 [.blk s [(.map (some mb))] 165,.obj mb (mP .u32 (List.map Pg.me (putN ps a x k)) c),Ent.bs 211 Pg.cells Pg.b (l1++l2),.row v2 5 1 x.length (List.map vU8 x),.blk gk.b ([(vU8 gk.pm)]++(List.map vU8 (gk.bs.set ((a+(UInt32.ofNat k))%(256:UInt32)).toNat (x.getD k 0)))) 211]:=Own.blkEq (i:=4) H7q rfl (set_tab _ gk.bs 1 ((a+(UInt32.ofNat k))%(256:UInt32)).toNat (x.getD k 0))
  refine WL.nil<|WQ.inNormal<|WQ.next<|WC.region<|wo (op_addN (b:=1) rfl rfl (by omega)<|wm rfl<|WL.nil ?_)
  have hf9:=H7.fold (i:=2) (j:=4) (a:={ gk with bs:=(gk.bs.set ((a+(UInt32.ofNat k))%(256:UInt32)).toNat (x.getD k 0)) }) (f:=Pg.cells) (bl:=Pg.b) rfl rfl rfl rfl rfl
  have e9:l1++ { gk with bs:=(gk.bs.set ((a+(UInt32.ofNat k))%(256:UInt32)).toNat (x.getD k 0)) }::l2=putN ps a x (k+1):=by
   rw [putN,e8]; exact (pgPutMid (by rw [←e8,putN_a]; exact me_a hME.kn) hgq).symm
  rw [e9,show List.map Pg.me (putN ps a x k)=List.map Pg.me (putN ps a x (k+1)) from by rw [putN_me,putN_me]] at hf9
  exact WQ.round (k+1) ⟨(by omega),(hf9.sel [0,1,2,3] rfl rfl)⟩ ⟨rfl,rfl,rfl,rfl,rfl,rfl,trivial⟩ (by omega)
 refine WC.exit<|WQ.thenExit<|WQ.thenExit<|WQ.inHere<|WQ.next<|ws<|wa rfl<|wn<|WC.ret<|WQ.out (.tmp rfl .nil) ?_
 obtain rfl:k=x.length:=by omega
 exact ⟨rfl,H3.sel [0,1,2] rfl rfl⟩
theorem set_ok (s mb c:Nat) (ps:List Pg) (a:UInt32) (x:List UInt8) (T:List Nat) (w:World) (H:Owl.Own T w w [.blk s [(.map (some mb))] 165,.obj mb (mP .u32 (List.map Pg.me ps) c),Ent.bs 211 Pg.cells Pg.b ps]) (hME:MEok (List.map Pg.me ps) c) (hin:inS a x.length) (hall: ∀k,k<x.length→∃g∈ps,g.a=pgA (a+UInt32.ofNat k)) (hlen: ∀g∈ps,g.bs.length=256) :
  Calls Tryz.prog 123 #[(ptr s 0),(vU32 a),(str x)] w (fun e w'=>e=.returned (vN 0)∧Owl.Own T w w' [.blk s [(.map (some mb))] 165,.obj mb (mP .u32 (List.map Pg.me (putN ps a x x.length)) c),Ent.bs 211 Pg.cells Pg.b (putN ps a x x.length)]):=by
 refine enter Tryz.func123 rfl rfl<|ws<|wa rfl<|wn<|WC.seq<|ws<|wm rfl<|wo (op_eqlPN Fa.PT68 rfl rfl<|wn<|WC.no rfl rfl<|WC.skip<|WQ.next<|ws<|wm rfl<|wm rfl<|wm rfl<|wo (op_callF Fa.C166 rfl ((sput_ok s mb c ps a x _ _ (H.part [0,1,2] rfl rfl) hME hin hall hlen).mono (fun e w1 hq=>?_))))
 obtain ⟨rfl,hq1⟩:=hq
 refine ⟨_,rfl,?_⟩
 have H1:Owl.Own T w w1 [.blk s [(.map (some mb))] 165,.obj mb (mP .u32 (List.map Pg.me (putN ps a x x.length)) c),Ent.bs 211 Pg.cells Pg.b (putN ps a x x.length)]:=H.splice [0,1,2] [.blk s [(.map (some mb))] 165,.obj mb (mP .u32 (List.map Pg.me (putN ps a x x.length)) c),Ent.bs 211 Pg.cells Pg.b (putN ps a x x.length)] [] rfl rfl hq1 (Fits.solid True.intro (Fits.solid True.intro (Fits.solid True.intro Fits.nil)))
 exact wa rfl<|wn<|WC.ret<|WQ.out (.tmp rfl .nil) (⟨rfl,H1⟩)
theorem map_ok (s mb c:Nat) (ps:List Pg) (a:UInt32) (pm:UInt8) (T:List Nat) (w:World) (H:Owl.Own T w w [.blk s [(.map (some mb))] 165,.obj mb (mP .u32 (List.map Pg.me ps) c),Ent.bs 211 Pg.cells Pg.b ps]) (hME:MEok (List.map Pg.me ps) c) (hmay:mayA a=true) (h0:a.toNat%256=0) (hin:inS a 256) (hpm:¬pm>7) (no: ∀g∈ps,g.a≠a) :
  Calls Tryz.prog 122 #[(ptr s 0),(vU32 a),(vU8 pm)] w (fun e w'=> ∃b,e=.returned (vN 0)∧Owl.Own T w w' [.blk s [(.map (some mb))] 165,.obj mb (mP .u32 (List.map Pg.me (ps++[(Pg.mk a b c pm (List.replicate 256 0))])) (c+1)),Ent.bs 211 Pg.cells Pg.b (ps++[(Pg.mk a b c pm (List.replicate 256 0))])]):=by
 refine enter Tryz.func122 rfl rfl<|ws<|wa rfl<|wn<|WC.seq<|WC.block<|ws<|wm rfl<|wo (op_eqlPN Fa.PT68 rfl rfl<|wa rfl<|wn<|WC.no rfl rfl<|ws<|wm rfl<|wo (op_callF Fa.C165 rfl ((smay_ok a _).mono (fun e w1 hq=>?_))))
 obtain ⟨rfl,hf1⟩:=hq
 refine ⟨_,rfl,?_⟩
 have H1:=H.fr' hf1
 refine wo (op_not rfl<|wm rfl<|WL.yes rfl rfl rfl (by rw [hmay]; rfl) rfl (op_move rfl<|WL.yes rfl rfl rfl (by rw [hmay]; rfl) rfl (op_gtrU8 (b:=7) rfl rfl<|wo (op_pickF rfl (by rw [hmay]; rfl) rfl<|wa rfl<|wn<|WC.no rfl (decide_eq_false hpm)<|ws<|wm rfl<|wm rfl<|wo (op_convU32U64 (hs:=Tryz.underlying22) (hd:=Tryz.underlying154) rfl<|wo (cq H1 Fa.C124 rfl (at_no s mb c ps (UInt64.ofNat a.toNat) _ (H1.cellsAt (i:=0) rfl) (H1.mp (i:=1) rfl) hME (fun g hg=>by rw [back32,←pgA_self h0]; exact no g hg) (big32 hin)) fun w2 H2=>(wo (op_neqPN Fa.PT163 rfl rfl<|wa rfl<|wn<|WC.no rfl rfl<|WC.skip<|WQ.inNormal<|WQ.next<|ws<|wm rfl<|wo (op_nilCheck rfl<|wo (op_fieldAddr rfl Fa.F165_0<|wo (op_load rfl (H2.cell (i:=0) rfl rfl) Tryz.underlying162 rfl<|wm rfl<|wm rfl<|wo (op_build (cs:=[vU8 pm]++List.map vU8 (List.replicate 256 0)) Fa.I211 Fa.PL211 rfl rfl<|wo (op_box H2 rfl rfl (fun b3 w3 H3=>(wo (op_updP (i:=1) (k:=a.toNat) H3 rfl Tryz.underlying162 Tryz.underlying22 (fun x hx hk=>by obtain ⟨g,hg,rfl⟩:=List.mem_map.1 hx; exact no g hg (UInt32.toNat_inj.1 hk)) rfl rfl rfl (fun w4 H4=>?_)))))))))))))))))
 refine wn<|ws<|wa rfl<|wn<|WC.ret<|WQ.out (.tmp rfl .nil) ?_
 have h:=H4
 rw [show List.map Pg.me ps++[ME.mk a.toNat b3 c]=List.map Pg.me (ps++[(Pg.mk a b3 c pm (List.replicate 256 0))]) from by rw [List.map_append]; rfl] at h
 have h2:=h.foldEnd (i:=2) (j:=3) (f:=Pg.cells) (bl:=Pg.b) (a:=(Pg.mk a b3 c pm (List.replicate 256 0))) rfl rfl rfl rfl rfl
 exact ⟨_,rfl,h2.sel [0,1,2] rfl rfl⟩
theorem lseg_ok (s mb c:Nat) (ps:List Pg) (lb:Nat) (pg:UInt32) (ev pv sv:Value) (con:Bool) (en:UInt32) (l:List Pb) (x:Sg) (T:List Nat) (w:World) (H:Owl.Own T w w [.blk s [(.map (some mb))] 165,.obj mb (mP .u32 (List.map Pg.me ps) c),Ent.bs 211 Pg.cells Pg.b ps,Ent.bo lb [(vU32 pg),ev,pv,(.bool con),(vU32 en),sv,(ptr s 0)]]) (hR:SpR ps c l) (h:SgOK x) (hlow: ∀g∈ps,g.a.toNat+256≤x.a.toNat) (hlen: ∀g∈ps,g.bs.length=256) :
  Calls Tryz.prog 74 #[(ptr lb 0),(.agg #[(vU32 x.a),(vU8 x.p),(str x.b)])] w (fun e w'=> ∃c' ps',e=.returned (vN 0)∧SpR ps' c' (l++segP x (pgN x))∧Owl.Own T w w' [.blk s [(.map (some mb))] 165,.obj mb (mP .u32 (List.map Pg.me ps') c'),Ent.bs 211 Pg.cells Pg.b ps',Ent.bo lb [(vU32 pg),ev,pv,(.bool con),(vU32 en),sv,(ptr s 0)]]):=by
 refine enter Tryz.func74 rfl rfl ?_
 have hxn:=h.en
 refine ws<|wo (op_box H rfl rfl (fun b1 w1 H1=>(wa rfl<|wn<|WC.seq<|ws<|wa rfl<|wn<|WC.block<|WC.loop (α:=Nat × Nat × List Pg) (fun (k,c1,qs)=>[(0,(ptr lb 0)),(3,(ptr b1 0)),(5,(vN (256 * k)))]) (fun (k,c1,qs) w'=>(256 * k<x.b.length+256∧MEok (List.map Pg.me (ps++qs)) c1∧qs.map Pg.bare=zeroP x k)∧Owl.Own T w w' [.blk s [(.map (some mb))] 165,.obj mb (mP .u32 (List.map Pg.me (ps++qs)) c1),Ent.bs 211 Pg.cells Pg.b (ps++qs),Ent.bo lb [(vU32 pg),ev,pv,(.bool con),(vU32 en),sv,(ptr s 0)],.blk b1 [(vU32 x.a),(vU8 x.p),(str x.b)] 116]) (fun (k,c1,qs)=>x.b.length-256 * k) (0,c,[]) ⟨⟨by omega,by rw [List.append_nil]; exact hR.me,rfl⟩,(by rw [List.append_nil]; exact H1)⟩ ⟨rfl,rfl,rfl,trivial⟩ ?_)))
 rintro ⟨k,c1,qs⟩ w2 ⟨⟨hk0,hME,hq⟩,H2⟩
 show WC _ _ _ _ _ [(0,(ptr lb 0)),(3,(ptr b1 0)),(5,(vN (256 * k)))] _
 refine WC.seq<|ws<|wm rfl<|wo (op_fieldAddr rfl Fa.F116_2<|wo (op_load rfl (H2.cell (i:=4) rfl rfl) Tryz.underlying9 rfl<|wo (op_lenStr Tryz.underlying9 rfl<|wo (op_lssN rfl rfl<|wn (wE ((256 * k)<x.b.length) (fun hb3 hc3=>?_) (fun hb3 hc3=>?_))))))
 ·
  have hk:256 * k<x.b.length:=dT hb3
  refine WC.skip<|WQ.next<|WC.seq<|WC.block<|WC.seq<|WC.draw 11 Fa.M H2 (mh rfl<|oh (fun w1 H1=>op_nilCheck rfl zr)<|oh (fun w1 H1=>op_fieldAddr rfl Fa.F125_1 zr)<|oh (fun w1 H1=>op_load rfl (H1.cellO (i:=3) rfl rfl) Tryz.underlying68 rfl zr)<|oh (fun w1 H1=>op_fieldAddr rfl Fa.F116_0 zr)<|oh (fun w1 H1=>op_load rfl (H1.cell (i:=4) rfl rfl) Tryz.underlying22 rfl zr)<|mh rfl<|oh (fun w1 H1=>op_convNU32 (hs:=Tryz.underlying3) (hd:=Tryz.underlying22) rfl zr)<|oh (fun w1 H1=>op_addU32 rfl rfl zr)<|oh (fun w1 H1=>op_fieldAddr rfl Fa.F116_1 zr)<|oh (fun w1 H1=>op_load rfl (H1.cell (i:=4) rfl rfl) Tryz.underlying5 rfl zr)  HW.nil) (by kernel_rfl) ?_
  intro β4 w4 H4
  refine wo (op_callF Fa.C122 rfl ((map_ok s mb c1 (ps++qs) (x.a+(UInt32.ofNat (256 * k))) x.p _ _ (H4.part [0,1,2] rfl rfl) hME (mayA_of (h.al_at hk) (h.page hk)) (h.al_at hk) (h.page hk) h.pm7 (seg_new h hlow hq hk)).mono (fun e w5 hq=>?_)))
  obtain ⟨b5,rfl,hq5⟩:=hq
  refine ⟨_,rfl,?_⟩
  have H5:=H4.splice [0,1,2] [.blk s [(.map (some mb))] 165,.obj mb (mP .u32 (List.map Pg.me (ps++qs++[(Pg.mk (x.a+UInt32.ofNat (256 * k)) b5 c1 x.p (List.replicate 256 0))])) (c1+1)),Ent.bs 211 Pg.cells Pg.b (ps++qs++[(Pg.mk (x.a+UInt32.ofNat (256 * k)) b5 c1 x.p (List.replicate 256 0))])] [] rfl rfl hq5 (Fits.solid True.intro (Fits.solid True.intro (Fits.solid True.intro Fits.nil)))
  refine wa rfl<|wn<|ws<|wm rfl<|wo (op_neqN (b:=0) rfl rfl<|wn<|WC.no rfl (by decide)<|WC.skip<|WQ.inNormal<|WQ.next<|WC.region<|wm rfl<|wo (op_addN (b:=256) rfl rfl (by omega)<|wa rfl<|WL.nil ?_))
  have hn9:=H5
  rw [List.append_assoc] at hn9
  exact WQ.round (k+1,c1+1,qs++[(Pg.mk (x.a+UInt32.ofNat (256 * k)) b5 c1 x.p (List.replicate 256 0))]) ⟨⟨by rw [Nat.mul_succ]; omega,by rw [←List.append_assoc,List.map_append]; exact hME.add (fun e he hke=>by
    obtain ⟨g,hg,rfl⟩:=List.mem_map.1 he
    exact seg_new h hlow hq hk g hg (UInt32.toNat_inj.1 hke)),by rw [List.map_append,hq]; rfl⟩,(hn9.take 5)⟩ ⟨rfl,rfl,(by rw [Nat.mul_succ]; rfl),trivial⟩ (by show x.b.length-256 * (k+1)<x.b.length-256 * k; omega)
 have hkn:¬256 * k<x.b.length:=dF hb3
 obtain rfl:k=pgN x:=by rw [pgN]; omega
 refine WC.exit<|WQ.thenExit<|WQ.thenExit<|WQ.inHere<|WQ.next<|WC.seq<|WC.draw 8 Fa.M H2 (mh rfl<|oh (fun w1 H1=>op_nilCheck rfl zr)<|oh (fun w1 H1=>op_fieldAddr rfl Fa.F125_1 zr)<|oh (fun w1 H1=>op_load rfl (H1.cellO (i:=3) rfl rfl) Tryz.underlying68 rfl zr)<|oh (fun w1 H1=>op_fieldAddr rfl Fa.F116_0 zr)<|oh (fun w1 H1=>op_load rfl (H1.cell (i:=4) rfl rfl) Tryz.underlying22 rfl zr)<|oh (fun w1 H1=>op_fieldAddr rfl Fa.F116_2 zr)<|oh (fun w1 H1=>op_load rfl (H1.cell (i:=4) rfl rfl) Tryz.underlying9 rfl zr)  HW.nil) (by kernel_rfl) ?_
 intro β6 w6 H6
 refine wo (op_callF Fa.C123 rfl ((set_ok s mb c1 (ps++qs) x.a x.b _ _ (H6.part [0,1,2] rfl rfl) hME h.inS (fun k hk=>seg_has h hq hk) (pgBareLen hlen hq)).mono (fun e w7 hq=>?_)))
 obtain ⟨rfl,hq7⟩:=hq
 refine ⟨_,rfl,?_⟩
 have H7:=H6.splice [0,1,2] [.blk s [(.map (some mb))] 165,.obj mb (mP .u32 (List.map Pg.me (putN (ps++qs) x.a x.b x.b.length)) c1),Ent.bs 211 Pg.cells Pg.b (putN (ps++qs) x.a x.b x.b.length)] [] rfl rfl hq7 (Fits.solid True.intro (Fits.solid True.intro (Fits.solid True.intro Fits.nil)))
 exact wa rfl<|wn<|WC.ret<|WQ.out (.tmp rfl .nil) (⟨_,_,rfl,⟨by rw [putN_me]; exact hME,by rw [seg_fill h hlow hq,hR.bare]⟩,H7.sel [0,1,2,3] rfl rfl⟩)
theorem lspace_yes (pg:UInt32) (ev pv sv:Value) (xs:List Xt) (ps:List UInt16) (con:Bool) (en:UInt32) (sg:List Sg) (w:World) (hE:Arr w ev 2 xs.length (List.flatMap xtc xs)) (hP:Arr w pv 1 ps.length (List.map vU16 ps)) (hS:Arr w sv 3 sg.length (List.flatMap sgc sg)) (hn:xs.length<2^47) (hm:ps.length<2^47) (hk:sg.length<2^47) (hB: ∀x∈sg,x.b.length≤2^47) (h0:imE pg xs ps en sg=0) :
  Calls Tryz.prog 32 #[(.agg #[(vU32 pg),ev,pv,(.bool con),(vU32 en),sv])] w (fun e w'=> ∃s mb c qs,e=.returned (.tuple #[ptr s 0,vN 0])∧SpR qs c (imgP sg sg.length)∧Owl.Own [] w w' [.blk s [(.map (some mb))] 165,.obj mb (mP .u32 (List.map Pg.me qs) c),Ent.bs 211 Pg.cells Pg.b qs]):=by
 refine enter Tryz.func32 rfl rfl ?_
 have H0:=Own.start w []
 refine ws<|wo (op_box H0 rfl rfl (fun b1 w1 H1=>(wa rfl<|wa rfl<|wn<|WC.seq<|ws<|wo (op_loadS (vs:=[_,_,_,_,_,_]) rfl (H1.cells (i:=0) rfl rfl) Tryz.underlying43 rfl Fa.I43 rfl<|wo (cq H1 Fa.C41 rfl (icheck_ok pg _ _ _ xs ps con en sg _ (H1.arr hE) (H1.arr hP) (H1.arr hS) hn hm hk) fun w2 H2=>(wa rfl<|wn<|ws<|wm rfl<|wo (op_neqN (b:=0) rfl rfl<|wn<|WC.no rfl (by rw [h0]; rfl)<|WC.skip<|WQ.next<|WC.seq<|WC.drawn 5 rfl Fa.M H2 ?_)))))))
 intro w3 H3
 refine WD.named (fun W hW=>?_)
 let e4:List (Nat × Value)→List (Nat × Value):=fun r=>(0,(.agg #[(vU32 pg),ev,pv,(.bool con),(vU32 en),sv]))::(1,(ptr b1 0))::(2,(.pointer none))::(3,(vN 0))::(4,(vN (imE pg xs ps en sg)))::(9,(.agg #[(vU32 pg),ev,pv,(.bool con),(vU32 en),sv]))::(10,(vN (imE pg xs ps en sg)))::(11,(vN (imE pg xs ps en sg)))::(12,(.bool (decide ((imE pg xs ps en sg)≠0))))::r
 let a4_0:Ent:=.blk b1 [(vU32 pg),ev,pv,(.bool con),(vU32 en),sv] 43
 let a4_1:Ent:=Ent.bs 211 Pg.cells Pg.b []
 have st4_6: ∀b14061 s14021 mb14021 wS,Owl.Own [] w wS [a4_0,.blk s14021 [(.map (some mb14021))] 165,.obj mb14021 (mP .u32 (List.map Pg.me []) 0),a4_1,.blk b14061 [(vU32 pg),ev,pv,(.bool con),(vU32 en),sv,(ptr s14021 0)] 125]→W 0 (bz 5 31) (e4 [(5,(ptr b14061 0))]) wS:=fun b14061 s14021 mb14021 wS HS=>by
  rw [hW]
  refine WD.done (by kernel_rfl)<|WQ.next<|WC.seq<|ws ?_
  have H5:=HS.toBo (i:=4) rfl 7 rfl
  refine wm rfl<|wo (op_nilCheck rfl<|wo (op_fieldAddr rfl Fa.F125_0<|wo (op_fieldAddr rfl Fa.F43_2<|wo (op_load rfl (H5.cellO (i:=4) rfl rfl) Tryz.underlying41 rfl<|wo (op_lenA Tryz.underlying41 rfl (H5.arr hS)<|wm rfl<|wn<|WC.block<|WC.loop (α:=Nat × Nat × List Pg) (fun (k,c,qs)=>[(5,(ptr b14061 0)),(22,sv),(23,(vN sg.length)),(24,(vN k))]) (fun (k,c,qs) w'=>(k≤sg.length∧SpR qs c (imgP sg k))∧Owl.Own [] w w' [.blk b1 [(vU32 pg),ev,pv,(.bool con),(vU32 en),sv] 43,.blk s14021 [(.map (some mb14021))] 165,.obj mb14021 (mP .u32 (List.map Pg.me qs) c),Ent.bs 211 Pg.cells Pg.b qs,Ent.bo b14061 [(vU32 pg),ev,pv,(.bool con),(vU32 en),sv,(ptr s14021 0)]]) (fun (k,c,qs)=>sg.length-k) (0,0,[]) ⟨⟨Nat.zero_le _,⟨MEok.nil 0,rfl⟩⟩,H5⟩ ⟨rfl,rfl,rfl,rfl,trivial⟩ ?_)))))
  rintro ⟨k,c,qs⟩ w6 ⟨⟨hk1,hR⟩,H6⟩
  show WC _ _ _ _ _ [(5,(ptr b14061 0)),(22,sv),(23,(vN sg.length)),(24,(vN k))] _
  refine ws<|wo (op_lssN rfl rfl<|wn<|WC.seq (wE (k<sg.length) (fun hb7 hc7=>?_) (fun hb7 hc7=>?_)))
  ·
   have hkl:k<sg.length:=dT hb7
   refine WC.skip<|WQ.next<|WC.seq<|WC.block<|ws<|wo (op_indexAddr Tryz.underlying41 Fa.I116 rfl (H6.arr hS) rfl (by omega)<|wo (op_loadSP (vs:=sgc (sg.getD k Sg.zero)) rfl (Arr.atsF (H6.arr hS) (fun _=>rfl) (by decide) Sg.zero (by omega)) Tryz.underlying116 rfl Fa.I116 rfl<|wo (op_alloc H6 Fa.I116 (fun b8 w8 H8=>(wo (op_storeBW (i:=5) H8 rfl rfl rfl rfl rfl Fa.I116 (fun w9 H9=>(wn<|ws<|wm rfl<|wo (op_loadS (vs:=[_,_,_]) rfl (H9.cells (i:=5) rfl rfl) Tryz.underlying116 rfl Fa.I116 rfl<|wo (op_callF Fa.C74 rfl ((lseg_ok s14021 mb14021 c qs b14061 pg ev pv sv con en _ (sg.getD k Sg.zero) _ _ (H9.part [1,2,3,4] rfl rfl) hR (img_ok h0 hB hkl).1 (fun g hg=>Nat.le_trans (img_low h0 hB k (Nat.le_of_lt hkl) _ (bare_all hR.bare (fun p hp=>hp) g hg)).1 (img_ok h0 hB hkl).2) (fun g hg=>(img_low h0 hB k (Nat.le_of_lt hkl) _ (bare_all hR.bare (fun p hp=>hp) g hg)).2.2)).mono (fun e w10 hq=>?_))))))))))))
   obtain ⟨c10,qs10,rfl,hr10,hq10⟩:=hq
   refine ⟨_,rfl,?_⟩
   have H10:=H9.splice [1,2,3,4] [.blk s14021 [(.map (some mb14021))] 165,.obj mb14021 (mP .u32 (List.map Pg.me qs10) c10),Ent.bs 211 Pg.cells Pg.b qs10,Ent.bo b14061 [(vU32 pg),ev,pv,(.bool con),(vU32 en),sv,(ptr s14021 0)]] [] rfl rfl hq10 (Fits.solid True.intro (Fits.solid True.intro (Fits.solid True.intro (Fits.same (j:=3) rfl Fits.nil))))
   exact wa rfl<|wn<|ws<|wm rfl<|wo (op_neqN (b:=0) rfl rfl<|wn<|WC.no rfl (by decide)<|WC.skip<|WQ.inNormal<|WQ.next<|WC.region<|wo (op_addN (b:=1) rfl rfl (by omega)<|wm rfl<|WL.nil<|WQ.round (k+1,c10,qs10) ⟨⟨by omega,hr10⟩,(H10.take 5)⟩ ⟨rfl,rfl,rfl,rfl,trivial⟩ (by show sg.length-(k+1)<sg.length-k; omega)))
  refine WC.exit<|WQ.thenExit<|WQ.thenExit<|WQ.inHere<|WQ.next<|ws<|wm rfl<|wo (op_nilCheck rfl<|wo (op_fieldAddr rfl Fa.F125_1<|wo (op_load rfl (H6.cellO (i:=4) rfl rfl) Tryz.underlying68 rfl<|wa rfl<|wa rfl<|wn<|WC.ret<|WQ.out (.tmp rfl (.tmp rfl .nil)) ?_)))
  obtain rfl:k=sg.length:=by omega
  exact ⟨_,_,_,_,rfl,hR,H6.sel [1,2,3] rfl rfl⟩
 have st4_5: ∀b14061 s14021 mb14021 wS,Owl.Own [] w wS [a4_0,.blk s14021 [(.map (some mb14021))] 165,.obj mb14021 (mP .u32 (List.map Pg.me []) 0),a4_1,.blk b14061 [(vU32 pg),ev,pv,(.bool con),(vU32 en),sv,(ptr s14021 0)] 125]→W 1 (bz 5 15) (e4 [(17,(ptr b14061 0))]) wS:=fun b14061 s14021 mb14021 wS HS=>by
  rw [hW]
  exact wd1 4<|kS 4 rfl (op_assign rfl<|WD.cw hW (st4_6 b14061 s14021 mb14021 wS HS))
 have st4_4: ∀s14021 mb14021 wS,Owl.Own [] w wS [a4_0,.blk s14021 [(.map (some mb14021))] 165,.obj mb14021 (mP .u32 (List.map Pg.me []) 0),a4_1]→W 2 (bz 5 7) (e4 [(16,(.agg #[(vU32 pg),ev,pv,(.bool con),(vU32 en),sv,(ptr s14021 0)]))]) wS:=fun s14021 mb14021 wS HS=>by
  rw [hW]
  exact wd1 3<|kS 3 rfl (op_box HS rfl rfl (fun b14061 w14061 H14061=>(WD.cw hW (st4_5 b14061 s14021 mb14021 w14061 H14061))))
 have st4_3: ∀s14021 mb14021 wS,Owl.Own [] w wS [a4_0,.blk s14021 [(.map (some mb14021))] 165,.obj mb14021 (mP .u32 (List.map Pg.me []) 0),a4_1]→W 3 (bz 5 3) (e4 [(14,(.agg #[(vU32 pg),ev,pv,(.bool con),(vU32 en),sv])),(15,(ptr s14021 0))]) wS:=fun s14021 mb14021 wS HS=>by
  rw [hW]
  exact wd1 2<|kS 2 rfl (op_build (cs:=[_,_,_,_,_,_,_]) Fa.I125 Fa.PL125 rfl rfl<|WD.cw hW (st4_4 s14021 mb14021 wS HS))
 have st4_1: ∀wS,Owl.Own [] w wS [a4_0]→W 4 (bz 5 1) (e4 [(14,(.agg #[(vU32 pg),ev,pv,(.bool con),(vU32 en),sv]))]) wS:=fun wS HS=>by
  rw [hW]
  refine wd1 1<|kS 1 rfl (op_callF Fa.C73 rfl ((spNew_ok _).mono (fun e w14021 hq=>?_)))
  obtain ⟨s14021,mb14021,rfl,hq14021⟩:=hq
  refine ⟨_,rfl,?_⟩
  have H14021:=HS.splice [] [] [.blk s14021 [(.map (some mb14021))] 165,.obj mb14021 (mP .u32 (List.map Pg.me []) 0),Ent.bs 211 Pg.cells Pg.b []] rfl rfl hq14021 (Fits.solid True.intro (Fits.solid True.intro (Fits.solid True.intro Fits.nil)))
  exact WD.cw hW (st4_3 s14021 mb14021 w14021 H14021)
 have st4_2: ∀s14021 mb14021 wS,Owl.Own [] w wS [a4_0,.blk s14021 [(.map (some mb14021))] 165,.obj mb14021 (mP .u32 (List.map Pg.me []) 0),a4_1]→W 4 (bz 5 2) (e4 [(15,(ptr s14021 0))]) wS:=fun s14021 mb14021 wS HS=>by
  rw [hW]
  exact wd1 0<|kS 0 rfl (op_loadS (vs:=[_,_,_,_,_,_]) rfl (HS.cells (i:=0) rfl rfl) Tryz.underlying43 rfl Fa.I43 rfl<|WD.cw hW (st4_3 s14021 mb14021 wS HS))
 have st4_0: ∀wS,Owl.Own [] w wS [a4_0]→W 5 (bz 5 0) (e4 []) wS:=fun wS HS=>by
  rw [hW]
  refine wd2 0 1 ?_ ?_
  ·
   exact kS 0 rfl (op_loadS (vs:=[_,_,_,_,_,_]) rfl (HS.cells (i:=0) rfl rfl) Tryz.underlying43 rfl Fa.I43 rfl<|WD.cw hW (st4_1 wS HS))
  refine kS 1 rfl (op_callF Fa.C73 rfl ((spNew_ok _).mono (fun e w14021 hq=>?_)))
  obtain ⟨s14021,mb14021,rfl,hq14021⟩:=hq
  refine ⟨_,rfl,?_⟩
  have H14021:=HS.splice [] [] [.blk s14021 [(.map (some mb14021))] 165,.obj mb14021 (mP .u32 (List.map Pg.me []) 0),Ent.bs 211 Pg.cells Pg.b []] rfl rfl hq14021 (Fits.solid True.intro (Fits.solid True.intro (Fits.solid True.intro Fits.nil)))
  exact WD.cw hW (st4_2 s14021 mb14021 w14021 H14021)
 have hq:=st4_0 w3 H3
 rw [hW] at hq ⊢
 refine WD.cov ?_ hq
 exact by repeat (first | exact trivial | refine ⟨rfl,?_⟩)
theorem keys1_uint32 (mb c Bm:Nat) (l:List ME) (hl:MEok l c) {F:Fence} {m:Nat} (hF:Free F) (hro:F.round=none) (w0:World) (hB:w0.cell? ⟨Bm,0,none⟩=some (.map (some mb))) (hM:w0.heap[mb]?=some (mP .u32 l c)) :
  SeqStopsK F m Tryz.prog 145 #[ptr Bm 0] (fun e:ME=>#[kvI .u32 e]) KeepsWalks (fun xs=>l.Perm xs) (fun _=>True) l.length w0:=by
 intro lp J Jx W hW hJ hJx hY h0
 have hM1:W.heap[mb]?=some (mP .u32 l c):=(hW.block mb (Array.getElem?_eq_some_iff.1 hM).1).trans hM
 have hB1:W.cell? ⟨Bm,0,none⟩=some (.map (some mb)):=(hW.cell (p:=⟨Bm,0,none⟩) (block_lt_of_cell hB)).trans hB
 refine enterI (args:=[.func (.yield lp) #[] #[],ptr Bm 0]) hF hro Tryz.func145 rfl rfl (WCI.seq (WCI.region (WLI.op hF rfl rfl rfl (op_load rfl hB1 Tryz.underlying162 rfl (WLI.op hF rfl rfl rfl (op_rangeP (Own.start W []) hM1 Tryz.underlying162 rfl (fun ib w1 H1=>?_)))))))
 have hi1:w1.heap[ib]?=some (itO mb c []):=H1.ok 0 _ rfl
 have hle:W.heap.size≤ib:=(H1.own 0 _ rfl ib rfl).resolve_right (by simp)
 have hM2:w1.heap[mb]?=some (mP .u32 l c):=(H1.fr.block mb (Array.getElem?_eq_some_iff.1 hM1).1 (by simp)).trans hM1
 have hJ1:J [] w1:=hJ [] W w1 none h0 (Fr.grown H1.fr) (fun r e=>by cases e)
 refine WLI.nil<|WQ.nextI (WCI.block (WCI.loop (α:=List ME × List ME) (fun z=>[(0,.func (.yield lp) #[] #[]),(5,ptr ib 0)]) (fun z w'=>l.Perm (z.1++z.2)∧w'.heap[ib]?=some (itO mb c z.1)∧w'.heap[mb]?=some (mP .u32 l c)∧J z.1 w') (fun z=>z.2.length) ([],l) ⟨List.Perm.refl _,hi1,hM2,hJ1⟩ ⟨rfl,rfl,trivial⟩ ?_))
 rintro ⟨sn,rst⟩ w1 ⟨hp,hi2,hM3,hJ2⟩
 show WCI _ _ _ _ _ _ _ [(0,(.func (.yield lp) #[] #[])),(5,(ptr ib 0))] _
 refine WCI.seq (WCI.region (WLI.op hF rfl rfl rfl (op_nextP (i:=0) (sn:=sn) (rest:=rst) (Own.obj1 hi2) rfl hM3 hl hp rfl (fun h0=>?_) (fun e rs hlen hp2 w3 HI=>?_))))
 ·
  exact WLI.op hF rfl rfl rfl (op_extract rfl rfl (WLI.nil<|WQ.nextI (WCI.seq (WCI.no rfl rfl (WCI.exit<|WQ.thenExit<|WQ.thenExit<|WQ.inHere<|WQ.outEnd .nil (⟨⟨_,rfl⟩,.inl ⟨sn,by rw [h0,List.append_nil] at hp; exact hp,hJ2⟩⟩))))))
 have hi3:w3.heap[ib]?=some (itO mb c (sn++[e])):=HI.ok 0 _ rfl
 have hne:mb≠ib:=fun h=>by rw [h,hi2] at hM3; cases hM3
 have hM4:w3.heap[mb]?=some (mP .u32 l c):=(HI.fr.block mb (Array.getElem?_eq_some_iff.1 hM3).1 (by simpa using hne)).trans hM3
 have hJ3:J sn w3:=hJ sn _ w3 (some ib) hJ2 (Fr.grown HI.fr) (fun r e=>by cases e; exact ⟨hle,_,hi2,rfl⟩)
 have hlt:sn.length<l.length:=by have:=hp.length_eq; simp at this; omega
 refine WLI.op hF rfl rfl rfl (op_extract rfl rfl (WLI.nil<|WQ.nextI (WCI.seq (WCI.yes rfl rfl (WCI.skip<|WQ.nextI (WCI.block (WCI.seq (WCI.region (WLI.op hF rfl rfl rfl (op_entryR hi3 hM4 hl hp2 rfl (WLI.op hF rfl rfl rfl (op_extract rfl rfl (WLI.op hF rfl rfl rfl (op_assign rfl (WLI.nil<|WQ.nextI (WCI.seq (WCI.region (WLI.op hF rfl rfl rfl (op_move rfl (WLI.op hF rfl rfl rfl (op_move rfl (WLI.yield hF rfl rfl rfl (hY sn e w3 hJ3 hlt) (fun e4 w4 h4=>?_)))))))))))))))))))))))
 rcases h4 with ⟨rfl,hJ4,hk4⟩ | ⟨rfl,hJ4⟩
 ·
  refine ⟨_,rfl,?_⟩
  exact WLI.op hF rfl rfl rfl (op_not rfl (WLI.nil<|WQ.nextI (WCI.no rfl (congrArg Bool.not rfl) (WCI.skip<|WQ.inNormal<|WQ.round (sn++[e],rs) ⟨hp2,hk4.same _ _ hi3 rfl,hk4.same _ _ hM4 rfl,hJ4⟩ ⟨rfl,rfl,trivial⟩ (by show rs.length<rst.length; omega)))))
 refine ⟨_,rfl,?_⟩
 exact WLI.op hF rfl rfl rfl (op_not rfl (WLI.nil<|WQ.nextI (WCI.yes rfl (congrArg Bool.not rfl) (WCI.ret<|WQ.inRet<|WQ.thenRet<|WQ.inRet<|WQ.out .nil (⟨⟨_,rfl⟩,.inr ⟨_,trivial,hJ4⟩⟩)))))
theorem aseq_uint32 (mb c Bm:Nat) (l:List ME) (hl:MEok l c) (hn:l.length<2^40) (w:World) (hB:w.cell? ⟨Bm,0,none⟩=some (.map (some mb))) (hM:w.heap[mb]?=some (mP .u32 l c)) :
  Calls Tryz.prog 180 #[.slice none 0 0,.func (.func 145) #[] #[ptr Bm 0]] w (fun e w'=> ∃v xs,e=.returned v∧l.Perm xs∧Owl.Own [] w w' [.row v 22 1 xs.length (List.map (kvI .u32) xs)]):=by
 refine (callsIn_wide (n:=6)).1 (enterM (args:=[.slice none 0 0,.func (.func 145) #[] #[ptr Bm 0]]) Free.wide rfl Tryz.func180 rfl rfl ?_)
 have H0:=Own.start w []
 refine WCI.seq (WCI.region (WLI.op Free.wide rfl rfl rfl (op_box H0 rfl rfl (fun b1 w1 H1=>(WLI.op Free.wide rfl rfl rfl (op_assign rfl (WLI.nil<|WQ.nextI (WCI.seq (WCI.seq (WCI.region (WLI.op Free.wide rfl rfl rfl (op_move rfl (WLI.nil<|WQ.nextI (WCI.block ?_))))))))))))))
 have hN:=H1.nilRow 22 1
 have hsz:w.heap.size≤w1.heap.size:=H1.fr.size
 refine WCI.rangeF (enc:=(kvI .u32)) (fun l=>Free.round l) Free.wide rfl rfl (enters_callB Fa.C145) (keys1_uint32 mb c Bm l hl Free.wide rfl w hB hM) (Fr.below H1.fr) (by decide) rfl rfl (fun xs W=> ∃v,Owl.Own [] w W [.blk b1 [v] 73,.row v 22 1 xs.length (List.map (kvI .u32) xs)]) (fun xs W W' row hs hg hr=>hs.elim fun v H=>⟨v,H.turnF hg (fun r e=>⟨Nat.le_trans hsz (hr r e).1,(hr r e).2⟩)⟩) ⟨_,hN⟩ (fun lp pre x W hi hlt=>?_) (fun d xs W hd hS hi hk=>?_)
 ·
  obtain ⟨v,H5⟩:=hi
  have H6:=H5.part [0,1] rfl rfl
  have hT:=H5.cellsT2
  refine WCI.block (WCI.region (WLI.op (Free.round lp) rfl rfl rfl (op_load rfl (H6.cell (i:=0) rfl rfl) Tryz.underlying73 rfl (WLI.op (Free.round lp) rfl rfl rfl (op_move rfl (WLI.op (Free.round lp) rfl rfl rfl (op_buildSlice (cs:=[_]) H6 Tryz.underlying73 Fa.I22 rfl rfl rfl rfl (by decide) (by decide) (fun b2 w2 H2=>(WLI.op (Free.round lp) rfl rfl rfl (op_append (i:=1) H2 Tryz.underlying73 Fa.I22 rfl rfl rfl rfl (Src.ofArr Tryz.underlying73 (H2.arrR (i:=2) rfl)) (by intro c hc; rw [List.mem_singleton.1 hc]; rfl) (by omega) (by omega) (fun v3 w3 H3=>(WLI.op (Free.round lp) rfl rfl rfl (op_storeB (i:=0) H3 rfl rfl rfl rfl (Arr.one (H3.arrR (i:=1) rfl)) Fa.I73 (fun w4 H4=>(WLI.nil<|WQ.inNormal ?_)))))))))))))))
  intro a ha
  have ho:=Fr.others H4.fr hT
  have h8:=H4.sel [0,1] rfl rfl
  have h9:=Own.splice H5 [0,1] [.blk b1 [v3] 73,.row v3 22 1 (pre.length+1) ((List.map (kvI .u32) pre)++[((kvI .u32) x)])] [] rfl rfl h8 (Fits.solid True.intro (Fits.solid True.intro Fits.nil))
  have e9:((List.map (kvI .u32) pre)++[((kvI .u32) x)])=List.map (kvI .u32) (pre++[x]):=by rw [List.map_append]; rfl
  rw [e9,show (pre.length+1)=(pre++[x]).length by simp] at h9
  exact ⟨ho.1,ho.2,_,h9⟩
 obtain ⟨v,H5⟩:=hi
 exact WQ.inNormal<|WQ.nextI (WCI.seq (WCI.region (WLI.op Free.wide rfl rfl rfl (op_load rfl (H5.cell (i:=0) rfl rfl) Tryz.underlying73 rfl (WLI.op Free.wide rfl rfl rfl (op_assign rfl (WLI.nil<|WQ.nextI (WCI.ret<|WQ.outM hk (.tmp rfl .nil) (⟨_,_,rfl,hS,(H5.turn (Fr.putObj _ _ _) (Nat.le_trans hsz hd) hk rfl).sel [1] rfl rfl⟩)))))))))
theorem coll_uint32 (mb c Bm:Nat) (l:List ME) (w:World) (hl:MEok l c) (hn:l.length<2^40) (h32: ∀e∈l,e.k<2^32) (hB:w.cell? ⟨Bm,0,none⟩=some (.map (some mb))) (hM:w.heap[mb]?=some (mP .u32 l c)) :
  Calls Tryz.prog 143 #[(.func (.func 145) #[] #[(ptr Bm 0)])] w (fun e w'=> ∃v ks,e=.returned v∧(l.map Go.Spec.ME.ku).Perm ks∧Owl.Own [] w w' [.row v 22 1 ks.length (List.map vU32 ks)]):=by
 refine enter Tryz.func143 rfl rfl ?_
 have H0:=Own.start w []
 refine ws<|wa rfl<|wn<|ws<|wm rfl<|wo (op_callF Fa.C180 rfl ((aseq_uint32 mb c Bm l hl hn _ hB hM).mono (fun e w1 hq=>?_)))
 obtain ⟨v1,xs1,rfl,hp1,hq1⟩:=hq
 refine ⟨_,rfl,?_⟩
 have H1:=H0.splice [] [] [.row v1 22 1 xs1.length (List.map (kvI .u32) xs1)] rfl rfl hq1 (Fits.solid True.intro Fits.nil)
 refine wa rfl<|wn<|WC.ret<|WQ.out (.tmp rfl .nil) ?_
 have e9:List.map (kvI .u32) xs1=List.map vU32 (xs1.map Go.Spec.ME.ku):=by rw [List.map_map]; exact List.map_congr_left (fun e he=>kv32 (h32 e (hp1.mem_iff.2 he)))
 have h9:=H1.sel [0] rfl rfl
 rw [e9,show xs1.length=(xs1.map Go.Spec.ME.ku).length by rw [List.length_map]] at h9
 exact ⟨_,_,rfl,hp1.map _,h9⟩
theorem nan_ok (x:UInt32) (w:World) :
  Calls Tryz.prog 241 #[(vU32 x)] w (fun e w'=>e=.returned (.bool false)∧Fr [] w w'):=by
 refine enter Tryz.func241 rfl rfl ?_
 have H0:=Own.start w []
 exact ws<|wa rfl<|wn<|ws<|wm rfl<|wm rfl<|wo (op_neqU32 rfl rfl<|wa rfl<|wn<|WC.ret<|WQ.out (.tmp rfl .nil) (⟨by rw [show decide (x≠x)=false from decide_eq_false (fun h=>h rfl)]; rfl,H0.fr⟩))
theorem less_ok (x y:UInt32) (w:World) :
  Calls Tryz.prog 217 #[(vU32 x),(vU32 y)] w (fun e w'=>e=.returned (.bool (ltU32 x y))∧Fr [] w w'):=by
 refine enter Tryz.func217 rfl rfl ?_
 have H0:=Own.start w []
 exact ws<|wa rfl<|wn<|ws<|wm rfl<|wo (cq H0 Fa.C241 rfl (nan_ok x _) fun w1 H1=>(wm rfl<|wN rfl<|wN rfl<|wN rfl<|wo (op_pickF rfl rfl rfl<|wm rfl<|wY rfl (op_move rfl<|wY rfl (op_move rfl<|wY rfl (op_lssU32 rfl rfl<|wo (op_pickF rfl rfl rfl<|wa rfl<|wn<|WC.ret<|WQ.out (.tmp rfl .nil) (⟨rfl,H1.fr⟩))))))))
theorem ins_ok (v:Value) (n:Nat) (l:List UInt32) (a b:Nat) (T:List Nat) (w:World) (H:Owl.Own T w w [.row v 22 1 n (List.map vU32 l)]) (hn:l.length=n) (hN:n<2^62) (hb:b≤n) (ha:a≤n) :
  Calls Tryz.prog 211 #[v,(vN a),(vN b)] w (fun e w'=> ∃l':List UInt32,e=.returned undef∧(Sw 0 a b l l'∧SortS ltU32 0 a b l')∧Owl.Own T w w' [.row v 22 1 n (List.map vU32 l')]):=by
 refine enter Tryz.func211 rfl rfl<|ws<|wm rfl<|wo (op_addN (b:=1) rfl rfl (by omega)<|wa rfl<|wn<|WC.block<|WC.loop (α:=Nat × List UInt32) (fun (i,l1)=>[(0,v),(1,(vN a)),(2,(vN b)),(6,(vN i))]) (fun (i,l1) w'=>(a+1≤i∧i≤max b (a+1)∧Sw 0 a b l l1∧SortS ltU32 0 a i l1)∧Owl.Own T w w' [.row v 22 1 n (List.map vU32 l1)]) (fun (i,l1)=>b-i) (a+1,l) ⟨⟨Nat.le_refl _,by omega,.refl _,SortS.nil (by omega)⟩,H⟩ ⟨rfl,rfl,rfl,rfl,trivial⟩ ?_)
 rintro ⟨i,l1⟩ w1 ⟨⟨hi1,hi2,hs1,ho1⟩,H1⟩
 show WC _ _ _ _ _ [(0,v),(1,(vN a)),(2,(vN b)),(6,(vN i))] _
 have hL1:=hs1.len
 refine WC.seq<|ws<|wm rfl<|wm rfl<|wo (op_lssN rfl rfl<|wn (wE (i<b) (fun hb2 hc2=>?_) (fun hb2 hc2=>?_)))
 ·
  refine WC.skip<|WQ.next<|WC.seq<|WC.block<|ws<|wm rfl<|wa rfl<|wn<|WC.block<|WC.loop (α:=Nat × List UInt32) (fun (j,l2)=>[(0,v),(1,(vN a)),(2,(vN b)),(6,(vN i)),(7,(vN j))]) (fun (j,l2) w'=>(a≤j∧j≤i∧Sw 0 a b l l2∧InsI ltU32 0 a i j l2)∧Owl.Own T w w' [.row v 22 1 n (List.map vU32 l2)]) (fun (j,l2)=>j) (i,l1) ⟨⟨by omega,Nat.le_refl _,hs1,ins_init ho1⟩,H1⟩ ⟨rfl,rfl,rfl,rfl,rfl,trivial⟩ ?_
  rintro ⟨j,l2⟩ w3 ⟨⟨hj1,hj2,hs2,hj3⟩,H3⟩
  show WC _ _ _ _ _ [(0,v),(1,(vN a)),(2,(vN b)),(6,(vN i)),(7,(vN j))] _
  have hL2:=hs2.len
  refine WC.seq<|WC.seq (wG (j>a) (fun hb4 hc4=>?_) (fun hb4 hc4=>?_))
  ·
   refine WC.draw 15 Fa.M H3 (mh rfl<|mh rfl<|oh (fun w1 H1=>op_gtrN rfl rfl zr)<|mh rfl<|yh hb4 (fun w1 H1=>op_move rfl zr)<|yh hb4 (fun w1 H1=>op_move rfl zr)<|yh hb4 (fun w1 H1=>op_indexAddr1 Tryz.underlying73 Fa.I22 rfl (H1.arrR (i:=0) rfl) rfl (by omega) zr)<|yh hb4 (fun w1 H1=>op_load rfl ((H1.arrR (i:=0) rfl).at (get_map vU32 0 (Arr.ltM (H1.arrR (i:=0) rfl) (by omega)))) Tryz.underlying22 rfl zr)<|yh hb4 (fun w1 H1=>op_move rfl zr)<|yh hb4 (fun w1 H1=>op_move rfl zr)<|yh hb4 (fun w1 H1=>op_subN (b:=1) rfl rfl (by omega) (by omega) zr)<|yh hb4 (fun w1 H1=>op_indexAddr1 Tryz.underlying73 Fa.I22 rfl (H1.arrR (i:=0) rfl) rfl (by omega) zr)<|yh hb4 (fun w1 H1=>op_load rfl ((H1.arrR (i:=0) rfl).at (get_map vU32 0 (Arr.ltM (H1.arrR (i:=0) rfl) (by omega)))) Tryz.underlying22 rfl zr)<|yh hb4 (fun w1 H1=>op_callF Fa.C217 rfl ((less_ok (l2.getD j 0) (l2.getD (j-1) 0) _).mono (fun e w2 hq=>⟨_,hq.1,rfl,hq.2⟩)))<|oh (fun w1 H1=>op_pickT rfl hb4 rfl zr)  HW.nil) (by kernel_rfl) ?_
   intro β6 w6 H6
   refine wn (wC (ltU32 (l2.getD j 0) (l2.getD (j-1) 0)) (fun hb7=>?_) (fun hb7=>?_))
   ·
    refine WC.skip<|WQ.next<|WC.seq<|WC.block<|WC.held 18 rfl Fa.M H6 (fun w'=> ∃L',Owl.Own T w w' ([]++L')) ?_
    intro w8 H8
    refine xt 0 rfl v H8 (fun _ _ HX=>op_move rfl ⟨rfl,rfl⟩)<|xt 1 rfl (vN j) H8 (fun _ _ HX=>op_move rfl ⟨rfl,rfl⟩)<|xt 2 rfl v H8 (fun _ _ HX=>op_move rfl ⟨rfl,rfl⟩)<|xt 3 rfl (vN j) H8 (fun _ _ HX=>op_move rfl ⟨rfl,rfl⟩)<|xt 4 rfl (vN (j-1)) H8 (fun _ _ HX=>op_subN (b:=1) rfl rfl (by omega) (by omega) ⟨rfl,rfl⟩)<|xt 5 rfl v H8 (fun _ _ HX=>op_move rfl ⟨rfl,rfl⟩)<|xt 6 rfl (vN j) H8 (fun _ _ HX=>op_move rfl ⟨rfl,rfl⟩)<|xt 7 rfl (vN (j-1)) H8 (fun _ _ HX=>op_subN (b:=1) rfl rfl (by omega) (by omega) ⟨rfl,rfl⟩)<|xt 8 rfl (.pointer (some (sp v (j-1)))) H8 (fun _ _ HX=>op_indexAddr1W Tryz.underlying73 Fa.I22 rfl (H8.arrR (i:=0) rfl) rfl (by omega) ⟨rfl,rfl⟩)<|xt 10 rfl v H8 (fun _ _ HX=>op_move rfl ⟨rfl,rfl⟩)<|xt 11 rfl (vN j) H8 (fun _ _ HX=>op_move rfl ⟨rfl,rfl⟩)<|xt 12 rfl (.pointer (some (sp v j))) H8 (fun _ _ HX=>op_indexAddr1W Tryz.underlying73 Fa.I22 rfl (H8.arrR (i:=0) rfl) rfl (by omega) ⟨rfl,rfl⟩)<|WH.named (fun W hW=>?_)
    let e6:List (Nat × Value)→List (Nat × Value):=fun r=>(0,v)::(1,(vN a))::(2,(vN b))::(6,(vN i))::(7,(vN j))::(16,(vN j))::(17,(vN a))::(18,(.bool (decide (j>a))))::(19,(.bool (decide (j>a))))::(20,v)::(21,(vN j))::(22,(.pointer (some (sp v j))))::(23,(vU32 (l2.getD j 0)))::(24,v)::(25,(vN j))::(26,(vN (j-1)))::(27,(.pointer (some (sp v (j-1)))))::(28,(vU32 (l2.getD (j-1) 0)))::(29,(.bool (ltU32 (l2.getD j 0) (l2.getD (j-1) 0))))::(30,(.bool (ltU32 (l2.getD j 0) (l2.getD (j-1) 0))))::r
    let a6_0:Ent:=.row v 22 1 n (List.map vU32 l2)
    have st6_5: ∀wS,Owl.Own T w wS [.row v 22 1 n (List.map vU32 ((l2.set j (l2.getD (j-1) 0)).set (j-1) (l2.getD j 0)))]→W 0 (bz 18 262143) (e6 []) wS:=fun wS HS=>by
     rw [hW]
     exact WH.done (by kernel_rfl)<|WQ.inNormal<|WQ.next<|WC.region<|wm rfl<|wo (op_subN (b:=1) rfl rfl (by omega) (by omega)<|wa rfl<|WL.nil<|WQ.round (j-1,swapL 0 l2 j (j-1)) ⟨⟨by omega,by omega,hs2.step (by omega) (by omega) (by omega) (by omega),ins_step ltU32OK (by omega) hj3 (by omega) hj2 hb7⟩,HS⟩ ⟨rfl,rfl,rfl,rfl,rfl,trivial⟩ (by show j-1<j; omega))
    have st6_4: ∀wS,Owl.Own T w wS [.row v 22 1 n (List.map vU32 (l2.set j (l2.getD (j-1) 0)))]→W 1 (bz 18 131071) (e6 [(46,(vU32 (l2.getD j 0))),(48,(.pointer (some (sp v (j-1)))))]) wS:=fun wS HS=>by
     rw [hW]
     refine wh1 17<|kH 17 rfl (op_storeRM (i:=0) (f:=vU32) (l:=(l2.set j (l2.getD (j-1) 0))) (c:=(l2.getD j 0)) HS rfl rfl rfl (by omega) rfl Fa.I22 (fun w19341 H19341=>(⟨⟨_,H19341⟩,?_⟩)))
     exact WH.cw hW (st6_5 w19341 H19341)
    have st6_3: ∀wS,Owl.Own T w wS [a6_0]→W 3 (bz 18 32767) (e6 [(35,v),(37,(vN (j-1))),(42,(vU32 (l2.getD (j-1) 0))),(46,(vU32 (l2.getD j 0))),(47,(.pointer (some (sp v j))))]) wS:=fun wS HS=>by
     rw [hW]
     refine wh1 15<|kH 15 rfl (op_storeRM (i:=0) (f:=vU32) (l:=l2) (c:=(l2.getD (j-1) 0)) HS rfl rfl rfl (by omega) rfl Fa.I22 (fun w19301 H19301=>(⟨⟨_,H19301⟩,?_⟩)))
     exact xt 16 rfl (.pointer (some (sp v (j-1)))) H19301 (fun _ _ HX=>op_indexAddr1W Tryz.underlying73 Fa.I22 rfl (H19301.arrR (i:=0) rfl) rfl (by omega) ⟨rfl,rfl⟩)<|WH.cw hW (st6_4 w19301 H19301)
    have st6_1: ∀wS,Owl.Own T w wS [a6_0]→W 5 (bz 18 8191) (e6 [(33,v),(34,(vN j)),(35,v),(37,(vN (j-1))),(42,(vU32 (l2.getD (j-1) 0))),(45,(.pointer (some (sp v j))))]) wS:=fun wS HS=>by
     rw [hW]
     refine wh1 13<|kH 13 rfl (op_load rfl ((HS.arrR (i:=0) rfl).at (get_map vU32 0 (Arr.ltM (HS.arrR (i:=0) rfl) (by omega)))) Tryz.underlying22 rfl (⟨⟨_,HS⟩,?_⟩))
     exact xt 14 rfl (.pointer (some (sp v j))) HS (fun _ _ HX=>op_indexAddr1W Tryz.underlying73 Fa.I22 rfl (HS.arrR (i:=0) rfl) rfl (by omega) ⟨rfl,rfl⟩)<|WH.cw hW (st6_3 wS HS)
    have st6_2: ∀wS,Owl.Own T w wS [a6_0]→W 5 (bz 18 15871) (e6 [(33,v),(34,(vN j)),(35,v),(37,(vN (j-1))),(41,(.pointer (some (sp v (j-1))))),(46,(vU32 (l2.getD j 0)))]) wS:=fun wS HS=>by
     rw [hW]
     refine wh1 9<|kH 9 rfl (op_load rfl ((HS.arrR (i:=0) rfl).at (get_map vU32 0 (Arr.ltM (HS.arrR (i:=0) rfl) (by omega)))) Tryz.underlying22 rfl (⟨⟨_,HS⟩,?_⟩))
     exact xt 14 rfl (.pointer (some (sp v j))) HS (fun _ _ HX=>op_indexAddr1W Tryz.underlying73 Fa.I22 rfl (HS.arrR (i:=0) rfl) rfl (by omega) ⟨rfl,rfl⟩)<|WH.cw hW (st6_3 wS HS)
    have st6_0: ∀wS,Owl.Own T w wS [a6_0]→W 6 (bz 18 7679) (e6 [(33,v),(34,(vN j)),(35,v),(37,(vN (j-1))),(41,(.pointer (some (sp v (j-1))))),(45,(.pointer (some (sp v j))))]) wS:=fun wS HS=>by
     rw [hW]
     refine wh2 9 13 ?_ ?_
     ·
      refine kH 9 rfl (op_load rfl ((HS.arrR (i:=0) rfl).at (get_map vU32 0 (Arr.ltM (HS.arrR (i:=0) rfl) (by omega)))) Tryz.underlying22 rfl (⟨⟨_,HS⟩,?_⟩))
      exact WH.cw hW (st6_1 wS HS)
     refine kH 13 rfl (op_load rfl ((HS.arrR (i:=0) rfl).at (get_map vU32 0 (Arr.ltM (HS.arrR (i:=0) rfl) (by omega)))) Tryz.underlying22 rfl (⟨⟨_,HS⟩,?_⟩))
     exact WH.cw hW (st6_2 wS HS)
    have hq:=st6_0 w8 H8
    rw [hW] at hq ⊢
    exact WH.cv hq
   exact WC.exit<|WQ.thenExit<|WQ.thenExit<|WQ.inHere<|WQ.inNormal<|WQ.next<|WC.region<|wm rfl<|wo (op_addN (b:=1) rfl rfl (by omega)<|wa rfl<|WL.nil<|WQ.round (i+1,l2) ⟨⟨by omega,by omega,hs2,ins_done ltU32OK hj3 (.inr hb7) hj1⟩,H6⟩ ⟨rfl,rfl,rfl,rfl,trivial⟩ (by show b-(i+1)<b-i; omega))
  refine WC.draw 15 Fa.M H3 (mh rfl<|mh rfl<|oh (fun w1 H1=>op_gtrN rfl rfl zr)<|mh rfl<|nh hb4<|nh hb4<|nh hb4<|nh hb4<|nh hb4<|nh hb4<|nh hb4<|nh hb4<|nh hb4<|nh hb4<|oh (fun w1 H1=>op_pickF rfl hb4 rfl zr)  HW.nil) (by kernel_rfl) ?_
  intro β10 w10 H10
  exact wn<|WC.no rfl rfl<|WC.exit<|WQ.thenExit<|WQ.thenExit<|WQ.inHere<|WQ.inNormal<|WQ.next<|WC.region<|wm rfl<|wo (op_addN (b:=1) rfl rfl (by omega)<|wa rfl<|WL.nil<|WQ.round (i+1,l2) ⟨⟨by omega,by omega,hs2,ins_done ltU32OK hj3 (.inl (by omega)) hj1⟩,H10⟩ ⟨rfl,rfl,rfl,rfl,trivial⟩ (by show b-(i+1)<b-i; omega))
 exact WC.exit<|WQ.thenExit<|WQ.thenExit<|WQ.inHere<|WQ.outEnd .nil (⟨_,rfl,⟨hs1,fun p q h1 h2 h3=>ho1 p q h1 h2 (by omega)⟩,H1⟩)
theorem sift_ok (v:Value) (n:Nat) (l:List UInt32) (lo hi f:Nat) (T:List Nat) (w:World) (H:Owl.Own T w w [.row v 22 1 n (List.map vU32 l)]) (hn:l.length=n) (hN:n<2^61) (hf:f+hi≤n) (hlo:lo≤n) (hh:HeapA ltU32 0 (lo+1) hi f l) :
  Calls Tryz.prog 236 #[v,(vN lo),(vN hi),(vN f)] w (fun e w'=> ∃(l':List UInt32),e=.returned undef∧(Sw 0 f (f+hi) l l'∧HeapA ltU32 0 lo hi f l')∧Owl.Own T w w' [.row v 22 1 n (List.map vU32 l')]):=by
 refine enter Tryz.func236 rfl rfl<|ws<|wm rfl<|wa rfl<|wn<|WC.block<|WC.loop (α:=Nat × List UInt32) (fun (x,l1)=>[(0,v),(1,(vN lo)),(2,(vN hi)),(3,(vN f)),(8,(vN x))]) (fun (x,l1) w'=>(lo≤x∧(x<hi∨x=lo)∧Sw 0 f (f+hi) l l1∧HeapX ltU32 0 lo hi f x l1∧HeapG ltU32 0 lo hi f x l1)∧Owl.Own T w w' [.row v 22 1 n (List.map vU32 l1)]) (fun (x,l1)=>hi-x) (lo,l) ⟨⟨Nat.le_refl _,.inr rfl,.refl _,(sift_init hh).1,(sift_init hh).2⟩,H⟩ ⟨rfl,rfl,rfl,rfl,rfl,trivial⟩ ?_
 rintro ⟨x,l1⟩ w1 ⟨⟨hi1,hi2,hs1,hx1,hg1⟩,H1⟩
 show WC _ _ _ _ _ [(0,v),(1,(vN lo)),(2,(vN hi)),(3,(vN f)),(8,(vN x))] _
 have hL1:=hs1.len
 refine WC.block<|ws<|wm rfl<|wo (op_mulN (a:=2) rfl rfl (by omega)<|wo (op_addN (b:=1) rfl rfl (by omega)<|wa rfl<|wn<|WC.seq<|ws<|wm rfl<|wm rfl<|wo (op_geqN rfl rfl<|wn (wE (((2 * x)+1)≥hi) (fun hb2 hc2=>?_) (fun hb2 hc2=>?_)))))
 ·
  exact WC.exit<|WQ.thenExit<|WQ.inPass rfl<|WQ.thenExit<|WQ.inHere<|WQ.outEnd .nil (⟨_,rfl,⟨hs1,sift_leaf hx1 (by omega)⟩,H1⟩)
 refine WC.skip<|WQ.next<|WC.seq<|WC.seq (wG ((((2 * x)+1)+1)<hi) (fun hb3 hc3=>?_) (fun hb3 hc3=>?_))
 ·
  refine WC.draw 20 Fa.M H1 (mh rfl<|oh (fun w1 H1=>op_addN (b:=1) rfl rfl (by omega) zr)<|mh rfl<|oh (fun w1 H1=>op_lssN rfl rfl zr)<|mh rfl<|yh hb3 (fun w1 H1=>op_move rfl zr)<|yh hb3 (fun w1 H1=>op_move rfl zr)<|yh hb3 (fun w1 H1=>op_move rfl zr)<|yh hb3 (fun w1 H1=>op_addN rfl rfl (by omega) zr)<|yh hb3 (fun w1 H1=>op_indexAddr1 Tryz.underlying73 Fa.I22 rfl (H1.arrR (i:=0) rfl) rfl (by omega) zr)<|yh hb3 (fun w1 H1=>op_load rfl ((H1.arrR (i:=0) rfl).at (get_map vU32 0 (Arr.ltM (H1.arrR (i:=0) rfl) (by omega)))) Tryz.underlying22 rfl zr)<|yh hb3 (fun w1 H1=>op_move rfl zr)<|yh hb3 (fun w1 H1=>op_move rfl zr)<|yh hb3 (fun w1 H1=>op_move rfl zr)<|yh hb3 (fun w1 H1=>op_addN rfl rfl (by omega) zr)<|yh hb3 (fun w1 H1=>op_addN (b:=1) rfl rfl (by omega) zr)<|yh hb3 (fun w1 H1=>op_indexAddr1 Tryz.underlying73 Fa.I22 rfl (H1.arrR (i:=0) rfl) rfl (by omega) zr)<|yh hb3 (fun w1 H1=>op_load rfl ((H1.arrR (i:=0) rfl).at (get_map vU32 0 (Arr.ltM (H1.arrR (i:=0) rfl) (by omega)))) Tryz.underlying22 rfl zr)<|yh hb3 (fun w1 H1=>op_callF Fa.C217 rfl ((less_ok (l1.getD (f+((2 * x)+1)) 0) (l1.getD ((f+((2 * x)+1))+1) 0) _).mono (fun e w2 hq=>⟨_,hq.1,rfl,hq.2⟩)))<|oh (fun w1 H1=>op_pickT rfl hb3 rfl zr)  HW.nil) (by kernel_rfl) ?_
  intro β5 w5 H5
  refine wn (wC (ltU32 (l1.getD (f+((2 * x)+1)) 0) (l1.getD ((f+((2 * x)+1))+1) 0)) (fun hb6=>?_) (fun hb6=>?_))
  ·
   refine WC.region<|wm rfl<|wo (op_addN (b:=1) rfl rfl (by omega)<|wa rfl<|wn<|WC.seq<|WC.seq<|WC.draw 14 Fa.M H5 (mh rfl<|mh rfl<|mh rfl<|oh (fun w1 H1=>op_addN rfl rfl (by omega) zr)<|oh (fun w1 H1=>op_indexAddr1 Tryz.underlying73 Fa.I22 rfl (H1.arrR (i:=0) rfl) rfl (by omega) zr)<|oh (fun w1 H1=>op_load rfl ((H1.arrR (i:=0) rfl).at (get_map vU32 0 (Arr.ltM (H1.arrR (i:=0) rfl) (by omega)))) Tryz.underlying22 rfl zr)<|mh rfl<|mh rfl<|mh rfl<|oh (fun w1 H1=>op_addN rfl rfl (by omega) zr)<|oh (fun w1 H1=>op_indexAddr1 Tryz.underlying73 Fa.I22 rfl (H1.arrR (i:=0) rfl) rfl (by omega) zr)<|oh (fun w1 H1=>op_load rfl ((H1.arrR (i:=0) rfl).at (get_map vU32 0 (Arr.ltM (H1.arrR (i:=0) rfl) (by omega)))) Tryz.underlying22 rfl zr)<|oh (fun w1 H1=>op_callF Fa.C217 rfl ((less_ok (l1.getD (f+x) 0) (l1.getD (f+(((2 * x)+1)+1)) 0) _).mono (fun e w2 hq=>⟨_,hq.1,rfl,hq.2⟩)))<|oh (fun w1 H1=>op_not rfl zr)  HW.nil) (by kernel_rfl) ?_)
   intro β8 w8 H8
   refine wn (wC (!(ltU32 (l1.getD (f+x) 0) (l1.getD (f+(((2 * x)+1)+1)) 0))) (fun hb9=>?_) (fun hb9=>?_))
   ·
    have hn9:=(Bool.not_eq_true' _).mp hb9
    exact WC.ret<|WQ.thenRet<|WQ.inRet<|WQ.thenRet<|WQ.inRet<|WQ.out .nil (⟨_,rfl,⟨hs1,sift_stop ltU32OK hx1 (och_2 ltU32OK (by omega) hb6) hn9⟩,H8⟩)
   have hn9:=(Bool.not_eq_false' _).mp hb9
   refine WC.skip<|WQ.next<|WC.seq<|WC.held 24 rfl Fa.M H8 (fun w'=> ∃L',Owl.Own T w w' ([]++L')) ?_
   intro w10 H10
   refine xt 0 rfl v H10 (fun _ _ HX=>op_move rfl ⟨rfl,rfl⟩)<|xt 1 rfl (vN f) H10 (fun _ _ HX=>op_move rfl ⟨rfl,rfl⟩)<|xt 2 rfl (vN x) H10 (fun _ _ HX=>op_move rfl ⟨rfl,rfl⟩)<|xt 3 rfl (vN (f+x)) H10 (fun _ _ HX=>op_addN rfl rfl (by omega) ⟨rfl,rfl⟩)<|xt 4 rfl v H10 (fun _ _ HX=>op_move rfl ⟨rfl,rfl⟩)<|xt 5 rfl (vN f) H10 (fun _ _ HX=>op_move rfl ⟨rfl,rfl⟩)<|xt 6 rfl (vN (((2 * x)+1)+1)) H10 (fun _ _ HX=>op_move rfl ⟨rfl,rfl⟩)<|xt 7 rfl (vN (f+(((2 * x)+1)+1))) H10 (fun _ _ HX=>op_addN rfl rfl (by omega) ⟨rfl,rfl⟩)<|xt 8 rfl v H10 (fun _ _ HX=>op_move rfl ⟨rfl,rfl⟩)<|xt 9 rfl (vN f) H10 (fun _ _ HX=>op_move rfl ⟨rfl,rfl⟩)<|xt 10 rfl (vN (((2 * x)+1)+1)) H10 (fun _ _ HX=>op_move rfl ⟨rfl,rfl⟩)<|xt 11 rfl (vN (f+(((2 * x)+1)+1))) H10 (fun _ _ HX=>op_addN rfl rfl (by omega) ⟨rfl,rfl⟩)<|xt 12 rfl (.pointer (some (sp v (f+(((2 * x)+1)+1))))) H10 (fun _ _ HX=>op_indexAddr1W Tryz.underlying73 Fa.I22 rfl (H10.arrR (i:=0) rfl) rfl (by omega) ⟨rfl,rfl⟩)<|xt 14 rfl v H10 (fun _ _ HX=>op_move rfl ⟨rfl,rfl⟩)<|xt 15 rfl (vN f) H10 (fun _ _ HX=>op_move rfl ⟨rfl,rfl⟩)<|xt 16 rfl (vN x) H10 (fun _ _ HX=>op_move rfl ⟨rfl,rfl⟩)<|xt 17 rfl (vN (f+x)) H10 (fun _ _ HX=>op_addN rfl rfl (by omega) ⟨rfl,rfl⟩)<|xt 18 rfl (.pointer (some (sp v (f+x)))) H10 (fun _ _ HX=>op_indexAddr1W Tryz.underlying73 Fa.I22 rfl (H10.arrR (i:=0) rfl) rfl (by omega) ⟨rfl,rfl⟩)<|WH.named (fun W hW=>?_)
   let e6:List (Nat × Value)→List (Nat × Value):=fun r=>(0,v)::(1,(vN lo))::(2,(vN hi))::(3,(vN f))::(8,(vN x))::(9,(vN (((2 * x)+1)+1)))::(11,(vN x))::(12,(vN (2 * x)))::(13,(vN ((2 * x)+1)))::(14,(vN ((2 * x)+1)))::(15,(vN hi))::(16,(.bool (decide (((2 * x)+1)≥hi))))::(17,(vN ((2 * x)+1)))::(18,(vN (((2 * x)+1)+1)))::(19,(vN hi))::(20,(.bool (decide ((((2 * x)+1)+1)<hi))))::(21,(.bool (decide ((((2 * x)+1)+1)<hi))))::(22,v)::(23,(vN f))::(24,(vN ((2 * x)+1)))::(25,(vN (f+((2 * x)+1))))::(26,(.pointer (some (sp v (f+((2 * x)+1))))))::(27,(vU32 (l1.getD (f+((2 * x)+1)) 0)))::(28,v)::(29,(vN f))::(30,(vN ((2 * x)+1)))::(31,(vN (f+((2 * x)+1))))::(32,(vN ((f+((2 * x)+1))+1)))::(33,(.pointer (some (sp v ((f+((2 * x)+1))+1)))))::(34,(vU32 (l1.getD ((f+((2 * x)+1))+1) 0)))::(35,(.bool (ltU32 (l1.getD (f+((2 * x)+1)) 0) (l1.getD ((f+((2 * x)+1))+1) 0))))::(36,(.bool (ltU32 (l1.getD (f+((2 * x)+1)) 0) (l1.getD ((f+((2 * x)+1))+1) 0))))::(37,(vN ((2 * x)+1)))::(38,(vN (((2 * x)+1)+1)))::(39,v)::(40,(vN f))::(41,(vN x))::(42,(vN (f+x)))::(43,(.pointer (some (sp v (f+x)))))::(44,(vU32 (l1.getD (f+x) 0)))::(45,v)::(46,(vN f))::(47,(vN (((2 * x)+1)+1)))::(48,(vN (f+(((2 * x)+1)+1))))::(49,(.pointer (some (sp v (f+(((2 * x)+1)+1))))))::(50,(vU32 (l1.getD (f+(((2 * x)+1)+1)) 0)))::(51,(.bool (ltU32 (l1.getD (f+x) 0) (l1.getD (f+(((2 * x)+1)+1)) 0))))::(52,(.bool (!(ltU32 (l1.getD (f+x) 0) (l1.getD (f+(((2 * x)+1)+1)) 0)))))::r
   let a6_0:Ent:=.row v 22 1 n (List.map vU32 l1)
   have st6_5: ∀wS,Owl.Own T w wS [.row v 22 1 n (List.map vU32 ((l1.set (f+x) (l1.getD (f+(((2 * x)+1)+1)) 0)).set (f+(((2 * x)+1)+1)) (l1.getD (f+x) 0)))]→W 0 (bz 24 16777215) (e6 []) wS:=fun wS HS=>by
    rw [hW]
    refine WH.done (by kernel_rfl)<|WQ.next<|WC.region<|wm rfl<|wa rfl<|WL.nil<|WQ.inNormal ?_
    have hst:=sift_step ltU32OK (by omega) hx1 hg1 (och_2 ltU32OK (by omega) hb6) (by omega) hn9
    exact WQ.round ((2 * x+1+1),swapL 0 l1 (f+x) (f+(2 * x+1+1))) ⟨⟨by omega,.inl (by omega),hs1.step (by omega) (by omega) (by omega) (by omega),hst.1,hst.2⟩,HS⟩ ⟨rfl,rfl,rfl,rfl,rfl,trivial⟩ (by show hi-(2 * x+1+1)<hi-x; omega)
   have st6_4: ∀wS,Owl.Own T w wS [.row v 22 1 n (List.map vU32 (l1.set (f+x) (l1.getD (f+(((2 * x)+1)+1)) 0)))]→W 1 (bz 24 8388607) (e6 [(72,(vU32 (l1.getD (f+x) 0))),(74,(.pointer (some (sp v (f+(((2 * x)+1)+1))))))]) wS:=fun wS HS=>by
    rw [hW]
    refine wh1 23<|kH 23 rfl (op_storeRM (i:=0) (f:=vU32) (l:=(l1.set (f+x) (l1.getD (f+(((2 * x)+1)+1)) 0))) (c:=(l1.getD (f+x) 0)) HS rfl rfl rfl (by omega) rfl Fa.I22 (fun w21461 H21461=>(⟨⟨_,H21461⟩,?_⟩)))
    exact WH.cw hW (st6_5 w21461 H21461)
   have st6_3: ∀wS,Owl.Own T w wS [a6_0]→W 3 (bz 24 2097151) (e6 [(57,v),(60,(vN (f+(((2 * x)+1)+1)))),(66,(vU32 (l1.getD (f+(((2 * x)+1)+1)) 0))),(72,(vU32 (l1.getD (f+x) 0))),(73,(.pointer (some (sp v (f+x)))))]) wS:=fun wS HS=>by
    rw [hW]
    refine wh1 21<|kH 21 rfl (op_storeRM (i:=0) (f:=vU32) (l:=l1) (c:=(l1.getD (f+(((2 * x)+1)+1)) 0)) HS rfl rfl rfl (by omega) rfl Fa.I22 (fun w21421 H21421=>(⟨⟨_,H21421⟩,?_⟩)))
    exact xt 22 rfl (.pointer (some (sp v (f+(((2 * x)+1)+1))))) H21421 (fun _ _ HX=>op_indexAddr1W Tryz.underlying73 Fa.I22 rfl (H21421.arrR (i:=0) rfl) rfl (by omega) ⟨rfl,rfl⟩)<|WH.cw hW (st6_4 w21421 H21421)
   have st6_1: ∀wS,Owl.Own T w wS [a6_0]→W 5 (bz 24 524287) (e6 [(53,v),(56,(vN (f+x))),(57,v),(60,(vN (f+(((2 * x)+1)+1)))),(66,(vU32 (l1.getD (f+(((2 * x)+1)+1)) 0))),(71,(.pointer (some (sp v (f+x)))))]) wS:=fun wS HS=>by
    rw [hW]
    refine wh1 19<|kH 19 rfl (op_load rfl ((HS.arrR (i:=0) rfl).at (get_map vU32 0 (Arr.ltM (HS.arrR (i:=0) rfl) (by omega)))) Tryz.underlying22 rfl (⟨⟨_,HS⟩,?_⟩))
    exact xt 20 rfl (.pointer (some (sp v (f+x)))) HS (fun _ _ HX=>op_indexAddr1W Tryz.underlying73 Fa.I22 rfl (HS.arrR (i:=0) rfl) rfl (by omega) ⟨rfl,rfl⟩)<|WH.cw hW (st6_3 wS HS)
   have st6_2: ∀wS,Owl.Own T w wS [a6_0]→W 5 (bz 24 1040383) (e6 [(53,v),(56,(vN (f+x))),(57,v),(60,(vN (f+(((2 * x)+1)+1)))),(65,(.pointer (some (sp v (f+(((2 * x)+1)+1)))))),(72,(vU32 (l1.getD (f+x) 0)))]) wS:=fun wS HS=>by
    rw [hW]
    refine wh1 13<|kH 13 rfl (op_load rfl ((HS.arrR (i:=0) rfl).at (get_map vU32 0 (Arr.ltM (HS.arrR (i:=0) rfl) (by omega)))) Tryz.underlying22 rfl (⟨⟨_,HS⟩,?_⟩))
    exact xt 20 rfl (.pointer (some (sp v (f+x)))) HS (fun _ _ HX=>op_indexAddr1W Tryz.underlying73 Fa.I22 rfl (HS.arrR (i:=0) rfl) rfl (by omega) ⟨rfl,rfl⟩)<|WH.cw hW (st6_3 wS HS)
   have st6_0: ∀wS,Owl.Own T w wS [a6_0]→W 6 (bz 24 516095) (e6 [(53,v),(56,(vN (f+x))),(57,v),(60,(vN (f+(((2 * x)+1)+1)))),(65,(.pointer (some (sp v (f+(((2 * x)+1)+1)))))),(71,(.pointer (some (sp v (f+x)))))]) wS:=fun wS HS=>by
    rw [hW]
    refine wh2 13 19 ?_ ?_
    ·
     refine kH 13 rfl (op_load rfl ((HS.arrR (i:=0) rfl).at (get_map vU32 0 (Arr.ltM (HS.arrR (i:=0) rfl) (by omega)))) Tryz.underlying22 rfl (⟨⟨_,HS⟩,?_⟩))
     exact WH.cw hW (st6_1 wS HS)
    refine kH 19 rfl (op_load rfl ((HS.arrR (i:=0) rfl).at (get_map vU32 0 (Arr.ltM (HS.arrR (i:=0) rfl) (by omega)))) Tryz.underlying22 rfl (⟨⟨_,HS⟩,?_⟩))
    exact WH.cw hW (st6_2 wS HS)
   have hq:=st6_0 w10 H10
   rw [hW] at hq ⊢
   exact WH.cv hq
  refine WC.skip<|WQ.next<|WC.seq<|WC.seq<|WC.draw 14 Fa.M H5 (mh rfl<|mh rfl<|mh rfl<|oh (fun w1 H1=>op_addN rfl rfl (by omega) zr)<|oh (fun w1 H1=>op_indexAddr1 Tryz.underlying73 Fa.I22 rfl (H1.arrR (i:=0) rfl) rfl (by omega) zr)<|oh (fun w1 H1=>op_load rfl ((H1.arrR (i:=0) rfl).at (get_map vU32 0 (Arr.ltM (H1.arrR (i:=0) rfl) (by omega)))) Tryz.underlying22 rfl zr)<|mh rfl<|mh rfl<|mh rfl<|oh (fun w1 H1=>op_addN rfl rfl (by omega) zr)<|oh (fun w1 H1=>op_indexAddr1 Tryz.underlying73 Fa.I22 rfl (H1.arrR (i:=0) rfl) rfl (by omega) zr)<|oh (fun w1 H1=>op_load rfl ((H1.arrR (i:=0) rfl).at (get_map vU32 0 (Arr.ltM (H1.arrR (i:=0) rfl) (by omega)))) Tryz.underlying22 rfl zr)<|oh (fun w1 H1=>op_callF Fa.C217 rfl ((less_ok (l1.getD (f+x) 0) (l1.getD (f+((2 * x)+1)) 0) _).mono (fun e w2 hq=>⟨_,hq.1,rfl,hq.2⟩)))<|oh (fun w1 H1=>op_not rfl zr)  HW.nil) (by kernel_rfl) ?_
  intro β13 w13 H13
  refine wn (wC (!(ltU32 (l1.getD (f+x) 0) (l1.getD (f+((2 * x)+1)) 0))) (fun hb14=>?_) (fun hb14=>?_))
  ·
   have hn14:=(Bool.not_eq_true' _).mp hb14
   exact WC.ret<|WQ.thenRet<|WQ.inRet<|WQ.thenRet<|WQ.inRet<|WQ.out .nil (⟨_,rfl,⟨hs1,sift_stop ltU32OK hx1 (och_1 ltU32OK (by omega) (.inr hb6)) hn14⟩,H13⟩)
  have hn14:=(Bool.not_eq_false' _).mp hb14
  refine WC.skip<|WQ.next<|WC.seq<|WC.held 24 rfl Fa.M H13 (fun w'=> ∃L',Owl.Own T w w' ([]++L')) ?_
  intro w15 H15
  refine xt 0 rfl v H15 (fun _ _ HX=>op_move rfl ⟨rfl,rfl⟩)<|xt 1 rfl (vN f) H15 (fun _ _ HX=>op_move rfl ⟨rfl,rfl⟩)<|xt 2 rfl (vN x) H15 (fun _ _ HX=>op_move rfl ⟨rfl,rfl⟩)<|xt 3 rfl (vN (f+x)) H15 (fun _ _ HX=>op_addN rfl rfl (by omega) ⟨rfl,rfl⟩)<|xt 4 rfl v H15 (fun _ _ HX=>op_move rfl ⟨rfl,rfl⟩)<|xt 5 rfl (vN f) H15 (fun _ _ HX=>op_move rfl ⟨rfl,rfl⟩)<|xt 6 rfl (vN ((2 * x)+1)) H15 (fun _ _ HX=>op_move rfl ⟨rfl,rfl⟩)<|xt 7 rfl (vN (f+((2 * x)+1))) H15 (fun _ _ HX=>op_addN rfl rfl (by omega) ⟨rfl,rfl⟩)<|xt 8 rfl v H15 (fun _ _ HX=>op_move rfl ⟨rfl,rfl⟩)<|xt 9 rfl (vN f) H15 (fun _ _ HX=>op_move rfl ⟨rfl,rfl⟩)<|xt 10 rfl (vN ((2 * x)+1)) H15 (fun _ _ HX=>op_move rfl ⟨rfl,rfl⟩)<|xt 11 rfl (vN (f+((2 * x)+1))) H15 (fun _ _ HX=>op_addN rfl rfl (by omega) ⟨rfl,rfl⟩)<|xt 12 rfl (.pointer (some (sp v (f+((2 * x)+1))))) H15 (fun _ _ HX=>op_indexAddr1W Tryz.underlying73 Fa.I22 rfl (H15.arrR (i:=0) rfl) rfl (by omega) ⟨rfl,rfl⟩)<|xt 14 rfl v H15 (fun _ _ HX=>op_move rfl ⟨rfl,rfl⟩)<|xt 15 rfl (vN f) H15 (fun _ _ HX=>op_move rfl ⟨rfl,rfl⟩)<|xt 16 rfl (vN x) H15 (fun _ _ HX=>op_move rfl ⟨rfl,rfl⟩)<|xt 17 rfl (vN (f+x)) H15 (fun _ _ HX=>op_addN rfl rfl (by omega) ⟨rfl,rfl⟩)<|xt 18 rfl (.pointer (some (sp v (f+x)))) H15 (fun _ _ HX=>op_indexAddr1W Tryz.underlying73 Fa.I22 rfl (H15.arrR (i:=0) rfl) rfl (by omega) ⟨rfl,rfl⟩)<|WH.named (fun W hW=>?_)
  let e6:List (Nat × Value)→List (Nat × Value):=fun r=>(0,v)::(1,(vN lo))::(2,(vN hi))::(3,(vN f))::(8,(vN x))::(9,(vN ((2 * x)+1)))::(11,(vN x))::(12,(vN (2 * x)))::(13,(vN ((2 * x)+1)))::(14,(vN ((2 * x)+1)))::(15,(vN hi))::(16,(.bool (decide (((2 * x)+1)≥hi))))::(17,(vN ((2 * x)+1)))::(18,(vN (((2 * x)+1)+1)))::(19,(vN hi))::(20,(.bool (decide ((((2 * x)+1)+1)<hi))))::(21,(.bool (decide ((((2 * x)+1)+1)<hi))))::(22,v)::(23,(vN f))::(24,(vN ((2 * x)+1)))::(25,(vN (f+((2 * x)+1))))::(26,(.pointer (some (sp v (f+((2 * x)+1))))))::(27,(vU32 (l1.getD (f+((2 * x)+1)) 0)))::(28,v)::(29,(vN f))::(30,(vN ((2 * x)+1)))::(31,(vN (f+((2 * x)+1))))::(32,(vN ((f+((2 * x)+1))+1)))::(33,(.pointer (some (sp v ((f+((2 * x)+1))+1)))))::(34,(vU32 (l1.getD ((f+((2 * x)+1))+1) 0)))::(35,(.bool (ltU32 (l1.getD (f+((2 * x)+1)) 0) (l1.getD ((f+((2 * x)+1))+1) 0))))::(36,(.bool (ltU32 (l1.getD (f+((2 * x)+1)) 0) (l1.getD ((f+((2 * x)+1))+1) 0))))::(39,v)::(40,(vN f))::(41,(vN x))::(42,(vN (f+x)))::(43,(.pointer (some (sp v (f+x)))))::(44,(vU32 (l1.getD (f+x) 0)))::(45,v)::(46,(vN f))::(47,(vN ((2 * x)+1)))::(48,(vN (f+((2 * x)+1))))::(49,(.pointer (some (sp v (f+((2 * x)+1))))))::(50,(vU32 (l1.getD (f+((2 * x)+1)) 0)))::(51,(.bool (ltU32 (l1.getD (f+x) 0) (l1.getD (f+((2 * x)+1)) 0))))::(52,(.bool (!(ltU32 (l1.getD (f+x) 0) (l1.getD (f+((2 * x)+1)) 0)))))::r
  let a6_0:Ent:=.row v 22 1 n (List.map vU32 l1)
  have st6_5: ∀wS,Owl.Own T w wS [.row v 22 1 n (List.map vU32 ((l1.set (f+x) (l1.getD (f+((2 * x)+1)) 0)).set (f+((2 * x)+1)) (l1.getD (f+x) 0)))]→W 0 (bz 24 16777215) (e6 []) wS:=fun wS HS=>by
   rw [hW]
   refine WH.done (by kernel_rfl)<|WQ.next<|WC.region<|wm rfl<|wa rfl<|WL.nil<|WQ.inNormal ?_
   have hst:=sift_step ltU32OK (by omega) hx1 hg1 (och_1 ltU32OK (by omega) (.inr hb6)) (by omega) hn14
   exact WQ.round ((2 * x+1),swapL 0 l1 (f+x) (f+(2 * x+1))) ⟨⟨by omega,.inl (by omega),hs1.step (by omega) (by omega) (by omega) (by omega),hst.1,hst.2⟩,HS⟩ ⟨rfl,rfl,rfl,rfl,rfl,trivial⟩ (by show hi-(2 * x+1)<hi-x; omega)
  have st6_4: ∀wS,Owl.Own T w wS [.row v 22 1 n (List.map vU32 (l1.set (f+x) (l1.getD (f+((2 * x)+1)) 0)))]→W 1 (bz 24 8388607) (e6 [(72,(vU32 (l1.getD (f+x) 0))),(74,(.pointer (some (sp v (f+((2 * x)+1))))))]) wS:=fun wS HS=>by
   rw [hW]
   refine wh1 23<|kH 23 rfl (op_storeRM (i:=0) (f:=vU32) (l:=(l1.set (f+x) (l1.getD (f+((2 * x)+1)) 0))) (c:=(l1.getD (f+x) 0)) HS rfl rfl rfl (by omega) rfl Fa.I22 (fun w26461 H26461=>(⟨⟨_,H26461⟩,?_⟩)))
   exact WH.cw hW (st6_5 w26461 H26461)
  have st6_3: ∀wS,Owl.Own T w wS [a6_0]→W 3 (bz 24 2097151) (e6 [(57,v),(60,(vN (f+((2 * x)+1)))),(66,(vU32 (l1.getD (f+((2 * x)+1)) 0))),(72,(vU32 (l1.getD (f+x) 0))),(73,(.pointer (some (sp v (f+x)))))]) wS:=fun wS HS=>by
   rw [hW]
   refine wh1 21<|kH 21 rfl (op_storeRM (i:=0) (f:=vU32) (l:=l1) (c:=(l1.getD (f+((2 * x)+1)) 0)) HS rfl rfl rfl (by omega) rfl Fa.I22 (fun w26421 H26421=>(⟨⟨_,H26421⟩,?_⟩)))
   exact xt 22 rfl (.pointer (some (sp v (f+((2 * x)+1))))) H26421 (fun _ _ HX=>op_indexAddr1W Tryz.underlying73 Fa.I22 rfl (H26421.arrR (i:=0) rfl) rfl (by omega) ⟨rfl,rfl⟩)<|WH.cw hW (st6_4 w26421 H26421)
  have st6_1: ∀wS,Owl.Own T w wS [a6_0]→W 5 (bz 24 524287) (e6 [(53,v),(56,(vN (f+x))),(57,v),(60,(vN (f+((2 * x)+1)))),(66,(vU32 (l1.getD (f+((2 * x)+1)) 0))),(71,(.pointer (some (sp v (f+x)))))]) wS:=fun wS HS=>by
   rw [hW]
   refine wh1 19<|kH 19 rfl (op_load rfl ((HS.arrR (i:=0) rfl).at (get_map vU32 0 (Arr.ltM (HS.arrR (i:=0) rfl) (by omega)))) Tryz.underlying22 rfl (⟨⟨_,HS⟩,?_⟩))
   exact xt 20 rfl (.pointer (some (sp v (f+x)))) HS (fun _ _ HX=>op_indexAddr1W Tryz.underlying73 Fa.I22 rfl (HS.arrR (i:=0) rfl) rfl (by omega) ⟨rfl,rfl⟩)<|WH.cw hW (st6_3 wS HS)
  have st6_2: ∀wS,Owl.Own T w wS [a6_0]→W 5 (bz 24 1040383) (e6 [(53,v),(56,(vN (f+x))),(57,v),(60,(vN (f+((2 * x)+1)))),(65,(.pointer (some (sp v (f+((2 * x)+1)))))),(72,(vU32 (l1.getD (f+x) 0)))]) wS:=fun wS HS=>by
   rw [hW]
   refine wh1 13<|kH 13 rfl (op_load rfl ((HS.arrR (i:=0) rfl).at (get_map vU32 0 (Arr.ltM (HS.arrR (i:=0) rfl) (by omega)))) Tryz.underlying22 rfl (⟨⟨_,HS⟩,?_⟩))
   exact xt 20 rfl (.pointer (some (sp v (f+x)))) HS (fun _ _ HX=>op_indexAddr1W Tryz.underlying73 Fa.I22 rfl (HS.arrR (i:=0) rfl) rfl (by omega) ⟨rfl,rfl⟩)<|WH.cw hW (st6_3 wS HS)
  have st6_0: ∀wS,Owl.Own T w wS [a6_0]→W 6 (bz 24 516095) (e6 [(53,v),(56,(vN (f+x))),(57,v),(60,(vN (f+((2 * x)+1)))),(65,(.pointer (some (sp v (f+((2 * x)+1)))))),(71,(.pointer (some (sp v (f+x)))))]) wS:=fun wS HS=>by
   rw [hW]
   refine wh2 13 19 ?_ ?_
   ·
    refine kH 13 rfl (op_load rfl ((HS.arrR (i:=0) rfl).at (get_map vU32 0 (Arr.ltM (HS.arrR (i:=0) rfl) (by omega)))) Tryz.underlying22 rfl (⟨⟨_,HS⟩,?_⟩))
    exact WH.cw hW (st6_1 wS HS)
   refine kH 19 rfl (op_load rfl ((HS.arrR (i:=0) rfl).at (get_map vU32 0 (Arr.ltM (HS.arrR (i:=0) rfl) (by omega)))) Tryz.underlying22 rfl (⟨⟨_,HS⟩,?_⟩))
   exact WH.cw hW (st6_2 wS HS)
  have hq:=st6_0 w15 H15
  rw [hW] at hq ⊢
  exact WH.cv hq
 refine WC.draw 20 Fa.M H1 (mh rfl<|oh (fun w1 H1=>op_addN (b:=1) rfl rfl (by omega) zr)<|mh rfl<|oh (fun w1 H1=>op_lssN rfl rfl zr)<|mh rfl<|nh hb3<|nh hb3<|nh hb3<|nh hb3<|nh hb3<|nh hb3<|nh hb3<|nh hb3<|nh hb3<|nh hb3<|nh hb3<|nh hb3<|nh hb3<|nh hb3<|oh (fun w1 H1=>op_pickF rfl hb3 rfl zr)  HW.nil) (by kernel_rfl) ?_
 intro β17 w17 H17
 refine wn<|WC.no rfl rfl<|WC.skip<|WQ.next<|WC.seq<|WC.seq<|WC.draw 14 Fa.M H17 (mh rfl<|mh rfl<|mh rfl<|oh (fun w1 H1=>op_addN rfl rfl (by omega) zr)<|oh (fun w1 H1=>op_indexAddr1 Tryz.underlying73 Fa.I22 rfl (H1.arrR (i:=0) rfl) rfl (by omega) zr)<|oh (fun w1 H1=>op_load rfl ((H1.arrR (i:=0) rfl).at (get_map vU32 0 (Arr.ltM (H1.arrR (i:=0) rfl) (by omega)))) Tryz.underlying22 rfl zr)<|mh rfl<|mh rfl<|mh rfl<|oh (fun w1 H1=>op_addN rfl rfl (by omega) zr)<|oh (fun w1 H1=>op_indexAddr1 Tryz.underlying73 Fa.I22 rfl (H1.arrR (i:=0) rfl) rfl (by omega) zr)<|oh (fun w1 H1=>op_load rfl ((H1.arrR (i:=0) rfl).at (get_map vU32 0 (Arr.ltM (H1.arrR (i:=0) rfl) (by omega)))) Tryz.underlying22 rfl zr)<|oh (fun w1 H1=>op_callF Fa.C217 rfl ((less_ok (l1.getD (f+x) 0) (l1.getD (f+((2 * x)+1)) 0) _).mono (fun e w2 hq=>⟨_,hq.1,rfl,hq.2⟩)))<|oh (fun w1 H1=>op_not rfl zr)  HW.nil) (by kernel_rfl) ?_
 intro β19 w19 H19
 refine wn (wC (!(ltU32 (l1.getD (f+x) 0) (l1.getD (f+((2 * x)+1)) 0))) (fun hb20=>?_) (fun hb20=>?_))
 ·
  have hn20:=(Bool.not_eq_true' _).mp hb20
  exact WC.ret<|WQ.thenRet<|WQ.inRet<|WQ.thenRet<|WQ.inRet<|WQ.out .nil (⟨_,rfl,⟨hs1,sift_stop ltU32OK hx1 (och_1 ltU32OK (by omega) (.inl (by omega))) hn20⟩,H19⟩)
 have hn20:=(Bool.not_eq_false' _).mp hb20
 refine WC.skip<|WQ.next<|WC.seq<|WC.held 24 rfl Fa.M H19 (fun w'=> ∃L',Owl.Own T w w' ([]++L')) ?_
 intro w21 H21
 refine xt 0 rfl v H21 (fun _ _ HX=>op_move rfl ⟨rfl,rfl⟩)<|xt 1 rfl (vN f) H21 (fun _ _ HX=>op_move rfl ⟨rfl,rfl⟩)<|xt 2 rfl (vN x) H21 (fun _ _ HX=>op_move rfl ⟨rfl,rfl⟩)<|xt 3 rfl (vN (f+x)) H21 (fun _ _ HX=>op_addN rfl rfl (by omega) ⟨rfl,rfl⟩)<|xt 4 rfl v H21 (fun _ _ HX=>op_move rfl ⟨rfl,rfl⟩)<|xt 5 rfl (vN f) H21 (fun _ _ HX=>op_move rfl ⟨rfl,rfl⟩)<|xt 6 rfl (vN ((2 * x)+1)) H21 (fun _ _ HX=>op_move rfl ⟨rfl,rfl⟩)<|xt 7 rfl (vN (f+((2 * x)+1))) H21 (fun _ _ HX=>op_addN rfl rfl (by omega) ⟨rfl,rfl⟩)<|xt 8 rfl v H21 (fun _ _ HX=>op_move rfl ⟨rfl,rfl⟩)<|xt 9 rfl (vN f) H21 (fun _ _ HX=>op_move rfl ⟨rfl,rfl⟩)<|xt 10 rfl (vN ((2 * x)+1)) H21 (fun _ _ HX=>op_move rfl ⟨rfl,rfl⟩)<|xt 11 rfl (vN (f+((2 * x)+1))) H21 (fun _ _ HX=>op_addN rfl rfl (by omega) ⟨rfl,rfl⟩)<|xt 12 rfl (.pointer (some (sp v (f+((2 * x)+1))))) H21 (fun _ _ HX=>op_indexAddr1W Tryz.underlying73 Fa.I22 rfl (H21.arrR (i:=0) rfl) rfl (by omega) ⟨rfl,rfl⟩)<|xt 14 rfl v H21 (fun _ _ HX=>op_move rfl ⟨rfl,rfl⟩)<|xt 15 rfl (vN f) H21 (fun _ _ HX=>op_move rfl ⟨rfl,rfl⟩)<|xt 16 rfl (vN x) H21 (fun _ _ HX=>op_move rfl ⟨rfl,rfl⟩)<|xt 17 rfl (vN (f+x)) H21 (fun _ _ HX=>op_addN rfl rfl (by omega) ⟨rfl,rfl⟩)<|xt 18 rfl (.pointer (some (sp v (f+x)))) H21 (fun _ _ HX=>op_indexAddr1W Tryz.underlying73 Fa.I22 rfl (H21.arrR (i:=0) rfl) rfl (by omega) ⟨rfl,rfl⟩)<|WH.named (fun W hW=>?_)
 let e6:List (Nat × Value)→List (Nat × Value):=fun r=>(0,v)::(1,(vN lo))::(2,(vN hi))::(3,(vN f))::(8,(vN x))::(9,(vN ((2 * x)+1)))::(11,(vN x))::(12,(vN (2 * x)))::(13,(vN ((2 * x)+1)))::(14,(vN ((2 * x)+1)))::(15,(vN hi))::(16,(.bool (decide (((2 * x)+1)≥hi))))::(17,(vN ((2 * x)+1)))::(18,(vN (((2 * x)+1)+1)))::(19,(vN hi))::(20,(.bool (decide ((((2 * x)+1)+1)<hi))))::(21,(.bool (decide ((((2 * x)+1)+1)<hi))))::(22,undef)::(23,undef)::(24,undef)::(25,undef)::(26,undef)::(27,undef)::(28,undef)::(29,undef)::(30,undef)::(31,undef)::(32,undef)::(33,undef)::(34,undef)::(35,undef)::(36,(.bool false))::(39,v)::(40,(vN f))::(41,(vN x))::(42,(vN (f+x)))::(43,(.pointer (some (sp v (f+x)))))::(44,(vU32 (l1.getD (f+x) 0)))::(45,v)::(46,(vN f))::(47,(vN ((2 * x)+1)))::(48,(vN (f+((2 * x)+1))))::(49,(.pointer (some (sp v (f+((2 * x)+1))))))::(50,(vU32 (l1.getD (f+((2 * x)+1)) 0)))::(51,(.bool (ltU32 (l1.getD (f+x) 0) (l1.getD (f+((2 * x)+1)) 0))))::(52,(.bool (!(ltU32 (l1.getD (f+x) 0) (l1.getD (f+((2 * x)+1)) 0)))))::r
 let a6_0:Ent:=.row v 22 1 n (List.map vU32 l1)
 have st6_5: ∀wS,Owl.Own T w wS [.row v 22 1 n (List.map vU32 ((l1.set (f+x) (l1.getD (f+((2 * x)+1)) 0)).set (f+((2 * x)+1)) (l1.getD (f+x) 0)))]→W 0 (bz 24 16777215) (e6 []) wS:=fun wS HS=>by
  rw [hW]
  refine WH.done (by kernel_rfl)<|WQ.next<|WC.region<|wm rfl<|wa rfl<|WL.nil<|WQ.inNormal ?_
  have hst:=sift_step ltU32OK (by omega) hx1 hg1 (och_1 ltU32OK (by omega) (.inl (by omega))) (by omega) hn20
  exact WQ.round ((2 * x+1),swapL 0 l1 (f+x) (f+(2 * x+1))) ⟨⟨by omega,.inl (by omega),hs1.step (by omega) (by omega) (by omega) (by omega),hst.1,hst.2⟩,HS⟩ ⟨rfl,rfl,rfl,rfl,rfl,trivial⟩ (by show hi-(2 * x+1)<hi-x; omega)
 have st6_4: ∀wS,Owl.Own T w wS [.row v 22 1 n (List.map vU32 (l1.set (f+x) (l1.getD (f+((2 * x)+1)) 0)))]→W 1 (bz 24 8388607) (e6 [(72,(vU32 (l1.getD (f+x) 0))),(74,(.pointer (some (sp v (f+((2 * x)+1))))))]) wS:=fun wS HS=>by
  rw [hW]
  refine wh1 23<|kH 23 rfl (op_storeRM (i:=0) (f:=vU32) (l:=(l1.set (f+x) (l1.getD (f+((2 * x)+1)) 0))) (c:=(l1.getD (f+x) 0)) HS rfl rfl rfl (by omega) rfl Fa.I22 (fun w32461 H32461=>(⟨⟨_,H32461⟩,?_⟩)))
  exact WH.cw hW (st6_5 w32461 H32461)
 have st6_3: ∀wS,Owl.Own T w wS [a6_0]→W 3 (bz 24 2097151) (e6 [(57,v),(60,(vN (f+((2 * x)+1)))),(66,(vU32 (l1.getD (f+((2 * x)+1)) 0))),(72,(vU32 (l1.getD (f+x) 0))),(73,(.pointer (some (sp v (f+x)))))]) wS:=fun wS HS=>by
  rw [hW]
  refine wh1 21<|kH 21 rfl (op_storeRM (i:=0) (f:=vU32) (l:=l1) (c:=(l1.getD (f+((2 * x)+1)) 0)) HS rfl rfl rfl (by omega) rfl Fa.I22 (fun w32421 H32421=>(⟨⟨_,H32421⟩,?_⟩)))
  exact xt 22 rfl (.pointer (some (sp v (f+((2 * x)+1))))) H32421 (fun _ _ HX=>op_indexAddr1W Tryz.underlying73 Fa.I22 rfl (H32421.arrR (i:=0) rfl) rfl (by omega) ⟨rfl,rfl⟩)<|WH.cw hW (st6_4 w32421 H32421)
 have st6_1: ∀wS,Owl.Own T w wS [a6_0]→W 5 (bz 24 524287) (e6 [(53,v),(56,(vN (f+x))),(57,v),(60,(vN (f+((2 * x)+1)))),(66,(vU32 (l1.getD (f+((2 * x)+1)) 0))),(71,(.pointer (some (sp v (f+x)))))]) wS:=fun wS HS=>by
  rw [hW]
  refine wh1 19<|kH 19 rfl (op_load rfl ((HS.arrR (i:=0) rfl).at (get_map vU32 0 (Arr.ltM (HS.arrR (i:=0) rfl) (by omega)))) Tryz.underlying22 rfl (⟨⟨_,HS⟩,?_⟩))
  exact xt 20 rfl (.pointer (some (sp v (f+x)))) HS (fun _ _ HX=>op_indexAddr1W Tryz.underlying73 Fa.I22 rfl (HS.arrR (i:=0) rfl) rfl (by omega) ⟨rfl,rfl⟩)<|WH.cw hW (st6_3 wS HS)
 have st6_2: ∀wS,Owl.Own T w wS [a6_0]→W 5 (bz 24 1040383) (e6 [(53,v),(56,(vN (f+x))),(57,v),(60,(vN (f+((2 * x)+1)))),(65,(.pointer (some (sp v (f+((2 * x)+1)))))),(72,(vU32 (l1.getD (f+x) 0)))]) wS:=fun wS HS=>by
  rw [hW]
  refine wh1 13<|kH 13 rfl (op_load rfl ((HS.arrR (i:=0) rfl).at (get_map vU32 0 (Arr.ltM (HS.arrR (i:=0) rfl) (by omega)))) Tryz.underlying22 rfl (⟨⟨_,HS⟩,?_⟩))
  exact xt 20 rfl (.pointer (some (sp v (f+x)))) HS (fun _ _ HX=>op_indexAddr1W Tryz.underlying73 Fa.I22 rfl (HS.arrR (i:=0) rfl) rfl (by omega) ⟨rfl,rfl⟩)<|WH.cw hW (st6_3 wS HS)
 have st6_0: ∀wS,Owl.Own T w wS [a6_0]→W 6 (bz 24 516095) (e6 [(53,v),(56,(vN (f+x))),(57,v),(60,(vN (f+((2 * x)+1)))),(65,(.pointer (some (sp v (f+((2 * x)+1)))))),(71,(.pointer (some (sp v (f+x)))))]) wS:=fun wS HS=>by
  rw [hW]
  refine wh2 13 19 ?_ ?_
  ·
   refine kH 13 rfl (op_load rfl ((HS.arrR (i:=0) rfl).at (get_map vU32 0 (Arr.ltM (HS.arrR (i:=0) rfl) (by omega)))) Tryz.underlying22 rfl (⟨⟨_,HS⟩,?_⟩))
   exact WH.cw hW (st6_1 wS HS)
  refine kH 19 rfl (op_load rfl ((HS.arrR (i:=0) rfl).at (get_map vU32 0 (Arr.ltM (HS.arrR (i:=0) rfl) (by omega)))) Tryz.underlying22 rfl (⟨⟨_,HS⟩,?_⟩))
  exact WH.cw hW (st6_2 wS HS)
 have hq:=st6_0 w21 H21
 rw [hW] at hq ⊢
 exact WH.cv hq
theorem heap_ok (v:Value) (n:Nat) (l:List UInt32) (a b:Nat) (T:List Nat) (w:World) (H:Owl.Own T w w [.row v 22 1 n (List.map vU32 l)]) (hn:l.length=n) (hN:n<2^61) (hab:a<b) (hb:b≤n) :
  Calls Tryz.prog 212 #[v,(vN a),(vN b)] w (fun e w'=> ∃(l':List UInt32),e=.returned undef∧(Sw 0 a b l l'∧SortS ltU32 0 a b l')∧Owl.Own T w w' [.row v 22 1 n (List.map vU32 l')]):=by
 refine enter Tryz.func212 rfl rfl<|ws<|wm rfl<|wa rfl<|wn<|ws<|wa rfl<|wn<|ws<|wm rfl<|wm rfl<|wo (op_subN rfl rfl (by omega) (by omega)<|wa rfl<|wn<|WC.seq<|ws<|wm rfl<|wo (op_subN (b:=1) rfl rfl (by omega) (by omega)<|wo (op_quoN (b:=2) rfl rfl (by omega) (by omega)<|wa rfl<|wn<|WC.block<|WC.loop (α:=Nat × List UInt32) (fun (k,l1)=>[(0,v),(1,(vN a)),(2,(vN b)),(6,(vN a)),(7,(vN 0)),(8,(vN (b-a))),(9,(vI ((k:Int)-(1:Int))))]) (fun (k,l1) w'=>(k≤(b-a-1) / 2+1∧Sw 0 a b l l1∧HeapA ltU32 0 k (b-a) a l1)∧Owl.Own T w w' [.row v 22 1 n (List.map vU32 l1)]) (fun (k,l1)=>k) ((b-a-1) / 2+1,l) ⟨⟨Nat.le_refl _,.refl _,fun r c q1 q2 q3=>by omega⟩,H⟩ ⟨rfl,rfl,rfl,rfl,rfl,rfl,(congrArg some (vN_I (by omega))),trivial⟩ ?_)))
 rintro ⟨k,l1⟩ w1 ⟨⟨hk1,hs1,hh1⟩,H1⟩
 show WC _ _ _ _ _ [(0,v),(1,(vN a)),(2,(vN b)),(6,(vN a)),(7,(vN 0)),(8,(vN (b-a))),(9,(vI ((k:Int)-(1:Int))))] _
 have hL1:=hs1.len
 refine WC.cut (α:=Nat) (fun q=>[(0,v),(1,(vN a)),(2,(vN b)),(6,(vN a)),(7,(vN 0)),(8,(vN (b-a))),(9,(vN q))]) (fun q w'=>(q+1=k)∧Owl.Own T w w' [.row v 22 1 n (List.map vU32 l1)]) ?_ ?_
 ·
  refine ws<|wm rfl<|wo (op_geqI (b:=(0:Int)) rfl rfl<|wn (wE (((k:Int)-(1:Int))≥(0:Int)) (fun hb2 hc2=>?_) (fun hb2 hc2=>?_)))
  ·
   exact WC.skip<|WQ.here (k-1) ⟨(by omega),H1⟩ ⟨rfl,rfl,rfl,rfl,rfl,rfl,(congrArg some (vI_N (by omega))),trivial⟩
  refine WC.exit<|WQ.thenExit<|WQ.thenExit<|WQ.inHere<|WQ.next<|ws<|wm rfl<|wo (op_subN (b:=1) rfl rfl (by omega) (by omega)<|wa rfl<|wn<|WC.block<|WC.loop (α:=Nat × List UInt32) (fun (k2,l2)=>[(0,v),(1,(vN a)),(2,(vN b)),(6,(vN a)),(7,(vN 0)),(8,(vN (b-a))),(10,(vI ((k2:Int)-(1:Int))))]) (fun (k2,l2) w'=>(k2≤b-a∧Sw 0 a b l l2∧HeapT ltU32 0 a (b-a) k2 l2)∧Owl.Own T w w' [.row v 22 1 n (List.map vU32 l2)]) (fun (k2,l2)=>k2) (b-a,l1) ⟨⟨Nat.le_refl _,hs1,heapT_init (by rw [show k=0 by omega] at hh1; exact hh1)⟩,H1⟩ ⟨rfl,rfl,rfl,rfl,rfl,rfl,(congrArg some (vN_I (by omega))),trivial⟩ ?_)
  rintro ⟨k2,l2⟩ w3 ⟨⟨hk2,hs2,hh2⟩,H3⟩
  show WC _ _ _ _ _ [(0,v),(1,(vN a)),(2,(vN b)),(6,(vN a)),(7,(vN 0)),(8,(vN (b-a))),(10,(vI ((k2:Int)-(1:Int))))] _
  have hL2:=hs2.len
  refine WC.cut (α:=Nat) (fun q2=>[(0,v),(1,(vN a)),(2,(vN b)),(6,(vN a)),(7,(vN 0)),(8,(vN (b-a))),(10,(vN q2))]) (fun q2 w'=>(q2+1=k2)∧Owl.Own T w w' [.row v 22 1 n (List.map vU32 l2)]) ?_ ?_
  ·
   refine ws<|wm rfl<|wo (op_geqI (b:=(0:Int)) rfl rfl<|wn (wE (((k2:Int)-(1:Int))≥(0:Int)) (fun hb4 hc4=>?_) (fun hb4 hc4=>?_)))
   ·
    exact WC.skip<|WQ.here (k2-1) ⟨(by omega),H3⟩ ⟨rfl,rfl,rfl,rfl,rfl,rfl,(congrArg some (vI_N (by omega))),trivial⟩
   exact WC.exit<|WQ.thenExit<|WQ.thenExit<|WQ.inHere<|WQ.outEnd .nil (⟨_,rfl,⟨hs2,heapT_end (by rw [show k2=0 by omega] at hh2; exact hh2) (by omega)⟩,H3⟩)
  rintro q2 w5 ⟨hq2,H5⟩
  show WC _ _ _ _ _ [(0,v),(1,(vN a)),(2,(vN b)),(6,(vN a)),(7,(vN 0)),(8,(vN (b-a))),(10,(vN q2))] _
  subst hq2
  have hSL:(swapL 0 l2 a (a+q2)).length=n:=by rw [swapL_len]; omega
  refine WC.seq<|WC.block<|WC.seq<|WC.held 20 rfl Fa.M H5 (fun w'=> ∃L',Owl.Own T w w' ([]++L')) ?_
  intro w6 H6
  refine xt 0 rfl v H6 (fun _ _ HX=>op_move rfl ⟨rfl,rfl⟩)<|xt 1 rfl (vN a) H6 (fun _ _ HX=>op_move rfl ⟨rfl,rfl⟩)<|xt 2 rfl v H6 (fun _ _ HX=>op_move rfl ⟨rfl,rfl⟩)<|xt 3 rfl (vN a) H6 (fun _ _ HX=>op_move rfl ⟨rfl,rfl⟩)<|xt 4 rfl (vN q2) H6 (fun _ _ HX=>op_move rfl ⟨rfl,rfl⟩)<|xt 5 rfl (vN (a+q2)) H6 (fun _ _ HX=>op_addN rfl rfl (by omega) ⟨rfl,rfl⟩)<|xt 6 rfl v H6 (fun _ _ HX=>op_move rfl ⟨rfl,rfl⟩)<|xt 7 rfl (vN a) H6 (fun _ _ HX=>op_move rfl ⟨rfl,rfl⟩)<|xt 8 rfl (vN q2) H6 (fun _ _ HX=>op_move rfl ⟨rfl,rfl⟩)<|xt 9 rfl (vN (a+q2)) H6 (fun _ _ HX=>op_addN rfl rfl (by omega) ⟨rfl,rfl⟩)<|xt 10 rfl (.pointer (some (sp v (a+q2)))) H6 (fun _ _ HX=>op_indexAddr1W Tryz.underlying73 Fa.I22 rfl (H6.arrR (i:=0) rfl) rfl (by omega) ⟨rfl,rfl⟩)<|xt 12 rfl v H6 (fun _ _ HX=>op_move rfl ⟨rfl,rfl⟩)<|xt 13 rfl (vN a) H6 (fun _ _ HX=>op_move rfl ⟨rfl,rfl⟩)<|xt 14 rfl (.pointer (some (sp v a))) H6 (fun _ _ HX=>op_indexAddr1W Tryz.underlying73 Fa.I22 rfl (H6.arrR (i:=0) rfl) rfl (by omega) ⟨rfl,rfl⟩)<|WH.named (fun W hW=>?_)
  let e10:List (Nat × Value)→List (Nat × Value):=fun r=>(0,v)::(1,(vN a))::(2,(vN b))::(6,(vN a))::(7,(vN 0))::(8,(vN (b-a)))::(10,(vN q2))::r
  let a10_0:Ent:=.row v 22 1 n (List.map vU32 l2)
  have st10_5: ∀wS,Owl.Own T w wS [.row v 22 1 n (List.map vU32 ((l2.set a (l2.getD (a+q2) 0)).set (a+q2) (l2.getD a 0)))]→W 0 (bz 20 1048575) (e10 []) wS:=fun wS HS=>by
   rw [hW]
   refine WH.done (by kernel_rfl)<|WQ.next<|WC.region<|wm rfl<|wm rfl<|wm rfl<|wm rfl<|wo (op_callF Fa.C236 rfl ((sift_ok v n ((l2.set a (l2.getD (a+q2) 0)).set (a+q2) (l2.getD a 0)) 0 q2 a _ _ (HS.part [0] rfl rfl) hSL (by omega) (by omega) (by omega) (heapT_pre (by omega) (by omega) hh2)).mono (fun e w8 hq=>?_)))
   obtain ⟨l8,rfl,hc8,hq8⟩:=hq
   refine ⟨_,rfl,?_⟩
   have H8:=HS.splice [0] [.row v 22 1 n (List.map vU32 l8)] [] rfl rfl hq8 (Fits.solid True.intro Fits.nil)
   exact WL.nil<|WQ.inNormal<|WQ.next<|WC.region<|wm rfl<|wo (op_subI (a:=((q2:Nat):Int)) (b:=((1:Nat):Int)) rfl rfl (by omega)<|wa rfl<|WL.nil<|WQ.round (q2,l8) ⟨⟨by omega,(hs2.step (by omega) (by omega) (by omega) (by omega)).trans (hc8.1.mono (by omega) (by omega)),heapT_step ltU32OK (by omega) (by omega) hh2 hc8.1 hc8.2⟩,H8⟩ ⟨rfl,rfl,rfl,rfl,rfl,rfl,rfl,trivial⟩ (by show q2<q2+1; omega))
  have st10_4: ∀wS,Owl.Own T w wS [.row v 22 1 n (List.map vU32 (l2.set a (l2.getD (a+q2) 0)))]→W 1 (bz 20 524287) (e10 [(48,(vU32 (l2.getD a 0))),(50,(.pointer (some (sp v (a+q2)))))]) wS:=fun wS HS=>by
   rw [hW]
   refine wh1 19<|kH 19 rfl (op_storeRM (i:=0) (f:=vU32) (l:=(l2.set a (l2.getD (a+q2) 0))) (c:=(l2.getD a 0)) HS rfl rfl rfl (by omega) rfl Fa.I22 (fun w17381 H17381=>(⟨⟨_,H17381⟩,?_⟩)))
   exact WH.cw hW (st10_5 w17381 H17381)
  have st10_3: ∀wS,Owl.Own T w wS [a10_0]→W 3 (bz 20 131071) (e10 [(35,v),(38,(vN (a+q2))),(44,(vU32 (l2.getD (a+q2) 0))),(48,(vU32 (l2.getD a 0))),(49,(.pointer (some (sp v a))))]) wS:=fun wS HS=>by
   rw [hW]
   refine wh1 17<|kH 17 rfl (op_storeRM (i:=0) (f:=vU32) (l:=l2) (c:=(l2.getD (a+q2) 0)) HS rfl rfl rfl (by omega) rfl Fa.I22 (fun w17341 H17341=>(⟨⟨_,H17341⟩,?_⟩)))
   exact xt 18 rfl (.pointer (some (sp v (a+q2)))) H17341 (fun _ _ HX=>op_indexAddr1W Tryz.underlying73 Fa.I22 rfl (H17341.arrR (i:=0) rfl) rfl (by omega) ⟨rfl,rfl⟩)<|WH.cw hW (st10_4 w17341 H17341)
  have st10_1: ∀wS,Owl.Own T w wS [a10_0]→W 5 (bz 20 32767) (e10 [(33,v),(34,(vN a)),(35,v),(38,(vN (a+q2))),(44,(vU32 (l2.getD (a+q2) 0))),(47,(.pointer (some (sp v a))))]) wS:=fun wS HS=>by
   rw [hW]
   refine wh1 15<|kH 15 rfl (op_load rfl ((HS.arrR (i:=0) rfl).at (get_map vU32 0 (Arr.ltM (HS.arrR (i:=0) rfl) (by omega)))) Tryz.underlying22 rfl (⟨⟨_,HS⟩,?_⟩))
   exact xt 16 rfl (.pointer (some (sp v a))) HS (fun _ _ HX=>op_indexAddr1W Tryz.underlying73 Fa.I22 rfl (HS.arrR (i:=0) rfl) rfl (by omega) ⟨rfl,rfl⟩)<|WH.cw hW (st10_3 wS HS)
  have st10_2: ∀wS,Owl.Own T w wS [a10_0]→W 5 (bz 20 63487) (e10 [(33,v),(34,(vN a)),(35,v),(38,(vN (a+q2))),(43,(.pointer (some (sp v (a+q2))))),(48,(vU32 (l2.getD a 0)))]) wS:=fun wS HS=>by
   rw [hW]
   refine wh1 11<|kH 11 rfl (op_load rfl ((HS.arrR (i:=0) rfl).at (get_map vU32 0 (Arr.ltM (HS.arrR (i:=0) rfl) (by omega)))) Tryz.underlying22 rfl (⟨⟨_,HS⟩,?_⟩))
   exact xt 16 rfl (.pointer (some (sp v a))) HS (fun _ _ HX=>op_indexAddr1W Tryz.underlying73 Fa.I22 rfl (HS.arrR (i:=0) rfl) rfl (by omega) ⟨rfl,rfl⟩)<|WH.cw hW (st10_3 wS HS)
  have st10_0: ∀wS,Owl.Own T w wS [a10_0]→W 6 (bz 20 30719) (e10 [(33,v),(34,(vN a)),(35,v),(38,(vN (a+q2))),(43,(.pointer (some (sp v (a+q2))))),(47,(.pointer (some (sp v a))))]) wS:=fun wS HS=>by
   rw [hW]
   refine wh2 11 15 ?_ ?_
   ·
    refine kH 11 rfl (op_load rfl ((HS.arrR (i:=0) rfl).at (get_map vU32 0 (Arr.ltM (HS.arrR (i:=0) rfl) (by omega)))) Tryz.underlying22 rfl (⟨⟨_,HS⟩,?_⟩))
    exact WH.cw hW (st10_1 wS HS)
   refine kH 15 rfl (op_load rfl ((HS.arrR (i:=0) rfl).at (get_map vU32 0 (Arr.ltM (HS.arrR (i:=0) rfl) (by omega)))) Tryz.underlying22 rfl (⟨⟨_,HS⟩,?_⟩))
   exact WH.cw hW (st10_2 wS HS)
  have hq:=st10_0 w6 H6
  rw [hW] at hq ⊢
  exact WH.cv hq
 rintro q w9 ⟨hq,H9⟩
 show WC _ _ _ _ _ [(0,v),(1,(vN a)),(2,(vN b)),(6,(vN a)),(7,(vN 0)),(8,(vN (b-a))),(9,(vN q))] _
 subst hq
 refine WC.seq<|WC.block<|WC.region<|wm rfl<|wm rfl<|wm rfl<|wm rfl<|wo (op_callF Fa.C236 rfl ((sift_ok v n l1 q (b-a) a _ _ (H9.part [0] rfl rfl) (by omega) (by omega) (by omega) (by omega) hh1).mono (fun e w10 hq=>?_)))
 obtain ⟨l10,rfl,hc10,hq10⟩:=hq
 refine ⟨_,rfl,?_⟩
 have H10:=H9.splice [0] [.row v 22 1 n (List.map vU32 l10)] [] rfl rfl hq10 (Fits.solid True.intro Fits.nil)
 exact WL.nil<|WQ.inNormal<|WQ.next<|WC.region<|wm rfl<|wo (op_subI (a:=((q:Nat):Int)) (b:=((1:Nat):Int)) rfl rfl (by omega)<|wa rfl<|WL.nil<|WQ.round (q,l10) ⟨⟨by omega,hs1.trans (hc10.1.mono (by omega) (by omega)),hc10.2⟩,H10⟩ ⟨rfl,rfl,rfl,rfl,rfl,rfl,rfl,trivial⟩ (by show q<q+1; omega))
theorem rev_ok (v:Value) (n:Nat) (l:List UInt32) (a b:Nat) (T:List Nat) (w:World) (H:Owl.Own T w w [.row v 22 1 n (List.map vU32 l)]) (hn:l.length=n) (hN:n<2^61) (hab:a<b) (hb:b≤n) :
  Calls Tryz.prog 215 #[v,(vN a),(vN b)] w (fun e w'=> ∃(l':List UInt32),e=.returned undef∧(Sw 0 a b l l')∧Owl.Own T w w' [.row v 22 1 n (List.map vU32 l')]):=by
 refine enter Tryz.func215 rfl rfl<|ws<|wm rfl<|wa rfl<|wn<|ws<|wm rfl<|wo (op_subN (b:=1) rfl rfl (by omega) (by omega)<|wa rfl<|wn<|WC.block<|WC.loop (α:=Nat × Nat × List UInt32) (fun (i,j,l1)=>[(0,v),(1,(vN a)),(2,(vN b)),(6,(vN i)),(7,(vN j))]) (fun (i,j,l1) w'=>(a≤i∧j<b∧Sw 0 a b l l1)∧Owl.Own T w w' [.row v 22 1 n (List.map vU32 l1)]) (fun (i,j,l1)=>j-i) (a,b-1,l) ⟨⟨Nat.le_refl _,by omega,.refl _⟩,H⟩ ⟨rfl,rfl,rfl,rfl,rfl,trivial⟩ ?_)
 rintro ⟨i,j,l1⟩ w1 ⟨⟨hi1,hj1,hs1⟩,H1⟩
 show WC _ _ _ _ _ [(0,v),(1,(vN a)),(2,(vN b)),(6,(vN i)),(7,(vN j))] _
 have hL1:=hs1.len
 refine WC.seq<|ws<|wm rfl<|wm rfl<|wo (op_lssN rfl rfl<|wn (wE (i<j) (fun hb2 hc2=>?_) (fun hb2 hc2=>?_)))
 ·
  refine WC.skip<|WQ.next<|WC.block<|WC.seq<|WC.held 16 rfl Fa.M H1 (fun w'=> ∃L',Owl.Own T w w' ([]++L')) ?_
  intro w3 H3
  refine xt 0 rfl v H3 (fun _ _ HX=>op_move rfl ⟨rfl,rfl⟩)<|xt 1 rfl (vN i) H3 (fun _ _ HX=>op_move rfl ⟨rfl,rfl⟩)<|xt 2 rfl v H3 (fun _ _ HX=>op_move rfl ⟨rfl,rfl⟩)<|xt 3 rfl (vN j) H3 (fun _ _ HX=>op_move rfl ⟨rfl,rfl⟩)<|xt 4 rfl v H3 (fun _ _ HX=>op_move rfl ⟨rfl,rfl⟩)<|xt 5 rfl (vN j) H3 (fun _ _ HX=>op_move rfl ⟨rfl,rfl⟩)<|xt 6 rfl (.pointer (some (sp v j))) H3 (fun _ _ HX=>op_indexAddr1W Tryz.underlying73 Fa.I22 rfl (H3.arrR (i:=0) rfl) rfl (by omega) ⟨rfl,rfl⟩)<|xt 8 rfl v H3 (fun _ _ HX=>op_move rfl ⟨rfl,rfl⟩)<|xt 9 rfl (vN i) H3 (fun _ _ HX=>op_move rfl ⟨rfl,rfl⟩)<|xt 10 rfl (.pointer (some (sp v i))) H3 (fun _ _ HX=>op_indexAddr1W Tryz.underlying73 Fa.I22 rfl (H3.arrR (i:=0) rfl) rfl (by omega) ⟨rfl,rfl⟩)<|WH.named (fun W hW=>?_)
  let e3:List (Nat × Value)→List (Nat × Value):=fun r=>(0,v)::(1,(vN a))::(2,(vN b))::(6,(vN i))::(7,(vN j))::(11,(vN i))::(12,(vN j))::(13,(.bool (decide (i<j))))::r
  let a3_0:Ent:=.row v 22 1 n (List.map vU32 l1)
  have st3_5: ∀wS,Owl.Own T w wS [.row v 22 1 n (List.map vU32 ((l1.set i (l1.getD j 0)).set j (l1.getD i 0)))]→W 0 (bz 16 65535) (e3 []) wS:=fun wS HS=>by
   rw [hW]
   exact WH.done (by kernel_rfl)<|WQ.next<|ws<|wm rfl<|wo (op_addN (b:=1) rfl rfl (by omega)<|wa rfl<|wn<|WC.region<|wm rfl<|wo (op_subN (b:=1) rfl rfl (by omega) (by omega)<|wa rfl<|WL.nil<|WQ.inNormal<|WQ.round (i+1,j-1,swapL 0 l1 i j) ⟨⟨by omega,by omega,hs1.step (by omega) (by omega) (by omega) (by omega)⟩,HS⟩ ⟨rfl,rfl,rfl,rfl,rfl,trivial⟩ (by show j-1-(i+1)<j-i; omega)))
  have st3_4: ∀wS,Owl.Own T w wS [.row v 22 1 n (List.map vU32 (l1.set i (l1.getD j 0)))]→W 1 (bz 16 32767) (e3 [(25,(vU32 (l1.getD i 0))),(27,(.pointer (some (sp v j))))]) wS:=fun wS HS=>by
   rw [hW]
   refine wh1 15<|kH 15 rfl (op_storeRM (i:=0) (f:=vU32) (l:=(l1.set i (l1.getD j 0))) (c:=(l1.getD i 0)) HS rfl rfl rfl (by omega) rfl Fa.I22 (fun w14301 H14301=>(⟨⟨_,H14301⟩,?_⟩)))
   exact WH.cw hW (st3_5 w14301 H14301)
  have st3_3: ∀wS,Owl.Own T w wS [a3_0]→W 3 (bz 16 8191) (e3 [(16,v),(17,(vN j)),(21,(vU32 (l1.getD j 0))),(25,(vU32 (l1.getD i 0))),(26,(.pointer (some (sp v i))))]) wS:=fun wS HS=>by
   rw [hW]
   refine wh1 13<|kH 13 rfl (op_storeRM (i:=0) (f:=vU32) (l:=l1) (c:=(l1.getD j 0)) HS rfl rfl rfl (by omega) rfl Fa.I22 (fun w14261 H14261=>(⟨⟨_,H14261⟩,?_⟩)))
   exact xt 14 rfl (.pointer (some (sp v j))) H14261 (fun _ _ HX=>op_indexAddr1W Tryz.underlying73 Fa.I22 rfl (H14261.arrR (i:=0) rfl) rfl (by omega) ⟨rfl,rfl⟩)<|WH.cw hW (st3_4 w14261 H14261)
  have st3_1: ∀wS,Owl.Own T w wS [a3_0]→W 5 (bz 16 2047) (e3 [(14,v),(15,(vN i)),(16,v),(17,(vN j)),(21,(vU32 (l1.getD j 0))),(24,(.pointer (some (sp v i))))]) wS:=fun wS HS=>by
   rw [hW]
   refine wh1 11<|kH 11 rfl (op_load rfl ((HS.arrR (i:=0) rfl).at (get_map vU32 0 (Arr.ltM (HS.arrR (i:=0) rfl) (by omega)))) Tryz.underlying22 rfl (⟨⟨_,HS⟩,?_⟩))
   exact xt 12 rfl (.pointer (some (sp v i))) HS (fun _ _ HX=>op_indexAddr1W Tryz.underlying73 Fa.I22 rfl (HS.arrR (i:=0) rfl) rfl (by omega) ⟨rfl,rfl⟩)<|WH.cw hW (st3_3 wS HS)
  have st3_2: ∀wS,Owl.Own T w wS [a3_0]→W 5 (bz 16 3967) (e3 [(14,v),(15,(vN i)),(16,v),(17,(vN j)),(20,(.pointer (some (sp v j)))),(25,(vU32 (l1.getD i 0)))]) wS:=fun wS HS=>by
   rw [hW]
   refine wh1 7<|kH 7 rfl (op_load rfl ((HS.arrR (i:=0) rfl).at (get_map vU32 0 (Arr.ltM (HS.arrR (i:=0) rfl) (by omega)))) Tryz.underlying22 rfl (⟨⟨_,HS⟩,?_⟩))
   exact xt 12 rfl (.pointer (some (sp v i))) HS (fun _ _ HX=>op_indexAddr1W Tryz.underlying73 Fa.I22 rfl (HS.arrR (i:=0) rfl) rfl (by omega) ⟨rfl,rfl⟩)<|WH.cw hW (st3_3 wS HS)
  have st3_0: ∀wS,Owl.Own T w wS [a3_0]→W 6 (bz 16 1919) (e3 [(14,v),(15,(vN i)),(16,v),(17,(vN j)),(20,(.pointer (some (sp v j)))),(24,(.pointer (some (sp v i))))]) wS:=fun wS HS=>by
   rw [hW]
   refine wh2 7 11 ?_ ?_
   ·
    refine kH 7 rfl (op_load rfl ((HS.arrR (i:=0) rfl).at (get_map vU32 0 (Arr.ltM (HS.arrR (i:=0) rfl) (by omega)))) Tryz.underlying22 rfl (⟨⟨_,HS⟩,?_⟩))
    exact WH.cw hW (st3_1 wS HS)
   refine kH 11 rfl (op_load rfl ((HS.arrR (i:=0) rfl).at (get_map vU32 0 (Arr.ltM (HS.arrR (i:=0) rfl) (by omega)))) Tryz.underlying22 rfl (⟨⟨_,HS⟩,?_⟩))
   exact WH.cw hW (st3_2 wS HS)
  have hq:=st3_0 w3 H3
  rw [hW] at hq ⊢
  exact WH.cv hq
 exact WC.exit<|WQ.thenExit<|WQ.thenExit<|WQ.inHere<|WQ.outEnd .nil (⟨_,rfl,hs1,H1⟩)
theorem ord2_ok (v:Value) (n:Nat) (l:List UInt32) (a b q s:Nat) (T:List Nat) (w:World) (H:Owl.Own T w w [.row v 22 1 n (List.map vU32 l),.blk q [(vN s)] 3]) (_hn:l.length=n) (_hN:n<2^61) (ha:a<n) (hb:b<n) (hs:s<2^60) :
  Calls Tryz.prog 249 #[v,(vN a),(vN b),(ptr q 0)] w (fun e w'=> ∃(s':Nat) (x y:Nat),e=.returned (.tuple #[vN x,vN y])∧(s≤s'∧s'≤s+1∧(x=a∧y=b∨x=b∧y=a))∧Owl.Own T w w' [.row v 22 1 n (List.map vU32 l),.blk q [vN s'] 3]):=by
 refine enter Tryz.func249 rfl rfl<|ws<|wa rfl<|wa rfl<|wn<|WC.seq<|WC.seq<|WC.draw 9 Fa.M H (mh rfl<|mh rfl<|oh (fun w1 H1=>op_indexAddr1 Tryz.underlying73 Fa.I22 rfl (H1.arrR (i:=0) rfl) rfl (by omega) zr)<|oh (fun w1 H1=>op_load rfl ((H1.arrR (i:=0) rfl).at (get_map vU32 0 (Arr.ltM (H1.arrR (i:=0) rfl) (by omega)))) Tryz.underlying22 rfl zr)<|mh rfl<|mh rfl<|oh (fun w1 H1=>op_indexAddr1 Tryz.underlying73 Fa.I22 rfl (H1.arrR (i:=0) rfl) rfl (by omega) zr)<|oh (fun w1 H1=>op_load rfl ((H1.arrR (i:=0) rfl).at (get_map vU32 0 (Arr.ltM (H1.arrR (i:=0) rfl) (by omega)))) Tryz.underlying22 rfl zr)<|oh (fun w1 H1=>op_callF Fa.C217 rfl ((less_ok (l.getD b 0) (l.getD a 0) _).mono (fun e w2 hq=>⟨_,hq.1,rfl,hq.2⟩)))  HW.nil) (by kernel_rfl) ?_
 intro β2 w2 H2
 refine wn (wC (ltU32 (l.getD b 0) (l.getD a 0)) (fun hb3=>?_) (fun hb3=>?_))
 ·
  exact ws<|wm rfl<|wo (op_nilCheck rfl<|wo (op_load rfl (H2.cell (i:=1) rfl rfl) Tryz.underlying3 rfl<|wo (op_addN (b:=1) rfl rfl (by omega)<|wo (op_nilCheck rfl<|wo (op_storeB (i:=1) H2 rfl rfl rfl rfl rfl Fa.I3 (fun w4 H4=>(wn<|ws<|wm rfl<|wm rfl<|wa rfl<|wa rfl<|wn<|WC.ret<|WQ.thenRet<|WQ.out (.tmp rfl (.tmp rfl .nil)) (⟨_,_,_,rfl,⟨by omega,by omega,.inr ⟨rfl,rfl⟩⟩,H4⟩))))))))
 exact WC.skip<|WQ.next<|ws<|wm rfl<|wm rfl<|wa rfl<|wa rfl<|wn<|WC.ret<|WQ.out (.tmp rfl (.tmp rfl .nil)) (⟨_,_,_,rfl,⟨by omega,by omega,.inl ⟨rfl,rfl⟩⟩,H2⟩)
theorem med_ok (v:Value) (n:Nat) (l:List UInt32) (a b c q s:Nat) (T:List Nat) (w:World) (H:Owl.Own T w w [.row v 22 1 n (List.map vU32 l),.blk q [(vN s)] 3]) (hn:l.length=n) (hN:n<2^61) (ha:a<n) (hb:b<n) (hc:c<n) (hs:s<2^59) :
  Calls Tryz.prog 240 #[v,(vN a),(vN b),(vN c),(ptr q 0)] w (fun e w'=> ∃(s':Nat) (x:Nat),e=.returned (vN x)∧(s≤s'∧s'≤s+3∧(x=a∨x=b∨x=c))∧Owl.Own T w w' [.row v 22 1 n (List.map vU32 l),.blk q [vN s'] 3]):=by
 refine enter Tryz.func240 rfl rfl<|ws<|wa rfl<|wn<|ws<|wm rfl<|wm rfl<|wm rfl<|wm rfl<|wo (op_callF Fa.C249 rfl ((ord2_ok v n l a b q s _ _ (H.part [0,1] rfl rfl) (by omega) (by omega) (by omega) (by omega) (by omega)).mono (fun e w1 hq=>?_)))
 obtain ⟨s1,x1,y1,rfl,hc1,hq1⟩:=hq
 refine ⟨_,rfl,?_⟩
 have H1:=H.splice [0,1] [.row v 22 1 n (List.map vU32 l),.blk q [(vN s1)] 3] [] rfl rfl hq1 (Fits.solid True.intro (Fits.solid True.intro Fits.nil))
 refine wm rfl<|we rfl rfl<|we rfl rfl<|wa rfl<|wa rfl<|wn<|ws<|wm rfl<|wm rfl<|wm rfl<|wm rfl<|wo (op_callF Fa.C249 rfl ((ord2_ok v n l y1 c q s1 _ _ (H1.part [0,1] rfl rfl) (by omega) (by omega) (by omega) (by omega) (by omega)).mono (fun e w2 hq=>?_)))
 obtain ⟨s2,x2,y2,rfl,hc2,hq2⟩:=hq
 refine ⟨_,rfl,?_⟩
 have H2:=H1.splice [0,1] [.row v 22 1 n (List.map vU32 l),.blk q [(vN s2)] 3] [] rfl rfl hq2 (Fits.solid True.intro (Fits.solid True.intro Fits.nil))
 refine wm rfl<|we rfl rfl<|we rfl rfl<|wa rfl<|wa rfl<|wn<|ws<|wm rfl<|wm rfl<|wm rfl<|wm rfl<|wo (op_callF Fa.C249 rfl ((ord2_ok v n l x1 x2 q s2 _ _ (H2.part [0,1] rfl rfl) (by omega) (by omega) (by omega) (by omega) (by omega)).mono (fun e w3 hq=>?_)))
 obtain ⟨s3,x3,y3,rfl,hc3,hq3⟩:=hq
 refine ⟨_,rfl,?_⟩
 have H3:=H2.splice [0,1] [.row v 22 1 n (List.map vU32 l),.blk q [(vN s3)] 3] [] rfl rfl hq3 (Fits.solid True.intro (Fits.solid True.intro Fits.nil))
 exact wm rfl<|we rfl rfl<|we rfl rfl<|wa rfl<|wa rfl<|wn<|ws<|wm rfl<|wa rfl<|wn<|WC.ret<|WQ.out (.tmp rfl .nil) (⟨_,_,rfl,⟨by omega,by omega,by omega⟩,H3⟩)
theorem medadj_ok (v:Value) (n:Nat) (l:List UInt32) (a q s:Nat) (T:List Nat) (w:World) (H:Owl.Own T w w [.row v 22 1 n (List.map vU32 l),.blk q [(vN s)] 3]) (hn:l.length=n) (hN:n<2^61) (ha:a+1<n) (ha1:1≤a) (hs:s<2^58) :
  Calls Tryz.prog 239 #[v,(vN a),(ptr q 0)] w (fun e w'=> ∃(s':Nat) (x:Nat),e=.returned (vN x)∧(s≤s'∧s'≤s+3∧(x=a-1∨x=a∨x=a+1))∧Owl.Own T w w' [.row v 22 1 n (List.map vU32 l),.blk q [vN s'] 3]):=by
 refine enter Tryz.func239 rfl rfl<|ws<|wa rfl<|wn<|ws<|wm rfl<|wm rfl<|wo (op_subN (b:=1) rfl rfl (by omega) (by omega)<|wm rfl<|wm rfl<|wo (op_addN (b:=1) rfl rfl (by omega)<|wm rfl<|wo (op_callF Fa.C240 rfl ((med_ok v n l (a-1) a (a+1) q s _ _ (H.part [0,1] rfl rfl) (by omega) (by omega) (by omega) (by omega) (by omega) (by omega)).mono (fun e w1 hq=>?_)))))
 obtain ⟨s1,x1,rfl,hc1,hq1⟩:=hq
 refine ⟨_,rfl,?_⟩
 have H1:=H.splice [0,1] [.row v 22 1 n (List.map vU32 l),.blk q [(vN s1)] 3] [] rfl rfl hq1 (Fits.solid True.intro (Fits.solid True.intro Fits.nil))
 exact wa rfl<|wn<|WC.ret<|WQ.out (.tmp rfl .nil) (⟨_,_,rfl,⟨by omega,by omega,by omega⟩,H1⟩)
theorem piv_ok (v:Value) (n:Nat) (l:List UInt32) (a b:Nat) (T:List Nat) (w:World) (H:Owl.Own T w w [.row v 22 1 n (List.map vU32 l)]) (hn:l.length=n) (hN:n<2^61) (hab:12<b-a) (hb:b≤n) :
  Calls Tryz.prog 214 #[v,(vN a),(vN b)] w (fun e w'=> ∃(p h:Nat),e=.returned (.tuple #[vN p,vN h])∧(a≤p∧p<b)∧Owl.Own T w w' [.row v 22 1 n (List.map vU32 l)]):=by
 refine enter Tryz.func214 rfl rfl<|ws<|wa rfl<|wa rfl<|wn<|ws<|wm rfl<|wm rfl<|wo (op_subN rfl rfl (by omega) (by omega)<|wa rfl<|wn<|ws<|wo (op_alloc H Fa.I3 (fun b1 w1 H1=>(wn<|ws<|wm rfl<|wm rfl<|wo (op_quoN (b:=4) rfl rfl (by omega) (by omega)<|wo (op_mulN (b:=1) rfl rfl (by omega)<|wo (op_addN rfl rfl (by omega)<|wa rfl<|wn<|ws<|wm rfl<|wm rfl<|wo (op_quoN (b:=4) rfl rfl (by omega) (by omega)<|wo (op_mulN (b:=2) rfl rfl (by omega)<|wo (op_addN rfl rfl (by omega)<|wa rfl<|wn<|ws<|wm rfl<|wm rfl<|wo (op_quoN (b:=4) rfl rfl (by omega) (by omega)<|wo (op_mulN (b:=3) rfl rfl (by omega)<|wo (op_addN rfl rfl (by omega)<|wa rfl<|wn<|WC.seq<|ws<|wm rfl<|wo (op_geqN (b:=8) rfl rfl<|wn (wE ((b-a)≥8) (fun hb2 hc2=>?_) (fun hb2 hc2=>?_))))))))))))))))
 ·
  refine WC.seq<|ws<|wm rfl<|wo (op_geqN (b:=50) rfl rfl<|wn (wE ((b-a)≥50) (fun hb3 hc3=>?_) (fun hb3 hc3=>?_)))
  ·
   refine ws<|wm rfl<|wm rfl<|wo (op_callF Fa.C239 rfl ((medadj_ok v n l (a+(((b-a) / 4) * 1)) b1 0 _ _ (H1.part [0,1] rfl rfl) (by omega) (by omega) (by omega) (by omega) (by omega)).mono (fun e w4 hq=>?_)))
   obtain ⟨s4,x4,rfl,hc4,hq4⟩:=hq
   refine ⟨_,rfl,?_⟩
   have H4:=H1.splice [0,1] [.row v 22 1 n (List.map vU32 l),.blk b1 [(vN s4)] 3] [] rfl rfl hq4 (Fits.solid True.intro (Fits.solid True.intro Fits.nil))
   refine wa rfl<|wn<|ws<|wm rfl<|wm rfl<|wo (op_callF Fa.C239 rfl ((medadj_ok v n l (a+(((b-a) / 4) * 2)) b1 s4 _ _ (H4.part [0,1] rfl rfl) (by omega) (by omega) (by omega) (by omega) (by omega)).mono (fun e w5 hq=>?_)))
   obtain ⟨s5,x5,rfl,hc5,hq5⟩:=hq
   refine ⟨_,rfl,?_⟩
   have H5:=H4.splice [0,1] [.row v 22 1 n (List.map vU32 l),.blk b1 [(vN s5)] 3] [] rfl rfl hq5 (Fits.solid True.intro (Fits.solid True.intro Fits.nil))
   refine wa rfl<|wn<|WC.region<|wm rfl<|wm rfl<|wo (op_callF Fa.C239 rfl ((medadj_ok v n l (a+(((b-a) / 4) * 3)) b1 s5 _ _ (H5.part [0,1] rfl rfl) (by omega) (by omega) (by omega) (by omega) (by omega)).mono (fun e w6 hq=>?_)))
   obtain ⟨s6,x6,rfl,hc6,hq6⟩:=hq
   refine ⟨_,rfl,?_⟩
   have H6:=H5.splice [0,1] [.row v 22 1 n (List.map vU32 l),.blk b1 [(vN s6)] 3] [] rfl rfl hq6 (Fits.solid True.intro (Fits.solid True.intro Fits.nil))
   refine wa rfl<|wn<|WC.region<|wm rfl<|wm rfl<|wm rfl<|wm rfl<|wo (op_callF Fa.C240 rfl ((med_ok v n l x4 x5 x6 b1 s6 _ _ (H6.part [0,1] rfl rfl) (by omega) (by omega) (by omega) (by omega) (by omega) (by omega)).mono (fun e w7 hq=>?_)))
   obtain ⟨s7,x7,rfl,hc7,hq7⟩:=hq
   refine ⟨_,rfl,?_⟩
   have H7:=H6.splice [0,1] [.row v 22 1 n (List.map vU32 l),.blk b1 [(vN s7)] 3] [] rfl rfl hq7 (Fits.solid True.intro (Fits.solid True.intro Fits.nil))
   refine wa rfl<|wn<|ws<|wo (op_load rfl (H7.cell (i:=1) rfl rfl) Tryz.underlying3 rfl<|wn<|WC.block<|ws<|wo (op_eqlN (b:=0) rfl rfl<|wa rfl<|wn (wE (s7=0) (fun hb8 hc8=>?_) (fun hb8 hc8=>?_))))
   ·
    exact ws<|wm rfl<|wa rfl<|wa rfl<|wn<|WC.ret<|WQ.inRet<|WQ.out (.tmp rfl (.tmp rfl .nil)) (⟨_,_,rfl,⟨by omega,by omega⟩,H7.sel [0] rfl rfl⟩)
   refine ws<|wo (op_eqlN (b:=12) rfl rfl<|wa rfl<|wn (wE (s7=12) (fun hb9 hc9=>?_) (fun hb9 hc9=>?_)))
   ·
    exact ws<|wm rfl<|wa rfl<|wa rfl<|wn<|WC.ret<|WQ.inRet<|WQ.out (.tmp rfl (.tmp rfl .nil)) (⟨_,_,rfl,⟨by omega,by omega⟩,H7.sel [0] rfl rfl⟩)
   exact ws<|wm rfl<|wa rfl<|wa rfl<|wn<|WC.ret<|WQ.inRet<|WQ.out (.tmp rfl (.tmp rfl .nil)) (⟨_,_,rfl,⟨by omega,by omega⟩,H7.sel [0] rfl rfl⟩)
  refine WC.skip<|WQ.next<|WC.region<|wm rfl<|wm rfl<|wm rfl<|wm rfl<|wo (op_callF Fa.C240 rfl ((med_ok v n l (a+(((b-a) / 4) * 1)) (a+(((b-a) / 4) * 2)) (a+(((b-a) / 4) * 3)) b1 0 _ _ (H1.part [0,1] rfl rfl) (by omega) (by omega) (by omega) (by omega) (by omega) (by omega)).mono (fun e w10 hq=>?_)))
  obtain ⟨s10,x10,rfl,hc10,hq10⟩:=hq
  refine ⟨_,rfl,?_⟩
  have H10:=H1.splice [0,1] [.row v 22 1 n (List.map vU32 l),.blk b1 [(vN s10)] 3] [] rfl rfl hq10 (Fits.solid True.intro (Fits.solid True.intro Fits.nil))
  refine wa rfl<|wn<|ws<|wo (op_load rfl (H10.cell (i:=1) rfl rfl) Tryz.underlying3 rfl<|wn<|WC.block<|ws<|wo (op_eqlN (b:=0) rfl rfl<|wa rfl<|wn (wE (s10=0) (fun hb11 hc11=>?_) (fun hb11 hc11=>?_))))
  ·
   exact ws<|wm rfl<|wa rfl<|wa rfl<|wn<|WC.ret<|WQ.inRet<|WQ.out (.tmp rfl (.tmp rfl .nil)) (⟨_,_,rfl,⟨by omega,by omega⟩,H10.sel [0] rfl rfl⟩)
  refine ws<|wo (op_eqlN (b:=12) rfl rfl<|wa rfl<|wn (wE (s10=12) (fun hb12 hc12=>?_) (fun hb12 hc12=>?_)))
  ·
   exact ws<|wm rfl<|wa rfl<|wa rfl<|wn<|WC.ret<|WQ.inRet<|WQ.out (.tmp rfl (.tmp rfl .nil)) (⟨_,_,rfl,⟨by omega,by omega⟩,H10.sel [0] rfl rfl⟩)
  exact ws<|wm rfl<|wa rfl<|wa rfl<|wn<|WC.ret<|WQ.inRet<|WQ.out (.tmp rfl (.tmp rfl .nil)) (⟨_,_,rfl,⟨by omega,by omega⟩,H10.sel [0] rfl rfl⟩)
 exact WC.skip<|WQ.next<|ws<|wo (op_load rfl (H1.cell (i:=1) rfl rfl) Tryz.underlying3 rfl<|wn<|WC.block<|ws<|wo (op_eqlN (b:=0) rfl rfl<|wa rfl<|wn<|WC.yes rfl (by decide)<|ws<|wm rfl<|wa rfl<|wa rfl<|wn<|WC.ret<|WQ.inRet<|WQ.out (.tmp rfl (.tmp rfl .nil)) (⟨_,_,rfl,⟨by omega,by omega⟩,H1.sel [0] rfl rfl⟩)))
theorem next_ok (q:Nat) (x:UInt64) (T:List Nat) (w:World) (H:Owl.Own T w w [.blk q [(vU64 x)] 337]) :
  Calls Tryz.prog 238 #[(ptr q 0)] w (fun e w'=> ∃y:UInt64,e=.returned (vU64 y)∧Owl.Own T w w' [.blk q [vU64 y] 337]):=by
 refine enter Tryz.func238 rfl rfl<|ws<|wa rfl<|wn<|WC.seq<|WC.draw 9 Fa.M H (mh rfl<|oh (fun w1 H1=>op_nilCheck rfl zr)<|oh (fun w1 H1=>op_load rfl (H1.cell (i:=0) rfl rfl) Tryz.underlying337 rfl zr)<|mh rfl<|oh (fun w1 H1=>op_nilCheck rfl zr)<|oh (fun w1 H1=>op_load rfl (H1.cell (i:=0) rfl rfl) Tryz.underlying337 rfl zr)<|oh (fun w1 H1=>op_shlU64 (s:=13) rfl rfl zr)<|oh (fun w1 H1=>op_xorU64 rfl rfl zr)<|oh (fun w1 H1=>op_nilCheck rfl zr)  HW.nil) (by kernel_rfl) ?_
 intro β1 w1 H1
 refine wo (op_storeB (i:=0) H1 rfl rfl rfl rfl rfl Fa.I337 (fun w2 H2=>(wn<|WC.seq<|WC.draw 9 Fa.M H2 (mh rfl<|oh (fun w1 H1=>op_nilCheck rfl zr)<|oh (fun w1 H1=>op_load rfl (H1.cell (i:=0) rfl rfl) Tryz.underlying337 rfl zr)<|mh rfl<|oh (fun w1 H1=>op_nilCheck rfl zr)<|oh (fun w1 H1=>op_load rfl (H1.cell (i:=0) rfl rfl) Tryz.underlying337 rfl zr)<|oh (fun w1 H1=>op_shrU64 (s:=7) rfl rfl zr)<|oh (fun w1 H1=>op_xorU64 rfl rfl zr)<|oh (fun w1 H1=>op_nilCheck rfl zr)  HW.nil) (by kernel_rfl) ?_)))
 intro β3 w3 H3
 refine wo (op_storeB (i:=0) H3 rfl rfl rfl rfl rfl Fa.I337 (fun w4 H4=>(wn<|WC.seq<|WC.draw 9 Fa.M H4 (mh rfl<|oh (fun w1 H1=>op_nilCheck rfl zr)<|oh (fun w1 H1=>op_load rfl (H1.cell (i:=0) rfl rfl) Tryz.underlying337 rfl zr)<|mh rfl<|oh (fun w1 H1=>op_nilCheck rfl zr)<|oh (fun w1 H1=>op_load rfl (H1.cell (i:=0) rfl rfl) Tryz.underlying337 rfl zr)<|oh (fun w1 H1=>op_shlU64 (s:=17) rfl rfl zr)<|oh (fun w1 H1=>op_xorU64 rfl rfl zr)<|oh (fun w1 H1=>op_nilCheck rfl zr)  HW.nil) (by kernel_rfl) ?_)))
 intro β5 w5 H5
 exact wo (op_storeB (i:=0) H5 rfl rfl rfl rfl rfl Fa.I337 (fun w6 H6=>(wn<|ws<|wm rfl<|wo (op_nilCheck rfl<|wo (op_load rfl (H6.cell (i:=0) rfl rfl) Tryz.underlying337 rfl<|wa rfl<|wn<|WC.ret<|WQ.out (.tmp rfl .nil) (⟨_,rfl,H6⟩))))))
theorem blen64_ok (x:UInt64) (w:World) :
  Calls Tryz.prog 221 #[(vU64 x)] w (fun e w'=>e=.returned (vN (lenN x.toNat))∧Fr [] w w'):=by
 refine enter Tryz.func221 rfl rfl ?_
 have H0:=Own.start w []
 refine ws<|wa rfl<|wn<|WC.seq<|ws<|wm rfl<|wo (op_geqU64 (b:=4294967296) rfl rfl<|wn (wE (x≥(4294967296:UInt64)) (fun hb1 hc1=>?_) (fun hb1 hc1=>?_)))
 ·
  refine ws<|wm rfl<|wo (op_shrU64 (s:=32) rfl rfl<|wa rfl<|wn<|WC.region<|wa rfl<|wn<|WC.seq<|ws<|wm rfl<|wo (op_geqU64 (b:=65536) rfl rfl<|wn (wE ((shrU64 x 32)≥(65536:UInt64)) (fun hb2 hc2=>?_) (fun hb2 hc2=>?_))))
  ·
   refine ws<|wm rfl<|wo (op_shrU64 (s:=16) rfl rfl<|wa rfl<|wn<|WC.region<|wm rfl<|wo (op_addN (b:=16) rfl rfl (by decide)<|wa rfl<|wn<|WC.seq<|ws<|wm rfl<|wo (op_geqU64 (b:=256) rfl rfl<|wn (wE ((shrU64 (shrU64 x 32) 16)≥(256:UInt64)) (fun hb3 hc3=>?_) (fun hb3 hc3=>?_)))))
   ·
    exact ws<|wm rfl<|wo (op_shrU64 (s:=8) rfl rfl<|wa rfl<|wn<|WC.region<|wm rfl<|wo (op_addN (b:=8) rfl rfl (by decide)<|wa rfl<|wn<|ws<|wm rfl<|wm rfl<|wo (op_convU64U8 (hs:=Tryz.underlying154) (hd:=Tryz.underlying5) rfl<|wo (op_indexStrD (l:=tab8) Tryz.underlying9 (by kernel_rfl) rfl (tab8_in _)<|wo (op_convU8N (hs:=Tryz.underlying5) (hd:=Tryz.underlying3) rfl<|wo (op_addN rfl rfl (tab8_add _ (by decide))<|wa rfl<|wn<|WC.ret<|WQ.out (.tmp rfl .nil) (⟨by have h:=blen_all (x:=x) (.inl ⟨UInt64.le_iff_toNat_le.1 (dT hb1),rfl,rfl⟩) (.inl ⟨UInt64.le_iff_toNat_le.1 (dT hb2),rfl,rfl⟩) (.inl ⟨UInt64.le_iff_toNat_le.1 (dT hb3),rfl,rfl⟩); rw [←h]; rfl,H0.fr⟩)))))))
   exact WC.skip<|WQ.next<|ws<|wm rfl<|wm rfl<|wo (op_convU64U8 (hs:=Tryz.underlying154) (hd:=Tryz.underlying5) rfl<|wo (op_indexStrD (l:=tab8) Tryz.underlying9 (by kernel_rfl) rfl (tab8_in _)<|wo (op_convU8N (hs:=Tryz.underlying5) (hd:=Tryz.underlying3) rfl<|wo (op_addN rfl rfl (tab8_add _ (by decide))<|wa rfl<|wn<|WC.ret<|WQ.out (.tmp rfl .nil) (⟨by have h:=blen_all (x:=x) (.inl ⟨UInt64.le_iff_toNat_le.1 (dT hb1),rfl,rfl⟩) (.inl ⟨UInt64.le_iff_toNat_le.1 (dT hb2),rfl,rfl⟩) (.inr ⟨Nat.lt_of_not_le (fun q=>dF hb3 (UInt64.le_iff_toNat_le.2 q)),rfl,rfl⟩); rw [←h]; rfl,H0.fr⟩)))))
  refine WC.skip<|WQ.next<|WC.seq<|ws<|wm rfl<|wo (op_geqU64 (b:=256) rfl rfl<|wn (wE ((shrU64 x 32)≥(256:UInt64)) (fun hb4 hc4=>?_) (fun hb4 hc4=>?_)))
  ·
   exact ws<|wm rfl<|wo (op_shrU64 (s:=8) rfl rfl<|wa rfl<|wn<|WC.region<|wm rfl<|wo (op_addN (b:=8) rfl rfl (by decide)<|wa rfl<|wn<|ws<|wm rfl<|wm rfl<|wo (op_convU64U8 (hs:=Tryz.underlying154) (hd:=Tryz.underlying5) rfl<|wo (op_indexStrD (l:=tab8) Tryz.underlying9 (by kernel_rfl) rfl (tab8_in _)<|wo (op_convU8N (hs:=Tryz.underlying5) (hd:=Tryz.underlying3) rfl<|wo (op_addN rfl rfl (tab8_add _ (by decide))<|wa rfl<|wn<|WC.ret<|WQ.out (.tmp rfl .nil) (⟨by have h:=blen_all (x:=x) (.inl ⟨UInt64.le_iff_toNat_le.1 (dT hb1),rfl,rfl⟩) (.inr ⟨Nat.lt_of_not_le (fun q=>dF hb2 (UInt64.le_iff_toNat_le.2 q)),rfl,rfl⟩) (.inl ⟨UInt64.le_iff_toNat_le.1 (dT hb4),rfl,rfl⟩); rw [←h]; rfl,H0.fr⟩)))))))
  exact WC.skip<|WQ.next<|ws<|wm rfl<|wm rfl<|wo (op_convU64U8 (hs:=Tryz.underlying154) (hd:=Tryz.underlying5) rfl<|wo (op_indexStrD (l:=tab8) Tryz.underlying9 (by kernel_rfl) rfl (tab8_in _)<|wo (op_convU8N (hs:=Tryz.underlying5) (hd:=Tryz.underlying3) rfl<|wo (op_addN rfl rfl (tab8_add _ (by decide))<|wa rfl<|wn<|WC.ret<|WQ.out (.tmp rfl .nil) (⟨by have h:=blen_all (x:=x) (.inl ⟨UInt64.le_iff_toNat_le.1 (dT hb1),rfl,rfl⟩) (.inr ⟨Nat.lt_of_not_le (fun q=>dF hb2 (UInt64.le_iff_toNat_le.2 q)),rfl,rfl⟩) (.inr ⟨Nat.lt_of_not_le (fun q=>dF hb4 (UInt64.le_iff_toNat_le.2 q)),rfl,rfl⟩); rw [←h]; rfl,H0.fr⟩)))))
 refine WC.skip<|WQ.next<|WC.seq<|ws<|wm rfl<|wo (op_geqU64 (b:=65536) rfl rfl<|wn (wE (x≥(65536:UInt64)) (fun hb5 hc5=>?_) (fun hb5 hc5=>?_)))
 ·
  refine ws<|wm rfl<|wo (op_shrU64 (s:=16) rfl rfl<|wa rfl<|wn<|WC.region<|wm rfl<|wo (op_addN (b:=16) rfl rfl (by decide)<|wa rfl<|wn<|WC.seq<|ws<|wm rfl<|wo (op_geqU64 (b:=256) rfl rfl<|wn (wE ((shrU64 x 16)≥(256:UInt64)) (fun hb6 hc6=>?_) (fun hb6 hc6=>?_)))))
  ·
   exact ws<|wm rfl<|wo (op_shrU64 (s:=8) rfl rfl<|wa rfl<|wn<|WC.region<|wm rfl<|wo (op_addN (b:=8) rfl rfl (by decide)<|wa rfl<|wn<|ws<|wm rfl<|wm rfl<|wo (op_convU64U8 (hs:=Tryz.underlying154) (hd:=Tryz.underlying5) rfl<|wo (op_indexStrD (l:=tab8) Tryz.underlying9 (by kernel_rfl) rfl (tab8_in _)<|wo (op_convU8N (hs:=Tryz.underlying5) (hd:=Tryz.underlying3) rfl<|wo (op_addN rfl rfl (tab8_add _ (by decide))<|wa rfl<|wn<|WC.ret<|WQ.out (.tmp rfl .nil) (⟨by have h:=blen_all (x:=x) (.inr ⟨Nat.lt_of_not_le (fun q=>dF hb1 (UInt64.le_iff_toNat_le.2 q)),rfl,rfl⟩) (.inl ⟨UInt64.le_iff_toNat_le.1 (dT hb5),rfl,rfl⟩) (.inl ⟨UInt64.le_iff_toNat_le.1 (dT hb6),rfl,rfl⟩); rw [←h]; rfl,H0.fr⟩)))))))
  exact WC.skip<|WQ.next<|ws<|wm rfl<|wm rfl<|wo (op_convU64U8 (hs:=Tryz.underlying154) (hd:=Tryz.underlying5) rfl<|wo (op_indexStrD (l:=tab8) Tryz.underlying9 (by kernel_rfl) rfl (tab8_in _)<|wo (op_convU8N (hs:=Tryz.underlying5) (hd:=Tryz.underlying3) rfl<|wo (op_addN rfl rfl (tab8_add _ (by decide))<|wa rfl<|wn<|WC.ret<|WQ.out (.tmp rfl .nil) (⟨by have h:=blen_all (x:=x) (.inr ⟨Nat.lt_of_not_le (fun q=>dF hb1 (UInt64.le_iff_toNat_le.2 q)),rfl,rfl⟩) (.inl ⟨UInt64.le_iff_toNat_le.1 (dT hb5),rfl,rfl⟩) (.inr ⟨Nat.lt_of_not_le (fun q=>dF hb6 (UInt64.le_iff_toNat_le.2 q)),rfl,rfl⟩); rw [←h]; rfl,H0.fr⟩)))))
 refine WC.skip<|WQ.next<|WC.seq<|ws<|wm rfl<|wo (op_geqU64 (b:=256) rfl rfl<|wn (wE (x≥(256:UInt64)) (fun hb7 hc7=>?_) (fun hb7 hc7=>?_)))
 ·
  exact ws<|wm rfl<|wo (op_shrU64 (s:=8) rfl rfl<|wa rfl<|wn<|WC.region<|wm rfl<|wo (op_addN (b:=8) rfl rfl (by decide)<|wa rfl<|wn<|ws<|wm rfl<|wm rfl<|wo (op_convU64U8 (hs:=Tryz.underlying154) (hd:=Tryz.underlying5) rfl<|wo (op_indexStrD (l:=tab8) Tryz.underlying9 (by kernel_rfl) rfl (tab8_in _)<|wo (op_convU8N (hs:=Tryz.underlying5) (hd:=Tryz.underlying3) rfl<|wo (op_addN rfl rfl (tab8_add _ (by decide))<|wa rfl<|wn<|WC.ret<|WQ.out (.tmp rfl .nil) (⟨by have h:=blen_all (x:=x) (.inr ⟨Nat.lt_of_not_le (fun q=>dF hb1 (UInt64.le_iff_toNat_le.2 q)),rfl,rfl⟩) (.inr ⟨Nat.lt_of_not_le (fun q=>dF hb5 (UInt64.le_iff_toNat_le.2 q)),rfl,rfl⟩) (.inl ⟨UInt64.le_iff_toNat_le.1 (dT hb7),rfl,rfl⟩); rw [←h]; rfl,H0.fr⟩)))))))
 exact WC.skip<|WQ.next<|ws<|wm rfl<|wm rfl<|wo (op_convU64U8 (hs:=Tryz.underlying154) (hd:=Tryz.underlying5) rfl<|wo (op_indexStrD (l:=tab8) Tryz.underlying9 (by kernel_rfl) rfl (tab8_in _)<|wo (op_convU8N (hs:=Tryz.underlying5) (hd:=Tryz.underlying3) rfl<|wo (op_addN rfl rfl (tab8_add _ (by decide))<|wa rfl<|wn<|WC.ret<|WQ.out (.tmp rfl .nil) (⟨by have h:=blen_all (x:=x) (.inr ⟨Nat.lt_of_not_le (fun q=>dF hb1 (UInt64.le_iff_toNat_le.2 q)),rfl,rfl⟩) (.inr ⟨Nat.lt_of_not_le (fun q=>dF hb5 (UInt64.le_iff_toNat_le.2 q)),rfl,rfl⟩) (.inr ⟨Nat.lt_of_not_le (fun q=>dF hb7 (UInt64.le_iff_toNat_le.2 q)),rfl,rfl⟩); rw [←h]; rfl,H0.fr⟩)))))
theorem blen_ok (x:UInt64) (w:World) :
  Calls Tryz.prog 182 #[(vU64 x)] w (fun e w'=>e=.returned (vN (lenN x.toNat))∧Fr [] w w'):=by
 refine enter Tryz.func182 rfl rfl ?_
 have H0:=Own.start w []
 exact ws<|wa rfl<|wn<|WC.seq<|WC.no rfl rfl<|WC.skip<|WQ.next<|ws<|wm rfl<|wo (cq H0 Fa.C221 rfl (blen64_ok x _) fun w1 H1=>(wa rfl<|wn<|WC.ret<|WQ.out (.tmp rfl .nil) (⟨rfl,H1.fr⟩)))
theorem npt_ok (n:Nat) (w:World) (_hn:n<2^62) :
  Calls Tryz.prog 237 #[(vN n)] w (fun e w'=>e=.returned (vU64 (shlU64 1 (lenN (UInt64.ofNat n).toNat)))∧Fr [] w w'):=by
 refine enter Tryz.func237 rfl rfl ?_
 have H0:=Own.start w []
 exact ws<|wa rfl<|wn<|ws<|wm rfl<|wo (op_convNU64 (hs:=Tryz.underlying3) (hd:=Tryz.underlying265) rfl<|wo (cq H0 Fa.C182 rfl (blen_ok (UInt64.ofNat n) _) fun w1 H1=>(wo (op_shlU64 (a:=1) rfl rfl<|wa rfl<|wn<|WC.ret<|WQ.out (.tmp rfl .nil) (⟨rfl,H1.fr⟩)))))
theorem brk_ok (v:Value) (n:Nat) (l:List UInt32) (a b:Nat) (T:List Nat) (w:World) (H:Owl.Own T w w [.row v 22 1 n (List.map vU32 l)]) (hn:l.length=n) (hN:n<2^61) (hab:a<b) (hb:b≤n) :
  Calls Tryz.prog 213 #[v,(vN a),(vN b)] w (fun e w'=> ∃(l':List UInt32),e=.returned undef∧(Sw 0 a b l l')∧Owl.Own T w w' [.row v 22 1 n (List.map vU32 l')]):=by
 refine enter Tryz.func213 rfl rfl<|ws<|wm rfl<|wm rfl<|wo (op_subN rfl rfl (by omega) (by omega)<|wa rfl<|wn<|ws<|wm rfl<|wo (op_geqN (b:=8) rfl rfl<|wn (wE ((b-a)≥8) (fun hb1 hc1=>?_) (fun hb1 hc1=>?_))))
 ·
  refine ws<|wm rfl<|wo (op_convNU64 (hs:=Tryz.underlying3) (hd:=Tryz.underlying337) rfl<|wo (op_alloc H Fa.I337 (fun b2 w2 H2=>(wo (op_storeB (i:=1) H2 rfl rfl rfl rfl rfl Fa.I337 (fun w3 H3=>(wn<|ws<|wm rfl<|wo (cq H3 Fa.C237 rfl (npt_ok (b-a) _ (by omega)) fun w4 H4=>(wa rfl<|wn<|ws<|wm rfl<|wm rfl<|wo (op_quoN (b:=4) rfl rfl (by omega) (by omega)<|wo (op_mulN (b:=2) rfl rfl (by omega)<|wo (op_addN rfl rfl (by omega)<|wo (op_subN (b:=1) rfl rfl (by omega) (by omega)<|wa rfl<|wn<|WC.block<|WC.loop (α:=Nat × UInt64 × List UInt32) (fun (x,r,l1)=>[(0,v),(1,(vN a)),(2,(vN b)),(6,(vN (b-a))),(7,(ptr b2 0)),(8,(vU64 (shlU64 1 (lenN (UInt64.ofNat (b-a)).toNat)))),(9,(vN x))]) (fun (x,r,l1) w'=>(a+(b-a) / 4 * 2-1≤x∧x≤a+(b-a) / 4 * 2+2∧Sw 0 a b l l1)∧Owl.Own T w w' [.row v 22 1 n (List.map vU32 l1),.blk b2 [(vU64 r)] 337]) (fun (x,r,l1)=>a+(b-a) / 4 * 2+3-x) (a+(b-a) / 4 * 2-1,UInt64.ofNat (b-a),l) ⟨⟨Nat.le_refl _,by omega,.refl _⟩,H4⟩ ⟨rfl,rfl,rfl,rfl,rfl,rfl,rfl,trivial⟩ ?_)))))))))))))
  rintro ⟨x,r,l1⟩ w5 ⟨⟨hx1,hx2,hs1⟩,H5⟩
  show WC _ _ _ _ _ [(0,v),(1,(vN a)),(2,(vN b)),(6,(vN (b-a))),(7,(ptr b2 0)),(8,(vU64 (shlU64 1 (lenN (UInt64.ofNat (b-a)).toNat)))),(9,(vN x))] _
  have hL1:=hs1.len
  refine WC.seq<|ws<|wm rfl<|wm rfl<|wm rfl<|wo (op_quoN (b:=4) rfl rfl (by omega) (by omega)<|wo (op_mulN (b:=2) rfl rfl (by omega)<|wo (op_addN rfl rfl (by omega)<|wo (op_addN (b:=1) rfl rfl (by omega)<|wo (op_leqN rfl rfl<|wn (wE (x≤((a+(((b-a) / 4) * 2))+1)) (fun hb6 hc6=>?_) (fun hb6 hc6=>?_)))))))
  ·
   refine WC.skip<|WQ.next<|WC.seq<|WC.block<|ws<|wo (op_callF Fa.C238 rfl ((next_ok b2 r _ _ (H5.part [1] rfl rfl)).mono (fun e w7 hq=>?_)))
   obtain ⟨y7,rfl,hq7⟩:=hq
   refine ⟨_,rfl,?_⟩
   have H7:=H5.splice [1] [.blk b2 [(vU64 y7)] 337] [] rfl rfl hq7 (Fits.solid True.intro Fits.nil)
   have hbr:=brk_lt (y:=y7) (n:=b-a) (by omega) (by omega)
   refine wm rfl<|wo (op_subU64 (b:=1) rfl rfl<|wo (op_andU64 rfl rfl<|wo (op_convU64N (hs:=Tryz.underlying265) (hd:=Tryz.underlying3) rfl (by omega)<|wa rfl<|wn<|WC.cut (α:=Nat) (fun o=>[(0,v),(1,(vN a)),(2,(vN b)),(6,(vN (b-a))),(7,(ptr b2 0)),(8,(vU64 (shlU64 1 (lenN (UInt64.ofNat (b-a)).toNat)))),(9,(vN x)),(10,(vN o))]) (fun o w'=>(o<b-a)∧Owl.Own T w w' [.row v 22 1 n (List.map vU32 l1),.blk b2 [(vU64 y7)] 337]) ?_ ?_)))
   ·
    refine ws<|wm rfl<|wm rfl<|wo (op_geqN rfl rfl<|wn (wE ((y7 &&& ((shlU64 1 (lenN (UInt64.ofNat (b-a)).toNat))-(1:UInt64))).toNat≥(b-a)) (fun hb8 hc8=>?_) (fun hb8 hc8=>?_)))
    ·
     exact WC.region<|wm rfl<|wm rfl<|wo (op_subN rfl rfl (by omega) (by omega)<|wa rfl<|WL.nil<|WQ.here ((y7 &&& ((shlU64 1 (lenN (UInt64.ofNat (b-a)).toNat))-(1:UInt64))).toNat-(b-a)) ⟨(by omega),H7⟩ ⟨rfl,rfl,rfl,rfl,rfl,rfl,rfl,rfl,trivial⟩)
    exact WC.skip<|WQ.here (y7 &&& ((shlU64 1 (lenN (UInt64.ofNat (b-a)).toNat))-(1:UInt64))).toNat ⟨(by omega),H7⟩ ⟨rfl,rfl,rfl,rfl,rfl,rfl,rfl,rfl,trivial⟩
   rintro o w9 ⟨ho,H9⟩
   show WC _ _ _ _ _ [(0,v),(1,(vN a)),(2,(vN b)),(6,(vN (b-a))),(7,(ptr b2 0)),(8,(vU64 (shlU64 1 (lenN (UInt64.ofNat (b-a)).toNat)))),(9,(vN x)),(10,(vN o))] _
   refine WC.held 20 rfl Fa.M H9 (fun w'=> ∃L',Owl.Own T w w' ([]++L')) ?_
   intro w10 H10
   refine xt 0 rfl v H10 (fun _ _ HX=>op_move rfl ⟨rfl,rfl⟩)<|xt 1 rfl (vN x) H10 (fun _ _ HX=>op_move rfl ⟨rfl,rfl⟩)<|xt 2 rfl v H10 (fun _ _ HX=>op_move rfl ⟨rfl,rfl⟩)<|xt 3 rfl (vN a) H10 (fun _ _ HX=>op_move rfl ⟨rfl,rfl⟩)<|xt 4 rfl (vN o) H10 (fun _ _ HX=>op_move rfl ⟨rfl,rfl⟩)<|xt 5 rfl (vN (a+o)) H10 (fun _ _ HX=>op_addN rfl rfl (by omega) ⟨rfl,rfl⟩)<|xt 6 rfl v H10 (fun _ _ HX=>op_move rfl ⟨rfl,rfl⟩)<|xt 7 rfl (vN a) H10 (fun _ _ HX=>op_move rfl ⟨rfl,rfl⟩)<|xt 8 rfl (vN o) H10 (fun _ _ HX=>op_move rfl ⟨rfl,rfl⟩)<|xt 9 rfl (vN (a+o)) H10 (fun _ _ HX=>op_addN rfl rfl (by omega) ⟨rfl,rfl⟩)<|xt 10 rfl (.pointer (some (sp v (a+o)))) H10 (fun _ _ HX=>op_indexAddr1W Tryz.underlying73 Fa.I22 rfl (H10.arrR (i:=0) rfl) rfl (by omega) ⟨rfl,rfl⟩)<|xt 12 rfl v H10 (fun _ _ HX=>op_move rfl ⟨rfl,rfl⟩)<|xt 13 rfl (vN x) H10 (fun _ _ HX=>op_move rfl ⟨rfl,rfl⟩)<|xt 14 rfl (.pointer (some (sp v x))) H10 (fun _ _ HX=>op_indexAddr1W Tryz.underlying73 Fa.I22 rfl (H10.arrR (i:=0) rfl) rfl (by omega) ⟨rfl,rfl⟩)<|WH.named (fun W hW=>?_)
   let e10:List (Nat × Value)→List (Nat × Value):=fun r=>(0,v)::(1,(vN a))::(2,(vN b))::(6,(vN (b-a)))::(7,(ptr b2 0))::(8,(vU64 (shlU64 1 (lenN (UInt64.ofNat (b-a)).toNat))))::(9,(vN x))::(10,(vN o))::r
   let a10_0:Ent:=.row v 22 1 n (List.map vU32 l1)
   let a10_1:Ent:=.blk b2 [(vU64 y7)] 337
   have st10_5: ∀wS,Owl.Own T w wS [.row v 22 1 n (List.map vU32 ((l1.set x (l1.getD (a+o) 0)).set (a+o) (l1.getD x 0))),a10_1]→W 0 (bz 20 1048575) (e10 []) wS:=fun wS HS=>by
    rw [hW]
    exact WH.done (by kernel_rfl)<|WQ.inNormal<|WQ.next<|WC.region<|wm rfl<|wo (op_addN (b:=1) rfl rfl (by omega)<|wa rfl<|WL.nil<|WQ.round (x+1,y7,swapL 0 l1 x (a+o)) ⟨⟨by omega,by omega,hs1.step (by omega) (by omega) (by omega) (by omega)⟩,HS⟩ ⟨rfl,rfl,rfl,rfl,rfl,rfl,rfl,trivial⟩ (by show a+(b-a) / 4 * 2+3-(x+1)<a+(b-a) / 4 * 2+3-x; omega))
   have st10_4: ∀wS,Owl.Own T w wS [.row v 22 1 n (List.map vU32 (l1.set x (l1.getD (a+o) 0))),a10_1]→W 1 (bz 20 524287) (e10 [(62,(vU32 (l1.getD x 0))),(64,(.pointer (some (sp v (a+o)))))]) wS:=fun wS HS=>by
    rw [hW]
    refine wh1 19<|kH 19 rfl (op_storeRM (i:=0) (f:=vU32) (l:=(l1.set x (l1.getD (a+o) 0))) (c:=(l1.getD x 0)) HS rfl rfl rfl (by omega) rfl Fa.I22 (fun w21381 H21381=>(⟨⟨_,H21381⟩,?_⟩)))
    exact WH.cw hW (st10_5 w21381 H21381)
   have st10_3: ∀wS,Owl.Own T w wS [a10_0,a10_1]→W 3 (bz 20 131071) (e10 [(49,v),(52,(vN (a+o))),(58,(vU32 (l1.getD (a+o) 0))),(62,(vU32 (l1.getD x 0))),(63,(.pointer (some (sp v x))))]) wS:=fun wS HS=>by
    rw [hW]
    refine wh1 17<|kH 17 rfl (op_storeRM (i:=0) (f:=vU32) (l:=l1) (c:=(l1.getD (a+o) 0)) HS rfl rfl rfl (by omega) rfl Fa.I22 (fun w21341 H21341=>(⟨⟨_,H21341⟩,?_⟩)))
    exact xt 18 rfl (.pointer (some (sp v (a+o)))) H21341 (fun _ _ HX=>op_indexAddr1W Tryz.underlying73 Fa.I22 rfl (H21341.arrR (i:=0) rfl) rfl (by omega) ⟨rfl,rfl⟩)<|WH.cw hW (st10_4 w21341 H21341)
   have st10_1: ∀wS,Owl.Own T w wS [a10_0,a10_1]→W 5 (bz 20 32767) (e10 [(47,v),(48,(vN x)),(49,v),(52,(vN (a+o))),(58,(vU32 (l1.getD (a+o) 0))),(61,(.pointer (some (sp v x))))]) wS:=fun wS HS=>by
    rw [hW]
    refine wh1 15<|kH 15 rfl (op_load rfl ((HS.arrR (i:=0) rfl).at (get_map vU32 0 (Arr.ltM (HS.arrR (i:=0) rfl) (by omega)))) Tryz.underlying22 rfl (⟨⟨_,HS⟩,?_⟩))
    exact xt 16 rfl (.pointer (some (sp v x))) HS (fun _ _ HX=>op_indexAddr1W Tryz.underlying73 Fa.I22 rfl (HS.arrR (i:=0) rfl) rfl (by omega) ⟨rfl,rfl⟩)<|WH.cw hW (st10_3 wS HS)
   have st10_2: ∀wS,Owl.Own T w wS [a10_0,a10_1]→W 5 (bz 20 63487) (e10 [(47,v),(48,(vN x)),(49,v),(52,(vN (a+o))),(57,(.pointer (some (sp v (a+o))))),(62,(vU32 (l1.getD x 0)))]) wS:=fun wS HS=>by
    rw [hW]
    refine wh1 11<|kH 11 rfl (op_load rfl ((HS.arrR (i:=0) rfl).at (get_map vU32 0 (Arr.ltM (HS.arrR (i:=0) rfl) (by omega)))) Tryz.underlying22 rfl (⟨⟨_,HS⟩,?_⟩))
    exact xt 16 rfl (.pointer (some (sp v x))) HS (fun _ _ HX=>op_indexAddr1W Tryz.underlying73 Fa.I22 rfl (HS.arrR (i:=0) rfl) rfl (by omega) ⟨rfl,rfl⟩)<|WH.cw hW (st10_3 wS HS)
   have st10_0: ∀wS,Owl.Own T w wS [a10_0,a10_1]→W 6 (bz 20 30719) (e10 [(47,v),(48,(vN x)),(49,v),(52,(vN (a+o))),(57,(.pointer (some (sp v (a+o))))),(61,(.pointer (some (sp v x))))]) wS:=fun wS HS=>by
    rw [hW]
    refine wh2 11 15 ?_ ?_
    ·
     refine kH 11 rfl (op_load rfl ((HS.arrR (i:=0) rfl).at (get_map vU32 0 (Arr.ltM (HS.arrR (i:=0) rfl) (by omega)))) Tryz.underlying22 rfl (⟨⟨_,HS⟩,?_⟩))
     exact WH.cw hW (st10_1 wS HS)
    refine kH 15 rfl (op_load rfl ((HS.arrR (i:=0) rfl).at (get_map vU32 0 (Arr.ltM (HS.arrR (i:=0) rfl) (by omega)))) Tryz.underlying22 rfl (⟨⟨_,HS⟩,?_⟩))
    exact WH.cw hW (st10_2 wS HS)
   have hq:=st10_0 w10 H10
   rw [hW] at hq ⊢
   exact WH.cv hq
  exact WC.exit<|WQ.thenExit<|WQ.thenExit<|WQ.inHere<|WQ.outEnd .nil (⟨_,rfl,hs1,H5.sel [0] rfl rfl⟩)
 exact WC.skip<|WQ.outEnd .nil (⟨_,rfl,.refl _,H.sel [0] rfl rfl⟩)
theorem part_ok (v:Value) (n:Nat) (l:List UInt32) (a b:Nat) (p:Nat) (T:List Nat) (w:World) (H:Owl.Own T w w [.row v 22 1 n (List.map vU32 l)]) (hn:l.length=n) (hN:n<2^61) (hap:a≤p) (hpb:p<b) (hb:b≤n) :
  Calls Tryz.prog 219 #[v,(vN a),(vN b),(vN p)] w (fun e w'=> ∃(l':List UInt32) (m:Nat) (f:Bool),e=.returned (.tuple #[vN m,.bool f])∧(Sw 0 a b l l'∧PartP ltU32 0 a b m l')∧Owl.Own T w w' [.row v 22 1 n (List.map vU32 l')]):=by
 refine enter Tryz.func219 rfl rfl<|ws<|wa rfl<|wa rfl<|wn<|WC.cut (α:=List UInt32) (fun l1=>[(0,v),(1,(vN a)),(2,(vN b))]) (fun l1 w'=>(Sw 0 a b l l1∧l1.getD a 0=(l.getD p 0))∧Owl.Own T w w' [.row v 22 1 n (List.map vU32 l1)]) ?_ ?_
 ·
  refine WC.held 16 rfl Fa.M H (fun w'=> ∃L',Owl.Own T w w' ([]++L')) ?_
  intro w1 H1
  refine xt 0 rfl v H1 (fun _ _ HX=>op_move rfl ⟨rfl,rfl⟩)<|xt 1 rfl (vN a) H1 (fun _ _ HX=>op_move rfl ⟨rfl,rfl⟩)<|xt 2 rfl v H1 (fun _ _ HX=>op_move rfl ⟨rfl,rfl⟩)<|xt 3 rfl (vN p) H1 (fun _ _ HX=>op_move rfl ⟨rfl,rfl⟩)<|xt 4 rfl v H1 (fun _ _ HX=>op_move rfl ⟨rfl,rfl⟩)<|xt 5 rfl (vN p) H1 (fun _ _ HX=>op_move rfl ⟨rfl,rfl⟩)<|xt 6 rfl (.pointer (some (sp v p))) H1 (fun _ _ HX=>op_indexAddr1W Tryz.underlying73 Fa.I22 rfl (H1.arrR (i:=0) rfl) rfl (by omega) ⟨rfl,rfl⟩)<|xt 8 rfl v H1 (fun _ _ HX=>op_move rfl ⟨rfl,rfl⟩)<|xt 9 rfl (vN a) H1 (fun _ _ HX=>op_move rfl ⟨rfl,rfl⟩)<|xt 10 rfl (.pointer (some (sp v a))) H1 (fun _ _ HX=>op_indexAddr1W Tryz.underlying73 Fa.I22 rfl (H1.arrR (i:=0) rfl) rfl (by omega) ⟨rfl,rfl⟩)<|WH.named (fun W hW=>?_)
  let e1:List (Nat × Value)→List (Nat × Value):=fun r=>(0,v)::(1,(vN a))::(2,(vN b))::(3,(vN p))::(8,(vN 0))::(9,(.bool false))::r
  let a1_0:Ent:=.row v 22 1 n (List.map vU32 l)
  have st1_5: ∀wS,Owl.Own T w wS [.row v 22 1 n (List.map vU32 ((l.set a (l.getD p 0)).set p (l.getD a 0)))]→W 0 (bz 16 65535) (e1 []) wS:=fun wS HS=>by
   rw [hW]
   exact WH.done (by kernel_rfl)<|WQ.here (swapL 0 l a p) ⟨⟨Sw.one (by omega) (by omega) (by omega) (by omega),swap_fst (by omega) (by omega)⟩,HS⟩ ⟨rfl,rfl,rfl,trivial⟩
  have st1_4: ∀wS,Owl.Own T w wS [.row v 22 1 n (List.map vU32 (l.set a (l.getD p 0)))]→W 1 (bz 16 32767) (e1 [(23,(vU32 (l.getD a 0))),(25,(.pointer (some (sp v p))))]) wS:=fun wS HS=>by
   rw [hW]
   refine wh1 15<|kH 15 rfl (op_storeRM (i:=0) (f:=vU32) (l:=(l.set a (l.getD p 0))) (c:=(l.getD a 0)) HS rfl rfl rfl (by omega) rfl Fa.I22 (fun w12301 H12301=>(⟨⟨_,H12301⟩,?_⟩)))
   exact WH.cw hW (st1_5 w12301 H12301)
  have st1_3: ∀wS,Owl.Own T w wS [a1_0]→W 3 (bz 16 8191) (e1 [(14,v),(15,(vN p)),(19,(vU32 (l.getD p 0))),(23,(vU32 (l.getD a 0))),(24,(.pointer (some (sp v a))))]) wS:=fun wS HS=>by
   rw [hW]
   refine wh1 13<|kH 13 rfl (op_storeRM (i:=0) (f:=vU32) (l:=l) (c:=(l.getD p 0)) HS rfl rfl rfl (by omega) rfl Fa.I22 (fun w12261 H12261=>(⟨⟨_,H12261⟩,?_⟩)))
   exact xt 14 rfl (.pointer (some (sp v p))) H12261 (fun _ _ HX=>op_indexAddr1W Tryz.underlying73 Fa.I22 rfl (H12261.arrR (i:=0) rfl) rfl (by omega) ⟨rfl,rfl⟩)<|WH.cw hW (st1_4 w12261 H12261)
  have st1_1: ∀wS,Owl.Own T w wS [a1_0]→W 5 (bz 16 2047) (e1 [(12,v),(13,(vN a)),(14,v),(15,(vN p)),(19,(vU32 (l.getD p 0))),(22,(.pointer (some (sp v a))))]) wS:=fun wS HS=>by
   rw [hW]
   refine wh1 11<|kH 11 rfl (op_load rfl ((HS.arrR (i:=0) rfl).at (get_map vU32 0 (Arr.ltM (HS.arrR (i:=0) rfl) (by omega)))) Tryz.underlying22 rfl (⟨⟨_,HS⟩,?_⟩))
   exact xt 12 rfl (.pointer (some (sp v a))) HS (fun _ _ HX=>op_indexAddr1W Tryz.underlying73 Fa.I22 rfl (HS.arrR (i:=0) rfl) rfl (by omega) ⟨rfl,rfl⟩)<|WH.cw hW (st1_3 wS HS)
  have st1_2: ∀wS,Owl.Own T w wS [a1_0]→W 5 (bz 16 3967) (e1 [(12,v),(13,(vN a)),(14,v),(15,(vN p)),(18,(.pointer (some (sp v p)))),(23,(vU32 (l.getD a 0)))]) wS:=fun wS HS=>by
   rw [hW]
   refine wh1 7<|kH 7 rfl (op_load rfl ((HS.arrR (i:=0) rfl).at (get_map vU32 0 (Arr.ltM (HS.arrR (i:=0) rfl) (by omega)))) Tryz.underlying22 rfl (⟨⟨_,HS⟩,?_⟩))
   exact xt 12 rfl (.pointer (some (sp v a))) HS (fun _ _ HX=>op_indexAddr1W Tryz.underlying73 Fa.I22 rfl (HS.arrR (i:=0) rfl) rfl (by omega) ⟨rfl,rfl⟩)<|WH.cw hW (st1_3 wS HS)
  have st1_0: ∀wS,Owl.Own T w wS [a1_0]→W 6 (bz 16 1919) (e1 [(12,v),(13,(vN a)),(14,v),(15,(vN p)),(18,(.pointer (some (sp v p)))),(22,(.pointer (some (sp v a))))]) wS:=fun wS HS=>by
   rw [hW]
   refine wh2 7 11 ?_ ?_
   ·
    refine kH 7 rfl (op_load rfl ((HS.arrR (i:=0) rfl).at (get_map vU32 0 (Arr.ltM (HS.arrR (i:=0) rfl) (by omega)))) Tryz.underlying22 rfl (⟨⟨_,HS⟩,?_⟩))
    exact WH.cw hW (st1_1 wS HS)
   refine kH 11 rfl (op_load rfl ((HS.arrR (i:=0) rfl).at (get_map vU32 0 (Arr.ltM (HS.arrR (i:=0) rfl) (by omega)))) Tryz.underlying22 rfl (⟨⟨_,HS⟩,?_⟩))
   exact WH.cw hW (st1_2 wS HS)
  have hq:=st1_0 w1 H1
  rw [hW] at hq ⊢
  exact WH.cv hq
 rintro l1 w3 ⟨⟨hs1,hv1⟩,H3⟩
 show WC _ _ _ _ _ [(0,v),(1,(vN a)),(2,(vN b))] _
 have hL1:=hs1.len
 refine ws<|wm rfl<|wo (op_addN (b:=1) rfl rfl (by omega)<|wm rfl<|wo (op_subN (b:=1) rfl rfl (by omega) (by omega)<|wa rfl<|wa rfl<|wn<|WC.cut (α:=Nat) (fun i5=>[(0,v),(1,(vN a)),(2,(vN b)),(10,(vN i5)),(11,(vN (b-1)))]) (fun i5 w'=>(PartI ltU32 0 a b i5 (b-1) l1 (l.getD p 0)∧(b-1<i5∨ltU32 (l1.getD i5 0) (l1.getD a 0)=false))∧Owl.Own T w w' [.row v 22 1 n (List.map vU32 l1)]) ?_ ?_))
 ·
  refine WC.block<|WC.loop (α:=Nat) (fun i=>[(0,v),(1,(vN a)),(2,(vN b)),(10,(vN i)),(11,(vN (b-1)))]) (fun i w'=>(PartI ltU32 0 a b i (b-1) l1 (l.getD p 0))∧Owl.Own T w w' [.row v 22 1 n (List.map vU32 l1)]) (fun i=>b-i) (a+1) ⟨(part_init (by omega) hv1),H3⟩ ⟨rfl,rfl,rfl,rfl,rfl,trivial⟩ ?_
  rintro i w4 ⟨hp3,H4⟩
  show WC _ _ _ _ _ [(0,v),(1,(vN a)),(2,(vN b)),(10,(vN i)),(11,(vN (b-1)))] _
  have hp3a:=hp3.1
  have hp3b:=hp3.2.1
  have hp3c:=hp3.2.2.1
  refine WC.seq<|WC.seq (wG (i≤(b-1)) (fun hb5 hc5=>?_) (fun hb5 hc5=>?_))
  ·
   refine WC.draw 14 Fa.M H4 (mh rfl<|mh rfl<|oh (fun w1 H1=>op_leqN rfl rfl zr)<|mh rfl<|yh hb5 (fun w1 H1=>op_move rfl zr)<|yh hb5 (fun w1 H1=>op_move rfl zr)<|yh hb5 (fun w1 H1=>op_indexAddr1 Tryz.underlying73 Fa.I22 rfl (H1.arrR (i:=0) rfl) rfl (by omega) zr)<|yh hb5 (fun w1 H1=>op_load rfl ((H1.arrR (i:=0) rfl).at (get_map vU32 0 (Arr.ltM (H1.arrR (i:=0) rfl) (by omega)))) Tryz.underlying22 rfl zr)<|yh hb5 (fun w1 H1=>op_move rfl zr)<|yh hb5 (fun w1 H1=>op_move rfl zr)<|yh hb5 (fun w1 H1=>op_indexAddr1 Tryz.underlying73 Fa.I22 rfl (H1.arrR (i:=0) rfl) rfl (by omega) zr)<|yh hb5 (fun w1 H1=>op_load rfl ((H1.arrR (i:=0) rfl).at (get_map vU32 0 (Arr.ltM (H1.arrR (i:=0) rfl) (by omega)))) Tryz.underlying22 rfl zr)<|yh hb5 (fun w1 H1=>op_callF Fa.C217 rfl ((less_ok (l1.getD i 0) (l1.getD a 0) _).mono (fun e w2 hq=>⟨_,hq.1,rfl,hq.2⟩)))<|oh (fun w1 H1=>op_pickT rfl hb5 rfl zr)  HW.nil) (by kernel_rfl) ?_
   intro β7 w7 H7
   refine wn (wC (ltU32 (l1.getD i 0) (l1.getD a 0)) (fun hb8=>?_) (fun hb8=>?_))
   ·
    exact WC.skip<|WQ.next<|WC.block<|WC.region<|wm rfl<|wo (op_addN (b:=1) rfl rfl (by omega)<|wa rfl<|WL.nil<|WQ.inNormal<|WQ.round (i+1) ⟨(part_i hp3 (by omega) hb8),H7⟩ ⟨rfl,rfl,rfl,rfl,rfl,trivial⟩ (by omega))
   exact WC.exit<|WQ.thenExit<|WQ.thenExit<|WQ.inHere<|WQ.here i ⟨⟨hp3,.inr hb8⟩,H7⟩ ⟨rfl,rfl,rfl,rfl,rfl,trivial⟩
  refine WC.draw 14 Fa.M H4 (mh rfl<|mh rfl<|oh (fun w1 H1=>op_leqN rfl rfl zr)<|mh rfl<|nh hb5<|nh hb5<|nh hb5<|nh hb5<|nh hb5<|nh hb5<|nh hb5<|nh hb5<|nh hb5<|oh (fun w1 H1=>op_pickF rfl hb5 rfl zr)  HW.nil) (by kernel_rfl) ?_
  intro β9 w9 H9
  exact wn<|WC.no rfl rfl<|WC.exit<|WQ.thenExit<|WQ.thenExit<|WQ.inHere<|WQ.here i ⟨⟨hp3,.inl (by omega)⟩,H9⟩ ⟨rfl,rfl,rfl,rfl,rfl,trivial⟩
 rintro i5 w10 ⟨⟨hp5,hx5⟩,H10⟩
 show WC _ _ _ _ _ [(0,v),(1,(vN a)),(2,(vN b)),(10,(vN i5)),(11,(vN (b-1)))] _
 have hp5a:=hp5.1
 have hp5b:=hp5.2.1
 have hp5c:=hp5.2.2.1
 refine WC.cut (α:=Nat) (fun j7=>[(0,v),(1,(vN a)),(2,(vN b)),(10,(vN i5)),(11,(vN j7))]) (fun j7 w'=>(PartI ltU32 0 a b i5 j7 l1 (l.getD p 0)∧(j7<i5∨ltU32 (l1.getD i5 0) (l1.getD a 0)=false)∧(j7<i5∨ltU32 (l1.getD j7 0) (l1.getD a 0)=true))∧Owl.Own T w w' [.row v 22 1 n (List.map vU32 l1)]) ?_ ?_
 ·
  refine WC.block<|WC.loop (α:=Nat) (fun j=>[(0,v),(1,(vN a)),(2,(vN b)),(10,(vN i5)),(11,(vN j))]) (fun j w'=>(PartI ltU32 0 a b i5 j l1 (l.getD p 0)∧(j<i5∨ltU32 (l1.getD i5 0) (l1.getD a 0)=false))∧Owl.Own T w w' [.row v 22 1 n (List.map vU32 l1)]) (fun j=>j) (b-1) ⟨⟨hp5,hx5⟩,H10⟩ ⟨rfl,rfl,rfl,rfl,rfl,trivial⟩ ?_
  rintro j w11 ⟨⟨hp6,hx6⟩,H11⟩
  show WC _ _ _ _ _ [(0,v),(1,(vN a)),(2,(vN b)),(10,(vN i5)),(11,(vN j))] _
  have hp6a:=hp6.1
  have hp6b:=hp6.2.1
  have hp6c:=hp6.2.2.1
  refine WC.seq<|WC.seq (wG (i5≤j) (fun hb12 hc12=>?_) (fun hb12 hc12=>?_))
  ·
   refine WC.draw 15 Fa.M H11 (mh rfl<|mh rfl<|oh (fun w1 H1=>op_leqN rfl rfl zr)<|mh rfl<|yh hb12 (fun w1 H1=>op_move rfl zr)<|yh hb12 (fun w1 H1=>op_move rfl zr)<|yh hb12 (fun w1 H1=>op_indexAddr1 Tryz.underlying73 Fa.I22 rfl (H1.arrR (i:=0) rfl) rfl (by omega) zr)<|yh hb12 (fun w1 H1=>op_load rfl ((H1.arrR (i:=0) rfl).at (get_map vU32 0 (Arr.ltM (H1.arrR (i:=0) rfl) (by omega)))) Tryz.underlying22 rfl zr)<|yh hb12 (fun w1 H1=>op_move rfl zr)<|yh hb12 (fun w1 H1=>op_move rfl zr)<|yh hb12 (fun w1 H1=>op_indexAddr1 Tryz.underlying73 Fa.I22 rfl (H1.arrR (i:=0) rfl) rfl (by omega) zr)<|yh hb12 (fun w1 H1=>op_load rfl ((H1.arrR (i:=0) rfl).at (get_map vU32 0 (Arr.ltM (H1.arrR (i:=0) rfl) (by omega)))) Tryz.underlying22 rfl zr)<|yh hb12 (fun w1 H1=>op_callF Fa.C217 rfl ((less_ok (l1.getD j 0) (l1.getD a 0) _).mono (fun e w2 hq=>⟨_,hq.1,rfl,hq.2⟩)))<|yh hb12 (fun w1 H1=>op_not rfl zr)<|oh (fun w1 H1=>op_pickT rfl hb12 rfl zr)  HW.nil) (by kernel_rfl) ?_
   intro β14 w14 H14
   refine wn (wC (!(ltU32 (l1.getD j 0) (l1.getD a 0))) (fun hb15=>?_) (fun hb15=>?_))
   ·
    have hn15:=(Bool.not_eq_true' _).mp hb15
    exact WC.skip<|WQ.next<|WC.block<|WC.region<|wm rfl<|wo (op_subN (b:=1) rfl rfl (by omega) (by omega)<|wa rfl<|WL.nil<|WQ.inNormal<|WQ.round (j-1) ⟨⟨part_j hp6 (by omega) hn15,hx6.imp (fun h=>by omega) id⟩,H14⟩ ⟨rfl,rfl,rfl,rfl,rfl,trivial⟩ (by omega))
   have hn15:=(Bool.not_eq_false' _).mp hb15
   exact WC.exit<|WQ.thenExit<|WQ.thenExit<|WQ.inHere<|WQ.here j ⟨⟨hp6,hx6,.inr hn15⟩,H14⟩ ⟨rfl,rfl,rfl,rfl,rfl,trivial⟩
  refine WC.draw 15 Fa.M H11 (mh rfl<|mh rfl<|oh (fun w1 H1=>op_leqN rfl rfl zr)<|mh rfl<|nh hb12<|nh hb12<|nh hb12<|nh hb12<|nh hb12<|nh hb12<|nh hb12<|nh hb12<|nh hb12<|nh hb12<|oh (fun w1 H1=>op_pickF rfl hb12 rfl zr)  HW.nil) (by kernel_rfl) ?_
  intro β16 w16 H16
  exact wn<|WC.no rfl rfl<|WC.exit<|WQ.thenExit<|WQ.thenExit<|WQ.inHere<|WQ.here j ⟨⟨hp6,hx6,.inl (by omega)⟩,H16⟩ ⟨rfl,rfl,rfl,rfl,rfl,trivial⟩
 rintro j7 w17 ⟨⟨hp7,hx7,hy7⟩,H17⟩
 show WC _ _ _ _ _ [(0,v),(1,(vN a)),(2,(vN b)),(10,(vN i5)),(11,(vN j7))] _
 have hp7a:=hp7.1
 have hp7b:=hp7.2.1
 have hp7c:=hp7.2.2.1
 refine WC.seq<|ws<|wm rfl<|wm rfl<|wo (op_gtrN rfl rfl<|wn (wE (i5>j7) (fun hb18 hc18=>?_) (fun hb18 hc18=>?_)))
 ·
  refine WC.seq<|WC.held 16 rfl Fa.M H17 (fun w'=> ∃L',Owl.Own T w w' ([]++L')) ?_
  intro w19 H19
  refine xt 0 rfl v H19 (fun _ _ HX=>op_move rfl ⟨rfl,rfl⟩)<|xt 1 rfl (vN j7) H19 (fun _ _ HX=>op_move rfl ⟨rfl,rfl⟩)<|xt 2 rfl v H19 (fun _ _ HX=>op_move rfl ⟨rfl,rfl⟩)<|xt 3 rfl (vN a) H19 (fun _ _ HX=>op_move rfl ⟨rfl,rfl⟩)<|xt 4 rfl v H19 (fun _ _ HX=>op_move rfl ⟨rfl,rfl⟩)<|xt 5 rfl (vN a) H19 (fun _ _ HX=>op_move rfl ⟨rfl,rfl⟩)<|xt 6 rfl (.pointer (some (sp v a))) H19 (fun _ _ HX=>op_indexAddr1W Tryz.underlying73 Fa.I22 rfl (H19.arrR (i:=0) rfl) rfl (by omega) ⟨rfl,rfl⟩)<|xt 8 rfl v H19 (fun _ _ HX=>op_move rfl ⟨rfl,rfl⟩)<|xt 9 rfl (vN j7) H19 (fun _ _ HX=>op_move rfl ⟨rfl,rfl⟩)<|xt 10 rfl (.pointer (some (sp v j7))) H19 (fun _ _ HX=>op_indexAddr1W Tryz.underlying73 Fa.I22 rfl (H19.arrR (i:=0) rfl) rfl (by omega) ⟨rfl,rfl⟩)<|WH.named (fun W hW=>?_)
  let e8:List (Nat × Value)→List (Nat × Value):=fun r=>(0,v)::(1,(vN a))::(2,(vN b))::(10,(vN i5))::(11,(vN j7))::(63,(vN i5))::(64,(vN j7))::(65,(.bool (decide (i5>j7))))::r
  let a8_0:Ent:=.row v 22 1 n (List.map vU32 l1)
  have st8_5: ∀wS,Owl.Own T w wS [.row v 22 1 n (List.map vU32 ((l1.set j7 (l1.getD a 0)).set a (l1.getD j7 0)))]→W 0 (bz 16 65535) (e8 []) wS:=fun wS HS=>by
   rw [hW]
   exact WH.done (by kernel_rfl)<|WQ.next<|ws<|wm rfl<|wa rfl<|wa rfl<|wn<|WC.ret<|WQ.thenRet<|WQ.out (.tmp rfl (.tmp rfl .nil)) (⟨_,_,_,rfl,⟨hs1.step (by omega) (by omega) (by omega) (by omega),part_done (by omega) hp7 (by omega)⟩,HS⟩)
  have st8_4: ∀wS,Owl.Own T w wS [.row v 22 1 n (List.map vU32 (l1.set j7 (l1.getD a 0)))]→W 1 (bz 16 32767) (e8 [(77,(vU32 (l1.getD j7 0))),(79,(.pointer (some (sp v a))))]) wS:=fun wS HS=>by
   rw [hW]
   refine wh1 15<|kH 15 rfl (op_storeRM (i:=0) (f:=vU32) (l:=(l1.set j7 (l1.getD a 0))) (c:=(l1.getD j7 0)) HS rfl rfl rfl (by omega) rfl Fa.I22 (fun w30301 H30301=>(⟨⟨_,H30301⟩,?_⟩)))
   exact WH.cw hW (st8_5 w30301 H30301)
  have st8_3: ∀wS,Owl.Own T w wS [a8_0]→W 3 (bz 16 8191) (e8 [(68,v),(69,(vN a)),(73,(vU32 (l1.getD a 0))),(77,(vU32 (l1.getD j7 0))),(78,(.pointer (some (sp v j7))))]) wS:=fun wS HS=>by
   rw [hW]
   refine wh1 13<|kH 13 rfl (op_storeRM (i:=0) (f:=vU32) (l:=l1) (c:=(l1.getD a 0)) HS rfl rfl rfl (by omega) rfl Fa.I22 (fun w30261 H30261=>(⟨⟨_,H30261⟩,?_⟩)))
   exact xt 14 rfl (.pointer (some (sp v a))) H30261 (fun _ _ HX=>op_indexAddr1W Tryz.underlying73 Fa.I22 rfl (H30261.arrR (i:=0) rfl) rfl (by omega) ⟨rfl,rfl⟩)<|WH.cw hW (st8_4 w30261 H30261)
  have st8_1: ∀wS,Owl.Own T w wS [a8_0]→W 5 (bz 16 2047) (e8 [(66,v),(67,(vN j7)),(68,v),(69,(vN a)),(73,(vU32 (l1.getD a 0))),(76,(.pointer (some (sp v j7))))]) wS:=fun wS HS=>by
   rw [hW]
   refine wh1 11<|kH 11 rfl (op_load rfl ((HS.arrR (i:=0) rfl).at (get_map vU32 0 (Arr.ltM (HS.arrR (i:=0) rfl) (by omega)))) Tryz.underlying22 rfl (⟨⟨_,HS⟩,?_⟩))
   exact xt 12 rfl (.pointer (some (sp v j7))) HS (fun _ _ HX=>op_indexAddr1W Tryz.underlying73 Fa.I22 rfl (HS.arrR (i:=0) rfl) rfl (by omega) ⟨rfl,rfl⟩)<|WH.cw hW (st8_3 wS HS)
  have st8_2: ∀wS,Owl.Own T w wS [a8_0]→W 5 (bz 16 3967) (e8 [(66,v),(67,(vN j7)),(68,v),(69,(vN a)),(72,(.pointer (some (sp v a)))),(77,(vU32 (l1.getD j7 0)))]) wS:=fun wS HS=>by
   rw [hW]
   refine wh1 7<|kH 7 rfl (op_load rfl ((HS.arrR (i:=0) rfl).at (get_map vU32 0 (Arr.ltM (HS.arrR (i:=0) rfl) (by omega)))) Tryz.underlying22 rfl (⟨⟨_,HS⟩,?_⟩))
   exact xt 12 rfl (.pointer (some (sp v j7))) HS (fun _ _ HX=>op_indexAddr1W Tryz.underlying73 Fa.I22 rfl (HS.arrR (i:=0) rfl) rfl (by omega) ⟨rfl,rfl⟩)<|WH.cw hW (st8_3 wS HS)
  have st8_0: ∀wS,Owl.Own T w wS [a8_0]→W 6 (bz 16 1919) (e8 [(66,v),(67,(vN j7)),(68,v),(69,(vN a)),(72,(.pointer (some (sp v a)))),(76,(.pointer (some (sp v j7))))]) wS:=fun wS HS=>by
   rw [hW]
   refine wh2 7 11 ?_ ?_
   ·
    refine kH 7 rfl (op_load rfl ((HS.arrR (i:=0) rfl).at (get_map vU32 0 (Arr.ltM (HS.arrR (i:=0) rfl) (by omega)))) Tryz.underlying22 rfl (⟨⟨_,HS⟩,?_⟩))
    exact WH.cw hW (st8_1 wS HS)
   refine kH 11 rfl (op_load rfl ((HS.arrR (i:=0) rfl).at (get_map vU32 0 (Arr.ltM (HS.arrR (i:=0) rfl) (by omega)))) Tryz.underlying22 rfl (⟨⟨_,HS⟩,?_⟩))
   exact WH.cw hW (st8_2 wS HS)
  have hq:=st8_0 w19 H19
  rw [hW] at hq ⊢
  exact WH.cv hq
 refine WC.skip<|WQ.next<|WC.seq<|WC.held 16 rfl Fa.M H17 (fun w'=> ∃L',Owl.Own T w w' ([]++L')) ?_
 intro w21 H21
 refine xt 0 rfl v H21 (fun _ _ HX=>op_move rfl ⟨rfl,rfl⟩)<|xt 1 rfl (vN i5) H21 (fun _ _ HX=>op_move rfl ⟨rfl,rfl⟩)<|xt 2 rfl v H21 (fun _ _ HX=>op_move rfl ⟨rfl,rfl⟩)<|xt 3 rfl (vN j7) H21 (fun _ _ HX=>op_move rfl ⟨rfl,rfl⟩)<|xt 4 rfl v H21 (fun _ _ HX=>op_move rfl ⟨rfl,rfl⟩)<|xt 5 rfl (vN j7) H21 (fun _ _ HX=>op_move rfl ⟨rfl,rfl⟩)<|xt 6 rfl (.pointer (some (sp v j7))) H21 (fun _ _ HX=>op_indexAddr1W Tryz.underlying73 Fa.I22 rfl (H21.arrR (i:=0) rfl) rfl (by omega) ⟨rfl,rfl⟩)<|xt 8 rfl v H21 (fun _ _ HX=>op_move rfl ⟨rfl,rfl⟩)<|xt 9 rfl (vN i5) H21 (fun _ _ HX=>op_move rfl ⟨rfl,rfl⟩)<|xt 10 rfl (.pointer (some (sp v i5))) H21 (fun _ _ HX=>op_indexAddr1W Tryz.underlying73 Fa.I22 rfl (H21.arrR (i:=0) rfl) rfl (by omega) ⟨rfl,rfl⟩)<|WH.named (fun W hW=>?_)
 let e10:List (Nat × Value)→List (Nat × Value):=fun r=>(0,v)::(1,(vN a))::(2,(vN b))::(10,(vN i5))::(11,(vN j7))::(63,(vN i5))::(64,(vN j7))::(65,(.bool (decide (i5>j7))))::r
 let a10_0:Ent:=.row v 22 1 n (List.map vU32 l1)
 have st10_5: ∀wS,Owl.Own T w wS [.row v 22 1 n (List.map vU32 ((l1.set i5 (l1.getD j7 0)).set j7 (l1.getD i5 0)))]→W 0 (bz 16 65535) (e10 []) wS:=fun wS HS=>by
  rw [hW]
  refine WH.done (by kernel_rfl)<|WQ.next<|ws<|wm rfl<|wo (op_addN (b:=1) rfl rfl (by omega)<|wa rfl<|wn<|ws<|wm rfl<|wo (op_subN (b:=1) rfl rfl (by omega) (by omega)<|wa rfl<|wn<|WC.seq<|WC.block<|WC.loop (α:=Nat × Nat × List UInt32) (fun (u,z,l2)=>[(0,v),(1,(vN a)),(2,(vN b)),(10,(vN u)),(11,(vN z))]) (fun (u,z,l2) w'=>(Sw 0 a b l l2∧PartI ltU32 0 a b u z l2 (l.getD p 0))∧Owl.Own T w w' [.row v 22 1 n (List.map vU32 l2)]) (fun (u,z,l2)=>z+1-u) (i5+1,j7-1,swapL 0 l1 i5 j7) ⟨⟨hs1.step (by omega) (by omega) (by omega) (by omega),part_swap (by omega) hp7 (by omega) (hx7.resolve_left (by omega)) (hy7.resolve_left (by omega))⟩,HS⟩ ⟨rfl,rfl,rfl,rfl,rfl,trivial⟩ ?_))
  rintro ⟨u,z,l2⟩ w23 ⟨⟨hs2,hp8⟩,H23⟩
  show WC _ _ _ _ _ [(0,v),(1,(vN a)),(2,(vN b)),(10,(vN u)),(11,(vN z))] _
  have hL2:=hs2.len
  have hp8a:=hp8.1
  have hp8b:=hp8.2.1
  have hp8c:=hp8.2.2.1
  refine WC.block<|WC.cut (α:=Nat) (fun u4=>[(0,v),(1,(vN a)),(2,(vN b)),(10,(vN u4)),(11,(vN z))]) (fun u4 w'=>(u≤u4∧PartI ltU32 0 a b u4 z l2 (l.getD p 0)∧(z<u4∨ltU32 (l2.getD u4 0) (l2.getD a 0)=false))∧Owl.Own T w w' [.row v 22 1 n (List.map vU32 l2)]) ?_ ?_
  ·
   refine WC.block<|WC.loop (α:=Nat) (fun u3=>[(0,v),(1,(vN a)),(2,(vN b)),(10,(vN u3)),(11,(vN z))]) (fun u3 w'=>(u≤u3∧PartI ltU32 0 a b u3 z l2 (l.getD p 0))∧Owl.Own T w w' [.row v 22 1 n (List.map vU32 l2)]) (fun u3=>b-u3) u ⟨⟨Nat.le_refl _,hp8⟩,H23⟩ ⟨rfl,rfl,rfl,rfl,rfl,trivial⟩ ?_
   rintro u3 w24 ⟨⟨hu3,hp9⟩,H24⟩
   show WC _ _ _ _ _ [(0,v),(1,(vN a)),(2,(vN b)),(10,(vN u3)),(11,(vN z))] _
   have hp9a:=hp9.1
   have hp9b:=hp9.2.1
   have hp9c:=hp9.2.2.1
   refine WC.seq<|WC.seq (wG (u3≤z) (fun hb25 hc25=>?_) (fun hb25 hc25=>?_))
   ·
    refine WC.draw 14 Fa.M H24 (mh rfl<|mh rfl<|oh (fun w1 H1=>op_leqN rfl rfl zr)<|mh rfl<|yh hb25 (fun w1 H1=>op_move rfl zr)<|yh hb25 (fun w1 H1=>op_move rfl zr)<|yh hb25 (fun w1 H1=>op_indexAddr1 Tryz.underlying73 Fa.I22 rfl (H1.arrR (i:=0) rfl) rfl (by omega) zr)<|yh hb25 (fun w1 H1=>op_load rfl ((H1.arrR (i:=0) rfl).at (get_map vU32 0 (Arr.ltM (H1.arrR (i:=0) rfl) (by omega)))) Tryz.underlying22 rfl zr)<|yh hb25 (fun w1 H1=>op_move rfl zr)<|yh hb25 (fun w1 H1=>op_move rfl zr)<|yh hb25 (fun w1 H1=>op_indexAddr1 Tryz.underlying73 Fa.I22 rfl (H1.arrR (i:=0) rfl) rfl (by omega) zr)<|yh hb25 (fun w1 H1=>op_load rfl ((H1.arrR (i:=0) rfl).at (get_map vU32 0 (Arr.ltM (H1.arrR (i:=0) rfl) (by omega)))) Tryz.underlying22 rfl zr)<|yh hb25 (fun w1 H1=>op_callF Fa.C217 rfl ((less_ok (l2.getD u3 0) (l2.getD a 0) _).mono (fun e w2 hq=>⟨_,hq.1,rfl,hq.2⟩)))<|oh (fun w1 H1=>op_pickT rfl hb25 rfl zr)  HW.nil) (by kernel_rfl) ?_
    intro β27 w27 H27
    refine wn (wC (ltU32 (l2.getD u3 0) (l2.getD a 0)) (fun hb28=>?_) (fun hb28=>?_))
    ·
     exact WC.skip<|WQ.next<|WC.block<|WC.region<|wm rfl<|wo (op_addN (b:=1) rfl rfl (by omega)<|wa rfl<|WL.nil<|WQ.inNormal<|WQ.round (u3+1) ⟨⟨by omega,part_i hp9 (by omega) hb28⟩,H27⟩ ⟨rfl,rfl,rfl,rfl,rfl,trivial⟩ (by omega))
    exact WC.exit<|WQ.thenExit<|WQ.thenExit<|WQ.inHere<|WQ.here u3 ⟨⟨hu3,hp9,.inr hb28⟩,H27⟩ ⟨rfl,rfl,rfl,rfl,rfl,trivial⟩
   refine WC.draw 14 Fa.M H24 (mh rfl<|mh rfl<|oh (fun w1 H1=>op_leqN rfl rfl zr)<|mh rfl<|nh hb25<|nh hb25<|nh hb25<|nh hb25<|nh hb25<|nh hb25<|nh hb25<|nh hb25<|nh hb25<|oh (fun w1 H1=>op_pickF rfl hb25 rfl zr)  HW.nil) (by kernel_rfl) ?_
   intro β29 w29 H29
   exact wn<|WC.no rfl rfl<|WC.exit<|WQ.thenExit<|WQ.thenExit<|WQ.inHere<|WQ.here u3 ⟨⟨hu3,hp9,.inl (by omega)⟩,H29⟩ ⟨rfl,rfl,rfl,rfl,rfl,trivial⟩
  rintro u4 w30 ⟨⟨hu4,hpa,hxa⟩,H30⟩
  show WC _ _ _ _ _ [(0,v),(1,(vN a)),(2,(vN b)),(10,(vN u4)),(11,(vN z))] _
  have hpaa:=hpa.1
  have hpab:=hpa.2.1
  have hpac:=hpa.2.2.1
  refine WC.cut (α:=Nat) (fun z4=>[(0,v),(1,(vN a)),(2,(vN b)),(10,(vN u4)),(11,(vN z4))]) (fun z4 w'=>(z4≤z∧PartI ltU32 0 a b u4 z4 l2 (l.getD p 0)∧(z4<u4∨ltU32 (l2.getD u4 0) (l2.getD a 0)=false)∧(z4<u4∨ltU32 (l2.getD z4 0) (l2.getD a 0)=true))∧Owl.Own T w w' [.row v 22 1 n (List.map vU32 l2)]) ?_ ?_
  ·
   refine WC.block<|WC.loop (α:=Nat) (fun z3=>[(0,v),(1,(vN a)),(2,(vN b)),(10,(vN u4)),(11,(vN z3))]) (fun z3 w'=>(z3≤z∧PartI ltU32 0 a b u4 z3 l2 (l.getD p 0)∧(z3<u4∨ltU32 (l2.getD u4 0) (l2.getD a 0)=false))∧Owl.Own T w w' [.row v 22 1 n (List.map vU32 l2)]) (fun z3=>z3) z ⟨⟨Nat.le_refl _,hpa,hxa⟩,H30⟩ ⟨rfl,rfl,rfl,rfl,rfl,trivial⟩ ?_
   rintro z3 w31 ⟨⟨hz3,hpb,hxb⟩,H31⟩
   show WC _ _ _ _ _ [(0,v),(1,(vN a)),(2,(vN b)),(10,(vN u4)),(11,(vN z3))] _
   have hpba:=hpb.1
   have hpbb:=hpb.2.1
   have hpbc:=hpb.2.2.1
   refine WC.seq<|WC.seq (wG (u4≤z3) (fun hb32 hc32=>?_) (fun hb32 hc32=>?_))
   ·
    refine WC.draw 15 Fa.M H31 (mh rfl<|mh rfl<|oh (fun w1 H1=>op_leqN rfl rfl zr)<|mh rfl<|yh hb32 (fun w1 H1=>op_move rfl zr)<|yh hb32 (fun w1 H1=>op_move rfl zr)<|yh hb32 (fun w1 H1=>op_indexAddr1 Tryz.underlying73 Fa.I22 rfl (H1.arrR (i:=0) rfl) rfl (by omega) zr)<|yh hb32 (fun w1 H1=>op_load rfl ((H1.arrR (i:=0) rfl).at (get_map vU32 0 (Arr.ltM (H1.arrR (i:=0) rfl) (by omega)))) Tryz.underlying22 rfl zr)<|yh hb32 (fun w1 H1=>op_move rfl zr)<|yh hb32 (fun w1 H1=>op_move rfl zr)<|yh hb32 (fun w1 H1=>op_indexAddr1 Tryz.underlying73 Fa.I22 rfl (H1.arrR (i:=0) rfl) rfl (by omega) zr)<|yh hb32 (fun w1 H1=>op_load rfl ((H1.arrR (i:=0) rfl).at (get_map vU32 0 (Arr.ltM (H1.arrR (i:=0) rfl) (by omega)))) Tryz.underlying22 rfl zr)<|yh hb32 (fun w1 H1=>op_callF Fa.C217 rfl ((less_ok (l2.getD z3 0) (l2.getD a 0) _).mono (fun e w2 hq=>⟨_,hq.1,rfl,hq.2⟩)))<|yh hb32 (fun w1 H1=>op_not rfl zr)<|oh (fun w1 H1=>op_pickT rfl hb32 rfl zr)  HW.nil) (by kernel_rfl) ?_
    intro β34 w34 H34
    refine wn (wC (!(ltU32 (l2.getD z3 0) (l2.getD a 0))) (fun hb35=>?_) (fun hb35=>?_))
    ·
     have hn35:=(Bool.not_eq_true' _).mp hb35
     exact WC.skip<|WQ.next<|WC.block<|WC.region<|wm rfl<|wo (op_subN (b:=1) rfl rfl (by omega) (by omega)<|wa rfl<|WL.nil<|WQ.inNormal<|WQ.round (z3-1) ⟨⟨by omega,part_j hpb (by omega) hn35,hxb.imp (fun h=>by omega) id⟩,H34⟩ ⟨rfl,rfl,rfl,rfl,rfl,trivial⟩ (by omega))
    have hn35:=(Bool.not_eq_false' _).mp hb35
    exact WC.exit<|WQ.thenExit<|WQ.thenExit<|WQ.inHere<|WQ.here z3 ⟨⟨hz3,hpb,hxb,.inr hn35⟩,H34⟩ ⟨rfl,rfl,rfl,rfl,rfl,trivial⟩
   refine WC.draw 15 Fa.M H31 (mh rfl<|mh rfl<|oh (fun w1 H1=>op_leqN rfl rfl zr)<|mh rfl<|nh hb32<|nh hb32<|nh hb32<|nh hb32<|nh hb32<|nh hb32<|nh hb32<|nh hb32<|nh hb32<|nh hb32<|oh (fun w1 H1=>op_pickF rfl hb32 rfl zr)  HW.nil) (by kernel_rfl) ?_
   intro β36 w36 H36
   exact wn<|WC.no rfl rfl<|WC.exit<|WQ.thenExit<|WQ.thenExit<|WQ.inHere<|WQ.here z3 ⟨⟨hz3,hpb,hxb,.inl (by omega)⟩,H36⟩ ⟨rfl,rfl,rfl,rfl,rfl,trivial⟩
  rintro z4 w37 ⟨⟨hz4,hpb4,hxb4,hyb4⟩,H37⟩
  show WC _ _ _ _ _ [(0,v),(1,(vN a)),(2,(vN b)),(10,(vN u4)),(11,(vN z4))] _
  have hpb4a:=hpb4.1
  have hpb4b:=hpb4.2.1
  have hpb4c:=hpb4.2.2.1
  refine WC.seq<|ws<|wm rfl<|wm rfl<|wo (op_gtrN rfl rfl<|wn (wE (u4>z4) (fun hb38 hc38=>?_) (fun hb38 hc38=>?_)))
  ·
   refine WC.exit<|WQ.thenExit<|WQ.inPass rfl<|WQ.thenExit<|WQ.inHere<|WQ.next<|WC.seq<|WC.held 16 rfl Fa.M H37 (fun w'=> ∃L',Owl.Own T w w' ([]++L')) ?_
   intro w39 H39
   refine xt 0 rfl v H39 (fun _ _ HX=>op_move rfl ⟨rfl,rfl⟩)<|xt 1 rfl (vN z4) H39 (fun _ _ HX=>op_move rfl ⟨rfl,rfl⟩)<|xt 2 rfl v H39 (fun _ _ HX=>op_move rfl ⟨rfl,rfl⟩)<|xt 3 rfl (vN a) H39 (fun _ _ HX=>op_move rfl ⟨rfl,rfl⟩)<|xt 4 rfl v H39 (fun _ _ HX=>op_move rfl ⟨rfl,rfl⟩)<|xt 5 rfl (vN a) H39 (fun _ _ HX=>op_move rfl ⟨rfl,rfl⟩)<|xt 6 rfl (.pointer (some (sp v a))) H39 (fun _ _ HX=>op_indexAddr1W Tryz.underlying73 Fa.I22 rfl (H39.arrR (i:=0) rfl) rfl (by omega) ⟨rfl,rfl⟩)<|xt 8 rfl v H39 (fun _ _ HX=>op_move rfl ⟨rfl,rfl⟩)<|xt 9 rfl (vN z4) H39 (fun _ _ HX=>op_move rfl ⟨rfl,rfl⟩)<|xt 10 rfl (.pointer (some (sp v z4))) H39 (fun _ _ HX=>op_indexAddr1W Tryz.underlying73 Fa.I22 rfl (H39.arrR (i:=0) rfl) rfl (by omega) ⟨rfl,rfl⟩)<|WH.named (fun W hW=>?_)
   let e21:List (Nat × Value)→List (Nat × Value):=fun r=>(0,v)::(1,(vN a))::(2,(vN b))::(10,(vN u4))::(11,(vN z4))::(132,(vN u4))::(133,(vN z4))::(134,(.bool (decide (u4>z4))))::r
   let a21_0:Ent:=.row v 22 1 n (List.map vU32 l2)
   have st21_5: ∀wS,Owl.Own T w wS [.row v 22 1 n (List.map vU32 ((l2.set z4 (l2.getD a 0)).set a (l2.getD z4 0)))]→W 0 (bz 16 65535) (e21 []) wS:=fun wS HS=>by
    rw [hW]
    exact WH.done (by kernel_rfl)<|WQ.next<|ws<|wm rfl<|wa rfl<|wa rfl<|wn<|WC.ret<|WQ.out (.tmp rfl (.tmp rfl .nil)) (⟨_,_,_,rfl,⟨hs2.step (by omega) (by omega) (by omega) (by omega),part_done (by omega) hpb4 (by omega)⟩,HS⟩)
   have st21_4: ∀wS,Owl.Own T w wS [.row v 22 1 n (List.map vU32 (l2.set z4 (l2.getD a 0)))]→W 1 (bz 16 32767) (e21 [(164,(vU32 (l2.getD z4 0))),(166,(.pointer (some (sp v a))))]) wS:=fun wS HS=>by
    rw [hW]
    refine wh1 15<|kH 15 rfl (op_storeRM (i:=0) (f:=vU32) (l:=(l2.set z4 (l2.getD a 0))) (c:=(l2.getD z4 0)) HS rfl rfl rfl (by omega) rfl Fa.I22 (fun w50301 H50301=>(⟨⟨_,H50301⟩,?_⟩)))
    exact WH.cw hW (st21_5 w50301 H50301)
   have st21_3: ∀wS,Owl.Own T w wS [a21_0]→W 3 (bz 16 8191) (e21 [(155,v),(156,(vN a)),(160,(vU32 (l2.getD a 0))),(164,(vU32 (l2.getD z4 0))),(165,(.pointer (some (sp v z4))))]) wS:=fun wS HS=>by
    rw [hW]
    refine wh1 13<|kH 13 rfl (op_storeRM (i:=0) (f:=vU32) (l:=l2) (c:=(l2.getD a 0)) HS rfl rfl rfl (by omega) rfl Fa.I22 (fun w50261 H50261=>(⟨⟨_,H50261⟩,?_⟩)))
    exact xt 14 rfl (.pointer (some (sp v a))) H50261 (fun _ _ HX=>op_indexAddr1W Tryz.underlying73 Fa.I22 rfl (H50261.arrR (i:=0) rfl) rfl (by omega) ⟨rfl,rfl⟩)<|WH.cw hW (st21_4 w50261 H50261)
   have st21_1: ∀wS,Owl.Own T w wS [a21_0]→W 5 (bz 16 2047) (e21 [(153,v),(154,(vN z4)),(155,v),(156,(vN a)),(160,(vU32 (l2.getD a 0))),(163,(.pointer (some (sp v z4))))]) wS:=fun wS HS=>by
    rw [hW]
    refine wh1 11<|kH 11 rfl (op_load rfl ((HS.arrR (i:=0) rfl).at (get_map vU32 0 (Arr.ltM (HS.arrR (i:=0) rfl) (by omega)))) Tryz.underlying22 rfl (⟨⟨_,HS⟩,?_⟩))
    exact xt 12 rfl (.pointer (some (sp v z4))) HS (fun _ _ HX=>op_indexAddr1W Tryz.underlying73 Fa.I22 rfl (HS.arrR (i:=0) rfl) rfl (by omega) ⟨rfl,rfl⟩)<|WH.cw hW (st21_3 wS HS)
   have st21_2: ∀wS,Owl.Own T w wS [a21_0]→W 5 (bz 16 3967) (e21 [(153,v),(154,(vN z4)),(155,v),(156,(vN a)),(159,(.pointer (some (sp v a)))),(164,(vU32 (l2.getD z4 0)))]) wS:=fun wS HS=>by
    rw [hW]
    refine wh1 7<|kH 7 rfl (op_load rfl ((HS.arrR (i:=0) rfl).at (get_map vU32 0 (Arr.ltM (HS.arrR (i:=0) rfl) (by omega)))) Tryz.underlying22 rfl (⟨⟨_,HS⟩,?_⟩))
    exact xt 12 rfl (.pointer (some (sp v z4))) HS (fun _ _ HX=>op_indexAddr1W Tryz.underlying73 Fa.I22 rfl (HS.arrR (i:=0) rfl) rfl (by omega) ⟨rfl,rfl⟩)<|WH.cw hW (st21_3 wS HS)
   have st21_0: ∀wS,Owl.Own T w wS [a21_0]→W 6 (bz 16 1919) (e21 [(153,v),(154,(vN z4)),(155,v),(156,(vN a)),(159,(.pointer (some (sp v a)))),(163,(.pointer (some (sp v z4))))]) wS:=fun wS HS=>by
    rw [hW]
    refine wh2 7 11 ?_ ?_
    ·
     refine kH 7 rfl (op_load rfl ((HS.arrR (i:=0) rfl).at (get_map vU32 0 (Arr.ltM (HS.arrR (i:=0) rfl) (by omega)))) Tryz.underlying22 rfl (⟨⟨_,HS⟩,?_⟩))
     exact WH.cw hW (st21_1 wS HS)
    refine kH 11 rfl (op_load rfl ((HS.arrR (i:=0) rfl).at (get_map vU32 0 (Arr.ltM (HS.arrR (i:=0) rfl) (by omega)))) Tryz.underlying22 rfl (⟨⟨_,HS⟩,?_⟩))
    exact WH.cw hW (st21_2 wS HS)
   have hq:=st21_0 w39 H39
   rw [hW] at hq ⊢
   exact WH.cv hq
  refine WC.skip<|WQ.next<|WC.seq<|WC.held 16 rfl Fa.M H37 (fun w'=> ∃L',Owl.Own T w w' ([]++L')) ?_
  intro w41 H41
  refine xt 0 rfl v H41 (fun _ _ HX=>op_move rfl ⟨rfl,rfl⟩)<|xt 1 rfl (vN u4) H41 (fun _ _ HX=>op_move rfl ⟨rfl,rfl⟩)<|xt 2 rfl v H41 (fun _ _ HX=>op_move rfl ⟨rfl,rfl⟩)<|xt 3 rfl (vN z4) H41 (fun _ _ HX=>op_move rfl ⟨rfl,rfl⟩)<|xt 4 rfl v H41 (fun _ _ HX=>op_move rfl ⟨rfl,rfl⟩)<|xt 5 rfl (vN z4) H41 (fun _ _ HX=>op_move rfl ⟨rfl,rfl⟩)<|xt 6 rfl (.pointer (some (sp v z4))) H41 (fun _ _ HX=>op_indexAddr1W Tryz.underlying73 Fa.I22 rfl (H41.arrR (i:=0) rfl) rfl (by omega) ⟨rfl,rfl⟩)<|xt 8 rfl v H41 (fun _ _ HX=>op_move rfl ⟨rfl,rfl⟩)<|xt 9 rfl (vN u4) H41 (fun _ _ HX=>op_move rfl ⟨rfl,rfl⟩)<|xt 10 rfl (.pointer (some (sp v u4))) H41 (fun _ _ HX=>op_indexAddr1W Tryz.underlying73 Fa.I22 rfl (H41.arrR (i:=0) rfl) rfl (by omega) ⟨rfl,rfl⟩)<|WH.named (fun W hW=>?_)
  let e18:List (Nat × Value)→List (Nat × Value):=fun r=>(0,v)::(1,(vN a))::(2,(vN b))::(10,(vN u4))::(11,(vN z4))::(132,(vN u4))::(133,(vN z4))::(134,(.bool (decide (u4>z4))))::r
  let a18_0:Ent:=.row v 22 1 n (List.map vU32 l2)
  have st18_5: ∀wS,Owl.Own T w wS [.row v 22 1 n (List.map vU32 ((l2.set u4 (l2.getD z4 0)).set z4 (l2.getD u4 0)))]→W 0 (bz 16 65535) (e18 []) wS:=fun wS HS=>by
   rw [hW]
   exact WH.done (by kernel_rfl)<|WQ.next<|ws<|wm rfl<|wo (op_addN (b:=1) rfl rfl (by omega)<|wa rfl<|wn<|WC.region<|wm rfl<|wo (op_subN (b:=1) rfl rfl (by omega) (by omega)<|wa rfl<|WL.nil<|WQ.inNormal<|WQ.round (u4+1,z4-1,swapL 0 l2 u4 z4) ⟨⟨hs2.step (by omega) (by omega) (by omega) (by omega),part_swap (by omega) hpb4 (by omega) (hxb4.resolve_left (by omega)) (hyb4.resolve_left (by omega))⟩,HS⟩ ⟨rfl,rfl,rfl,rfl,rfl,trivial⟩ (by show z4-1+1-(u4+1)<z+1-u; omega)))
  have st18_4: ∀wS,Owl.Own T w wS [.row v 22 1 n (List.map vU32 (l2.set u4 (l2.getD z4 0)))]→W 1 (bz 16 32767) (e18 [(146,(vU32 (l2.getD u4 0))),(148,(.pointer (some (sp v z4))))]) wS:=fun wS HS=>by
   rw [hW]
   refine wh1 15<|kH 15 rfl (op_storeRM (i:=0) (f:=vU32) (l:=(l2.set u4 (l2.getD z4 0))) (c:=(l2.getD u4 0)) HS rfl rfl rfl (by omega) rfl Fa.I22 (fun w52301 H52301=>(⟨⟨_,H52301⟩,?_⟩)))
   exact WH.cw hW (st18_5 w52301 H52301)
  have st18_3: ∀wS,Owl.Own T w wS [a18_0]→W 3 (bz 16 8191) (e18 [(137,v),(138,(vN z4)),(142,(vU32 (l2.getD z4 0))),(146,(vU32 (l2.getD u4 0))),(147,(.pointer (some (sp v u4))))]) wS:=fun wS HS=>by
   rw [hW]
   refine wh1 13<|kH 13 rfl (op_storeRM (i:=0) (f:=vU32) (l:=l2) (c:=(l2.getD z4 0)) HS rfl rfl rfl (by omega) rfl Fa.I22 (fun w52261 H52261=>(⟨⟨_,H52261⟩,?_⟩)))
   exact xt 14 rfl (.pointer (some (sp v z4))) H52261 (fun _ _ HX=>op_indexAddr1W Tryz.underlying73 Fa.I22 rfl (H52261.arrR (i:=0) rfl) rfl (by omega) ⟨rfl,rfl⟩)<|WH.cw hW (st18_4 w52261 H52261)
  have st18_1: ∀wS,Owl.Own T w wS [a18_0]→W 5 (bz 16 2047) (e18 [(135,v),(136,(vN u4)),(137,v),(138,(vN z4)),(142,(vU32 (l2.getD z4 0))),(145,(.pointer (some (sp v u4))))]) wS:=fun wS HS=>by
   rw [hW]
   refine wh1 11<|kH 11 rfl (op_load rfl ((HS.arrR (i:=0) rfl).at (get_map vU32 0 (Arr.ltM (HS.arrR (i:=0) rfl) (by omega)))) Tryz.underlying22 rfl (⟨⟨_,HS⟩,?_⟩))
   exact xt 12 rfl (.pointer (some (sp v u4))) HS (fun _ _ HX=>op_indexAddr1W Tryz.underlying73 Fa.I22 rfl (HS.arrR (i:=0) rfl) rfl (by omega) ⟨rfl,rfl⟩)<|WH.cw hW (st18_3 wS HS)
  have st18_2: ∀wS,Owl.Own T w wS [a18_0]→W 5 (bz 16 3967) (e18 [(135,v),(136,(vN u4)),(137,v),(138,(vN z4)),(141,(.pointer (some (sp v z4)))),(146,(vU32 (l2.getD u4 0)))]) wS:=fun wS HS=>by
   rw [hW]
   refine wh1 7<|kH 7 rfl (op_load rfl ((HS.arrR (i:=0) rfl).at (get_map vU32 0 (Arr.ltM (HS.arrR (i:=0) rfl) (by omega)))) Tryz.underlying22 rfl (⟨⟨_,HS⟩,?_⟩))
   exact xt 12 rfl (.pointer (some (sp v u4))) HS (fun _ _ HX=>op_indexAddr1W Tryz.underlying73 Fa.I22 rfl (HS.arrR (i:=0) rfl) rfl (by omega) ⟨rfl,rfl⟩)<|WH.cw hW (st18_3 wS HS)
  have st18_0: ∀wS,Owl.Own T w wS [a18_0]→W 6 (bz 16 1919) (e18 [(135,v),(136,(vN u4)),(137,v),(138,(vN z4)),(141,(.pointer (some (sp v z4)))),(145,(.pointer (some (sp v u4))))]) wS:=fun wS HS=>by
   rw [hW]
   refine wh2 7 11 ?_ ?_
   ·
    refine kH 7 rfl (op_load rfl ((HS.arrR (i:=0) rfl).at (get_map vU32 0 (Arr.ltM (HS.arrR (i:=0) rfl) (by omega)))) Tryz.underlying22 rfl (⟨⟨_,HS⟩,?_⟩))
    exact WH.cw hW (st18_1 wS HS)
   refine kH 11 rfl (op_load rfl ((HS.arrR (i:=0) rfl).at (get_map vU32 0 (Arr.ltM (HS.arrR (i:=0) rfl) (by omega)))) Tryz.underlying22 rfl (⟨⟨_,HS⟩,?_⟩))
   exact WH.cw hW (st18_2 wS HS)
  have hq:=st18_0 w41 H41
  rw [hW] at hq ⊢
  exact WH.cv hq
 have st10_4: ∀wS,Owl.Own T w wS [.row v 22 1 n (List.map vU32 (l1.set i5 (l1.getD j7 0)))]→W 1 (bz 16 32767) (e10 [(92,(vU32 (l1.getD i5 0))),(94,(.pointer (some (sp v j7))))]) wS:=fun wS HS=>by
  rw [hW]
  refine wh1 15<|kH 15 rfl (op_storeRM (i:=0) (f:=vU32) (l:=(l1.set i5 (l1.getD j7 0))) (c:=(l1.getD i5 0)) HS rfl rfl rfl (by omega) rfl Fa.I22 (fun w32301 H32301=>(⟨⟨_,H32301⟩,?_⟩)))
  exact WH.cw hW (st10_5 w32301 H32301)
 have st10_3: ∀wS,Owl.Own T w wS [a10_0]→W 3 (bz 16 8191) (e10 [(83,v),(84,(vN j7)),(88,(vU32 (l1.getD j7 0))),(92,(vU32 (l1.getD i5 0))),(93,(.pointer (some (sp v i5))))]) wS:=fun wS HS=>by
  rw [hW]
  refine wh1 13<|kH 13 rfl (op_storeRM (i:=0) (f:=vU32) (l:=l1) (c:=(l1.getD j7 0)) HS rfl rfl rfl (by omega) rfl Fa.I22 (fun w32261 H32261=>(⟨⟨_,H32261⟩,?_⟩)))
  exact xt 14 rfl (.pointer (some (sp v j7))) H32261 (fun _ _ HX=>op_indexAddr1W Tryz.underlying73 Fa.I22 rfl (H32261.arrR (i:=0) rfl) rfl (by omega) ⟨rfl,rfl⟩)<|WH.cw hW (st10_4 w32261 H32261)
 have st10_1: ∀wS,Owl.Own T w wS [a10_0]→W 5 (bz 16 2047) (e10 [(81,v),(82,(vN i5)),(83,v),(84,(vN j7)),(88,(vU32 (l1.getD j7 0))),(91,(.pointer (some (sp v i5))))]) wS:=fun wS HS=>by
  rw [hW]
  refine wh1 11<|kH 11 rfl (op_load rfl ((HS.arrR (i:=0) rfl).at (get_map vU32 0 (Arr.ltM (HS.arrR (i:=0) rfl) (by omega)))) Tryz.underlying22 rfl (⟨⟨_,HS⟩,?_⟩))
  exact xt 12 rfl (.pointer (some (sp v i5))) HS (fun _ _ HX=>op_indexAddr1W Tryz.underlying73 Fa.I22 rfl (HS.arrR (i:=0) rfl) rfl (by omega) ⟨rfl,rfl⟩)<|WH.cw hW (st10_3 wS HS)
 have st10_2: ∀wS,Owl.Own T w wS [a10_0]→W 5 (bz 16 3967) (e10 [(81,v),(82,(vN i5)),(83,v),(84,(vN j7)),(87,(.pointer (some (sp v j7)))),(92,(vU32 (l1.getD i5 0)))]) wS:=fun wS HS=>by
  rw [hW]
  refine wh1 7<|kH 7 rfl (op_load rfl ((HS.arrR (i:=0) rfl).at (get_map vU32 0 (Arr.ltM (HS.arrR (i:=0) rfl) (by omega)))) Tryz.underlying22 rfl (⟨⟨_,HS⟩,?_⟩))
  exact xt 12 rfl (.pointer (some (sp v i5))) HS (fun _ _ HX=>op_indexAddr1W Tryz.underlying73 Fa.I22 rfl (HS.arrR (i:=0) rfl) rfl (by omega) ⟨rfl,rfl⟩)<|WH.cw hW (st10_3 wS HS)
 have st10_0: ∀wS,Owl.Own T w wS [a10_0]→W 6 (bz 16 1919) (e10 [(81,v),(82,(vN i5)),(83,v),(84,(vN j7)),(87,(.pointer (some (sp v j7)))),(91,(.pointer (some (sp v i5))))]) wS:=fun wS HS=>by
  rw [hW]
  refine wh2 7 11 ?_ ?_
  ·
   refine kH 7 rfl (op_load rfl ((HS.arrR (i:=0) rfl).at (get_map vU32 0 (Arr.ltM (HS.arrR (i:=0) rfl) (by omega)))) Tryz.underlying22 rfl (⟨⟨_,HS⟩,?_⟩))
   exact WH.cw hW (st10_1 wS HS)
  refine kH 11 rfl (op_load rfl ((HS.arrR (i:=0) rfl).at (get_map vU32 0 (Arr.ltM (HS.arrR (i:=0) rfl) (by omega)))) Tryz.underlying22 rfl (⟨⟨_,HS⟩,?_⟩))
  exact WH.cw hW (st10_2 wS HS)
 have hq:=st10_0 w21 H21
 rw [hW] at hq ⊢
 exact WH.cv hq
theorem parteq_ok (v:Value) (n:Nat) (l:List UInt32) (a b:Nat) (p:Nat) (T:List Nat) (w:World) (H:Owl.Own T w w [.row v 22 1 n (List.map vU32 l)]) (hn:l.length=n) (hN:n<2^61) (hap:a≤p) (hpb:p<b) (hb:b≤n) :
  Calls Tryz.prog 218 #[v,(vN a),(vN b),(vN p)] w (fun e w'=> ∃(l':List UInt32) (m:Nat),e=.returned (vN m)∧(Sw 0 a b l l'∧EqP ltU32 0 a b m l' (l.getD p 0))∧Owl.Own T w w' [.row v 22 1 n (List.map vU32 l')]):=by
 refine enter Tryz.func218 rfl rfl<|ws<|wa rfl<|wn<|WC.cut (α:=List UInt32) (fun l1=>[(0,v),(1,(vN a)),(2,(vN b))]) (fun l1 w'=>(Sw 0 a b l l1∧l1.getD a 0=(l.getD p 0))∧Owl.Own T w w' [.row v 22 1 n (List.map vU32 l1)]) ?_ ?_
 ·
  refine WC.held 16 rfl Fa.M H (fun w'=> ∃L',Owl.Own T w w' ([]++L')) ?_
  intro w1 H1
  refine xt 0 rfl v H1 (fun _ _ HX=>op_move rfl ⟨rfl,rfl⟩)<|xt 1 rfl (vN a) H1 (fun _ _ HX=>op_move rfl ⟨rfl,rfl⟩)<|xt 2 rfl v H1 (fun _ _ HX=>op_move rfl ⟨rfl,rfl⟩)<|xt 3 rfl (vN p) H1 (fun _ _ HX=>op_move rfl ⟨rfl,rfl⟩)<|xt 4 rfl v H1 (fun _ _ HX=>op_move rfl ⟨rfl,rfl⟩)<|xt 5 rfl (vN p) H1 (fun _ _ HX=>op_move rfl ⟨rfl,rfl⟩)<|xt 6 rfl (.pointer (some (sp v p))) H1 (fun _ _ HX=>op_indexAddr1W Tryz.underlying73 Fa.I22 rfl (H1.arrR (i:=0) rfl) rfl (by omega) ⟨rfl,rfl⟩)<|xt 8 rfl v H1 (fun _ _ HX=>op_move rfl ⟨rfl,rfl⟩)<|xt 9 rfl (vN a) H1 (fun _ _ HX=>op_move rfl ⟨rfl,rfl⟩)<|xt 10 rfl (.pointer (some (sp v a))) H1 (fun _ _ HX=>op_indexAddr1W Tryz.underlying73 Fa.I22 rfl (H1.arrR (i:=0) rfl) rfl (by omega) ⟨rfl,rfl⟩)<|WH.named (fun W hW=>?_)
  let a1_0:Ent:=.row v 22 1 n (List.map vU32 l)
  have st1_5: ∀wS,Owl.Own T w wS [.row v 22 1 n (List.map vU32 ((l.set a (l.getD p 0)).set p (l.getD a 0)))]→W 0 (bz 16 65535) [(0,v),(1,(vN a)),(2,(vN b)),(3,(vN p)),(8,(vN 0))] wS:=fun wS HS=>by
   rw [hW]
   exact WH.done (by kernel_rfl)<|WQ.here (swapL 0 l a p) ⟨⟨Sw.one (by omega) (by omega) (by omega) (by omega),swap_fst (by omega) (by omega)⟩,HS⟩ ⟨rfl,rfl,rfl,trivial⟩
  have st1_4: ∀wS,Owl.Own T w wS [.row v 22 1 n (List.map vU32 (l.set a (l.getD p 0)))]→W 1 (bz 16 32767) [(0,v),(1,(vN a)),(2,(vN b)),(3,(vN p)),(8,(vN 0)),(22,(vU32 (l.getD a 0))),(24,(.pointer (some (sp v p))))] wS:=fun wS HS=>by
   rw [hW]
   refine wh1 15<|kH 15 rfl (op_storeRM (i:=0) (f:=vU32) (l:=(l.set a (l.getD p 0))) (c:=(l.getD a 0)) HS rfl rfl rfl (by omega) rfl Fa.I22 (fun w12301 H12301=>(⟨⟨_,H12301⟩,?_⟩)))
   exact WH.cw hW (st1_5 w12301 H12301)
  have st1_3: ∀wS,Owl.Own T w wS [a1_0]→W 3 (bz 16 8191) [(0,v),(1,(vN a)),(2,(vN b)),(3,(vN p)),(8,(vN 0)),(13,v),(14,(vN p)),(18,(vU32 (l.getD p 0))),(22,(vU32 (l.getD a 0))),(23,(.pointer (some (sp v a))))] wS:=fun wS HS=>by
   rw [hW]
   refine wh1 13<|kH 13 rfl (op_storeRM (i:=0) (f:=vU32) (l:=l) (c:=(l.getD p 0)) HS rfl rfl rfl (by omega) rfl Fa.I22 (fun w12261 H12261=>(⟨⟨_,H12261⟩,?_⟩)))
   exact xt 14 rfl (.pointer (some (sp v p))) H12261 (fun _ _ HX=>op_indexAddr1W Tryz.underlying73 Fa.I22 rfl (H12261.arrR (i:=0) rfl) rfl (by omega) ⟨rfl,rfl⟩)<|WH.cw hW (st1_4 w12261 H12261)
  have st1_1: ∀wS,Owl.Own T w wS [a1_0]→W 5 (bz 16 2047) [(0,v),(1,(vN a)),(2,(vN b)),(3,(vN p)),(8,(vN 0)),(11,v),(12,(vN a)),(13,v),(14,(vN p)),(18,(vU32 (l.getD p 0))),(21,(.pointer (some (sp v a))))] wS:=fun wS HS=>by
   rw [hW]
   refine wh1 11<|kH 11 rfl (op_load rfl ((HS.arrR (i:=0) rfl).at (get_map vU32 0 (Arr.ltM (HS.arrR (i:=0) rfl) (by omega)))) Tryz.underlying22 rfl (⟨⟨_,HS⟩,?_⟩))
   exact xt 12 rfl (.pointer (some (sp v a))) HS (fun _ _ HX=>op_indexAddr1W Tryz.underlying73 Fa.I22 rfl (HS.arrR (i:=0) rfl) rfl (by omega) ⟨rfl,rfl⟩)<|WH.cw hW (st1_3 wS HS)
  have st1_2: ∀wS,Owl.Own T w wS [a1_0]→W 5 (bz 16 3967) [(0,v),(1,(vN a)),(2,(vN b)),(3,(vN p)),(8,(vN 0)),(11,v),(12,(vN a)),(13,v),(14,(vN p)),(17,(.pointer (some (sp v p)))),(22,(vU32 (l.getD a 0)))] wS:=fun wS HS=>by
   rw [hW]
   refine wh1 7<|kH 7 rfl (op_load rfl ((HS.arrR (i:=0) rfl).at (get_map vU32 0 (Arr.ltM (HS.arrR (i:=0) rfl) (by omega)))) Tryz.underlying22 rfl (⟨⟨_,HS⟩,?_⟩))
   exact xt 12 rfl (.pointer (some (sp v a))) HS (fun _ _ HX=>op_indexAddr1W Tryz.underlying73 Fa.I22 rfl (HS.arrR (i:=0) rfl) rfl (by omega) ⟨rfl,rfl⟩)<|WH.cw hW (st1_3 wS HS)
  have st1_0: ∀wS,Owl.Own T w wS [a1_0]→W 6 (bz 16 1919) [(0,v),(1,(vN a)),(2,(vN b)),(3,(vN p)),(8,(vN 0)),(11,v),(12,(vN a)),(13,v),(14,(vN p)),(17,(.pointer (some (sp v p)))),(21,(.pointer (some (sp v a))))] wS:=fun wS HS=>by
   rw [hW]
   refine wh2 7 11 ?_ ?_
   ·
    refine kH 7 rfl (op_load rfl ((HS.arrR (i:=0) rfl).at (get_map vU32 0 (Arr.ltM (HS.arrR (i:=0) rfl) (by omega)))) Tryz.underlying22 rfl (⟨⟨_,HS⟩,?_⟩))
    exact WH.cw hW (st1_1 wS HS)
   refine kH 11 rfl (op_load rfl ((HS.arrR (i:=0) rfl).at (get_map vU32 0 (Arr.ltM (HS.arrR (i:=0) rfl) (by omega)))) Tryz.underlying22 rfl (⟨⟨_,HS⟩,?_⟩))
   exact WH.cw hW (st1_2 wS HS)
  have hq:=st1_0 w1 H1
  rw [hW] at hq ⊢
  exact WH.cv hq
 rintro l1 w3 ⟨⟨hs1,hv1⟩,H3⟩
 show WC _ _ _ _ _ [(0,v),(1,(vN a)),(2,(vN b))] _
 have hL1:=hs1.len
 refine ws<|wm rfl<|wo (op_addN (b:=1) rfl rfl (by omega)<|wm rfl<|wo (op_subN (b:=1) rfl rfl (by omega) (by omega)<|wa rfl<|wa rfl<|wn<|WC.seq<|WC.block<|WC.loop (α:=Nat × Nat × List UInt32) (fun (u,z,l2)=>[(0,v),(1,(vN a)),(2,(vN b)),(9,(vN u)),(10,(vN z))]) (fun (u,z,l2) w'=>(Sw 0 a b l l2∧EqI ltU32 0 a b u z l2 (l.getD p 0))∧Owl.Own T w w' [.row v 22 1 n (List.map vU32 l2)]) (fun (u,z,l2)=>z+1-u) (a+1,b-1,l1) ⟨⟨hs1,eq_init (by omega) hv1⟩,H3⟩ ⟨rfl,rfl,rfl,rfl,rfl,trivial⟩ ?_))
 rintro ⟨u,z,l2⟩ w4 ⟨⟨hs2,hp8⟩,H4⟩
 show WC _ _ _ _ _ [(0,v),(1,(vN a)),(2,(vN b)),(9,(vN u)),(10,(vN z))] _
 have hL2:=hs2.len
 have hp8a:=hp8.1
 have hp8b:=hp8.2.1
 have hp8c:=hp8.2.2.1
 refine WC.block<|WC.cut (α:=Nat) (fun u4=>[(0,v),(1,(vN a)),(2,(vN b)),(9,(vN u4)),(10,(vN z))]) (fun u4 w'=>(u≤u4∧EqI ltU32 0 a b u4 z l2 (l.getD p 0)∧(z<u4∨ltU32 (l2.getD a 0) (l2.getD u4 0)=true))∧Owl.Own T w w' [.row v 22 1 n (List.map vU32 l2)]) ?_ ?_
 ·
  refine WC.block<|WC.loop (α:=Nat) (fun u3=>[(0,v),(1,(vN a)),(2,(vN b)),(9,(vN u3)),(10,(vN z))]) (fun u3 w'=>(u≤u3∧EqI ltU32 0 a b u3 z l2 (l.getD p 0))∧Owl.Own T w w' [.row v 22 1 n (List.map vU32 l2)]) (fun u3=>b-u3) u ⟨⟨Nat.le_refl _,hp8⟩,H4⟩ ⟨rfl,rfl,rfl,rfl,rfl,trivial⟩ ?_
  rintro u3 w5 ⟨⟨hu3,hp9⟩,H5⟩
  show WC _ _ _ _ _ [(0,v),(1,(vN a)),(2,(vN b)),(9,(vN u3)),(10,(vN z))] _
  have hp9a:=hp9.1
  have hp9b:=hp9.2.1
  have hp9c:=hp9.2.2.1
  refine WC.seq<|WC.seq (wG (u3≤z) (fun hb6 hc6=>?_) (fun hb6 hc6=>?_))
  ·
   refine WC.draw 15 Fa.M H5 (mh rfl<|mh rfl<|oh (fun w1 H1=>op_leqN rfl rfl zr)<|mh rfl<|yh hb6 (fun w1 H1=>op_move rfl zr)<|yh hb6 (fun w1 H1=>op_move rfl zr)<|yh hb6 (fun w1 H1=>op_indexAddr1 Tryz.underlying73 Fa.I22 rfl (H1.arrR (i:=0) rfl) rfl (by omega) zr)<|yh hb6 (fun w1 H1=>op_load rfl ((H1.arrR (i:=0) rfl).at (get_map vU32 0 (Arr.ltM (H1.arrR (i:=0) rfl) (by omega)))) Tryz.underlying22 rfl zr)<|yh hb6 (fun w1 H1=>op_move rfl zr)<|yh hb6 (fun w1 H1=>op_move rfl zr)<|yh hb6 (fun w1 H1=>op_indexAddr1 Tryz.underlying73 Fa.I22 rfl (H1.arrR (i:=0) rfl) rfl (by omega) zr)<|yh hb6 (fun w1 H1=>op_load rfl ((H1.arrR (i:=0) rfl).at (get_map vU32 0 (Arr.ltM (H1.arrR (i:=0) rfl) (by omega)))) Tryz.underlying22 rfl zr)<|yh hb6 (fun w1 H1=>op_callF Fa.C217 rfl ((less_ok (l2.getD a 0) (l2.getD u3 0) _).mono (fun e w2 hq=>⟨_,hq.1,rfl,hq.2⟩)))<|yh hb6 (fun w1 H1=>op_not rfl zr)<|oh (fun w1 H1=>op_pickT rfl hb6 rfl zr)  HW.nil) (by kernel_rfl) ?_
   intro β8 w8 H8
   refine wn (wC (!(ltU32 (l2.getD a 0) (l2.getD u3 0))) (fun hb9=>?_) (fun hb9=>?_))
   ·
    have hn9:=(Bool.not_eq_true' _).mp hb9
    exact WC.skip<|WQ.next<|WC.block<|WC.region<|wm rfl<|wo (op_addN (b:=1) rfl rfl (by omega)<|wa rfl<|WL.nil<|WQ.inNormal<|WQ.round (u3+1) ⟨⟨by omega,eq_i hp9 (by omega) hn9⟩,H8⟩ ⟨rfl,rfl,rfl,rfl,rfl,trivial⟩ (by omega))
   have hn9:=(Bool.not_eq_false' _).mp hb9
   exact WC.exit<|WQ.thenExit<|WQ.thenExit<|WQ.inHere<|WQ.here u3 ⟨⟨hu3,hp9,.inr hn9⟩,H8⟩ ⟨rfl,rfl,rfl,rfl,rfl,trivial⟩
  refine WC.draw 15 Fa.M H5 (mh rfl<|mh rfl<|oh (fun w1 H1=>op_leqN rfl rfl zr)<|mh rfl<|nh hb6<|nh hb6<|nh hb6<|nh hb6<|nh hb6<|nh hb6<|nh hb6<|nh hb6<|nh hb6<|nh hb6<|oh (fun w1 H1=>op_pickF rfl hb6 rfl zr)  HW.nil) (by kernel_rfl) ?_
  intro β10 w10 H10
  exact wn<|WC.no rfl rfl<|WC.exit<|WQ.thenExit<|WQ.thenExit<|WQ.inHere<|WQ.here u3 ⟨⟨hu3,hp9,.inl (by omega)⟩,H10⟩ ⟨rfl,rfl,rfl,rfl,rfl,trivial⟩
 rintro u4 w11 ⟨⟨hu4,hpa,hxa⟩,H11⟩
 show WC _ _ _ _ _ [(0,v),(1,(vN a)),(2,(vN b)),(9,(vN u4)),(10,(vN z))] _
 have hpaa:=hpa.1
 have hpab:=hpa.2.1
 have hpac:=hpa.2.2.1
 refine WC.cut (α:=Nat) (fun z4=>[(0,v),(1,(vN a)),(2,(vN b)),(9,(vN u4)),(10,(vN z4))]) (fun z4 w'=>(z4≤z∧EqI ltU32 0 a b u4 z4 l2 (l.getD p 0)∧(z4<u4∨ltU32 (l2.getD a 0) (l2.getD u4 0)=true)∧(z4<u4∨ltU32 (l2.getD a 0) (l2.getD z4 0)=false))∧Owl.Own T w w' [.row v 22 1 n (List.map vU32 l2)]) ?_ ?_
 ·
  refine WC.block<|WC.loop (α:=Nat) (fun z3=>[(0,v),(1,(vN a)),(2,(vN b)),(9,(vN u4)),(10,(vN z3))]) (fun z3 w'=>(z3≤z∧EqI ltU32 0 a b u4 z3 l2 (l.getD p 0)∧(z3<u4∨ltU32 (l2.getD a 0) (l2.getD u4 0)=true))∧Owl.Own T w w' [.row v 22 1 n (List.map vU32 l2)]) (fun z3=>z3) z ⟨⟨Nat.le_refl _,hpa,hxa⟩,H11⟩ ⟨rfl,rfl,rfl,rfl,rfl,trivial⟩ ?_
  rintro z3 w12 ⟨⟨hz3,hpb2,hxb⟩,H12⟩
  show WC _ _ _ _ _ [(0,v),(1,(vN a)),(2,(vN b)),(9,(vN u4)),(10,(vN z3))] _
  have hpb2a:=hpb2.1
  have hpb2b:=hpb2.2.1
  have hpb2c:=hpb2.2.2.1
  refine WC.seq<|WC.seq (wG (u4≤z3) (fun hb13 hc13=>?_) (fun hb13 hc13=>?_))
  ·
   refine WC.draw 14 Fa.M H12 (mh rfl<|mh rfl<|oh (fun w1 H1=>op_leqN rfl rfl zr)<|mh rfl<|yh hb13 (fun w1 H1=>op_move rfl zr)<|yh hb13 (fun w1 H1=>op_move rfl zr)<|yh hb13 (fun w1 H1=>op_indexAddr1 Tryz.underlying73 Fa.I22 rfl (H1.arrR (i:=0) rfl) rfl (by omega) zr)<|yh hb13 (fun w1 H1=>op_load rfl ((H1.arrR (i:=0) rfl).at (get_map vU32 0 (Arr.ltM (H1.arrR (i:=0) rfl) (by omega)))) Tryz.underlying22 rfl zr)<|yh hb13 (fun w1 H1=>op_move rfl zr)<|yh hb13 (fun w1 H1=>op_move rfl zr)<|yh hb13 (fun w1 H1=>op_indexAddr1 Tryz.underlying73 Fa.I22 rfl (H1.arrR (i:=0) rfl) rfl (by omega) zr)<|yh hb13 (fun w1 H1=>op_load rfl ((H1.arrR (i:=0) rfl).at (get_map vU32 0 (Arr.ltM (H1.arrR (i:=0) rfl) (by omega)))) Tryz.underlying22 rfl zr)<|yh hb13 (fun w1 H1=>op_callF Fa.C217 rfl ((less_ok (l2.getD a 0) (l2.getD z3 0) _).mono (fun e w2 hq=>⟨_,hq.1,rfl,hq.2⟩)))<|oh (fun w1 H1=>op_pickT rfl hb13 rfl zr)  HW.nil) (by kernel_rfl) ?_
   intro β15 w15 H15
   refine wn (wC (ltU32 (l2.getD a 0) (l2.getD z3 0)) (fun hb16=>?_) (fun hb16=>?_))
   ·
    exact WC.skip<|WQ.next<|WC.block<|WC.region<|wm rfl<|wo (op_subN (b:=1) rfl rfl (by omega) (by omega)<|wa rfl<|WL.nil<|WQ.inNormal<|WQ.round (z3-1) ⟨⟨by omega,eq_j hpb2 (by omega) hb16,hxb.imp (fun h=>by omega) id⟩,H15⟩ ⟨rfl,rfl,rfl,rfl,rfl,trivial⟩ (by omega))
   exact WC.exit<|WQ.thenExit<|WQ.thenExit<|WQ.inHere<|WQ.here z3 ⟨⟨hz3,hpb2,hxb,.inr hb16⟩,H15⟩ ⟨rfl,rfl,rfl,rfl,rfl,trivial⟩
  refine WC.draw 14 Fa.M H12 (mh rfl<|mh rfl<|oh (fun w1 H1=>op_leqN rfl rfl zr)<|mh rfl<|nh hb13<|nh hb13<|nh hb13<|nh hb13<|nh hb13<|nh hb13<|nh hb13<|nh hb13<|nh hb13<|oh (fun w1 H1=>op_pickF rfl hb13 rfl zr)  HW.nil) (by kernel_rfl) ?_
  intro β17 w17 H17
  exact wn<|WC.no rfl rfl<|WC.exit<|WQ.thenExit<|WQ.thenExit<|WQ.inHere<|WQ.here z3 ⟨⟨hz3,hpb2,hxb,.inl (by omega)⟩,H17⟩ ⟨rfl,rfl,rfl,rfl,rfl,trivial⟩
 rintro z4 w18 ⟨⟨hz4,hpb4,hxb4,hyb4⟩,H18⟩
 show WC _ _ _ _ _ [(0,v),(1,(vN a)),(2,(vN b)),(9,(vN u4)),(10,(vN z4))] _
 have hpb4a:=hpb4.1
 have hpb4b:=hpb4.2.1
 have hpb4c:=hpb4.2.2.1
 refine WC.seq<|ws<|wm rfl<|wm rfl<|wo (op_gtrN rfl rfl<|wn (wE (u4>z4) (fun hb19 hc19=>?_) (fun hb19 hc19=>?_)))
 ·
  exact WC.exit<|WQ.thenExit<|WQ.inPass rfl<|WQ.thenExit<|WQ.inHere<|WQ.next<|ws<|wm rfl<|wa rfl<|wn<|WC.ret<|WQ.out (.tmp rfl .nil) (⟨_,_,rfl,⟨hs2,eq_done ltU32OK hpb4 (by omega)⟩,H18⟩)
 refine WC.skip<|WQ.next<|WC.seq<|WC.held 16 rfl Fa.M H18 (fun w'=> ∃L',Owl.Own T w w' ([]++L')) ?_
 intro w20 H20
 refine xt 0 rfl v H20 (fun _ _ HX=>op_move rfl ⟨rfl,rfl⟩)<|xt 1 rfl (vN u4) H20 (fun _ _ HX=>op_move rfl ⟨rfl,rfl⟩)<|xt 2 rfl v H20 (fun _ _ HX=>op_move rfl ⟨rfl,rfl⟩)<|xt 3 rfl (vN z4) H20 (fun _ _ HX=>op_move rfl ⟨rfl,rfl⟩)<|xt 4 rfl v H20 (fun _ _ HX=>op_move rfl ⟨rfl,rfl⟩)<|xt 5 rfl (vN z4) H20 (fun _ _ HX=>op_move rfl ⟨rfl,rfl⟩)<|xt 6 rfl (.pointer (some (sp v z4))) H20 (fun _ _ HX=>op_indexAddr1W Tryz.underlying73 Fa.I22 rfl (H20.arrR (i:=0) rfl) rfl (by omega) ⟨rfl,rfl⟩)<|xt 8 rfl v H20 (fun _ _ HX=>op_move rfl ⟨rfl,rfl⟩)<|xt 9 rfl (vN u4) H20 (fun _ _ HX=>op_move rfl ⟨rfl,rfl⟩)<|xt 10 rfl (.pointer (some (sp v u4))) H20 (fun _ _ HX=>op_indexAddr1W Tryz.underlying73 Fa.I22 rfl (H20.arrR (i:=0) rfl) rfl (by omega) ⟨rfl,rfl⟩)<|WH.named (fun W hW=>?_)
 let e8:List (Nat × Value)→List (Nat × Value):=fun r=>(0,v)::(1,(vN a))::(2,(vN b))::(9,(vN u4))::(10,(vN z4))::(62,(vN u4))::(63,(vN z4))::(64,(.bool (decide (u4>z4))))::r
 let a8_0:Ent:=.row v 22 1 n (List.map vU32 l2)
 have st8_5: ∀wS,Owl.Own T w wS [.row v 22 1 n (List.map vU32 ((l2.set u4 (l2.getD z4 0)).set z4 (l2.getD u4 0)))]→W 0 (bz 16 65535) (e8 []) wS:=fun wS HS=>by
  rw [hW]
  exact WH.done (by kernel_rfl)<|WQ.next<|ws<|wm rfl<|wo (op_addN (b:=1) rfl rfl (by omega)<|wa rfl<|wn<|WC.region<|wm rfl<|wo (op_subN (b:=1) rfl rfl (by omega) (by omega)<|wa rfl<|WL.nil<|WQ.inNormal<|WQ.round (u4+1,z4-1,swapL 0 l2 u4 z4) ⟨⟨hs2.step (by omega) (by omega) (by omega) (by omega),eq_swap (by omega) hpb4 (by omega) (hxb4.resolve_left (by omega)) (hyb4.resolve_left (by omega))⟩,HS⟩ ⟨rfl,rfl,rfl,rfl,rfl,trivial⟩ (by show z4-1+1-(u4+1)<z+1-u; omega)))
 have st8_4: ∀wS,Owl.Own T w wS [.row v 22 1 n (List.map vU32 (l2.set u4 (l2.getD z4 0)))]→W 1 (bz 16 32767) (e8 [(76,(vU32 (l2.getD u4 0))),(78,(.pointer (some (sp v z4))))]) wS:=fun wS HS=>by
  rw [hW]
  refine wh1 15<|kH 15 rfl (op_storeRM (i:=0) (f:=vU32) (l:=(l2.set u4 (l2.getD z4 0))) (c:=(l2.getD u4 0)) HS rfl rfl rfl (by omega) rfl Fa.I22 (fun w31301 H31301=>(⟨⟨_,H31301⟩,?_⟩)))
  exact WH.cw hW (st8_5 w31301 H31301)
 have st8_3: ∀wS,Owl.Own T w wS [a8_0]→W 3 (bz 16 8191) (e8 [(67,v),(68,(vN z4)),(72,(vU32 (l2.getD z4 0))),(76,(vU32 (l2.getD u4 0))),(77,(.pointer (some (sp v u4))))]) wS:=fun wS HS=>by
  rw [hW]
  refine wh1 13<|kH 13 rfl (op_storeRM (i:=0) (f:=vU32) (l:=l2) (c:=(l2.getD z4 0)) HS rfl rfl rfl (by omega) rfl Fa.I22 (fun w31261 H31261=>(⟨⟨_,H31261⟩,?_⟩)))
  exact xt 14 rfl (.pointer (some (sp v z4))) H31261 (fun _ _ HX=>op_indexAddr1W Tryz.underlying73 Fa.I22 rfl (H31261.arrR (i:=0) rfl) rfl (by omega) ⟨rfl,rfl⟩)<|WH.cw hW (st8_4 w31261 H31261)
 have st8_1: ∀wS,Owl.Own T w wS [a8_0]→W 5 (bz 16 2047) (e8 [(65,v),(66,(vN u4)),(67,v),(68,(vN z4)),(72,(vU32 (l2.getD z4 0))),(75,(.pointer (some (sp v u4))))]) wS:=fun wS HS=>by
  rw [hW]
  refine wh1 11<|kH 11 rfl (op_load rfl ((HS.arrR (i:=0) rfl).at (get_map vU32 0 (Arr.ltM (HS.arrR (i:=0) rfl) (by omega)))) Tryz.underlying22 rfl (⟨⟨_,HS⟩,?_⟩))
  exact xt 12 rfl (.pointer (some (sp v u4))) HS (fun _ _ HX=>op_indexAddr1W Tryz.underlying73 Fa.I22 rfl (HS.arrR (i:=0) rfl) rfl (by omega) ⟨rfl,rfl⟩)<|WH.cw hW (st8_3 wS HS)
 have st8_2: ∀wS,Owl.Own T w wS [a8_0]→W 5 (bz 16 3967) (e8 [(65,v),(66,(vN u4)),(67,v),(68,(vN z4)),(71,(.pointer (some (sp v z4)))),(76,(vU32 (l2.getD u4 0)))]) wS:=fun wS HS=>by
  rw [hW]
  refine wh1 7<|kH 7 rfl (op_load rfl ((HS.arrR (i:=0) rfl).at (get_map vU32 0 (Arr.ltM (HS.arrR (i:=0) rfl) (by omega)))) Tryz.underlying22 rfl (⟨⟨_,HS⟩,?_⟩))
  exact xt 12 rfl (.pointer (some (sp v u4))) HS (fun _ _ HX=>op_indexAddr1W Tryz.underlying73 Fa.I22 rfl (HS.arrR (i:=0) rfl) rfl (by omega) ⟨rfl,rfl⟩)<|WH.cw hW (st8_3 wS HS)
 have st8_0: ∀wS,Owl.Own T w wS [a8_0]→W 6 (bz 16 1919) (e8 [(65,v),(66,(vN u4)),(67,v),(68,(vN z4)),(71,(.pointer (some (sp v z4)))),(75,(.pointer (some (sp v u4))))]) wS:=fun wS HS=>by
  rw [hW]
  refine wh2 7 11 ?_ ?_
  ·
   refine kH 7 rfl (op_load rfl ((HS.arrR (i:=0) rfl).at (get_map vU32 0 (Arr.ltM (HS.arrR (i:=0) rfl) (by omega)))) Tryz.underlying22 rfl (⟨⟨_,HS⟩,?_⟩))
   exact WH.cw hW (st8_1 wS HS)
  refine kH 11 rfl (op_load rfl ((HS.arrR (i:=0) rfl).at (get_map vU32 0 (Arr.ltM (HS.arrR (i:=0) rfl) (by omega)))) Tryz.underlying22 rfl (⟨⟨_,HS⟩,?_⟩))
  exact WH.cw hW (st8_2 wS HS)
 have hq:=st8_0 w20 H20
 rw [hW] at hq ⊢
 exact WH.cv hq
end Go.Proofs.YtbjhccnffacbcaaGreat
