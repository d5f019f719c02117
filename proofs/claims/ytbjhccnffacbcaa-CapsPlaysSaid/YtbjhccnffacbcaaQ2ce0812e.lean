/- General lemmas and walks: WCap26. No condition but what each theorem names. -/
import Derived.Test.YtbjhccnffacbcaaQ87ceff81
import Derived.Test.YtbjhccnffacbcaaQ0938550c
/-! from WCap26 -/
namespace Go.Proofs.Ytbjhccnffacbcaa
open Go.Owl Go.Spec
set_option maxHeartbeats 20000000 in
set_option maxRecDepth 100000 in
theorem capsPlays_ok (pg : UInt32) (hev lv : Value) (he : List UInt32) (l : List Sts) (id bk : UInt32) (y : UInt16) (w : World) (hH : Arr w hev 1 he.length (List.map vU32 he)) (hA : Arr w lv 7 l.length (List.flatMap stc l)) (hI : StD.list.ok w l) (hn : he.length < 2 ^ 47) (hl : l.length < 2 ^ 47) :
  Calls Try.prog 6 #[(.agg #[(vU32 pg), hev]), lv, (vU32 id), (vU32 bk), (vU16 y)] w (fun e w' => e = .returned (.bool true) ∧ Fr [] w w') := by
 refine enter (args := [(.agg #[(vU32 pg), hev]), lv, (vU32 id), (vU32 bk), (vU16 y)]) Try.func6 rfl rfl ?_
 have H0 : Owl.Own [] w w [Ent.ar hev 1 he.length (List.map vU32 he)] := (Own.start w []).oldA hH
 refine ws ?_
 refine wo (op_box H0 rfl rfl (fun b1 w1 H1 => ?_))
 refine wo (op_assign rfl ?_)
 refine wn ?_
 refine WC.seq ?_
 refine ws ?_
 refine wo (op_move rfl ?_)
 refine wo (op_callF Fa.C16 rfl ((heavy_ok lv l _ (H1.arr hA) (StD.list.fr0 hI H1.fr) hl).mono (fun e w2 hq => ?_)))
 obtain ⟨rfl, hf2⟩ := hq
 refine ⟨_, rfl, ?_⟩
 have H2 := H1.fr' hf2
 refine wo (op_move rfl ?_)
 refine WL.split (t := 21) rfl (fun (hb3 : (heavyC l) = true) => ?_) (fun (hb3 : (heavyC l) = false) => ?_)
 ·
  refine WL.no rfl rfl rfl hb3 rfl ?_
  refine WL.no rfl rfl rfl hb3 rfl ?_
  refine WL.no rfl rfl rfl hb3 rfl ?_
  refine WL.no rfl rfl rfl hb3 rfl ?_
  refine wo (op_pickT rfl hb3 rfl ?_)
  refine wn ?_
  refine WC.yes rfl rfl ?_
  refine ws ?_
  refine wo (op_callF Fa.C17 rfl ((calive_ok _).mono (fun e w4 hq => ?_)))
  obtain ⟨rfl, hf4⟩ := hq
  refine ⟨_, rfl, ?_⟩
  have H4 := H2.fr' hf4
  refine wo (op_assign rfl ?_)
  refine wn ?_
  refine WC.ret ?_
  refine WQ.thenRet ?_
  refine WQ.out (.tmp rfl .nil) ?_
  exact ⟨rfl, H4.fr⟩
 ·
  have hhv := heavyC_no hb3
  refine WL.yes rfl rfl rfl hb3 rfl (op_fieldAddr rfl Fa.F48_1 ?_)
  refine WL.yes rfl rfl rfl hb3 rfl (op_load rfl (H2.cell (i := 1) rfl rfl) Try.underlying46 rfl ?_)
  refine WL.yes rfl rfl rfl hb3 rfl (op_lenA Try.underlying46 rfl (H2.arrO (i := 0) rfl) ?_)
  refine WL.yes rfl rfl rfl hb3 rfl (op_gtrN (b := 40) rfl rfl ?_)
  refine wo (op_pickF rfl hb3 rfl ?_)
  refine wn ?_
  refine WC.cond rfl (fun (hb5 : (decide (he.length > 40)) = true) => ?_) (fun (hb5 : (decide (he.length > 40)) = false) => ?_)
  ·
   have hc5 := of_decide_eq_true hb5
   refine ws ?_
   refine wo (op_callF Fa.C17 rfl ((calive_ok _).mono (fun e w6 hq => ?_)))
   obtain ⟨rfl, hf6⟩ := hq
   refine ⟨_, rfl, ?_⟩
   have H6 := H2.fr' hf6
   refine wo (op_assign rfl ?_)
   refine wn ?_
   refine WC.ret ?_
   refine WQ.thenRet ?_
   refine WQ.out (.tmp rfl .nil) ?_
   exact ⟨rfl, H6.fr⟩
  ·
   have hc5 := of_decide_eq_false hb5
   refine WC.skip ?_
   refine WQ.next ?_
   refine ws ?_
   refine wo (op_loadS (vs := [_, _]) rfl (H2.cells (i := 1) rfl rfl) Try.underlying48 rfl Fa.I48 rfl ?_)
   refine wo (op_alloc H2 Fa.I48 (fun b7 w7 H7 => ?_))
   refine wo (op_storeBW (i := 2) H7 rfl rfl rfl rfl (one_cons rfl (one_cons (Arr.one (H7.arrO (i := 0) rfl)) one_nil)) Fa.I48 (fun w8 H8 => ?_))
   refine wn ?_
   refine ws ?_
   refine wo (op_fieldAddr rfl Fa.F48_1 ?_)
   refine wo (op_load rfl (H8.cell (i := 1) rfl rfl) Try.underlying46 rfl ?_)
   have H10 := H8.nilRow 29 1
   refine wo (op_appendM (f := vU32) (l := []) (l' := he) (i := 3) H10 Try.underlying46 Fa.I29 rfl rfl rfl rfl (Src.ofArr Try.underlying46 (H10.arrO (i := 0) rfl)) (one_mapM (fun _ => rfl)) (by omega) (by omega) (fun v9 w9 H9 => ?_))
   refine wo (op_fieldAddr rfl Fa.F48_1 ?_)
   refine wo (op_storeB (i := 2) H9 rfl rfl rfl rfl (Arr.one (H9.arrR (i := 3) rfl)) Fa.I46 (fun w11 H11 => ?_))
   refine wn ?_
   refine ws ?_
   have H12 : Owl.Own [] w w11 [Ent.ar hev 1 he.length (List.map vU32 he), .blk b1 [(vU32 pg), hev] 48, .blk b7 [(vU32 pg), v9] 48, .row v9 29 1 he.length (List.map vU32 he)] := Owl.Own.rowEqN (i := 3) (f := vU32) H11 rfl (List.nil_append _) (Nat.zero_add _)
   refine wo (op_loadS (vs := [_, _]) rfl (H12.cells (i := 2) rfl rfl) Try.underlying48 rfl Fa.I48 rfl ?_)
   refine bsplit (fun (hb13 : (decide (hardE pg he = 0)) = true) => ?_) (fun (hb13 : (decide (hardE pg he = 0)) = false) => ?_)
   ·
    have hc13 := of_decide_eq_true hb13
    refine wo (op_callF Fa.C18 rfl ((capsNew2_ok pg _ he _ (H12.arrR (i := 3) rfl) (by omega) (of_decide_eq_true hb13)).mono (fun e w14 hq => ?_)))
    obtain ⟨c14, v14, mb14, rfl, hv14, hq14⟩ := hq
    refine ⟨_, rfl, ?_⟩
    have H14 : Owl.Own [] w w14 [Ent.ar hev 1 he.length (List.map vU32 he), .blk b1 [(vU32 pg), hev] 48, .blk b7 [(vU32 pg), v9] 48, .row v9 29 1 he.length (List.map vU32 he), .blk c14 [(vU32 pg), v14, (.map (some mb14))] 112, Ent.ar v14 1 he.length (List.map vU32 he), .obj mb14 (mP .i64 (List.map Gr.me []) 0), Ent.bs 120 Gr.cells Gr.b [], Ent.dp grD.list []] := H12.splice [] [] [.blk c14 [(vU32 pg), v14, (.map (some mb14))] 112, Ent.ar v14 1 he.length (List.map vU32 he), .obj mb14 (mP .i64 (List.map Gr.me []) 0), Ent.bs 120 Gr.cells Gr.b [], Ent.dp grD.list []] rfl rfl hq14 (Fits.solid True.intro (Fits.fresh hv14 (Fits.solid True.intro (Fits.solid True.intro (Fits.fresh (fun b hb => by cases hb) Fits.nil)))))
    refine wo (op_move rfl ?_)
    refine wo (op_extract rfl rfl ?_)
    refine wo (op_extract rfl rfl ?_)
    refine wo (op_assign rfl ?_)
    refine wo (op_assign rfl ?_)
    refine wn ?_
    refine WC.seq ?_
    refine ws ?_
    refine wo (op_loadS (vs := [_, _]) rfl (H14.cells (i := 1) rfl rfl) Try.underlying48 rfl Fa.I48 rfl ?_)
    refine wo (op_callF Fa.C33 rfl ((rmayH_ok pg _ he _ (H14.arrO (i := 0) rfl) (by omega)).mono (fun e w15 hq => ?_)))
    obtain ⟨rfl, hf15⟩ := hq
    refine ⟨_, rfl, ?_⟩
    have H15 := H14.fr' hf15
    refine wo (op_not rfl ?_)
    refine wn ?_
    refine WC.no rfl (congrArg Bool.not hb13) ?_
    refine WC.skip ?_
    refine WQ.next ?_
    refine WC.seq ?_
    refine ws ?_
    refine wo (op_move rfl ?_)
    refine wo (op_eqlPN Fa.PT52 rfl rfl ?_)
    refine wo (op_move rfl ?_)
    refine WL.yes rfl rfl rfl rfl rfl (op_move rfl ?_)
    refine WL.yes rfl rfl rfl rfl rfl (op_neqN (b := 0) rfl rfl ?_)
    refine wo (op_pickF rfl rfl rfl ?_)
    refine wo (op_move rfl ?_)
    refine WL.yes rfl rfl rfl (by decide) rfl (op_loadS (vs := [_, _]) rfl (H15.cells (i := 1) rfl rfl) Try.underlying48 rfl Fa.I48 rfl ?_)
    refine WL.yes rfl rfl rfl (by decide) rfl (op_callF Fa.C34 rfl ((hardE_ok pg _ he _ (H15.arrO (i := 0) rfl) (by omega)).mono (fun e w16 hq => ?_)))
    obtain ⟨rfl, hf16⟩ := hq
    refine ⟨_, rfl, ?_⟩
    have H16 := H15.fr' hf16
    refine WL.yes rfl rfl rfl (by decide) rfl (op_neqN (b := 0) rfl rfl ?_)
    refine wo (op_pickF rfl (by decide) rfl ?_)
    refine wn ?_
    refine WC.no rfl (decide_eq_false (fun h => h (of_decide_eq_true hb13))) ?_
    refine WC.skip ?_
    refine WQ.next ?_
    refine ws ?_
    refine wo (op_loadS (vs := [_, _]) rfl (H16.cells (i := 1) rfl rfl) Try.underlying48 rfl Fa.I48 rfl ?_)
    refine wo (op_build (cs := [_, _, _]) Fa.I81 Fa.PL81 rfl rfl ?_)
    refine wo (op_box H16 rfl rfl (fun b17 w17 H17 => ?_))
    refine wo (op_assign rfl ?_)
    refine wn ?_
    refine WC.seq ?_
    refine ws ?_
    have H18 : Owl.Own [] w w17 [Ent.ar hev 1 he.length (List.map vU32 he), .blk b1 [(vU32 pg), hev] 48, .blk b7 [(vU32 pg), v9] 48, .row v9 29 1 he.length (List.map vU32 he), .blk c14 [(vU32 pg), v14, (.map (some mb14))] 112, Ent.ar v14 1 he.length (List.map vU32 he), .obj mb14 (mP .i64 (List.map Gr.me []) 0), Ent.bs 120 Gr.cells Gr.b [], Ent.dp grD.list [], .blk b17 [(vU32 pg), hev, (.slice none 0 0)] 81, .row (.slice none 0 0) 86 7 0 (List.flatMap rgc []), Ent.dp grD.list []] := (H17.nilRow 86 7).dpNil grD
    have H19 : Owl.Own [] w w17 [Ent.ar hev 1 he.length (List.map vU32 he), .blk c14 [(vU32 pg), v14, (.map (some mb14))] 112, Ent.ar v14 1 he.length (List.map vU32 he), .obj mb14 (mP .i64 (List.map Gr.me []) 0), Ent.bs 120 Gr.cells Gr.b [], Ent.dp grD.list [], .blk b17 [(vU32 pg), hev, (.slice none 0 0)] 81, .row (.slice none 0 0) 86 7 0 (List.flatMap rgc []), Ent.dp grD.list []] := H18.sel [0, 4, 5, 6, 7, 8, 9, 10, 11] rfl rfl
    refine wo (op_assign rfl ?_)
    refine wn ?_
    refine WC.block ?_
    refine WC.loop (α := Nat × Nat × Nat × Nat × List Gr × List Gr × Value × List Gr) (fun (i, c, mb, cn, gs, m, rv, rl) => [(1, lv), (2, (vU32 id)), (3, (vU32 bk)), (4, (vU16 y)), (12, (ptr c 0)), (14, (ptr b17 0)), (15, (vN i))]) (fun (i, c, mb, cn, gs, m, rv, rl) w' => (i ≤ l.length ∧ CapR gs cn m ∧ Rel m rl) ∧ Owl.Own [] w w' [Ent.ar hev 1 he.length (List.map vU32 he), .blk c [(vU32 pg), v14, (.map (some mb))] 112, Ent.ar v14 1 he.length (List.map vU32 he), .obj mb (mP .i64 (List.map Gr.me gs) cn), Ent.bs 120 Gr.cells Gr.b gs, Ent.dp grD.list gs, .blk b17 [(vU32 pg), hev, rv] 81, .row rv 86 7 rl.length (List.flatMap rgc rl), Ent.dp grD.list rl]) (fun (i, c, mb, cn, gs, m, rv, rl) => l.length - i) (0, c14, mb14, 0, [], [], (.slice none 0 0), []) ⟨⟨Nat.zero_le _, CapR.nil 0, Rel.nil⟩, H19⟩ ⟨rfl, rfl, rfl, rfl, rfl, rfl, rfl, trivial⟩ ?_
    rintro ⟨i, c, mb, cn, gs, m, rv, rl⟩ w20 ⟨⟨hi, hR, hQ⟩, H20⟩
    show WC _ _ _ _ _ [(1, lv), (2, (vU32 id)), (3, (vU32 bk)), (4, (vU16 y)), (12, (ptr c 0)), (14, (ptr b17 0)), (15, (vN i))] _
    refine WC.seq ?_
    refine ws ?_
    refine wo (op_move rfl ?_)
    refine wo (op_move rfl ?_)
    refine wo (op_lenA Try.underlying49 rfl (H20.arr hA) ?_)
    refine wo (op_lssN rfl rfl ?_)
    refine wn ?_
    refine WC.cond rfl (fun (hb21 : (decide (i < l.length)) = true) => ?_) (fun (hb21 : (decide (i < l.length)) = false) => ?_)
    ·
     have hc21 := of_decide_eq_true hb21
     have hsz := hhv.2 i (by omega)
     refine WC.skip ?_
     refine WQ.next ?_
     refine WC.seq ?_
     refine WC.block ?_
     refine WC.cut (α := Nat × Nat × Nat × List Gr × List Gr) (fun (c2, mb2, cn2, gs2, m2) => [(1, lv), (2, (vU32 id)), (3, (vU32 bk)), (4, (vU16 y)), (12, (ptr c2 0)), (14, (ptr b17 0)), (15, (vN i))]) (fun (c2, mb2, cn2, gs2, m2) w' => (CapR gs2 cn2 m2 ∧ Rel m2 rl) ∧ Owl.Own [] w w' [Ent.ar hev 1 he.length (List.map vU32 he), .blk c2 [(vU32 pg), v14, (.map (some mb2))] 112, Ent.ar v14 1 he.length (List.map vU32 he), .obj mb2 (mP .i64 (List.map Gr.me gs2) cn2), Ent.bs 120 Gr.cells Gr.b gs2, Ent.dp grD.list gs2, .blk b17 [(vU32 pg), hev, rv] 81, .row rv 86 7 rl.length (List.flatMap rgc rl), Ent.dp grD.list rl]) ?_ ?_
     ·
      refine ws ?_
      refine wo (op_move rfl ?_)
      refine wo (op_move rfl ?_)
      refine wo (op_indexAddr Try.underlying49 Fa.I61 rfl (H20.arr hA) rfl (by omega) ?_)
      refine wo (op_fieldAddrS rfl Fa.F61_0 ?_)
      refine wo (op_load rfl (Arr.atF (k := 0) (H20.arr hA) (fun _ => rfl) (by decide) Sts.zero (by omega) rfl) Try.underlying3 rfl ?_)
      refine wo (op_eqlI (b := (4 : Int)) rfl rfl ?_)
      refine wn ?_
      refine WC.cond rfl (fun (hb22 : (decide ((l.getD i Sts.zero).d = (4 : Int))) = true) => ?_) (fun (hb22 : (decide ((l.getD i Sts.zero).d = (4 : Int))) = false) => ?_)
      ·
       have hc22 := of_decide_eq_true hb22
       refine ws ?_
       refine wo (op_move rfl ?_)
       refine wo (op_assign rfl ?_)
       refine wn ?_
       refine ws ?_
       refine wo (op_move rfl ?_)
       refine wo (op_callF Fa.C35 rfl ((ccopy_ok c pg v14 he mb cn gs m _ (H20.cellsAt (i := 1) rfl) (H20.arrO (i := 2) rfl) (H20.mp (i := 3) rfl) (H20.bsG (i := 4) rfl) (H20.dpO (i := 5) rfl) hR).mono (fun e w23 hq => ?_)))
       obtain ⟨x23, mb23, gs23, cn23, lc23, rfl, hlp23, hi23, hd23, hq23⟩ := hq
       refine ⟨_, rfl, ?_⟩
       have H23 : Owl.Own [] w w23 [Ent.ar hev 1 he.length (List.map vU32 he), .blk c [(vU32 pg), v14, (.map (some mb))] 112, Ent.ar v14 1 he.length (List.map vU32 he), .obj mb (mP .i64 (List.map Gr.me gs) cn), Ent.bs 120 Gr.cells Gr.b gs, Ent.dp grD.list gs, .blk b17 [(vU32 pg), hev, rv] 81, .row rv 86 7 rl.length (List.flatMap rgc rl), Ent.dp grD.list rl, .blk x23 [(vU32 pg), v14, (.map (some mb23))] 112, Ent.ar v14 1 he.length (List.map vU32 he), .obj mb23 (mP .i64 (List.map Gr.me gs23) cn23), Ent.bs 120 Gr.cells Gr.b gs23, Ent.dp grD.list gs23] := H20.splice [2, 5] [Ent.ar v14 1 he.length (List.map vU32 he), Ent.dp grD.list gs] [.blk x23 [(vU32 pg), v14, (.map (some mb23))] 112, Ent.ar v14 1 he.length (List.map vU32 he), .obj mb23 (mP .i64 (List.map Gr.me gs23) cn23), Ent.bs 120 Gr.cells Gr.b gs23, Ent.dp grD.list gs23] rfl rfl hq23 (Fits.same (j := 0) rfl (Fits.same (j := 1) rfl (Fits.solid True.intro (Fits.same (j := 0) rfl (Fits.solid True.intro (Fits.solid True.intro (Fits.dpTo 1 rfl hd23 Fits.nil)))))))
       refine wo (op_assign rfl ?_)
       refine wn ?_
       refine WC.seq ?_
       refine ws ?_
       refine wo (op_move rfl ?_)
       refine wo (op_eqlPN Fa.PT52 rfl rfl ?_)
       refine wn ?_
       refine WC.no rfl rfl ?_
       refine WC.skip ?_
       refine WQ.next ?_
       refine ws ?_
       refine wo (op_move rfl ?_)
       refine wo (op_move rfl ?_)
       refine wo (op_move rfl ?_)
       refine wo (op_indexAddr Try.underlying49 Fa.I61 rfl (H23.arr hA) rfl (by omega) ?_)
       refine wo (op_fieldAddrS rfl Fa.F61_1 ?_)
       refine wo (op_load rfl (Arr.atF (k := 1) (H23.arr hA) (fun _ => rfl) (by decide) Sts.zero (by omega) rfl) Try.underlying3 rfl ?_)
       refine wo (op_callF Fa.C22 rfl ((capT_ok c pg v14 he mb cn gs ((l.getD i Sts.zero).e) m _ _ (H23.part [1, 2, 3, 4, 5] rfl rfl) hR).mono (fun e w24 hq => ?_)))
       obtain ⟨gs24, rfl, hi24, hd24, hq24⟩ := hq
       refine ⟨_, rfl, ?_⟩
       have H24 : Owl.Own [] w w24 [Ent.ar hev 1 he.length (List.map vU32 he), .blk c [(vU32 pg), v14, (.map (some mb))] 112, Ent.ar v14 1 he.length (List.map vU32 he), .obj mb (mP .i64 (List.map Gr.me gs24) cn), Ent.bs 120 Gr.cells Gr.b gs24, Ent.dp grD.list gs24, .blk b17 [(vU32 pg), hev, rv] 81, .row rv 86 7 rl.length (List.flatMap rgc rl), Ent.dp grD.list rl, .blk x23 [(vU32 pg), v14, (.map (some mb23))] 112, Ent.ar v14 1 he.length (List.map vU32 he), .obj mb23 (mP .i64 (List.map Gr.me gs23) cn23), Ent.bs 120 Gr.cells Gr.b gs23, Ent.dp grD.list gs23] := H23.splice [1, 2, 3, 4, 5] [.blk c [(vU32 pg), v14, (.map (some mb))] 112, Ent.ar v14 1 he.length (List.map vU32 he), .obj mb (mP .i64 (List.map Gr.me gs24) cn), Ent.bs 120 Gr.cells Gr.b gs24, Ent.dp grD.list gs24] [] rfl rfl hq24 (Fits.solid True.intro (Fits.same (j := 1) rfl (Fits.solid True.intro (Fits.solid True.intro (Fits.dpTo 4 rfl hd24 Fits.nil)))))
       refine wn ?_
       refine WC.region ?_
       refine wo (op_move rfl ?_)
       refine wo (op_move rfl ?_)
       refine wo (op_move rfl ?_)
       refine wo (op_indexAddr Try.underlying49 Fa.I61 rfl (H24.arr hA) rfl (by omega) ?_)
       refine wo (op_fieldAddrS rfl Fa.F61_1 ?_)
       refine wo (op_load rfl (Arr.atF (k := 1) (H24.arr hA) (fun _ => rfl) (by decide) Sts.zero (by omega) rfl) Try.underlying3 rfl ?_)
       refine wo (op_callF Fa.C21 rfl ((capR_ok c pg v14 he mb cn gs24 ((l.getD i Sts.zero).e) (takeG m ((l.getD i Sts.zero).e)) _ _ (H24.part [1, 2, 3, 4, 5] rfl rfl) hi24).mono (fun e w25 hq => ?_)))
       obtain ⟨gs25, rfl, hi25, hd25, hq25⟩ := hq
       refine ⟨_, rfl, ?_⟩
       have H25 : Owl.Own [] w w25 [Ent.ar hev 1 he.length (List.map vU32 he), .blk c [(vU32 pg), v14, (.map (some mb))] 112, Ent.ar v14 1 he.length (List.map vU32 he), .obj mb (mP .i64 (List.map Gr.me gs25) cn), Ent.bs 120 Gr.cells Gr.b gs25, Ent.dp grD.list gs25, .blk b17 [(vU32 pg), hev, rv] 81, .row rv 86 7 rl.length (List.flatMap rgc rl), Ent.dp grD.list rl, .blk x23 [(vU32 pg), v14, (.map (some mb23))] 112, Ent.ar v14 1 he.length (List.map vU32 he), .obj mb23 (mP .i64 (List.map Gr.me gs23) cn23), Ent.bs 120 Gr.cells Gr.b gs23, Ent.dp grD.list gs23] := H24.splice [1, 2, 3, 4, 5] [.blk c [(vU32 pg), v14, (.map (some mb))] 112, Ent.ar v14 1 he.length (List.map vU32 he), .obj mb (mP .i64 (List.map Gr.me gs25) cn), Ent.bs 120 Gr.cells Gr.b gs25, Ent.dp grD.list gs25] [] rfl rfl hq25 (Fits.solid True.intro (Fits.same (j := 1) rfl (Fits.solid True.intro (Fits.solid True.intro (Fits.dpTo 4 rfl hd25 Fits.nil)))))
       refine WL.nil ?_
       exact WQ.here (x23, mb23, cn23, gs23, lc23) ⟨⟨hi23, (hQ.permL hlp23)⟩, (H25.sel [0, 9, 10, 11, 12, 13, 6, 7, 8] rfl rfl)⟩ ⟨rfl, rfl, rfl, rfl, rfl, rfl, rfl, trivial⟩
      ·
       have hc22 := of_decide_eq_false hb22
       refine WC.skip ?_
       exact WQ.here (c, mb, cn, gs, m) ⟨⟨hR, hQ⟩, (H20.sel [0, 1, 2, 3, 4, 5, 6, 7, 8] rfl rfl)⟩ ⟨rfl, rfl, rfl, rfl, rfl, rfl, rfl, trivial⟩
     ·
      rintro ⟨c2, mb2, cn2, gs2, m2⟩ w26 ⟨⟨hR2, hQ2⟩, H26⟩
      show WC _ _ _ _ _ [(1, lv), (2, (vU32 id)), (3, (vU32 bk)), (4, (vU16 y)), (12, (ptr c2 0)), (14, (ptr b17 0)), (15, (vN i))] _
      refine ws ?_
      refine wo (op_move rfl ?_)
      refine wo (op_move rfl ?_)
      refine wo (op_move rfl ?_)
      refine wo (op_move rfl ?_)
      refine wo (op_indexAddr Try.underlying49 Fa.I61 rfl (H26.arr hA) rfl (by omega) ?_)
      refine wo (op_loadSP (vs := stc (l.getD i Sts.zero)) rfl (Arr.atsF (H26.arr hA) (fun _ => rfl) (by decide) Sts.zero (by omega)) Try.underlying61 rfl Fa.I61 rfl ?_)
      have H27 : Owl.Own [] w w26 [Ent.ar hev 1 he.length (List.map vU32 he), .blk c2 [(vU32 pg), v14, (.map (some mb2))] 112, Ent.ar v14 1 he.length (List.map vU32 he), .obj mb2 (mP .i64 (List.map Gr.me gs2) cn2), Ent.bs 120 Gr.cells Gr.b gs2, Ent.dp grD.list gs2, .blk b17 [(vU32 pg), hev, rv] 81, .row rv 86 7 rl.length (List.flatMap rgc rl), Ent.dp grD.list rl, Ent.ar (l.getD i Sts.zero).ev 2 (l.getD i Sts.zero).xs.length (List.flatMap xtc (l.getD i Sts.zero).xs), Ent.ar (l.getD i Sts.zero).pv 1 (l.getD i Sts.zero).ps.length (List.map vU16 (l.getD i Sts.zero).ps)] := (H26.oldA (StD_xs (Deep.getD StD hI Sts.zero (StD_zero w) i))).oldA (StD_ps (Deep.getD StD hI Sts.zero (StD_zero w) i))
      refine wo (op_callF Fa.C36 rfl ((does_ok c2 pg v14 he mb2 cn2 gs2 b17 hev rv rl m2 ((l.getD i Sts.zero).d) ((l.getD i Sts.zero).e) ((l.getD i Sts.zero).pg) (l.getD i Sts.zero).ev (l.getD i Sts.zero).pv ((l.getD i Sts.zero).xs) ((l.getD i Sts.zero).ps) ((l.getD i Sts.zero).con) ((l.getD i Sts.zero).pp) _ _ (H27.part [9, 10, 1, 2, 3, 4, 5, 6, 0, 7, 8] rfl rfl) hR2 hQ2 (by omega) (by omega) (by omega) (Nat.lt_of_le_of_lt hQ2.len (by decide)) (hQ2.fit hR2)).mono (fun e w28 hq => ?_)))
      obtain ⟨cn28, gs28, rv28, rl28, lq28, rfl, hi28, hz28, hd28, hp28, hq28⟩ := hq
      refine ⟨_, rfl, ?_⟩
      have H28 : Owl.Own [] w w28 [Ent.ar hev 1 he.length (List.map vU32 he), .blk c2 [(vU32 pg), v14, (.map (some mb2))] 112, Ent.ar v14 1 he.length (List.map vU32 he), .obj mb2 (mP .i64 (List.map Gr.me gs28) cn28), Ent.bs 120 Gr.cells Gr.b gs28, Ent.dp grD.list gs28, .blk b17 [(vU32 pg), hev, rv28] 81, .row rv28 86 7 rl28.length (List.flatMap rgc rl28), Ent.dp grD.list rl28, Ent.ar (l.getD i Sts.zero).ev 2 (l.getD i Sts.zero).xs.length (List.flatMap xtc (l.getD i Sts.zero).xs), Ent.ar (l.getD i Sts.zero).pv 1 (l.getD i Sts.zero).ps.length (List.map vU16 (l.getD i Sts.zero).ps)] := H27.splice [9, 10, 1, 2, 3, 4, 5, 6, 0, 7, 8] [Ent.ar (l.getD i Sts.zero).ev 2 (l.getD i Sts.zero).xs.length (List.flatMap xtc (l.getD i Sts.zero).xs), Ent.ar (l.getD i Sts.zero).pv 1 (l.getD i Sts.zero).ps.length (List.map vU16 (l.getD i Sts.zero).ps), .blk c2 [(vU32 pg), v14, (.map (some mb2))] 112, Ent.ar v14 1 he.length (List.map vU32 he), .obj mb2 (mP .i64 (List.map Gr.me gs28) cn28), Ent.bs 120 Gr.cells Gr.b gs28, Ent.dp grD.list gs28, .blk b17 [(vU32 pg), hev, rv28] 81, Ent.ar hev 1 he.length (List.map vU32 he), .row rv28 86 7 rl28.length (List.flatMap rgc rl28), Ent.dp grD.list rl28] [] rfl rfl hq28 (Fits.same (j := 0) rfl (Fits.same (j := 1) rfl (Fits.solid True.intro (Fits.same (j := 3) rfl (Fits.solid True.intro (Fits.solid True.intro (Fits.dpTo 6 rfl hd28 (Fits.solid True.intro (Fits.same (j := 8) rfl (Fits.solid True.intro (Fits.dpTo 10 rfl hp28 Fits.nil)))))))))))
      refine wo (op_not rfl ?_)
      refine wo (op_move rfl ?_)
      refine WL.yes rfl rfl rfl (congrArg Bool.not rfl) rfl (op_move rfl ?_)
      refine WL.yes rfl rfl rfl (congrArg Bool.not rfl) rfl (op_callF Fa.C25 rfl ((freeL_ok c2 pg v14 he mb2 cn28 gs28 lq28 _ (H28.cellsAt (i := 1) rfl) (H28.arrO (i := 2) rfl) (H28.mp (i := 3) rfl) (H28.bsG (i := 4) rfl) (H28.dpO (i := 5) rfl) hi28).mono (fun e w29 hq => ?_)))
      obtain ⟨rfl, hf29⟩ := hq
      refine ⟨_, rfl, ?_⟩
      have H29 := H28.fr' hf29
      refine WL.yes rfl rfl rfl (congrArg Bool.not rfl) rfl (op_move rfl ?_)
      refine WL.yes rfl rfl rfl (congrArg Bool.not rfl) rfl (op_callF Fa.C37 rfl ((rfree_ok b17 pg hev rv28 he rl28 _ (H29.cellsAt (i := 6) rfl) (H29.arrO (i := 0) rfl) (H29.arrR (i := 7) rfl) (H29.dpO (i := 8) rfl) (Nat.lt_of_le_of_lt hz28.len (by decide))).mono (fun e w30 hq => ?_)))
      obtain ⟨rfl, hf30⟩ := hq
      refine ⟨_, rfl, ?_⟩
      have H30 := H29.fr' hf30
      refine WL.yes rfl rfl rfl (congrArg Bool.not rfl) rfl (op_neqU32 rfl rfl ?_)
      refine wo (op_pickF rfl (congrArg Bool.not rfl) rfl ?_)
      refine wo (op_move rfl ?_)
      refine WL.yes rfl rfl rfl (decide_eq_false (fun h => h hz28.free)) rfl (op_move rfl ?_)
      refine WL.yes rfl rfl rfl (decide_eq_false (fun h => h hz28.free)) rfl (op_move rfl ?_)
      refine WL.yes rfl rfl rfl (decide_eq_false (fun h => h hz28.free)) rfl (op_move rfl ?_)
      refine WL.yes rfl rfl rfl (decide_eq_false (fun h => h hz28.free)) rfl (op_move rfl ?_)
      refine WL.yes rfl rfl rfl (decide_eq_false (fun h => h hz28.free)) rfl (op_indexAddr Try.underlying49 Fa.I61 rfl (H30.arr hA) rfl (by omega) ?_)
      refine WL.yes rfl rfl rfl (decide_eq_false (fun h => h hz28.free)) rfl (op_fieldAddrS rfl Fa.F61_1 ?_)
      refine WL.yes rfl rfl rfl (decide_eq_false (fun h => h hz28.free)) rfl (op_load rfl (Arr.atF (k := 1) (H30.arr hA) (fun _ => rfl) (by decide) Sts.zero (by omega) rfl) Try.underlying3 rfl ?_)
      refine WL.yes rfl rfl rfl (decide_eq_false (fun h => h hz28.free)) rfl (op_move rfl ?_)
      refine WL.yes rfl rfl rfl (decide_eq_false (fun h => h hz28.free)) rfl (op_move rfl ?_)
      refine WL.yes rfl rfl rfl (decide_eq_false (fun h => h hz28.free)) rfl (op_move rfl ?_)
      refine WL.yes rfl rfl rfl (decide_eq_false (fun h => h hz28.free)) rfl (op_callF Fa.C38 rfl ((tells_ok c2 pg v14 he mb2 cn28 gs28 b17 hev rv28 rl28 lq28 ((l.getD i Sts.zero).e) id bk y _ (H30.cellsAt (i := 1) rfl) (H30.arrO (i := 2) rfl) (H30.mp (i := 3) rfl) (H30.bsG (i := 4) rfl) (H30.dpO (i := 5) rfl) (H30.cellsAt (i := 6) rfl) (H30.arrO (i := 0) rfl) (H30.arrR (i := 7) rfl) (H30.dpO (i := 8) rfl) hi28 hz28 (Nat.lt_of_le_of_lt hz28.len (by decide)) (hz28.fit hi28)).mono (fun e w31 hq => ?_)))
      obtain ⟨rfl, hf31⟩ := hq
      refine ⟨_, rfl, ?_⟩
      have H31 := H30.fr' hf31
      refine WL.yes rfl rfl rfl (decide_eq_false (fun h => h hz28.free)) rfl (op_not rfl ?_)
      refine wo (op_pickF rfl (decide_eq_false (fun h => h hz28.free)) rfl ?_)
      refine wn ?_
      refine WC.no rfl (congrArg Bool.not rfl) ?_
      refine WC.skip ?_
      refine WQ.inNormal ?_
      refine WQ.next ?_
      refine WC.region ?_
      refine wo (op_move rfl ?_)
      refine wo (op_addN (b := 1) rfl rfl (by omega) ?_)
      refine wo (op_assign rfl ?_)
      refine WL.nil ?_
      exact WQ.round (i + 1, c2, mb2, cn28, gs28, lq28, rv28, rl28) ⟨⟨by omega, hi28, hz28⟩, (H31.take 9)⟩ ⟨rfl, rfl, rfl, rfl, rfl, rfl, rfl, trivial⟩ (by show l.length - (i + 1) < l.length - i; omega)
    ·
     have hc21 := of_decide_eq_false hb21
     refine WC.exit ?_
     refine WQ.thenExit ?_
     refine WQ.thenExit ?_
     refine WQ.inHere ?_
     refine WQ.next ?_
     refine ws ?_
     refine wo (op_move rfl ?_)
     refine wo (op_callF Fa.C24 rfl ((envs_ok c pg v14 he mb cn gs m _ (H20.cellsAt (i := 1) rfl) (H20.arrO (i := 2) rfl) (H20.mp (i := 3) rfl) (H20.bsG (i := 4) rfl) (H20.dpO (i := 5) rfl) hR (Nat.lt_of_le_of_lt (hQ.glen hR) (by decide))).mono (fun e w32 hq => ?_)))
     obtain ⟨v32, ks32, rfl, hk32, hq32⟩ := hq
     refine ⟨_, rfl, ?_⟩
     have H32 : Owl.Own [] w w32 [Ent.ar hev 1 he.length (List.map vU32 he), .blk c [(vU32 pg), v14, (.map (some mb))] 112, Ent.ar v14 1 he.length (List.map vU32 he), .obj mb (mP .i64 (List.map Gr.me gs) cn), Ent.bs 120 Gr.cells Gr.b gs, Ent.dp grD.list gs, .blk b17 [(vU32 pg), hev, rv] 81, .row rv 86 7 rl.length (List.flatMap rgc rl), Ent.dp grD.list rl, .row v32 3 1 ks32.length (List.map vN ks32)] := H20.splice [] [] [.row v32 3 1 ks32.length (List.map vN ks32)] rfl rfl hq32 (Fits.solid True.intro Fits.nil)
     refine wo (op_assign rfl ?_)
     refine wn ?_
     refine WC.seq ?_
     refine ws ?_
     obtain ⟨hp, hs⟩ := hk32
     obtain rfl := hQ.envs hp hs
     have hlm : (rl.map Gr.e).length = rl.length := List.length_map _
     have hql := hQ.len
     refine wo (op_move rfl ?_)
     refine wo (op_lenA Try.underlying64 rfl (H32.arrR (i := 9) rfl) ?_)
     refine wo (op_move rfl ?_)
     refine wo (op_nilCheck rfl ?_)
     refine wo (op_fieldAddr rfl Fa.F81_1 ?_)
     refine wo (op_load rfl (H32.cell (i := 6) rfl rfl) Try.underlying79 rfl ?_)
     refine wo (op_lenA Try.underlying79 rfl (H32.arrR (i := 7) rfl) ?_)
     refine wo (op_neqN rfl rfl ?_)
     refine wn ?_
     refine WC.no rfl (decide_eq_false (fun h => h (by rw [List.length_map]))) ?_
     refine WC.skip ?_
     refine WQ.next ?_
     refine WC.seq ?_
     refine ws ?_
     refine wo (op_assign rfl ?_)
     refine wn ?_
     refine WC.block ?_
     refine WC.loop (α := Nat) (fun k => [(2, (vU32 id)), (3, (vU32 bk)), (4, (vU16 y)), (12, (ptr c 0)), (14, (ptr b17 0)), (17, v32), (18, (vN k))]) (fun k w' => (k ≤ rl.length) ∧ Owl.Own [] w w' [Ent.ar hev 1 he.length (List.map vU32 he), .blk c [(vU32 pg), v14, (.map (some mb))] 112, Ent.ar v14 1 he.length (List.map vU32 he), .obj mb (mP .i64 (List.map Gr.me gs) cn), Ent.bs 120 Gr.cells Gr.b gs, Ent.dp grD.list gs, .blk b17 [(vU32 pg), hev, rv] 81, .row rv 86 7 rl.length (List.flatMap rgc rl), Ent.dp grD.list rl, .row v32 3 1 (rl.map Gr.e).length (List.map vN (rl.map Gr.e))]) (fun k => rl.length - k) 0 ⟨(Nat.zero_le _), H32⟩ ⟨rfl, rfl, rfl, rfl, rfl, rfl, rfl, trivial⟩ ?_
     rintro k w33 ⟨hkk, H33⟩
     show WC _ _ _ _ _ [(2, (vU32 id)), (3, (vU32 bk)), (4, (vU16 y)), (12, (ptr c 0)), (14, (ptr b17 0)), (17, v32), (18, (vN k))] _
     refine WC.seq ?_
     refine ws ?_
     refine wo (op_move rfl ?_)
     refine wo (op_move rfl ?_)
     refine wo (op_lenA Try.underlying64 rfl (H33.arrR (i := 9) rfl) ?_)
     refine wo (op_lssN rfl rfl ?_)
     refine wn ?_
     refine WC.cond rfl (fun (hb34 : (decide (k < (rl.map Gr.e).length)) = true) => ?_) (fun (hb34 : (decide (k < (rl.map Gr.e).length)) = false) => ?_)
     ·
      have hc34 := of_decide_eq_true hb34
      refine WC.skip ?_
      refine WQ.next ?_
      refine WC.seq ?_
      refine WC.block ?_
      refine WC.seq ?_
      refine WC.draw 26 Fa.M H33 (HW.op rfl (fun w1 H1 => op_move rfl ⟨rfl, Fr.refl _ _⟩) (HW.op rfl (fun w1 H1 => op_move rfl ⟨rfl, Fr.refl _ _⟩) (HW.op rfl (fun w1 H1 => op_indexAddr1 Try.underlying64 Fa.I3 rfl (H1.arrR (i := 9) rfl) rfl (by omega) ⟨rfl, Fr.refl _ _⟩) (HW.op rfl (fun w1 H1 => op_load rfl ((H1.arrR (i := 9) rfl).at (get_map vN 0 (Arr.ltM (H1.arrR (i := 9) rfl) (by omega)))) Try.underlying3 rfl ⟨rfl, Fr.refl _ _⟩) (HW.op rfl (fun w1 H1 => op_move rfl ⟨rfl, Fr.refl _ _⟩) (HW.op rfl (fun w1 H1 => op_nilCheck rfl ⟨rfl, Fr.refl _ _⟩) (HW.op rfl (fun w1 H1 => op_fieldAddr rfl Fa.F81_1 ⟨rfl, Fr.refl _ _⟩) (HW.op rfl (fun w1 H1 => op_load rfl (H1.cell (i := 6) rfl rfl) Try.underlying79 rfl ⟨rfl, Fr.refl _ _⟩) (HW.op rfl (fun w1 H1 => op_move rfl ⟨rfl, Fr.refl _ _⟩) (HW.op rfl (fun w1 H1 => op_indexAddr Try.underlying79 Fa.I86 rfl (H1.arrR (i := 7) rfl) rfl (by omega) ⟨rfl, Fr.refl _ _⟩) (HW.op rfl (fun w1 H1 => op_fieldAddrS rfl Fa.F86_0 ⟨rfl, Fr.refl _ _⟩) (HW.op rfl (fun w1 H1 => op_load rfl (Arr.atF (k := 0) (H1.arrR (i := 7) rfl) (fun _ => rfl) (by decide) Gr.no (by omega) rfl) Try.underlying3 rfl ⟨rfl, Fr.refl _ _⟩) (HW.op rfl (fun w1 H1 => op_neqN rfl rfl ⟨rfl, Fr.refl _ _⟩) (HW.op rfl (fun w1 H1 => op_move rfl ⟨rfl, Fr.refl _ _⟩) (HW.yes rfl rfl rfl (decide_eq_false (fun h => h (mapE_getD (by omega)))) (fun w1 H1 => op_move rfl ⟨rfl, Fr.refl _ _⟩) (HW.yes rfl rfl rfl (decide_eq_false (fun h => h (mapE_getD (by omega)))) (fun w1 H1 => op_move rfl ⟨rfl, Fr.refl _ _⟩) (HW.yes rfl rfl rfl (decide_eq_false (fun h => h (mapE_getD (by omega)))) (fun w1 H1 => op_move rfl ⟨rfl, Fr.refl _ _⟩) (HW.yes rfl rfl rfl (decide_eq_false (fun h => h (mapE_getD (by omega)))) (fun w1 H1 => op_move rfl ⟨rfl, Fr.refl _ _⟩) (HW.yes rfl rfl rfl (decide_eq_false (fun h => h (mapE_getD (by omega)))) (fun w1 H1 => op_indexAddr1 Try.underlying64 Fa.I3 rfl (H1.arrR (i := 9) rfl) rfl (by omega) ⟨rfl, Fr.refl _ _⟩) (HW.yes rfl rfl rfl (decide_eq_false (fun h => h (mapE_getD (by omega)))) (fun w1 H1 => op_load rfl ((H1.arrR (i := 9) rfl).at (get_map vN 0 (Arr.ltM (H1.arrR (i := 9) rfl) (by omega)))) Try.underlying3 rfl ⟨rfl, Fr.refl _ _⟩) (HW.yes rfl rfl rfl (decide_eq_false (fun h => h (mapE_getD (by omega)))) (fun w1 H1 => op_move rfl ⟨rfl, Fr.refl _ _⟩) (HW.yes rfl rfl rfl (decide_eq_false (fun h => h (mapE_getD (by omega)))) (fun w1 H1 => op_move rfl ⟨rfl, Fr.refl _ _⟩) (HW.yes rfl rfl rfl (decide_eq_false (fun h => h (mapE_getD (by omega)))) (fun w1 H1 => op_move rfl ⟨rfl, Fr.refl _ _⟩) (HW.yes rfl rfl rfl (decide_eq_false (fun h => h (mapE_getD (by omega)))) (fun w1 H1 => op_callF Fa.C38 rfl ((tells_ok c pg v14 he mb cn gs b17 hev rv rl m ((((rl.map Gr.e).getD k 0) : Nat) : Int) id bk y _ (H1.cellsAt (i := 1) rfl) (H1.arrO (i := 2) rfl) (H1.mp (i := 3) rfl) (H1.bsG (i := 4) rfl) (H1.dpO (i := 5) rfl) (H1.cellsAt (i := 6) rfl) (H1.arrO (i := 0) rfl) (H1.arrR (i := 7) rfl) (H1.dpO (i := 8) rfl) hR hQ (Nat.lt_of_le_of_lt hQ.len (by decide)) (hQ.fit hR)).mono (fun e w2 hq => ⟨_, hq.1, rfl, hq.2⟩))) (HW.yes rfl rfl rfl (decide_eq_false (fun h => h (mapE_getD (by omega)))) (fun w1 H1 => op_not rfl ⟨rfl, Fr.refl _ _⟩) (HW.op rfl (fun w1 H1 => op_pickF rfl (decide_eq_false (fun h => h (mapE_getD (by omega)))) rfl ⟨rfl, Fr.refl _ _⟩)  HW.nil)))))))))))))))))))))))))) (by kernel_rfl) ?_
      intro β36 w36 H36
      refine wn ?_
      refine WC.no rfl (congrArg Bool.not rfl) ?_
      refine WC.skip ?_
      refine WQ.inNormal ?_
      refine WQ.next ?_
      refine WC.region ?_
      refine wo (op_move rfl ?_)
      refine wo (op_addN (b := 1) rfl rfl (by omega) ?_)
      refine wo (op_assign rfl ?_)
      refine WL.nil ?_
      exact WQ.round (k + 1) ⟨(by omega), H36⟩ ⟨rfl, rfl, rfl, rfl, rfl, rfl, rfl, trivial⟩ (by show rl.length - (k + 1) < rl.length - k; omega)
     ·
      have hc34 := of_decide_eq_false hb34
      refine WC.exit ?_
      refine WQ.thenExit ?_
      refine WQ.thenExit ?_
      refine WQ.inHere ?_
      refine WQ.next ?_
      refine ws ?_
      refine wo (op_callF Fa.C17 rfl ((calive_ok _).mono (fun e w37 hq => ?_)))
      obtain ⟨rfl, hf37⟩ := hq
      refine ⟨_, rfl, ?_⟩
      have H37 := H33.fr' hf37
      refine wo (op_assign rfl ?_)
      refine wn ?_
      refine WC.ret ?_
      refine WQ.out (.tmp rfl .nil) ?_
      exact ⟨rfl, H37.fr⟩
   ·
    have hc13 := of_decide_eq_false hb13
    refine wo (op_callF Fa.C18 rfl ((capsNewB_ok pg _ he _ (H12.arrR (i := 3) rfl) (by omega) (of_decide_eq_false hb13)).mono (fun e w38 hq => ?_)))
    obtain ⟨rfl, hf38⟩ := hq
    refine ⟨_, rfl, ?_⟩
    have H38 := H12.fr' hf38
    refine wo (op_move rfl ?_)
    refine wo (op_extract rfl rfl ?_)
    refine wo (op_extract rfl rfl ?_)
    refine wo (op_assign rfl ?_)
    refine wo (op_assign rfl ?_)
    refine wn ?_
    refine WC.seq ?_
    refine ws ?_
    refine wo (op_loadS (vs := [_, _]) rfl (H38.cells (i := 1) rfl rfl) Try.underlying48 rfl Fa.I48 rfl ?_)
    refine wo (op_callF Fa.C33 rfl ((rmayH_ok pg _ he _ (H38.arrO (i := 0) rfl) (by omega)).mono (fun e w39 hq => ?_)))
    obtain ⟨rfl, hf39⟩ := hq
    refine ⟨_, rfl, ?_⟩
    have H39 := H38.fr' hf39
    refine wo (op_not rfl ?_)
    refine wn ?_
    refine WC.yes rfl (congrArg Bool.not hb13) ?_
    refine ws ?_
    refine wo (op_move rfl ?_)
    refine wo (op_eqlPN Fa.PT52 rfl rfl ?_)
    refine wo (op_move rfl ?_)
    refine WL.yes rfl rfl rfl rfl rfl (op_move rfl ?_)
    refine WL.yes rfl rfl rfl rfl rfl (op_eqlN (b := 2) rfl rfl ?_)
    refine wo (op_pickT rfl rfl rfl ?_)
    refine wo (op_move rfl ?_)
    refine WL.yes rfl rfl rfl (by decide) rfl (op_loadS (vs := [_, _]) rfl (H39.cells (i := 1) rfl rfl) Try.underlying48 rfl Fa.I48 rfl ?_)
    refine WL.yes rfl rfl rfl (by decide) rfl (op_callF Fa.C34 rfl ((hardE_ok pg _ he _ (H39.arrO (i := 0) rfl) (by omega)).mono (fun e w40 hq => ?_)))
    obtain ⟨rfl, hf40⟩ := hq
    refine ⟨_, rfl, ?_⟩
    have H40 := H39.fr' hf40
    refine WL.yes rfl rfl rfl (by decide) rfl (op_eqlN (b := 2) rfl rfl ?_)
    refine wo (op_pickT rfl (by decide) rfl ?_)
    refine wo (op_move rfl ?_)
    refine WL.yes rfl rfl rfl (decide_eq_true (hardE_2 (of_decide_eq_false hb13))) rfl (op_callF Fa.C17 rfl ((calive_ok _).mono (fun e w41 hq => ?_)))
    obtain ⟨rfl, hf41⟩ := hq
    refine ⟨_, rfl, ?_⟩
    have H41 := H40.fr' hf41
    refine wo (op_pickT rfl (decide_eq_true (hardE_2 (of_decide_eq_false hb13))) rfl ?_)
    refine wo (op_assign rfl ?_)
    refine wn ?_
    refine WC.ret ?_
    refine WQ.thenRet ?_
    refine WQ.out (.tmp rfl .nil) ?_
    exact ⟨rfl, H41.fr⟩
end Go.Proofs.Ytbjhccnffacbcaa
