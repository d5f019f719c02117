/- General lemmas and walks: WCap18. No condition but what each theorem names. -/
import Derived.Test.YtbjhccnffacbcaaQ167b1005
import Derived.Test.YtbjhccnffacbcaaQd827312b
/-! from WCap18 -/
namespace Go.Proofs.Ytbjhccnffacbcaa
open Go.Owl Go.Spec
set_option maxRecDepth 100000 in
theorem copy11_ok (mp : UInt32) (ev pv : Value) (xs : List Xt) (ps : List UInt16) (con : Bool) (w : World) (hE : Arr w ev 2 xs.length (List.flatMap xtc xs)) (hP : Arr w pv 1 ps.length (List.map vU16 ps)) (hn : xs.length < 2 ^ 40) (hm : ps.length < 2 ^ 40) :
    Calls Try.prog 20 #[(.agg #[(vU32 mp), ev, pv, (.bool con)])] w (fun e w' => ∃ v u, e = .returned (.agg #[vU32 mp, v, u, .bool con]) ∧ Owl.Own [] w w' [.row v 108 2 xs.length (List.flatMap xtc xs), .row u 50 1 ps.length (List.map vU16 ps)]) := by
  refine enter (args := [(.agg #[(vU32 mp), ev, pv, (.bool con)])]) Try.func20 rfl rfl ?_
  have H0 : Owl.Own [] w w [] := Own.start w []
  refine WC.seq ?_
  refine WC.region ?_
  refine WL.op rfl rfl (op_box H0 rfl rfl (fun b1 w1 H1 => ?_))
  refine WL.op rfl rfl (op_alloc H1 Fa.I59 (fun b2 w2 H2 => ?_))
  refine WL.nil ?_
  refine WQ.next ?_
  refine WC.seq ?_
  refine WC.region ?_
  refine WL.op rfl rfl (op_fieldAddr rfl Fa.F59_1 ?_)
  refine WL.op rfl rfl (op_load rfl (H2.cell (i := 0) rfl rfl) Try.underlying56 rfl ?_)
  have H4 := H2.nilRow 108 2
  refine WL.op rfl rfl (op_appendF (f := xtc) (l := []) (l' := xs) (i := 2) H4 Try.underlying56 Fa.I108 rfl rfl rfl rfl (Src.ofArr Try.underlying56 (H4.arr hE)) (one_flat (fun _ => by simp [xtc, Value.oneCell'])) (by omega) (by omega) (fun v3 w3 H3 => ?_))
  refine WL.op rfl rfl (op_fieldAddr rfl Fa.F59_1 ?_)
  refine WL.op rfl rfl (op_storeB (i := 0) H3 rfl rfl rfl rfl (Arr.one (H3.arrR (i := 2) rfl)) Fa.I56 (fun w5 H5 => ?_))
  refine WL.nil ?_
  refine WQ.next ?_
  refine WC.seq ?_
  refine WC.region ?_
  refine WL.op rfl rfl (op_fieldAddr rfl Fa.F59_2 ?_)
  refine WL.op rfl rfl (op_load rfl (H5.cell (i := 0) rfl rfl) Try.underlying57 rfl ?_)
  have H7 := H5.nilRow 50 1
  refine WL.op rfl rfl (op_appendM (f := vU16) (l := []) (l' := ps) (i := 3) H7 Try.underlying57 Fa.I50 rfl rfl rfl rfl (Src.ofArr Try.underlying57 (H7.arr hP)) (one_mapM (fun _ => rfl)) (by omega) (by omega) (fun v6 w6 H6 => ?_))
  refine WL.op rfl rfl (op_fieldAddr rfl Fa.F59_2 ?_)
  refine WL.op rfl rfl (op_storeB (i := 0) H6 rfl rfl rfl rfl (Arr.one (H6.arrR (i := 3) rfl)) Fa.I57 (fun w8 H8 => ?_))
  refine WL.nil ?_
  refine WQ.next ?_
  refine WC.seq ?_
  refine WC.region ?_
  refine WL.op rfl rfl (op_loadS (vs := [_, _, _, _]) rfl (H8.cells (i := 0) rfl rfl) Try.underlying59 rfl Fa.I59 rfl ?_)
  refine WL.op rfl rfl (op_storeBW (i := 1) H8 rfl rfl rfl rfl (one_cons rfl (one_cons (Arr.one (H8.arrR (i := 2) rfl)) (one_cons (Arr.one (H8.arrR (i := 3) rfl)) (one_cons rfl one_nil)))) Fa.I59 (fun w9 H9 => ?_))
  refine WL.nil ?_
  refine WQ.next ?_
  refine WC.ret ?_
  refine WQ.out (.cell rfl (run_loadVarS (vs := [_, _, _, _]) (H9.cells (i := 1) rfl rfl) Try.underlying59 rfl Fa.I59 rfl) .nil) ?_
  exact ⟨_, _, rfl, (by have h := (show Owl.Own [] w w9 [.blk b1 [(vU32 mp), v3, v6, (.bool con)] 59, .blk b2 [(vU32 mp), v3, v6, (.bool con)] 59, .row v3 108 2 (0 + xs.length) (List.flatMap xtc ([] ++ xs)), .row v6 50 1 (0 + ps.length) (List.map vU16 ([] ++ ps))] from H9); have h2 := Owl.Own.sel h [2, 3] rfl rfl; simp only [Nat.zero_add, List.nil_append] at h2; exact h2)⟩
set_option maxHeartbeats 20000000 in
set_option maxRecDepth 100000 in
theorem capsApart_ok (pg : UInt32) (hev lv : Value) (he : List UInt32) (l : List Sts) (id bk : UInt32) (y : UInt16) (w : World) (hH : Arr w hev 1 he.length (List.map vU32 he)) (hA : Arr w lv 7 l.length (List.flatMap stc l)) (hI : StD.list.ok w l) (hn : he.length < 2 ^ 47) (hl : l.length < 2 ^ 47) :
    Calls Try.prog 5 #[(.agg #[(vU32 pg), hev]), lv, (vU32 id), (vU32 bk), (vU16 y)] w (fun e w' => e = .returned (.bool true) ∧ Fr [] w w') := by
  refine enter (args := [(.agg #[(vU32 pg), hev]), lv, (vU32 id), (vU32 bk), (vU16 y)]) Try.func5 rfl rfl ?_
  have H0 : Owl.Own [] w w [] := Own.start w []
  refine WC.seq ?_
  refine WC.region ?_
  refine WL.op rfl rfl (op_box H0 rfl rfl (fun b1 w1 H1 => ?_))
  refine WL.op rfl rfl (op_assign rfl ?_)
  refine WL.nil ?_
  refine WQ.next ?_
  refine WC.seq ?_
  refine WC.seq ?_
  refine WC.region ?_
  refine WL.op rfl rfl (op_move rfl ?_)
  refine WL.op rfl rfl (op_callF Fa.C16 rfl ((heavy_ok lv l _ (H1.arr hA) (StD.list.fr0 hI H1.fr) hl).mono (fun e w2 hq => ?_)))
  obtain ⟨rfl, hf2⟩ := hq
  refine ⟨_, rfl, ?_⟩
  have H2 := H1.fr' hf2
  refine WL.op rfl rfl (op_move rfl ?_)
  refine WL.split (t := 26) rfl (fun (hb3 : (heavyC l) = true) => ?_) (fun (hb3 : (heavyC l) = false) => ?_)
  ·
    refine WL.no rfl rfl rfl hb3 rfl ?_
    refine WL.no rfl rfl rfl hb3 rfl ?_
    refine WL.no rfl rfl rfl hb3 rfl ?_
    refine WL.no rfl rfl rfl hb3 rfl ?_
    refine WL.op rfl rfl (op_pickT rfl hb3 rfl ?_)
    refine WL.nil ?_
    refine WQ.next ?_
    refine WC.yes rfl rfl ?_
    refine WC.seq ?_
    refine WC.region ?_
    refine WL.op rfl rfl (op_callF Fa.C17 rfl ((calive_ok _).mono (fun e w4 hq => ?_)))
    obtain ⟨rfl, hf4⟩ := hq
    refine ⟨_, rfl, ?_⟩
    have H4 := H2.fr' hf4
    refine WL.op rfl rfl (op_assign rfl ?_)
    refine WL.nil ?_
    refine WQ.next ?_
    refine WC.ret ?_
    refine WQ.thenRet ?_
    refine WQ.out (.tmp rfl .nil) ?_
    exact ⟨rfl, H4.fr⟩
  ·
    have hhv := heavyC_no hb3
    refine WL.yes rfl rfl rfl hb3 rfl (op_fieldAddr rfl Fa.F48_1 ?_)
    refine WL.yes rfl rfl rfl hb3 rfl (op_load rfl (H2.cell (i := 0) rfl rfl) Try.underlying46 rfl ?_)
    refine WL.yes rfl rfl rfl hb3 rfl (op_lenA Try.underlying46 rfl (H2.arr hH) ?_)
    refine WL.yes rfl rfl rfl hb3 rfl (op_gtrN (b := 40) rfl rfl ?_)
    refine WL.op rfl rfl (op_pickF rfl hb3 rfl ?_)
    refine WL.nil ?_
    refine WQ.next ?_
    refine WC.cond rfl (fun (hb5 : (decide (he.length > 40)) = true) => ?_) (fun (hb5 : (decide (he.length > 40)) = false) => ?_)
    ·
      have hc5 := of_decide_eq_true hb5
      refine WC.seq ?_
      refine WC.region ?_
      refine WL.op rfl rfl (op_callF Fa.C17 rfl ((calive_ok _).mono (fun e w6 hq => ?_)))
      obtain ⟨rfl, hf6⟩ := hq
      refine ⟨_, rfl, ?_⟩
      have H6 := H2.fr' hf6
      refine WL.op rfl rfl (op_assign rfl ?_)
      refine WL.nil ?_
      refine WQ.next ?_
      refine WC.ret ?_
      refine WQ.thenRet ?_
      refine WQ.out (.tmp rfl .nil) ?_
      exact ⟨rfl, H6.fr⟩
    ·
      have hc5 := of_decide_eq_false hb5
      refine WC.skip ?_
      refine WQ.next ?_
      refine WC.seq ?_
      refine WC.region ?_
      refine WL.op rfl rfl (op_loadS (vs := [_, _]) rfl (H2.cells (i := 0) rfl rfl) Try.underlying48 rfl Fa.I48 rfl ?_)
      refine bsplit (fun (hb7 : (decide (hardE pg he = 0)) = true) => ?_) (fun (hb7 : (decide (hardE pg he = 0)) = false) => ?_)
      ·
        have hc7 := of_decide_eq_true hb7
        refine WL.op rfl rfl (op_callF Fa.C18 rfl ((capsNew2_ok pg _ he _ (H2.arr hH) (by omega) (of_decide_eq_true hb7)).mono (fun e w8 hq => ?_)))
        obtain ⟨c8, v8, mb8, rfl, hv8, hq8⟩ := hq
        refine ⟨_, rfl, ?_⟩
        have H8 : Owl.Own [] w w8 [.blk b1 [(vU32 pg), hev] 48, .blk c8 [(vU32 pg), v8, (.map (some mb8))] 112, Ent.ar v8 1 he.length (List.map vU32 he), .obj mb8 (mP .i64 (List.map Gr.me []) 0), Ent.bs 120 Gr.cells Gr.b [], Ent.dp grD.list []] := H2.splice [] [] [.blk c8 [(vU32 pg), v8, (.map (some mb8))] 112, Ent.ar v8 1 he.length (List.map vU32 he), .obj mb8 (mP .i64 (List.map Gr.me []) 0), Ent.bs 120 Gr.cells Gr.b [], Ent.dp grD.list []] rfl rfl hq8 (Fits.solid True.intro (Fits.fresh hv8 (Fits.solid True.intro (Fits.solid True.intro (Fits.fresh (fun b hb => by cases hb) Fits.nil)))))
        refine WL.op rfl rfl (op_move rfl ?_)
        refine WL.op rfl rfl (op_extract rfl rfl ?_)
        refine WL.op rfl rfl (op_extract rfl rfl ?_)
        refine WL.op rfl rfl (op_assign rfl ?_)
        refine WL.op rfl rfl (op_assign rfl ?_)
        refine WL.nil ?_
        refine WQ.next ?_
        refine WC.seq ?_
        refine WC.seq ?_
        refine WC.region ?_
        refine WL.op rfl rfl (op_move rfl ?_)
        refine WL.op rfl rfl (op_neqN (b := 0) rfl rfl ?_)
        refine WL.op rfl rfl (op_move rfl ?_)
        refine WL.yes rfl rfl rfl (by decide) rfl (op_move rfl ?_)
        refine WL.yes rfl rfl rfl (by decide) rfl (op_eqlPN Fa.PT52 rfl rfl ?_)
        refine WL.op rfl rfl (op_pickF rfl (by decide) rfl ?_)
        refine WL.nil ?_
        refine WQ.next ?_
        refine WC.no rfl rfl ?_
        refine WC.skip ?_
        refine WQ.next ?_
        refine WC.seq ?_
        refine WC.region ?_
        refine WL.op rfl rfl (op_alloc H8 Fa.I55 (fun b9 w9 H9 => ?_))
        refine WL.nil ?_
        refine WQ.next ?_
        refine WC.seq ?_
        refine WC.seq ?_
        refine WC.region ?_
        have H10 : Owl.Own [] w w9 [.blk b1 [(vU32 pg), hev] 48, .blk c8 [(vU32 pg), v8, (.map (some mb8))] 112, Ent.ar v8 1 he.length (List.map vU32 he), .obj mb8 (mP .i64 (List.map Gr.me []) 0), Ent.bs 120 Gr.cells Gr.b [], Ent.dp grD.list [], .blk b9 ([] ++ (List.map vU32 (List.replicate 9 0))) 55] := Owl.Own.blkEq (i := 6) H9 rfl rfl
        refine WL.op rfl rfl (op_assign rfl ?_)
        refine WL.nil ?_
        refine WQ.next ?_
        refine WC.block ?_
        refine WC.loop (α := Nat × List UInt32 × Nat × List Gr × List Gr) (fun (i, tb, cn, gs, m) => [(1, lv), (2, (vU32 id)), (3, (vU32 bk)), (4, (vU16 y)), (5, (ptr b1 0)), (11, (ptr c8 0)), (13, (ptr b9 0)), (14, (vN i))]) (fun (i, tb, cn, gs, m) w' => (i ≤ l.length ∧ CapR gs cn m ∧ Lw he m tb) ∧ Owl.Own [] w w' [.blk b1 [(vU32 pg), hev] 48, .blk c8 [(vU32 pg), v8, (.map (some mb8))] 112, Ent.ar v8 1 he.length (List.map vU32 he), .obj mb8 (mP .i64 (List.map Gr.me gs) cn), Ent.bs 120 Gr.cells Gr.b gs, Ent.dp grD.list gs, .blk b9 ([] ++ (List.map vU32 tb)) 55]) (fun (i, tb, cn, gs, m) => l.length - i) (0, List.replicate 9 0, 0, [], []) ⟨⟨Nat.zero_le _, CapR.nil 0, Lw.nil⟩, H10⟩ ⟨rfl, rfl, rfl, rfl, rfl, rfl, rfl, rfl, trivial⟩ ?_
        rintro ⟨i, tb, cn, gs, m⟩ w11 ⟨⟨hi, hR, hL⟩, H11⟩
        show WC _ _ _ _ _ [(1, lv), (2, (vU32 id)), (3, (vU32 bk)), (4, (vU16 y)), (5, (ptr b1 0)), (11, (ptr c8 0)), (13, (ptr b9 0)), (14, (vN i))] _
        have htl := hL.tl
        refine WC.seq ?_
        refine WC.seq ?_
        refine WC.region ?_
        refine WL.op rfl rfl (op_move rfl ?_)
        refine WL.op rfl rfl (op_move rfl ?_)
        refine WL.op rfl rfl (op_lenA Try.underlying49 rfl (H11.arr hA) ?_)
        refine WL.op rfl rfl (op_lssN rfl rfl ?_)
        refine WL.nil ?_
        refine WQ.next ?_
        refine WC.cond rfl (fun (hb12 : (decide (i < l.length)) = true) => ?_) (fun (hb12 : (decide (i < l.length)) = false) => ?_)
        ·
          have hc12 := of_decide_eq_true hb12
          have hsz := hhv.2 i (by omega)
          refine WC.skip ?_
          refine WQ.next ?_
          refine WC.seq ?_
          refine WC.block ?_
          refine WC.seq ?_
          refine WC.region ?_
          refine WL.op rfl rfl (op_move rfl ?_)
          refine WL.op rfl rfl (op_move rfl ?_)
          refine WL.op rfl rfl (op_indexAddr Try.underlying49 Fa.I61 rfl (H11.arr hA) rfl (by omega) ?_)
          refine WL.op rfl rfl (op_loadSP (vs := stc (l.getD i Sts.zero)) rfl (Arr.atsF (H11.arr hA) (fun _ => rfl) (by decide) Sts.zero (by omega)) Try.underlying61 rfl Fa.I61 rfl ?_)
          refine WL.op rfl rfl (op_alloc H11 Fa.I61 (fun b13 w13 H13 => ?_))
          refine WL.op rfl rfl (op_storeBW (i := 7) H13 rfl rfl rfl rfl (one_cons rfl (one_cons rfl (one_cons rfl (one_cons (Arr.one ((StD_xs (Deep.getD StD (StD.list.fr0 hI H13.fr) Sts.zero (StD_zero _) i)))) (one_cons (Arr.one ((StD_ps (Deep.getD StD (StD.list.fr0 hI H13.fr) Sts.zero (StD_zero _) i)))) (one_cons rfl (one_cons rfl one_nil))))))) Fa.I61 (fun w14 H14 => ?_))
          refine WL.nil ?_
          refine WQ.next ?_
          refine WC.seq ?_
          refine WC.region ?_
          refine WL.op rfl rfl (op_assign rfl ?_)
          refine WL.nil ?_
          refine WQ.next ?_
          refine WC.cut (α := List UInt32 × Nat × List Gr × List Gr) (fun (tb2, cn2, gs2, m2) => [(1, lv), (2, (vU32 id)), (3, (vU32 bk)), (4, (vU16 y)), (5, (ptr b1 0)), (11, (ptr c8 0)), (13, (ptr b9 0)), (14, (vN i))]) (fun (tb2, cn2, gs2, m2) w' => (CapR gs2 cn2 m2 ∧ Lw he m2 tb2) ∧ Owl.Own [] w w' [.blk b1 [(vU32 pg), hev] 48, .blk c8 [(vU32 pg), v8, (.map (some mb8))] 112, Ent.ar v8 1 he.length (List.map vU32 he), .obj mb8 (mP .i64 (List.map Gr.me gs2) cn2), Ent.bs 120 Gr.cells Gr.b gs2, Ent.dp grD.list gs2, .blk b9 ([] ++ (List.map vU32 tb2)) 55, .blk b13 [(vI (l.getD i Sts.zero).d), (vI (l.getD i Sts.zero).e), (vU32 (l.getD i Sts.zero).pg), (l.getD i Sts.zero).ev, (l.getD i Sts.zero).pv, (.bool (l.getD i Sts.zero).con), (vU32 (l.getD i Sts.zero).pp)] 61]) ?_ ?_
          ·
            refine WC.seq ?_
            refine WC.region ?_
            refine WL.op rfl rfl (op_fieldAddr rfl Fa.F61_0 ?_)
            refine WL.op rfl rfl (op_load rfl (H14.cell (i := 7) rfl rfl) Try.underlying3 rfl ?_)
            refine WL.nil ?_
            refine WQ.next ?_
            refine WC.block ?_
            refine WC.seq ?_
            refine WC.region ?_
            refine WL.op rfl rfl (op_eqlI (b := (0 : Int)) rfl rfl ?_)
            refine WL.op rfl rfl (op_assign rfl ?_)
            refine WL.nil ?_
            refine WQ.next ?_
            refine WC.cond rfl (fun (hb15 : (decide ((l.getD i Sts.zero).d = (0 : Int))) = true) => ?_) (fun (hb15 : (decide ((l.getD i Sts.zero).d = (0 : Int))) = false) => ?_)
            ·
              have hc15 := of_decide_eq_true hb15
              refine WC.seq ?_
              refine WC.held 10 rfl Fa.M H14 (fun w' => ∃ L', Owl.Own [] w w' ([] ++ L')) ?_
              intro w16 H16
              refine WH.take (i := 0) (v := (ptr c8 0)) rfl rfl (.inl rfl) rfl (by kernel_rfl) ⟨[.blk b1 [(vU32 pg), hev] 48, .blk c8 [(vU32 pg), v8, (.map (some mb8))] 112, Ent.ar v8 1 he.length (List.map vU32 he), .obj mb8 (mP .i64 (List.map Gr.me gs) cn), Ent.bs 120 Gr.cells Gr.b gs, Ent.dp grD.list gs, .blk b9 ([] ++ (List.map vU32 tb)) 55, .blk b13 [(vI (l.getD i Sts.zero).d), (vI (l.getD i Sts.zero).e), (vU32 (l.getD i Sts.zero).pg), (l.getD i Sts.zero).ev, (l.getD i Sts.zero).pv, (.bool (l.getD i Sts.zero).con), (vU32 (l.getD i Sts.zero).pp)] 61], H16⟩ (fun wX hSX => hSX.elim fun LX HX => op_move rfl ⟨rfl, rfl⟩) ?_
              refine WH.take (i := 1) (v := (ptr b13 1)) rfl rfl (.inl rfl) rfl (by kernel_rfl) ⟨[.blk b1 [(vU32 pg), hev] 48, .blk c8 [(vU32 pg), v8, (.map (some mb8))] 112, Ent.ar v8 1 he.length (List.map vU32 he), .obj mb8 (mP .i64 (List.map Gr.me gs) cn), Ent.bs 120 Gr.cells Gr.b gs, Ent.dp grD.list gs, .blk b9 ([] ++ (List.map vU32 tb)) 55, .blk b13 [(vI (l.getD i Sts.zero).d), (vI (l.getD i Sts.zero).e), (vU32 (l.getD i Sts.zero).pg), (l.getD i Sts.zero).ev, (l.getD i Sts.zero).pv, (.bool (l.getD i Sts.zero).con), (vU32 (l.getD i Sts.zero).pp)] 61], H16⟩ (fun wX hSX => hSX.elim fun LX HX => op_fieldAddr rfl Fa.F61_1 ⟨rfl, rfl⟩) ?_
              refine WH.take (i := 3) (v := (ptr b13 2)) rfl rfl (.inl rfl) rfl (by kernel_rfl) ⟨[.blk b1 [(vU32 pg), hev] 48, .blk c8 [(vU32 pg), v8, (.map (some mb8))] 112, Ent.ar v8 1 he.length (List.map vU32 he), .obj mb8 (mP .i64 (List.map Gr.me gs) cn), Ent.bs 120 Gr.cells Gr.b gs, Ent.dp grD.list gs, .blk b9 ([] ++ (List.map vU32 tb)) 55, .blk b13 [(vI (l.getD i Sts.zero).d), (vI (l.getD i Sts.zero).e), (vU32 (l.getD i Sts.zero).pg), (l.getD i Sts.zero).ev, (l.getD i Sts.zero).pv, (.bool (l.getD i Sts.zero).con), (vU32 (l.getD i Sts.zero).pp)] 61], H16⟩ (fun wX hSX => hSX.elim fun LX HX => op_fieldAddr rfl Fa.F61_2 ⟨rfl, rfl⟩) ?_
              refine WH.take (i := 6) (v := (ptr b13 6)) rfl rfl (.inl rfl) rfl (by kernel_rfl) ⟨[.blk b1 [(vU32 pg), hev] 48, .blk c8 [(vU32 pg), v8, (.map (some mb8))] 112, Ent.ar v8 1 he.length (List.map vU32 he), .obj mb8 (mP .i64 (List.map Gr.me gs) cn), Ent.bs 120 Gr.cells Gr.b gs, Ent.dp grD.list gs, .blk b9 ([] ++ (List.map vU32 tb)) 55, .blk b13 [(vI (l.getD i Sts.zero).d), (vI (l.getD i Sts.zero).e), (vU32 (l.getD i Sts.zero).pg), (l.getD i Sts.zero).ev, (l.getD i Sts.zero).pv, (.bool (l.getD i Sts.zero).con), (vU32 (l.getD i Sts.zero).pp)] 61], H16⟩ (fun wX hSX => hSX.elim fun LX HX => op_fieldAddr rfl Fa.F61_3 ⟨rfl, rfl⟩) ?_
              refine WH.named (fun W hW => ?_)
              have st14_12 : ∀ (v27101 : Value) (u27101 : Value) (gs27163 : List Gr) (cn27163 : Nat) (hi27163 : CapR gs27163 cn27163 (grantG pg he m ((l.getD i Sts.zero).e) ((l.getD i Sts.zero).pg) ((l.getD i Sts.zero).xs) ((l.getD i Sts.zero).ps) ((l.getD i Sts.zero).con) ((l.getD i Sts.zero).pp))) (wS : World), Owl.Own [] w wS [.blk b1 [(vU32 pg), hev] 48, .blk c8 [(vU32 pg), v8, (.map (some mb8))] 112, Ent.ar v8 1 he.length (List.map vU32 he), .obj mb8 (mP .i64 (List.map Gr.me gs27163) cn27163), Ent.bs 120 Gr.cells Gr.b gs27163, Ent.dp grD.list gs27163, .blk b9 ([] ++ (List.map vU32 tb)) 55, .blk b13 [(vI (l.getD i Sts.zero).d), (vI (l.getD i Sts.zero).e), (vU32 (l.getD i Sts.zero).pg), (l.getD i Sts.zero).ev, (l.getD i Sts.zero).pv, (.bool (l.getD i Sts.zero).con), (vU32 (l.getD i Sts.zero).pp)] 61, Ent.ar v27101 2 ((l.getD i Sts.zero).xs).length (List.flatMap xtc ((l.getD i Sts.zero).xs)), Ent.ar u27101 1 ((l.getD i Sts.zero).ps).length (List.map vU16 ((l.getD i Sts.zero).ps))] → W 0 #[true, true, true, true, true, true, true, true, true, true] [(1, lv), (2, (vU32 id)), (3, (vU32 bk)), (4, (vU16 y)), (5, (ptr b1 0)), (11, (ptr c8 0)), (13, (ptr b9 0)), (14, (vN i)), (15, (ptr b13 0)), (16, (vN (grantE pg he m ((l.getD i Sts.zero).e) ((l.getD i Sts.zero).pg) ((l.getD i Sts.zero).xs) ((l.getD i Sts.zero).ps) ((l.getD i Sts.zero).pp)))), (45, (vN i)), (46, lv), (47, (vN l.length)), (48, (.bool (decide (i < l.length)))), (51, lv), (52, (vN i)), (53, (.pointer (some (sp lv (i * 7))))), (54, (.agg #[(vI (l.getD i Sts.zero).d), (vI (l.getD i Sts.zero).e), (vU32 (l.getD i Sts.zero).pg), (l.getD i Sts.zero).ev, (l.getD i Sts.zero).pv, (.bool (l.getD i Sts.zero).con), (vU32 (l.getD i Sts.zero).pp)])), (55, (ptr b13 0)), (56, (vI (l.getD i Sts.zero).d)), (57, (.bool (decide ((l.getD i Sts.zero).d = (0 : Int))))), (58, (.bool (decide ((l.getD i Sts.zero).d = (0 : Int))))), (59, (ptr c8 0)), (60, (ptr b13 1)), (61, (vI (l.getD i Sts.zero).e)), (62, (ptr b13 2)), (63, (.agg #[(vU32 (l.getD i Sts.zero).pg), (l.getD i Sts.zero).ev, (l.getD i Sts.zero).pv, (.bool (l.getD i Sts.zero).con)])), (64, (.agg #[(vU32 ((l.getD i Sts.zero).pg)), v27101, u27101, (.bool ((l.getD i Sts.zero).con))])), (65, (ptr b13 6)), (66, (vU32 (l.getD i Sts.zero).pp)), (67, (vN (grantE pg he m ((l.getD i Sts.zero).e) ((l.getD i Sts.zero).pg) ((l.getD i Sts.zero).xs) ((l.getD i Sts.zero).ps) ((l.getD i Sts.zero).pp))))] wS := by
                intro v27101 u27101 gs27163 cn27163 hi27163 wS HS
                rw [hW]
                refine WH.done (by kernel_rfl) ?_
                refine WQ.next ?_
                refine WC.seq ?_
                refine WC.seq ?_
                refine WC.region ?_
                refine WL.op rfl rfl (op_move rfl ?_)
                refine WL.op rfl rfl (op_eqlN (b := 0) rfl rfl ?_)
                refine WL.op rfl rfl (op_move rfl ?_)
                refine WL.split (t := 70) rfl (fun (hb18 : (decide ((grantE pg he m ((l.getD i Sts.zero).e) ((l.getD i Sts.zero).pg) ((l.getD i Sts.zero).xs) ((l.getD i Sts.zero).ps) ((l.getD i Sts.zero).pp)) = 0)) = true) => ?_) (fun (hb18 : (decide ((grantE pg he m ((l.getD i Sts.zero).e) ((l.getD i Sts.zero).pg) ((l.getD i Sts.zero).xs) ((l.getD i Sts.zero).ps) ((l.getD i Sts.zero).pp)) = 0)) = false) => ?_)
                ·
                  have hc18 := of_decide_eq_true hb18
                  obtain ⟨⟨hen1, hen8⟩, -, -, -, -⟩ := grantE_0 (of_decide_eq_true hb18)
                  refine WL.yes rfl rfl rfl hb18 rfl (op_fieldAddr rfl Fa.F61_1 ?_)
                  refine WL.yes rfl rfl rfl hb18 rfl (op_load rfl (HS.cell (i := 7) rfl rfl) Try.underlying3 rfl ?_)
                  refine WL.yes rfl rfl rfl hb18 rfl (op_lssI (b := (1 : Int)) rfl rfl ?_)
                  refine WL.yes rfl rfl rfl hb18 rfl (op_move rfl ?_)
                  refine WL.yes rfl rfl rfl (decide_eq_false (by omega)) rfl (op_fieldAddr rfl Fa.F61_1 ?_)
                  refine WL.yes rfl rfl rfl (decide_eq_false (by omega)) rfl (op_load rfl (HS.cell (i := 7) rfl rfl) Try.underlying3 rfl ?_)
                  refine WL.yes rfl rfl rfl (decide_eq_false (by omega)) rfl (op_gtrI (b := (8 : Int)) rfl rfl ?_)
                  refine WL.yes rfl rfl rfl hb18 rfl (op_pickF rfl (decide_eq_false (by omega)) rfl ?_)
                  refine WL.op rfl rfl (op_pickT rfl hb18 rfl ?_)
                  refine WL.nil ?_
                  refine WQ.next ?_
                  refine WC.no rfl (decide_eq_false (by omega)) ?_
                  refine WC.skip ?_
                  refine WQ.next ?_
                  refine WC.seq ?_
                  refine WC.region ?_
                  refine WL.op rfl rfl (op_move rfl ?_)
                  refine WL.op rfl rfl (op_eqlN (b := 0) rfl rfl ?_)
                  refine WL.nil ?_
                  refine WQ.next ?_
                  refine WC.yes rfl hb18 ?_
                  refine WC.region ?_
                  refine WL.op rfl rfl (op_fieldAddr rfl Fa.F61_1 ?_)
                  refine WL.op rfl rfl (op_load rfl (HS.cell (i := 7) rfl rfl) Try.underlying3 rfl ?_)
                  refine WL.op rfl rfl (op_fieldAddr rfl Fa.F61_3 ?_)
                  refine WL.op rfl rfl (op_load rfl (HS.cell (i := 7) rfl rfl) Try.underlying29 rfl ?_)
                  refine WL.op rfl rfl (op_indexAddrA1 (m := (l.getD i Sts.zero).e.toNat) Try.underlying55 Fa.I29 rfl (congrArg some (vI_toN (by omega))) (by omega) ?_)
                  refine WL.op rfl rfl (op_storeB (i := 6) HS rfl rfl rfl (by rw [Nat.blt_eq]; show 0 + _ < (List.map vU32 tb).length; rw [List.length_map]; omega) rfl Fa.I29 (fun w19 H19q => ?_))
                  have H19 : Owl.Own [] w w19 [.blk b1 [(vU32 pg), hev] 48, .blk c8 [(vU32 pg), v8, (.map (some mb8))] 112, Ent.ar v8 1 he.length (List.map vU32 he), .obj mb8 (mP .i64 (List.map Gr.me gs27163) cn27163), Ent.bs 120 Gr.cells Gr.b gs27163, Ent.dp grD.list gs27163, .blk b9 ([] ++ (List.map vU32 (tb.set (l.getD i Sts.zero).e.toNat (l.getD i Sts.zero).pp))) 55, .blk b13 [(vI (l.getD i Sts.zero).d), (vI (l.getD i Sts.zero).e), (vU32 (l.getD i Sts.zero).pg), (l.getD i Sts.zero).ev, (l.getD i Sts.zero).pv, (.bool (l.getD i Sts.zero).con), (vU32 (l.getD i Sts.zero).pp)] 61, Ent.ar v27101 2 ((l.getD i Sts.zero).xs).length (List.flatMap xtc ((l.getD i Sts.zero).xs)), Ent.ar u27101 1 ((l.getD i Sts.zero).ps).length (List.map vU16 ((l.getD i Sts.zero).ps))] := Own.blkEq (i := 6) H19q rfl (set_tab _ tb 0 (l.getD i Sts.zero).e.toNat (l.getD i Sts.zero).pp)
                  refine WL.nil ?_
                  refine WQ.inNormal ?_
                  exact WQ.here ((tb.set (l.getD i Sts.zero).e.toNat (l.getD i Sts.zero).pp), cn27163, gs27163, (grantG pg he m ((l.getD i Sts.zero).e) ((l.getD i Sts.zero).pg) ((l.getD i Sts.zero).xs) ((l.getD i Sts.zero).ps) ((l.getD i Sts.zero).con) ((l.getD i Sts.zero).pp))) ⟨⟨hi27163, (hL.grant (of_decide_eq_true hb18))⟩, (H19.take 8)⟩ ⟨rfl, rfl, rfl, rfl, rfl, rfl, rfl, rfl, trivial⟩
                ·
                  have hc18 := of_decide_eq_false hb18
                  refine WL.no rfl rfl rfl hb18 rfl ?_
                  refine WL.no rfl rfl rfl hb18 rfl ?_
                  refine WL.no rfl rfl rfl hb18 rfl ?_
                  refine WL.no rfl rfl rfl hb18 rfl ?_
                  refine WL.non rfl rfl rfl rfl ?_
                  refine WL.non rfl rfl rfl rfl ?_
                  refine WL.non rfl rfl rfl rfl ?_
                  refine WL.no rfl rfl rfl hb18 rfl ?_
                  refine WL.op rfl rfl (op_pickF rfl hb18 rfl ?_)
                  refine WL.nil ?_
                  refine WQ.next ?_
                  refine WC.no rfl rfl ?_
                  refine WC.skip ?_
                  refine WQ.next ?_
                  refine WC.seq ?_
                  refine WC.region ?_
                  refine WL.op rfl rfl (op_move rfl ?_)
                  refine WL.op rfl rfl (op_eqlN (b := 0) rfl rfl ?_)
                  refine WL.nil ?_
                  refine WQ.next ?_
                  refine WC.no rfl hb18 ?_
                  refine WC.skip ?_
                  refine WQ.inNormal ?_
                  exact WQ.here (tb, cn27163, gs27163, (grantG pg he m ((l.getD i Sts.zero).e) ((l.getD i Sts.zero).pg) ((l.getD i Sts.zero).xs) ((l.getD i Sts.zero).ps) ((l.getD i Sts.zero).con) ((l.getD i Sts.zero).pp))) ⟨⟨hi27163, (by rw [Lw.noGrant (of_decide_eq_false hb18)]; exact hL)⟩, (HS.take 8)⟩ ⟨rfl, rfl, rfl, rfl, rfl, rfl, rfl, rfl, trivial⟩
              have st14_11 : ∀ (v27101 : Value) (u27101 : Value) (wS : World), Owl.Own [] w wS [.blk b1 [(vU32 pg), hev] 48, .blk c8 [(vU32 pg), v8, (.map (some mb8))] 112, Ent.ar v8 1 he.length (List.map vU32 he), .obj mb8 (mP .i64 (List.map Gr.me gs) cn), Ent.bs 120 Gr.cells Gr.b gs, Ent.dp grD.list gs, .blk b9 ([] ++ (List.map vU32 tb)) 55, .blk b13 [(vI (l.getD i Sts.zero).d), (vI (l.getD i Sts.zero).e), (vU32 (l.getD i Sts.zero).pg), (l.getD i Sts.zero).ev, (l.getD i Sts.zero).pv, (.bool (l.getD i Sts.zero).con), (vU32 (l.getD i Sts.zero).pp)] 61, .row v27101 108 2 ((l.getD i Sts.zero).xs).length (List.flatMap xtc ((l.getD i Sts.zero).xs)), .row u27101 50 1 ((l.getD i Sts.zero).ps).length (List.map vU16 ((l.getD i Sts.zero).ps))] → W 2 #[true, true, true, true, true, true, true, true, false, false] [(1, lv), (2, (vU32 id)), (3, (vU32 bk)), (4, (vU16 y)), (5, (ptr b1 0)), (11, (ptr c8 0)), (13, (ptr b9 0)), (14, (vN i)), (15, (ptr b13 0)), (16, (vN 0)), (45, (vN i)), (46, lv), (47, (vN l.length)), (48, (.bool (decide (i < l.length)))), (51, lv), (52, (vN i)), (53, (.pointer (some (sp lv (i * 7))))), (54, (.agg #[(vI (l.getD i Sts.zero).d), (vI (l.getD i Sts.zero).e), (vU32 (l.getD i Sts.zero).pg), (l.getD i Sts.zero).ev, (l.getD i Sts.zero).pv, (.bool (l.getD i Sts.zero).con), (vU32 (l.getD i Sts.zero).pp)])), (55, (ptr b13 0)), (56, (vI (l.getD i Sts.zero).d)), (57, (.bool (decide ((l.getD i Sts.zero).d = (0 : Int))))), (58, (.bool (decide ((l.getD i Sts.zero).d = (0 : Int))))), (59, (ptr c8 0)), (60, (ptr b13 1)), (61, (vI (l.getD i Sts.zero).e)), (62, (ptr b13 2)), (63, (.agg #[(vU32 (l.getD i Sts.zero).pg), (l.getD i Sts.zero).ev, (l.getD i Sts.zero).pv, (.bool (l.getD i Sts.zero).con)])), (64, (.agg #[(vU32 ((l.getD i Sts.zero).pg)), v27101, u27101, (.bool ((l.getD i Sts.zero).con))])), (65, (ptr b13 6)), (66, (vU32 (l.getD i Sts.zero).pp))] wS := by
                intro v27101 u27101 wS HS
                rw [hW]
                refine WH.all1 (i := 8) (by kernel_rfl) ?_
                ·
                  have H27161 : Owl.Own [] w wS [.blk b1 [(vU32 pg), hev] 48, .blk c8 [(vU32 pg), v8, (.map (some mb8))] 112, Ent.ar v8 1 he.length (List.map vU32 he), .obj mb8 (mP .i64 (List.map Gr.me gs) cn), Ent.bs 120 Gr.cells Gr.b gs, Ent.dp grD.list gs, .blk b9 ([] ++ (List.map vU32 tb)) 55, .blk b13 [(vI (l.getD i Sts.zero).d), (vI (l.getD i Sts.zero).e), (vU32 (l.getD i Sts.zero).pg), (l.getD i Sts.zero).ev, (l.getD i Sts.zero).pv, (.bool (l.getD i Sts.zero).con), (vU32 (l.getD i Sts.zero).pp)] 61, Ent.ar v27101 2 ((l.getD i Sts.zero).xs).length (List.flatMap xtc ((l.getD i Sts.zero).xs)), .row u27101 50 1 ((l.getD i Sts.zero).ps).length (List.map vU16 ((l.getD i Sts.zero).ps))] := HS.freeze (i := 8) rfl
                  have H27162 : Owl.Own [] w wS [.blk b1 [(vU32 pg), hev] 48, .blk c8 [(vU32 pg), v8, (.map (some mb8))] 112, Ent.ar v8 1 he.length (List.map vU32 he), .obj mb8 (mP .i64 (List.map Gr.me gs) cn), Ent.bs 120 Gr.cells Gr.b gs, Ent.dp grD.list gs, .blk b9 ([] ++ (List.map vU32 tb)) 55, .blk b13 [(vI (l.getD i Sts.zero).d), (vI (l.getD i Sts.zero).e), (vU32 (l.getD i Sts.zero).pg), (l.getD i Sts.zero).ev, (l.getD i Sts.zero).pv, (.bool (l.getD i Sts.zero).con), (vU32 (l.getD i Sts.zero).pp)] 61, Ent.ar v27101 2 ((l.getD i Sts.zero).xs).length (List.flatMap xtc ((l.getD i Sts.zero).xs)), Ent.ar u27101 1 ((l.getD i Sts.zero).ps).length (List.map vU16 ((l.getD i Sts.zero).ps))] := H27161.freeze (i := 9) rfl
                  refine WHS.op (i := 8) rfl (.inl rfl) rfl (op_callF Fa.C19 rfl ((capG_ok c8 pg v8 he mb8 cn gs ((l.getD i Sts.zero).e) ((l.getD i Sts.zero).pg) v27101 u27101 ((l.getD i Sts.zero).xs) ((l.getD i Sts.zero).ps) ((l.getD i Sts.zero).con) ((l.getD i Sts.zero).pp) m _ _ (H27162.part [1, 2, 3, 4, 5, 8, 9] rfl rfl) hR capT7 (by omega) (by omega) (by omega)).mono (fun e w27163 hq => ?_)))
                  obtain ⟨cn27163, gs27163, rfl, hi27163, hd27163, hq27163⟩ := hq
                  refine ⟨_, rfl, ?_⟩
                  have H27163 : Owl.Own [] w w27163 [.blk b1 [(vU32 pg), hev] 48, .blk c8 [(vU32 pg), v8, (.map (some mb8))] 112, Ent.ar v8 1 he.length (List.map vU32 he), .obj mb8 (mP .i64 (List.map Gr.me gs27163) cn27163), Ent.bs 120 Gr.cells Gr.b gs27163, Ent.dp grD.list gs27163, .blk b9 ([] ++ (List.map vU32 tb)) 55, .blk b13 [(vI (l.getD i Sts.zero).d), (vI (l.getD i Sts.zero).e), (vU32 (l.getD i Sts.zero).pg), (l.getD i Sts.zero).ev, (l.getD i Sts.zero).pv, (.bool (l.getD i Sts.zero).con), (vU32 (l.getD i Sts.zero).pp)] 61, Ent.ar v27101 2 ((l.getD i Sts.zero).xs).length (List.flatMap xtc ((l.getD i Sts.zero).xs)), Ent.ar u27101 1 ((l.getD i Sts.zero).ps).length (List.map vU16 ((l.getD i Sts.zero).ps))] := H27162.splice [1, 2, 3, 4, 5, 8, 9] [.blk c8 [(vU32 pg), v8, (.map (some mb8))] 112, Ent.ar v8 1 he.length (List.map vU32 he), .obj mb8 (mP .i64 (List.map Gr.me gs27163) cn27163), Ent.bs 120 Gr.cells Gr.b gs27163, Ent.dp grD.list gs27163, Ent.ar v27101 2 ((l.getD i Sts.zero).xs).length (List.flatMap xtc ((l.getD i Sts.zero).xs)), Ent.ar u27101 1 ((l.getD i Sts.zero).ps).length (List.map vU16 ((l.getD i Sts.zero).ps))] [] rfl rfl hq27163 (Fits.solid True.intro (Fits.same (j := 1) rfl (Fits.solid True.intro (Fits.solid True.intro (Fits.dpTo 4 rfl hd27163 (Fits.same (j := 5) rfl (Fits.same (j := 6) rfl Fits.nil)))))))
                  refine ⟨⟨[.blk b1 [(vU32 pg), hev] 48, .blk c8 [(vU32 pg), v8, (.map (some mb8))] 112, Ent.ar v8 1 he.length (List.map vU32 he), .obj mb8 (mP .i64 (List.map Gr.me gs27163) cn27163), Ent.bs 120 Gr.cells Gr.b gs27163, Ent.dp grD.list gs27163, .blk b9 ([] ++ (List.map vU32 tb)) 55, .blk b13 [(vI (l.getD i Sts.zero).d), (vI (l.getD i Sts.zero).e), (vU32 (l.getD i Sts.zero).pg), (l.getD i Sts.zero).ev, (l.getD i Sts.zero).pv, (.bool (l.getD i Sts.zero).con), (vU32 (l.getD i Sts.zero).pp)] 61, Ent.ar v27101 2 ((l.getD i Sts.zero).xs).length (List.flatMap xtc ((l.getD i Sts.zero).xs)), Ent.ar u27101 1 ((l.getD i Sts.zero).ps).length (List.map vU16 ((l.getD i Sts.zero).ps))], H27163⟩, ?_⟩
                  refine WH.take (i := 9) (v := (vN (grantE pg he m ((l.getD i Sts.zero).e) ((l.getD i Sts.zero).pg) ((l.getD i Sts.zero).xs) ((l.getD i Sts.zero).ps) ((l.getD i Sts.zero).pp)))) rfl rfl (.inl rfl) rfl (by kernel_rfl) ⟨[.blk b1 [(vU32 pg), hev] 48, .blk c8 [(vU32 pg), v8, (.map (some mb8))] 112, Ent.ar v8 1 he.length (List.map vU32 he), .obj mb8 (mP .i64 (List.map Gr.me gs27163) cn27163), Ent.bs 120 Gr.cells Gr.b gs27163, Ent.dp grD.list gs27163, .blk b9 ([] ++ (List.map vU32 tb)) 55, .blk b13 [(vI (l.getD i Sts.zero).d), (vI (l.getD i Sts.zero).e), (vU32 (l.getD i Sts.zero).pg), (l.getD i Sts.zero).ev, (l.getD i Sts.zero).pv, (.bool (l.getD i Sts.zero).con), (vU32 (l.getD i Sts.zero).pp)] 61, Ent.ar v27101 2 ((l.getD i Sts.zero).xs).length (List.flatMap xtc ((l.getD i Sts.zero).xs)), Ent.ar u27101 1 ((l.getD i Sts.zero).ps).length (List.map vU16 ((l.getD i Sts.zero).ps))], H27163⟩ (fun wX hSX => hSX.elim fun LX HX => op_assign rfl ⟨rfl, rfl⟩) ?_
                  have hq := st14_12 v27101 u27101 gs27163 cn27163 hi27163 w27163 H27163
                  rw [hW] at hq
                  refine WH.cov ?_ hq
                  exact by repeat (first | exact trivial | refine ⟨rfl, ?_⟩)
              have st14_8 : ∀ (v27101 : Value) (u27101 : Value) (wS : World), Owl.Own [] w wS [.blk b1 [(vU32 pg), hev] 48, .blk c8 [(vU32 pg), v8, (.map (some mb8))] 112, Ent.ar v8 1 he.length (List.map vU32 he), .obj mb8 (mP .i64 (List.map Gr.me gs) cn), Ent.bs 120 Gr.cells Gr.b gs, Ent.dp grD.list gs, .blk b9 ([] ++ (List.map vU32 tb)) 55, .blk b13 [(vI (l.getD i Sts.zero).d), (vI (l.getD i Sts.zero).e), (vU32 (l.getD i Sts.zero).pg), (l.getD i Sts.zero).ev, (l.getD i Sts.zero).pv, (.bool (l.getD i Sts.zero).con), (vU32 (l.getD i Sts.zero).pp)] 61, .row v27101 108 2 ((l.getD i Sts.zero).xs).length (List.flatMap xtc ((l.getD i Sts.zero).xs)), .row u27101 50 1 ((l.getD i Sts.zero).ps).length (List.map vU16 ((l.getD i Sts.zero).ps))] → W 3 #[true, true, true, true, true, true, true, false, false, false] [(1, lv), (2, (vU32 id)), (3, (vU32 bk)), (4, (vU16 y)), (5, (ptr b1 0)), (11, (ptr c8 0)), (13, (ptr b9 0)), (14, (vN i)), (15, (ptr b13 0)), (16, (vN 0)), (45, (vN i)), (46, lv), (47, (vN l.length)), (48, (.bool (decide (i < l.length)))), (51, lv), (52, (vN i)), (53, (.pointer (some (sp lv (i * 7))))), (54, (.agg #[(vI (l.getD i Sts.zero).d), (vI (l.getD i Sts.zero).e), (vU32 (l.getD i Sts.zero).pg), (l.getD i Sts.zero).ev, (l.getD i Sts.zero).pv, (.bool (l.getD i Sts.zero).con), (vU32 (l.getD i Sts.zero).pp)])), (55, (ptr b13 0)), (56, (vI (l.getD i Sts.zero).d)), (57, (.bool (decide ((l.getD i Sts.zero).d = (0 : Int))))), (58, (.bool (decide ((l.getD i Sts.zero).d = (0 : Int))))), (59, (ptr c8 0)), (60, (ptr b13 1)), (61, (vI (l.getD i Sts.zero).e)), (62, (ptr b13 2)), (63, (.agg #[(vU32 (l.getD i Sts.zero).pg), (l.getD i Sts.zero).ev, (l.getD i Sts.zero).pv, (.bool (l.getD i Sts.zero).con)])), (64, (.agg #[(vU32 ((l.getD i Sts.zero).pg)), v27101, u27101, (.bool ((l.getD i Sts.zero).con))])), (65, (ptr b13 6))] wS := by
                intro v27101 u27101 wS HS
                rw [hW]
                refine WH.all1 (i := 7) (by kernel_rfl) ?_
                ·
                  refine WHS.op (i := 7) rfl (.inl rfl) rfl (op_load rfl (HS.cell (i := 7) rfl rfl) Try.underlying29 rfl ?_)
                  refine ⟨⟨[.blk b1 [(vU32 pg), hev] 48, .blk c8 [(vU32 pg), v8, (.map (some mb8))] 112, Ent.ar v8 1 he.length (List.map vU32 he), .obj mb8 (mP .i64 (List.map Gr.me gs) cn), Ent.bs 120 Gr.cells Gr.b gs, Ent.dp grD.list gs, .blk b9 ([] ++ (List.map vU32 tb)) 55, .blk b13 [(vI (l.getD i Sts.zero).d), (vI (l.getD i Sts.zero).e), (vU32 (l.getD i Sts.zero).pg), (l.getD i Sts.zero).ev, (l.getD i Sts.zero).pv, (.bool (l.getD i Sts.zero).con), (vU32 (l.getD i Sts.zero).pp)] 61, .row v27101 108 2 ((l.getD i Sts.zero).xs).length (List.flatMap xtc ((l.getD i Sts.zero).xs)), .row u27101 50 1 ((l.getD i Sts.zero).ps).length (List.map vU16 ((l.getD i Sts.zero).ps))], HS⟩, ?_⟩
                  have hq := st14_11 v27101 u27101 wS HS
                  rw [hW] at hq
                  refine WH.cov ?_ hq
                  exact by repeat (first | exact trivial | refine ⟨rfl, ?_⟩)
              have st14_9 : ∀ (wS : World), Owl.Own [] w wS [.blk b1 [(vU32 pg), hev] 48, .blk c8 [(vU32 pg), v8, (.map (some mb8))] 112, Ent.ar v8 1 he.length (List.map vU32 he), .obj mb8 (mP .i64 (List.map Gr.me gs) cn), Ent.bs 120 Gr.cells Gr.b gs, Ent.dp grD.list gs, .blk b9 ([] ++ (List.map vU32 tb)) 55, .blk b13 [(vI (l.getD i Sts.zero).d), (vI (l.getD i Sts.zero).e), (vU32 (l.getD i Sts.zero).pg), (l.getD i Sts.zero).ev, (l.getD i Sts.zero).pv, (.bool (l.getD i Sts.zero).con), (vU32 (l.getD i Sts.zero).pp)] 61] → W 3 #[true, true, true, true, true, false, true, true, false, false] [(1, lv), (2, (vU32 id)), (3, (vU32 bk)), (4, (vU16 y)), (5, (ptr b1 0)), (11, (ptr c8 0)), (13, (ptr b9 0)), (14, (vN i)), (15, (ptr b13 0)), (16, (vN 0)), (45, (vN i)), (46, lv), (47, (vN l.length)), (48, (.bool (decide (i < l.length)))), (51, lv), (52, (vN i)), (53, (.pointer (some (sp lv (i * 7))))), (54, (.agg #[(vI (l.getD i Sts.zero).d), (vI (l.getD i Sts.zero).e), (vU32 (l.getD i Sts.zero).pg), (l.getD i Sts.zero).ev, (l.getD i Sts.zero).pv, (.bool (l.getD i Sts.zero).con), (vU32 (l.getD i Sts.zero).pp)])), (55, (ptr b13 0)), (56, (vI (l.getD i Sts.zero).d)), (57, (.bool (decide ((l.getD i Sts.zero).d = (0 : Int))))), (58, (.bool (decide ((l.getD i Sts.zero).d = (0 : Int))))), (59, (ptr c8 0)), (60, (ptr b13 1)), (61, (vI (l.getD i Sts.zero).e)), (62, (ptr b13 2)), (63, (.agg #[(vU32 (l.getD i Sts.zero).pg), (l.getD i Sts.zero).ev, (l.getD i Sts.zero).pv, (.bool (l.getD i Sts.zero).con)])), (65, (ptr b13 6)), (66, (vU32 (l.getD i Sts.zero).pp))] wS := by
                intro wS HS
                rw [hW]
                refine WH.all1 (i := 5) (by kernel_rfl) ?_
                ·
                  refine WHS.op (i := 5) rfl (.inl rfl) rfl (op_callF Fa.C20 rfl ((copy11_ok ((l.getD i Sts.zero).pg) _ _ ((l.getD i Sts.zero).xs) ((l.getD i Sts.zero).ps) ((l.getD i Sts.zero).con) _ ((StD_xs (Deep.getD StD (StD.list.fr0 hI HS.fr) Sts.zero (StD_zero _) i))) ((StD_ps (Deep.getD StD (StD.list.fr0 hI HS.fr) Sts.zero (StD_zero _) i))) (by omega) (by omega)).mono (fun e w27101 hq => ?_)))
                  obtain ⟨v27101, u27101, rfl, hq27101⟩ := hq
                  refine ⟨_, rfl, ?_⟩
                  have H27101 : Owl.Own [] w w27101 [.blk b1 [(vU32 pg), hev] 48, .blk c8 [(vU32 pg), v8, (.map (some mb8))] 112, Ent.ar v8 1 he.length (List.map vU32 he), .obj mb8 (mP .i64 (List.map Gr.me gs) cn), Ent.bs 120 Gr.cells Gr.b gs, Ent.dp grD.list gs, .blk b9 ([] ++ (List.map vU32 tb)) 55, .blk b13 [(vI (l.getD i Sts.zero).d), (vI (l.getD i Sts.zero).e), (vU32 (l.getD i Sts.zero).pg), (l.getD i Sts.zero).ev, (l.getD i Sts.zero).pv, (.bool (l.getD i Sts.zero).con), (vU32 (l.getD i Sts.zero).pp)] 61, .row v27101 108 2 ((l.getD i Sts.zero).xs).length (List.flatMap xtc ((l.getD i Sts.zero).xs)), .row u27101 50 1 ((l.getD i Sts.zero).ps).length (List.map vU16 ((l.getD i Sts.zero).ps))] := HS.splice [] [] [.row v27101 108 2 ((l.getD i Sts.zero).xs).length (List.flatMap xtc ((l.getD i Sts.zero).xs)), .row u27101 50 1 ((l.getD i Sts.zero).ps).length (List.map vU16 ((l.getD i Sts.zero).ps))] rfl rfl hq27101 (Fits.solid True.intro (Fits.solid True.intro Fits.nil))
                  refine ⟨⟨[.blk b1 [(vU32 pg), hev] 48, .blk c8 [(vU32 pg), v8, (.map (some mb8))] 112, Ent.ar v8 1 he.length (List.map vU32 he), .obj mb8 (mP .i64 (List.map Gr.me gs) cn), Ent.bs 120 Gr.cells Gr.b gs, Ent.dp grD.list gs, .blk b9 ([] ++ (List.map vU32 tb)) 55, .blk b13 [(vI (l.getD i Sts.zero).d), (vI (l.getD i Sts.zero).e), (vU32 (l.getD i Sts.zero).pg), (l.getD i Sts.zero).ev, (l.getD i Sts.zero).pv, (.bool (l.getD i Sts.zero).con), (vU32 (l.getD i Sts.zero).pp)] 61, .row v27101 108 2 ((l.getD i Sts.zero).xs).length (List.flatMap xtc ((l.getD i Sts.zero).xs)), .row u27101 50 1 ((l.getD i Sts.zero).ps).length (List.map vU16 ((l.getD i Sts.zero).ps))], H27101⟩, ?_⟩
                  have hq := st14_11 v27101 u27101 w27101 H27101
                  rw [hW] at hq
                  refine WH.cov ?_ hq
                  exact by repeat (first | exact trivial | refine ⟨rfl, ?_⟩)
              have st14_10 : ∀ (v27101 : Value) (u27101 : Value) (wS : World), Owl.Own [] w wS [.blk b1 [(vU32 pg), hev] 48, .blk c8 [(vU32 pg), v8, (.map (some mb8))] 112, Ent.ar v8 1 he.length (List.map vU32 he), .obj mb8 (mP .i64 (List.map Gr.me gs) cn), Ent.bs 120 Gr.cells Gr.b gs, Ent.dp grD.list gs, .blk b9 ([] ++ (List.map vU32 tb)) 55, .blk b13 [(vI (l.getD i Sts.zero).d), (vI (l.getD i Sts.zero).e), (vU32 (l.getD i Sts.zero).pg), (l.getD i Sts.zero).ev, (l.getD i Sts.zero).pv, (.bool (l.getD i Sts.zero).con), (vU32 (l.getD i Sts.zero).pp)] 61, .row v27101 108 2 ((l.getD i Sts.zero).xs).length (List.flatMap xtc ((l.getD i Sts.zero).xs)), .row u27101 50 1 ((l.getD i Sts.zero).ps).length (List.map vU16 ((l.getD i Sts.zero).ps))] → W 3 #[true, true, false, true, true, true, true, true, false, false] [(1, lv), (2, (vU32 id)), (3, (vU32 bk)), (4, (vU16 y)), (5, (ptr b1 0)), (11, (ptr c8 0)), (13, (ptr b9 0)), (14, (vN i)), (15, (ptr b13 0)), (16, (vN 0)), (45, (vN i)), (46, lv), (47, (vN l.length)), (48, (.bool (decide (i < l.length)))), (51, lv), (52, (vN i)), (53, (.pointer (some (sp lv (i * 7))))), (54, (.agg #[(vI (l.getD i Sts.zero).d), (vI (l.getD i Sts.zero).e), (vU32 (l.getD i Sts.zero).pg), (l.getD i Sts.zero).ev, (l.getD i Sts.zero).pv, (.bool (l.getD i Sts.zero).con), (vU32 (l.getD i Sts.zero).pp)])), (55, (ptr b13 0)), (56, (vI (l.getD i Sts.zero).d)), (57, (.bool (decide ((l.getD i Sts.zero).d = (0 : Int))))), (58, (.bool (decide ((l.getD i Sts.zero).d = (0 : Int))))), (59, (ptr c8 0)), (60, (ptr b13 1)), (62, (ptr b13 2)), (63, (.agg #[(vU32 (l.getD i Sts.zero).pg), (l.getD i Sts.zero).ev, (l.getD i Sts.zero).pv, (.bool (l.getD i Sts.zero).con)])), (64, (.agg #[(vU32 ((l.getD i Sts.zero).pg)), v27101, u27101, (.bool ((l.getD i Sts.zero).con))])), (65, (ptr b13 6)), (66, (vU32 (l.getD i Sts.zero).pp))] wS := by
                intro v27101 u27101 wS HS
                rw [hW]
                refine WH.all1 (i := 2) (by kernel_rfl) ?_
                ·
                  refine WHS.op (i := 2) rfl (.inl rfl) rfl (op_load rfl (HS.cell (i := 7) rfl rfl) Try.underlying3 rfl ?_)
                  refine ⟨⟨[.blk b1 [(vU32 pg), hev] 48, .blk c8 [(vU32 pg), v8, (.map (some mb8))] 112, Ent.ar v8 1 he.length (List.map vU32 he), .obj mb8 (mP .i64 (List.map Gr.me gs) cn), Ent.bs 120 Gr.cells Gr.b gs, Ent.dp grD.list gs, .blk b9 ([] ++ (List.map vU32 tb)) 55, .blk b13 [(vI (l.getD i Sts.zero).d), (vI (l.getD i Sts.zero).e), (vU32 (l.getD i Sts.zero).pg), (l.getD i Sts.zero).ev, (l.getD i Sts.zero).pv, (.bool (l.getD i Sts.zero).con), (vU32 (l.getD i Sts.zero).pp)] 61, .row v27101 108 2 ((l.getD i Sts.zero).xs).length (List.flatMap xtc ((l.getD i Sts.zero).xs)), .row u27101 50 1 ((l.getD i Sts.zero).ps).length (List.map vU16 ((l.getD i Sts.zero).ps))], HS⟩, ?_⟩
                  have hq := st14_11 v27101 u27101 wS HS
                  rw [hW] at hq
                  refine WH.cov ?_ hq
                  exact by repeat (first | exact trivial | refine ⟨rfl, ?_⟩)
              have st14_4 : ∀ (wS : World), Owl.Own [] w wS [.blk b1 [(vU32 pg), hev] 48, .blk c8 [(vU32 pg), v8, (.map (some mb8))] 112, Ent.ar v8 1 he.length (List.map vU32 he), .obj mb8 (mP .i64 (List.map Gr.me gs) cn), Ent.bs 120 Gr.cells Gr.b gs, Ent.dp grD.list gs, .blk b9 ([] ++ (List.map vU32 tb)) 55, .blk b13 [(vI (l.getD i Sts.zero).d), (vI (l.getD i Sts.zero).e), (vU32 (l.getD i Sts.zero).pg), (l.getD i Sts.zero).ev, (l.getD i Sts.zero).pv, (.bool (l.getD i Sts.zero).con), (vU32 (l.getD i Sts.zero).pp)] 61] → W 4 #[true, true, true, true, true, false, true, false, false, false] [(1, lv), (2, (vU32 id)), (3, (vU32 bk)), (4, (vU16 y)), (5, (ptr b1 0)), (11, (ptr c8 0)), (13, (ptr b9 0)), (14, (vN i)), (15, (ptr b13 0)), (16, (vN 0)), (45, (vN i)), (46, lv), (47, (vN l.length)), (48, (.bool (decide (i < l.length)))), (51, lv), (52, (vN i)), (53, (.pointer (some (sp lv (i * 7))))), (54, (.agg #[(vI (l.getD i Sts.zero).d), (vI (l.getD i Sts.zero).e), (vU32 (l.getD i Sts.zero).pg), (l.getD i Sts.zero).ev, (l.getD i Sts.zero).pv, (.bool (l.getD i Sts.zero).con), (vU32 (l.getD i Sts.zero).pp)])), (55, (ptr b13 0)), (56, (vI (l.getD i Sts.zero).d)), (57, (.bool (decide ((l.getD i Sts.zero).d = (0 : Int))))), (58, (.bool (decide ((l.getD i Sts.zero).d = (0 : Int))))), (59, (ptr c8 0)), (60, (ptr b13 1)), (61, (vI (l.getD i Sts.zero).e)), (62, (ptr b13 2)), (63, (.agg #[(vU32 (l.getD i Sts.zero).pg), (l.getD i Sts.zero).ev, (l.getD i Sts.zero).pv, (.bool (l.getD i Sts.zero).con)])), (65, (ptr b13 6))] wS := by
                intro wS HS
                rw [hW]
                refine WH.all2 (i := 5) (j := 7) (by kernel_rfl) ?_ ?_
                ·
                  refine WHS.op (i := 5) rfl (.inl rfl) rfl (op_callF Fa.C20 rfl ((copy11_ok ((l.getD i Sts.zero).pg) _ _ ((l.getD i Sts.zero).xs) ((l.getD i Sts.zero).ps) ((l.getD i Sts.zero).con) _ ((StD_xs (Deep.getD StD (StD.list.fr0 hI HS.fr) Sts.zero (StD_zero _) i))) ((StD_ps (Deep.getD StD (StD.list.fr0 hI HS.fr) Sts.zero (StD_zero _) i))) (by omega) (by omega)).mono (fun e w27101 hq => ?_)))
                  obtain ⟨v27101, u27101, rfl, hq27101⟩ := hq
                  refine ⟨_, rfl, ?_⟩
                  have H27101 : Owl.Own [] w w27101 [.blk b1 [(vU32 pg), hev] 48, .blk c8 [(vU32 pg), v8, (.map (some mb8))] 112, Ent.ar v8 1 he.length (List.map vU32 he), .obj mb8 (mP .i64 (List.map Gr.me gs) cn), Ent.bs 120 Gr.cells Gr.b gs, Ent.dp grD.list gs, .blk b9 ([] ++ (List.map vU32 tb)) 55, .blk b13 [(vI (l.getD i Sts.zero).d), (vI (l.getD i Sts.zero).e), (vU32 (l.getD i Sts.zero).pg), (l.getD i Sts.zero).ev, (l.getD i Sts.zero).pv, (.bool (l.getD i Sts.zero).con), (vU32 (l.getD i Sts.zero).pp)] 61, .row v27101 108 2 ((l.getD i Sts.zero).xs).length (List.flatMap xtc ((l.getD i Sts.zero).xs)), .row u27101 50 1 ((l.getD i Sts.zero).ps).length (List.map vU16 ((l.getD i Sts.zero).ps))] := HS.splice [] [] [.row v27101 108 2 ((l.getD i Sts.zero).xs).length (List.flatMap xtc ((l.getD i Sts.zero).xs)), .row u27101 50 1 ((l.getD i Sts.zero).ps).length (List.map vU16 ((l.getD i Sts.zero).ps))] rfl rfl hq27101 (Fits.solid True.intro (Fits.solid True.intro Fits.nil))
                  refine ⟨⟨[.blk b1 [(vU32 pg), hev] 48, .blk c8 [(vU32 pg), v8, (.map (some mb8))] 112, Ent.ar v8 1 he.length (List.map vU32 he), .obj mb8 (mP .i64 (List.map Gr.me gs) cn), Ent.bs 120 Gr.cells Gr.b gs, Ent.dp grD.list gs, .blk b9 ([] ++ (List.map vU32 tb)) 55, .blk b13 [(vI (l.getD i Sts.zero).d), (vI (l.getD i Sts.zero).e), (vU32 (l.getD i Sts.zero).pg), (l.getD i Sts.zero).ev, (l.getD i Sts.zero).pv, (.bool (l.getD i Sts.zero).con), (vU32 (l.getD i Sts.zero).pp)] 61, .row v27101 108 2 ((l.getD i Sts.zero).xs).length (List.flatMap xtc ((l.getD i Sts.zero).xs)), .row u27101 50 1 ((l.getD i Sts.zero).ps).length (List.map vU16 ((l.getD i Sts.zero).ps))], H27101⟩, ?_⟩
                  have hq := st14_8 v27101 u27101 w27101 H27101
                  rw [hW] at hq
                  refine WH.cov ?_ hq
                  exact by repeat (first | exact trivial | refine ⟨rfl, ?_⟩)
                ·
                  refine WHS.op (i := 7) rfl (.inl rfl) rfl (op_load rfl (HS.cell (i := 7) rfl rfl) Try.underlying29 rfl ?_)
                  refine ⟨⟨[.blk b1 [(vU32 pg), hev] 48, .blk c8 [(vU32 pg), v8, (.map (some mb8))] 112, Ent.ar v8 1 he.length (List.map vU32 he), .obj mb8 (mP .i64 (List.map Gr.me gs) cn), Ent.bs 120 Gr.cells Gr.b gs, Ent.dp grD.list gs, .blk b9 ([] ++ (List.map vU32 tb)) 55, .blk b13 [(vI (l.getD i Sts.zero).d), (vI (l.getD i Sts.zero).e), (vU32 (l.getD i Sts.zero).pg), (l.getD i Sts.zero).ev, (l.getD i Sts.zero).pv, (.bool (l.getD i Sts.zero).con), (vU32 (l.getD i Sts.zero).pp)] 61], HS⟩, ?_⟩
                  have hq := st14_9 wS HS
                  rw [hW] at hq
                  refine WH.cov ?_ hq
                  exact by repeat (first | exact trivial | refine ⟨rfl, ?_⟩)
              have st14_5 : ∀ (wS : World), Owl.Own [] w wS [.blk b1 [(vU32 pg), hev] 48, .blk c8 [(vU32 pg), v8, (.map (some mb8))] 112, Ent.ar v8 1 he.length (List.map vU32 he), .obj mb8 (mP .i64 (List.map Gr.me gs) cn), Ent.bs 120 Gr.cells Gr.b gs, Ent.dp grD.list gs, .blk b9 ([] ++ (List.map vU32 tb)) 55, .blk b13 [(vI (l.getD i Sts.zero).d), (vI (l.getD i Sts.zero).e), (vU32 (l.getD i Sts.zero).pg), (l.getD i Sts.zero).ev, (l.getD i Sts.zero).pv, (.bool (l.getD i Sts.zero).con), (vU32 (l.getD i Sts.zero).pp)] 61] → W 4 #[true, true, true, true, false, false, true, true, false, false] [(1, lv), (2, (vU32 id)), (3, (vU32 bk)), (4, (vU16 y)), (5, (ptr b1 0)), (11, (ptr c8 0)), (13, (ptr b9 0)), (14, (vN i)), (15, (ptr b13 0)), (16, (vN 0)), (45, (vN i)), (46, lv), (47, (vN l.length)), (48, (.bool (decide (i < l.length)))), (51, lv), (52, (vN i)), (53, (.pointer (some (sp lv (i * 7))))), (54, (.agg #[(vI (l.getD i Sts.zero).d), (vI (l.getD i Sts.zero).e), (vU32 (l.getD i Sts.zero).pg), (l.getD i Sts.zero).ev, (l.getD i Sts.zero).pv, (.bool (l.getD i Sts.zero).con), (vU32 (l.getD i Sts.zero).pp)])), (55, (ptr b13 0)), (56, (vI (l.getD i Sts.zero).d)), (57, (.bool (decide ((l.getD i Sts.zero).d = (0 : Int))))), (58, (.bool (decide ((l.getD i Sts.zero).d = (0 : Int))))), (59, (ptr c8 0)), (60, (ptr b13 1)), (61, (vI (l.getD i Sts.zero).e)), (62, (ptr b13 2)), (65, (ptr b13 6)), (66, (vU32 (l.getD i Sts.zero).pp))] wS := by
                intro wS HS
                rw [hW]
                refine WH.all1 (i := 4) (by kernel_rfl) ?_
                ·
                  refine WHS.op (i := 4) rfl (.inl rfl) rfl (op_loadS (vs := [_, _, _, _]) rfl (HS.cells (i := 7) rfl rfl) Try.underlying59 rfl Fa.I59 rfl ?_)
                  refine ⟨⟨[.blk b1 [(vU32 pg), hev] 48, .blk c8 [(vU32 pg), v8, (.map (some mb8))] 112, Ent.ar v8 1 he.length (List.map vU32 he), .obj mb8 (mP .i64 (List.map Gr.me gs) cn), Ent.bs 120 Gr.cells Gr.b gs, Ent.dp grD.list gs, .blk b9 ([] ++ (List.map vU32 tb)) 55, .blk b13 [(vI (l.getD i Sts.zero).d), (vI (l.getD i Sts.zero).e), (vU32 (l.getD i Sts.zero).pg), (l.getD i Sts.zero).ev, (l.getD i Sts.zero).pv, (.bool (l.getD i Sts.zero).con), (vU32 (l.getD i Sts.zero).pp)] 61], HS⟩, ?_⟩
                  have hq := st14_9 wS HS
                  rw [hW] at hq
                  refine WH.cov ?_ hq
                  exact by repeat (first | exact trivial | refine ⟨rfl, ?_⟩)
              have st14_6 : ∀ (v27101 : Value) (u27101 : Value) (wS : World), Owl.Own [] w wS [.blk b1 [(vU32 pg), hev] 48, .blk c8 [(vU32 pg), v8, (.map (some mb8))] 112, Ent.ar v8 1 he.length (List.map vU32 he), .obj mb8 (mP .i64 (List.map Gr.me gs) cn), Ent.bs 120 Gr.cells Gr.b gs, Ent.dp grD.list gs, .blk b9 ([] ++ (List.map vU32 tb)) 55, .blk b13 [(vI (l.getD i Sts.zero).d), (vI (l.getD i Sts.zero).e), (vU32 (l.getD i Sts.zero).pg), (l.getD i Sts.zero).ev, (l.getD i Sts.zero).pv, (.bool (l.getD i Sts.zero).con), (vU32 (l.getD i Sts.zero).pp)] 61, .row v27101 108 2 ((l.getD i Sts.zero).xs).length (List.flatMap xtc ((l.getD i Sts.zero).xs)), .row u27101 50 1 ((l.getD i Sts.zero).ps).length (List.map vU16 ((l.getD i Sts.zero).ps))] → W 4 #[true, true, false, true, true, true, true, false, false, false] [(1, lv), (2, (vU32 id)), (3, (vU32 bk)), (4, (vU16 y)), (5, (ptr b1 0)), (11, (ptr c8 0)), (13, (ptr b9 0)), (14, (vN i)), (15, (ptr b13 0)), (16, (vN 0)), (45, (vN i)), (46, lv), (47, (vN l.length)), (48, (.bool (decide (i < l.length)))), (51, lv), (52, (vN i)), (53, (.pointer (some (sp lv (i * 7))))), (54, (.agg #[(vI (l.getD i Sts.zero).d), (vI (l.getD i Sts.zero).e), (vU32 (l.getD i Sts.zero).pg), (l.getD i Sts.zero).ev, (l.getD i Sts.zero).pv, (.bool (l.getD i Sts.zero).con), (vU32 (l.getD i Sts.zero).pp)])), (55, (ptr b13 0)), (56, (vI (l.getD i Sts.zero).d)), (57, (.bool (decide ((l.getD i Sts.zero).d = (0 : Int))))), (58, (.bool (decide ((l.getD i Sts.zero).d = (0 : Int))))), (59, (ptr c8 0)), (60, (ptr b13 1)), (62, (ptr b13 2)), (63, (.agg #[(vU32 (l.getD i Sts.zero).pg), (l.getD i Sts.zero).ev, (l.getD i Sts.zero).pv, (.bool (l.getD i Sts.zero).con)])), (64, (.agg #[(vU32 ((l.getD i Sts.zero).pg)), v27101, u27101, (.bool ((l.getD i Sts.zero).con))])), (65, (ptr b13 6))] wS := by
                intro v27101 u27101 wS HS
                rw [hW]
                refine WH.all2 (i := 2) (j := 7) (by kernel_rfl) ?_ ?_
                ·
                  refine WHS.op (i := 2) rfl (.inl rfl) rfl (op_load rfl (HS.cell (i := 7) rfl rfl) Try.underlying3 rfl ?_)
                  refine ⟨⟨[.blk b1 [(vU32 pg), hev] 48, .blk c8 [(vU32 pg), v8, (.map (some mb8))] 112, Ent.ar v8 1 he.length (List.map vU32 he), .obj mb8 (mP .i64 (List.map Gr.me gs) cn), Ent.bs 120 Gr.cells Gr.b gs, Ent.dp grD.list gs, .blk b9 ([] ++ (List.map vU32 tb)) 55, .blk b13 [(vI (l.getD i Sts.zero).d), (vI (l.getD i Sts.zero).e), (vU32 (l.getD i Sts.zero).pg), (l.getD i Sts.zero).ev, (l.getD i Sts.zero).pv, (.bool (l.getD i Sts.zero).con), (vU32 (l.getD i Sts.zero).pp)] 61, .row v27101 108 2 ((l.getD i Sts.zero).xs).length (List.flatMap xtc ((l.getD i Sts.zero).xs)), .row u27101 50 1 ((l.getD i Sts.zero).ps).length (List.map vU16 ((l.getD i Sts.zero).ps))], HS⟩, ?_⟩
                  have hq := st14_8 v27101 u27101 wS HS
                  rw [hW] at hq
                  refine WH.cov ?_ hq
                  exact by repeat (first | exact trivial | refine ⟨rfl, ?_⟩)
                ·
                  refine WHS.op (i := 7) rfl (.inl rfl) rfl (op_load rfl (HS.cell (i := 7) rfl rfl) Try.underlying29 rfl ?_)
                  refine ⟨⟨[.blk b1 [(vU32 pg), hev] 48, .blk c8 [(vU32 pg), v8, (.map (some mb8))] 112, Ent.ar v8 1 he.length (List.map vU32 he), .obj mb8 (mP .i64 (List.map Gr.me gs) cn), Ent.bs 120 Gr.cells Gr.b gs, Ent.dp grD.list gs, .blk b9 ([] ++ (List.map vU32 tb)) 55, .blk b13 [(vI (l.getD i Sts.zero).d), (vI (l.getD i Sts.zero).e), (vU32 (l.getD i Sts.zero).pg), (l.getD i Sts.zero).ev, (l.getD i Sts.zero).pv, (.bool (l.getD i Sts.zero).con), (vU32 (l.getD i Sts.zero).pp)] 61, .row v27101 108 2 ((l.getD i Sts.zero).xs).length (List.flatMap xtc ((l.getD i Sts.zero).xs)), .row u27101 50 1 ((l.getD i Sts.zero).ps).length (List.map vU16 ((l.getD i Sts.zero).ps))], HS⟩, ?_⟩
                  have hq := st14_10 v27101 u27101 wS HS
                  rw [hW] at hq
                  refine WH.cov ?_ hq
                  exact by repeat (first | exact trivial | refine ⟨rfl, ?_⟩)
              have st14_7 : ∀ (wS : World), Owl.Own [] w wS [.blk b1 [(vU32 pg), hev] 48, .blk c8 [(vU32 pg), v8, (.map (some mb8))] 112, Ent.ar v8 1 he.length (List.map vU32 he), .obj mb8 (mP .i64 (List.map Gr.me gs) cn), Ent.bs 120 Gr.cells Gr.b gs, Ent.dp grD.list gs, .blk b9 ([] ++ (List.map vU32 tb)) 55, .blk b13 [(vI (l.getD i Sts.zero).d), (vI (l.getD i Sts.zero).e), (vU32 (l.getD i Sts.zero).pg), (l.getD i Sts.zero).ev, (l.getD i Sts.zero).pv, (.bool (l.getD i Sts.zero).con), (vU32 (l.getD i Sts.zero).pp)] 61] → W 4 #[true, true, false, true, true, false, true, true, false, false] [(1, lv), (2, (vU32 id)), (3, (vU32 bk)), (4, (vU16 y)), (5, (ptr b1 0)), (11, (ptr c8 0)), (13, (ptr b9 0)), (14, (vN i)), (15, (ptr b13 0)), (16, (vN 0)), (45, (vN i)), (46, lv), (47, (vN l.length)), (48, (.bool (decide (i < l.length)))), (51, lv), (52, (vN i)), (53, (.pointer (some (sp lv (i * 7))))), (54, (.agg #[(vI (l.getD i Sts.zero).d), (vI (l.getD i Sts.zero).e), (vU32 (l.getD i Sts.zero).pg), (l.getD i Sts.zero).ev, (l.getD i Sts.zero).pv, (.bool (l.getD i Sts.zero).con), (vU32 (l.getD i Sts.zero).pp)])), (55, (ptr b13 0)), (56, (vI (l.getD i Sts.zero).d)), (57, (.bool (decide ((l.getD i Sts.zero).d = (0 : Int))))), (58, (.bool (decide ((l.getD i Sts.zero).d = (0 : Int))))), (59, (ptr c8 0)), (60, (ptr b13 1)), (62, (ptr b13 2)), (63, (.agg #[(vU32 (l.getD i Sts.zero).pg), (l.getD i Sts.zero).ev, (l.getD i Sts.zero).pv, (.bool (l.getD i Sts.zero).con)])), (65, (ptr b13 6)), (66, (vU32 (l.getD i Sts.zero).pp))] wS := by
                intro wS HS
                rw [hW]
                refine WH.all2 (i := 2) (j := 5) (by kernel_rfl) ?_ ?_
                ·
                  refine WHS.op (i := 2) rfl (.inl rfl) rfl (op_load rfl (HS.cell (i := 7) rfl rfl) Try.underlying3 rfl ?_)
                  refine ⟨⟨[.blk b1 [(vU32 pg), hev] 48, .blk c8 [(vU32 pg), v8, (.map (some mb8))] 112, Ent.ar v8 1 he.length (List.map vU32 he), .obj mb8 (mP .i64 (List.map Gr.me gs) cn), Ent.bs 120 Gr.cells Gr.b gs, Ent.dp grD.list gs, .blk b9 ([] ++ (List.map vU32 tb)) 55, .blk b13 [(vI (l.getD i Sts.zero).d), (vI (l.getD i Sts.zero).e), (vU32 (l.getD i Sts.zero).pg), (l.getD i Sts.zero).ev, (l.getD i Sts.zero).pv, (.bool (l.getD i Sts.zero).con), (vU32 (l.getD i Sts.zero).pp)] 61], HS⟩, ?_⟩
                  have hq := st14_9 wS HS
                  rw [hW] at hq
                  refine WH.cov ?_ hq
                  exact by repeat (first | exact trivial | refine ⟨rfl, ?_⟩)
                ·
                  refine WHS.op (i := 5) rfl (.inl rfl) rfl (op_callF Fa.C20 rfl ((copy11_ok ((l.getD i Sts.zero).pg) _ _ ((l.getD i Sts.zero).xs) ((l.getD i Sts.zero).ps) ((l.getD i Sts.zero).con) _ ((StD_xs (Deep.getD StD (StD.list.fr0 hI HS.fr) Sts.zero (StD_zero _) i))) ((StD_ps (Deep.getD StD (StD.list.fr0 hI HS.fr) Sts.zero (StD_zero _) i))) (by omega) (by omega)).mono (fun e w27101 hq => ?_)))
                  obtain ⟨v27101, u27101, rfl, hq27101⟩ := hq
                  refine ⟨_, rfl, ?_⟩
                  have H27101 : Owl.Own [] w w27101 [.blk b1 [(vU32 pg), hev] 48, .blk c8 [(vU32 pg), v8, (.map (some mb8))] 112, Ent.ar v8 1 he.length (List.map vU32 he), .obj mb8 (mP .i64 (List.map Gr.me gs) cn), Ent.bs 120 Gr.cells Gr.b gs, Ent.dp grD.list gs, .blk b9 ([] ++ (List.map vU32 tb)) 55, .blk b13 [(vI (l.getD i Sts.zero).d), (vI (l.getD i Sts.zero).e), (vU32 (l.getD i Sts.zero).pg), (l.getD i Sts.zero).ev, (l.getD i Sts.zero).pv, (.bool (l.getD i Sts.zero).con), (vU32 (l.getD i Sts.zero).pp)] 61, .row v27101 108 2 ((l.getD i Sts.zero).xs).length (List.flatMap xtc ((l.getD i Sts.zero).xs)), .row u27101 50 1 ((l.getD i Sts.zero).ps).length (List.map vU16 ((l.getD i Sts.zero).ps))] := HS.splice [] [] [.row v27101 108 2 ((l.getD i Sts.zero).xs).length (List.flatMap xtc ((l.getD i Sts.zero).xs)), .row u27101 50 1 ((l.getD i Sts.zero).ps).length (List.map vU16 ((l.getD i Sts.zero).ps))] rfl rfl hq27101 (Fits.solid True.intro (Fits.solid True.intro Fits.nil))
                  refine ⟨⟨[.blk b1 [(vU32 pg), hev] 48, .blk c8 [(vU32 pg), v8, (.map (some mb8))] 112, Ent.ar v8 1 he.length (List.map vU32 he), .obj mb8 (mP .i64 (List.map Gr.me gs) cn), Ent.bs 120 Gr.cells Gr.b gs, Ent.dp grD.list gs, .blk b9 ([] ++ (List.map vU32 tb)) 55, .blk b13 [(vI (l.getD i Sts.zero).d), (vI (l.getD i Sts.zero).e), (vU32 (l.getD i Sts.zero).pg), (l.getD i Sts.zero).ev, (l.getD i Sts.zero).pv, (.bool (l.getD i Sts.zero).con), (vU32 (l.getD i Sts.zero).pp)] 61, .row v27101 108 2 ((l.getD i Sts.zero).xs).length (List.flatMap xtc ((l.getD i Sts.zero).xs)), .row u27101 50 1 ((l.getD i Sts.zero).ps).length (List.map vU16 ((l.getD i Sts.zero).ps))], H27101⟩, ?_⟩
                  have hq := st14_10 v27101 u27101 w27101 H27101
                  rw [hW] at hq
                  refine WH.cov ?_ hq
                  exact by repeat (first | exact trivial | refine ⟨rfl, ?_⟩)
              have st14_1 : ∀ (wS : World), Owl.Own [] w wS [.blk b1 [(vU32 pg), hev] 48, .blk c8 [(vU32 pg), v8, (.map (some mb8))] 112, Ent.ar v8 1 he.length (List.map vU32 he), .obj mb8 (mP .i64 (List.map Gr.me gs) cn), Ent.bs 120 Gr.cells Gr.b gs, Ent.dp grD.list gs, .blk b9 ([] ++ (List.map vU32 tb)) 55, .blk b13 [(vI (l.getD i Sts.zero).d), (vI (l.getD i Sts.zero).e), (vU32 (l.getD i Sts.zero).pg), (l.getD i Sts.zero).ev, (l.getD i Sts.zero).pv, (.bool (l.getD i Sts.zero).con), (vU32 (l.getD i Sts.zero).pp)] 61] → W 5 #[true, true, true, true, false, false, true, false, false, false] [(1, lv), (2, (vU32 id)), (3, (vU32 bk)), (4, (vU16 y)), (5, (ptr b1 0)), (11, (ptr c8 0)), (13, (ptr b9 0)), (14, (vN i)), (15, (ptr b13 0)), (16, (vN 0)), (45, (vN i)), (46, lv), (47, (vN l.length)), (48, (.bool (decide (i < l.length)))), (51, lv), (52, (vN i)), (53, (.pointer (some (sp lv (i * 7))))), (54, (.agg #[(vI (l.getD i Sts.zero).d), (vI (l.getD i Sts.zero).e), (vU32 (l.getD i Sts.zero).pg), (l.getD i Sts.zero).ev, (l.getD i Sts.zero).pv, (.bool (l.getD i Sts.zero).con), (vU32 (l.getD i Sts.zero).pp)])), (55, (ptr b13 0)), (56, (vI (l.getD i Sts.zero).d)), (57, (.bool (decide ((l.getD i Sts.zero).d = (0 : Int))))), (58, (.bool (decide ((l.getD i Sts.zero).d = (0 : Int))))), (59, (ptr c8 0)), (60, (ptr b13 1)), (61, (vI (l.getD i Sts.zero).e)), (62, (ptr b13 2)), (65, (ptr b13 6))] wS := by
                intro wS HS
                rw [hW]
                refine WH.all2 (i := 4) (j := 7) (by kernel_rfl) ?_ ?_
                ·
                  refine WHS.op (i := 4) rfl (.inl rfl) rfl (op_loadS (vs := [_, _, _, _]) rfl (HS.cells (i := 7) rfl rfl) Try.underlying59 rfl Fa.I59 rfl ?_)
                  refine ⟨⟨[.blk b1 [(vU32 pg), hev] 48, .blk c8 [(vU32 pg), v8, (.map (some mb8))] 112, Ent.ar v8 1 he.length (List.map vU32 he), .obj mb8 (mP .i64 (List.map Gr.me gs) cn), Ent.bs 120 Gr.cells Gr.b gs, Ent.dp grD.list gs, .blk b9 ([] ++ (List.map vU32 tb)) 55, .blk b13 [(vI (l.getD i Sts.zero).d), (vI (l.getD i Sts.zero).e), (vU32 (l.getD i Sts.zero).pg), (l.getD i Sts.zero).ev, (l.getD i Sts.zero).pv, (.bool (l.getD i Sts.zero).con), (vU32 (l.getD i Sts.zero).pp)] 61], HS⟩, ?_⟩
                  have hq := st14_4 wS HS
                  rw [hW] at hq
                  refine WH.cov ?_ hq
                  exact by repeat (first | exact trivial | refine ⟨rfl, ?_⟩)
                ·
                  refine WHS.op (i := 7) rfl (.inl rfl) rfl (op_load rfl (HS.cell (i := 7) rfl rfl) Try.underlying29 rfl ?_)
                  refine ⟨⟨[.blk b1 [(vU32 pg), hev] 48, .blk c8 [(vU32 pg), v8, (.map (some mb8))] 112, Ent.ar v8 1 he.length (List.map vU32 he), .obj mb8 (mP .i64 (List.map Gr.me gs) cn), Ent.bs 120 Gr.cells Gr.b gs, Ent.dp grD.list gs, .blk b9 ([] ++ (List.map vU32 tb)) 55, .blk b13 [(vI (l.getD i Sts.zero).d), (vI (l.getD i Sts.zero).e), (vU32 (l.getD i Sts.zero).pg), (l.getD i Sts.zero).ev, (l.getD i Sts.zero).pv, (.bool (l.getD i Sts.zero).con), (vU32 (l.getD i Sts.zero).pp)] 61], HS⟩, ?_⟩
                  have hq := st14_5 wS HS
                  rw [hW] at hq
                  refine WH.cov ?_ hq
                  exact by repeat (first | exact trivial | refine ⟨rfl, ?_⟩)
              have st14_2 : ∀ (wS : World), Owl.Own [] w wS [.blk b1 [(vU32 pg), hev] 48, .blk c8 [(vU32 pg), v8, (.map (some mb8))] 112, Ent.ar v8 1 he.length (List.map vU32 he), .obj mb8 (mP .i64 (List.map Gr.me gs) cn), Ent.bs 120 Gr.cells Gr.b gs, Ent.dp grD.list gs, .blk b9 ([] ++ (List.map vU32 tb)) 55, .blk b13 [(vI (l.getD i Sts.zero).d), (vI (l.getD i Sts.zero).e), (vU32 (l.getD i Sts.zero).pg), (l.getD i Sts.zero).ev, (l.getD i Sts.zero).pv, (.bool (l.getD i Sts.zero).con), (vU32 (l.getD i Sts.zero).pp)] 61] → W 5 #[true, true, false, true, true, false, true, false, false, false] [(1, lv), (2, (vU32 id)), (3, (vU32 bk)), (4, (vU16 y)), (5, (ptr b1 0)), (11, (ptr c8 0)), (13, (ptr b9 0)), (14, (vN i)), (15, (ptr b13 0)), (16, (vN 0)), (45, (vN i)), (46, lv), (47, (vN l.length)), (48, (.bool (decide (i < l.length)))), (51, lv), (52, (vN i)), (53, (.pointer (some (sp lv (i * 7))))), (54, (.agg #[(vI (l.getD i Sts.zero).d), (vI (l.getD i Sts.zero).e), (vU32 (l.getD i Sts.zero).pg), (l.getD i Sts.zero).ev, (l.getD i Sts.zero).pv, (.bool (l.getD i Sts.zero).con), (vU32 (l.getD i Sts.zero).pp)])), (55, (ptr b13 0)), (56, (vI (l.getD i Sts.zero).d)), (57, (.bool (decide ((l.getD i Sts.zero).d = (0 : Int))))), (58, (.bool (decide ((l.getD i Sts.zero).d = (0 : Int))))), (59, (ptr c8 0)), (60, (ptr b13 1)), (62, (ptr b13 2)), (63, (.agg #[(vU32 (l.getD i Sts.zero).pg), (l.getD i Sts.zero).ev, (l.getD i Sts.zero).pv, (.bool (l.getD i Sts.zero).con)])), (65, (ptr b13 6))] wS := by
                intro wS HS
                rw [hW]
                refine WH.all3 (i := 2) (j := 5) (m := 7) (by kernel_rfl) ?_ ?_ ?_
                ·
                  refine WHS.op (i := 2) rfl (.inl rfl) rfl (op_load rfl (HS.cell (i := 7) rfl rfl) Try.underlying3 rfl ?_)
                  refine ⟨⟨[.blk b1 [(vU32 pg), hev] 48, .blk c8 [(vU32 pg), v8, (.map (some mb8))] 112, Ent.ar v8 1 he.length (List.map vU32 he), .obj mb8 (mP .i64 (List.map Gr.me gs) cn), Ent.bs 120 Gr.cells Gr.b gs, Ent.dp grD.list gs, .blk b9 ([] ++ (List.map vU32 tb)) 55, .blk b13 [(vI (l.getD i Sts.zero).d), (vI (l.getD i Sts.zero).e), (vU32 (l.getD i Sts.zero).pg), (l.getD i Sts.zero).ev, (l.getD i Sts.zero).pv, (.bool (l.getD i Sts.zero).con), (vU32 (l.getD i Sts.zero).pp)] 61], HS⟩, ?_⟩
                  have hq := st14_4 wS HS
                  rw [hW] at hq
                  refine WH.cov ?_ hq
                  exact by repeat (first | exact trivial | refine ⟨rfl, ?_⟩)
                ·
                  refine WHS.op (i := 5) rfl (.inl rfl) rfl (op_callF Fa.C20 rfl ((copy11_ok ((l.getD i Sts.zero).pg) _ _ ((l.getD i Sts.zero).xs) ((l.getD i Sts.zero).ps) ((l.getD i Sts.zero).con) _ ((StD_xs (Deep.getD StD (StD.list.fr0 hI HS.fr) Sts.zero (StD_zero _) i))) ((StD_ps (Deep.getD StD (StD.list.fr0 hI HS.fr) Sts.zero (StD_zero _) i))) (by omega) (by omega)).mono (fun e w27101 hq => ?_)))
                  obtain ⟨v27101, u27101, rfl, hq27101⟩ := hq
                  refine ⟨_, rfl, ?_⟩
                  have H27101 : Owl.Own [] w w27101 [.blk b1 [(vU32 pg), hev] 48, .blk c8 [(vU32 pg), v8, (.map (some mb8))] 112, Ent.ar v8 1 he.length (List.map vU32 he), .obj mb8 (mP .i64 (List.map Gr.me gs) cn), Ent.bs 120 Gr.cells Gr.b gs, Ent.dp grD.list gs, .blk b9 ([] ++ (List.map vU32 tb)) 55, .blk b13 [(vI (l.getD i Sts.zero).d), (vI (l.getD i Sts.zero).e), (vU32 (l.getD i Sts.zero).pg), (l.getD i Sts.zero).ev, (l.getD i Sts.zero).pv, (.bool (l.getD i Sts.zero).con), (vU32 (l.getD i Sts.zero).pp)] 61, .row v27101 108 2 ((l.getD i Sts.zero).xs).length (List.flatMap xtc ((l.getD i Sts.zero).xs)), .row u27101 50 1 ((l.getD i Sts.zero).ps).length (List.map vU16 ((l.getD i Sts.zero).ps))] := HS.splice [] [] [.row v27101 108 2 ((l.getD i Sts.zero).xs).length (List.flatMap xtc ((l.getD i Sts.zero).xs)), .row u27101 50 1 ((l.getD i Sts.zero).ps).length (List.map vU16 ((l.getD i Sts.zero).ps))] rfl rfl hq27101 (Fits.solid True.intro (Fits.solid True.intro Fits.nil))
                  refine ⟨⟨[.blk b1 [(vU32 pg), hev] 48, .blk c8 [(vU32 pg), v8, (.map (some mb8))] 112, Ent.ar v8 1 he.length (List.map vU32 he), .obj mb8 (mP .i64 (List.map Gr.me gs) cn), Ent.bs 120 Gr.cells Gr.b gs, Ent.dp grD.list gs, .blk b9 ([] ++ (List.map vU32 tb)) 55, .blk b13 [(vI (l.getD i Sts.zero).d), (vI (l.getD i Sts.zero).e), (vU32 (l.getD i Sts.zero).pg), (l.getD i Sts.zero).ev, (l.getD i Sts.zero).pv, (.bool (l.getD i Sts.zero).con), (vU32 (l.getD i Sts.zero).pp)] 61, .row v27101 108 2 ((l.getD i Sts.zero).xs).length (List.flatMap xtc ((l.getD i Sts.zero).xs)), .row u27101 50 1 ((l.getD i Sts.zero).ps).length (List.map vU16 ((l.getD i Sts.zero).ps))], H27101⟩, ?_⟩
                  have hq := st14_6 v27101 u27101 w27101 H27101
                  rw [hW] at hq
                  refine WH.cov ?_ hq
                  exact by repeat (first | exact trivial | refine ⟨rfl, ?_⟩)
                ·
                  refine WHS.op (i := 7) rfl (.inl rfl) rfl (op_load rfl (HS.cell (i := 7) rfl rfl) Try.underlying29 rfl ?_)
                  refine ⟨⟨[.blk b1 [(vU32 pg), hev] 48, .blk c8 [(vU32 pg), v8, (.map (some mb8))] 112, Ent.ar v8 1 he.length (List.map vU32 he), .obj mb8 (mP .i64 (List.map Gr.me gs) cn), Ent.bs 120 Gr.cells Gr.b gs, Ent.dp grD.list gs, .blk b9 ([] ++ (List.map vU32 tb)) 55, .blk b13 [(vI (l.getD i Sts.zero).d), (vI (l.getD i Sts.zero).e), (vU32 (l.getD i Sts.zero).pg), (l.getD i Sts.zero).ev, (l.getD i Sts.zero).pv, (.bool (l.getD i Sts.zero).con), (vU32 (l.getD i Sts.zero).pp)] 61], HS⟩, ?_⟩
                  have hq := st14_7 wS HS
                  rw [hW] at hq
                  refine WH.cov ?_ hq
                  exact by repeat (first | exact trivial | refine ⟨rfl, ?_⟩)
              have st14_3 : ∀ (wS : World), Owl.Own [] w wS [.blk b1 [(vU32 pg), hev] 48, .blk c8 [(vU32 pg), v8, (.map (some mb8))] 112, Ent.ar v8 1 he.length (List.map vU32 he), .obj mb8 (mP .i64 (List.map Gr.me gs) cn), Ent.bs 120 Gr.cells Gr.b gs, Ent.dp grD.list gs, .blk b9 ([] ++ (List.map vU32 tb)) 55, .blk b13 [(vI (l.getD i Sts.zero).d), (vI (l.getD i Sts.zero).e), (vU32 (l.getD i Sts.zero).pg), (l.getD i Sts.zero).ev, (l.getD i Sts.zero).pv, (.bool (l.getD i Sts.zero).con), (vU32 (l.getD i Sts.zero).pp)] 61] → W 5 #[true, true, false, true, false, false, true, true, false, false] [(1, lv), (2, (vU32 id)), (3, (vU32 bk)), (4, (vU16 y)), (5, (ptr b1 0)), (11, (ptr c8 0)), (13, (ptr b9 0)), (14, (vN i)), (15, (ptr b13 0)), (16, (vN 0)), (45, (vN i)), (46, lv), (47, (vN l.length)), (48, (.bool (decide (i < l.length)))), (51, lv), (52, (vN i)), (53, (.pointer (some (sp lv (i * 7))))), (54, (.agg #[(vI (l.getD i Sts.zero).d), (vI (l.getD i Sts.zero).e), (vU32 (l.getD i Sts.zero).pg), (l.getD i Sts.zero).ev, (l.getD i Sts.zero).pv, (.bool (l.getD i Sts.zero).con), (vU32 (l.getD i Sts.zero).pp)])), (55, (ptr b13 0)), (56, (vI (l.getD i Sts.zero).d)), (57, (.bool (decide ((l.getD i Sts.zero).d = (0 : Int))))), (58, (.bool (decide ((l.getD i Sts.zero).d = (0 : Int))))), (59, (ptr c8 0)), (60, (ptr b13 1)), (62, (ptr b13 2)), (65, (ptr b13 6)), (66, (vU32 (l.getD i Sts.zero).pp))] wS := by
                intro wS HS
                rw [hW]
                refine WH.all2 (i := 2) (j := 4) (by kernel_rfl) ?_ ?_
                ·
                  refine WHS.op (i := 2) rfl (.inl rfl) rfl (op_load rfl (HS.cell (i := 7) rfl rfl) Try.underlying3 rfl ?_)
                  refine ⟨⟨[.blk b1 [(vU32 pg), hev] 48, .blk c8 [(vU32 pg), v8, (.map (some mb8))] 112, Ent.ar v8 1 he.length (List.map vU32 he), .obj mb8 (mP .i64 (List.map Gr.me gs) cn), Ent.bs 120 Gr.cells Gr.b gs, Ent.dp grD.list gs, .blk b9 ([] ++ (List.map vU32 tb)) 55, .blk b13 [(vI (l.getD i Sts.zero).d), (vI (l.getD i Sts.zero).e), (vU32 (l.getD i Sts.zero).pg), (l.getD i Sts.zero).ev, (l.getD i Sts.zero).pv, (.bool (l.getD i Sts.zero).con), (vU32 (l.getD i Sts.zero).pp)] 61], HS⟩, ?_⟩
                  have hq := st14_5 wS HS
                  rw [hW] at hq
                  refine WH.cov ?_ hq
                  exact by repeat (first | exact trivial | refine ⟨rfl, ?_⟩)
                ·
                  refine WHS.op (i := 4) rfl (.inl rfl) rfl (op_loadS (vs := [_, _, _, _]) rfl (HS.cells (i := 7) rfl rfl) Try.underlying59 rfl Fa.I59 rfl ?_)
                  refine ⟨⟨[.blk b1 [(vU32 pg), hev] 48, .blk c8 [(vU32 pg), v8, (.map (some mb8))] 112, Ent.ar v8 1 he.length (List.map vU32 he), .obj mb8 (mP .i64 (List.map Gr.me gs) cn), Ent.bs 120 Gr.cells Gr.b gs, Ent.dp grD.list gs, .blk b9 ([] ++ (List.map vU32 tb)) 55, .blk b13 [(vI (l.getD i Sts.zero).d), (vI (l.getD i Sts.zero).e), (vU32 (l.getD i Sts.zero).pg), (l.getD i Sts.zero).ev, (l.getD i Sts.zero).pv, (.bool (l.getD i Sts.zero).con), (vU32 (l.getD i Sts.zero).pp)] 61], HS⟩, ?_⟩
                  have hq := st14_7 wS HS
                  rw [hW] at hq
                  refine WH.cov ?_ hq
                  exact by repeat (first | exact trivial | refine ⟨rfl, ?_⟩)
              have st14_0 : ∀ (wS : World), Owl.Own [] w wS [.blk b1 [(vU32 pg), hev] 48, .blk c8 [(vU32 pg), v8, (.map (some mb8))] 112, Ent.ar v8 1 he.length (List.map vU32 he), .obj mb8 (mP .i64 (List.map Gr.me gs) cn), Ent.bs 120 Gr.cells Gr.b gs, Ent.dp grD.list gs, .blk b9 ([] ++ (List.map vU32 tb)) 55, .blk b13 [(vI (l.getD i Sts.zero).d), (vI (l.getD i Sts.zero).e), (vU32 (l.getD i Sts.zero).pg), (l.getD i Sts.zero).ev, (l.getD i Sts.zero).pv, (.bool (l.getD i Sts.zero).con), (vU32 (l.getD i Sts.zero).pp)] 61] → W 6 #[true, true, false, true, false, false, true, false, false, false] [(1, lv), (2, (vU32 id)), (3, (vU32 bk)), (4, (vU16 y)), (5, (ptr b1 0)), (11, (ptr c8 0)), (13, (ptr b9 0)), (14, (vN i)), (15, (ptr b13 0)), (16, (vN 0)), (45, (vN i)), (46, lv), (47, (vN l.length)), (48, (.bool (decide (i < l.length)))), (51, lv), (52, (vN i)), (53, (.pointer (some (sp lv (i * 7))))), (54, (.agg #[(vI (l.getD i Sts.zero).d), (vI (l.getD i Sts.zero).e), (vU32 (l.getD i Sts.zero).pg), (l.getD i Sts.zero).ev, (l.getD i Sts.zero).pv, (.bool (l.getD i Sts.zero).con), (vU32 (l.getD i Sts.zero).pp)])), (55, (ptr b13 0)), (56, (vI (l.getD i Sts.zero).d)), (57, (.bool (decide ((l.getD i Sts.zero).d = (0 : Int))))), (58, (.bool (decide ((l.getD i Sts.zero).d = (0 : Int))))), (59, (ptr c8 0)), (60, (ptr b13 1)), (62, (ptr b13 2)), (65, (ptr b13 6))] wS := by
                intro wS HS
                rw [hW]
                refine WH.all3 (i := 2) (j := 4) (m := 7) (by kernel_rfl) ?_ ?_ ?_
                ·
                  refine WHS.op (i := 2) rfl (.inl rfl) rfl (op_load rfl (HS.cell (i := 7) rfl rfl) Try.underlying3 rfl ?_)
                  refine ⟨⟨[.blk b1 [(vU32 pg), hev] 48, .blk c8 [(vU32 pg), v8, (.map (some mb8))] 112, Ent.ar v8 1 he.length (List.map vU32 he), .obj mb8 (mP .i64 (List.map Gr.me gs) cn), Ent.bs 120 Gr.cells Gr.b gs, Ent.dp grD.list gs, .blk b9 ([] ++ (List.map vU32 tb)) 55, .blk b13 [(vI (l.getD i Sts.zero).d), (vI (l.getD i Sts.zero).e), (vU32 (l.getD i Sts.zero).pg), (l.getD i Sts.zero).ev, (l.getD i Sts.zero).pv, (.bool (l.getD i Sts.zero).con), (vU32 (l.getD i Sts.zero).pp)] 61], HS⟩, ?_⟩
                  have hq := st14_1 wS HS
                  rw [hW] at hq
                  refine WH.cov ?_ hq
                  exact by repeat (first | exact trivial | refine ⟨rfl, ?_⟩)
                ·
                  refine WHS.op (i := 4) rfl (.inl rfl) rfl (op_loadS (vs := [_, _, _, _]) rfl (HS.cells (i := 7) rfl rfl) Try.underlying59 rfl Fa.I59 rfl ?_)
                  refine ⟨⟨[.blk b1 [(vU32 pg), hev] 48, .blk c8 [(vU32 pg), v8, (.map (some mb8))] 112, Ent.ar v8 1 he.length (List.map vU32 he), .obj mb8 (mP .i64 (List.map Gr.me gs) cn), Ent.bs 120 Gr.cells Gr.b gs, Ent.dp grD.list gs, .blk b9 ([] ++ (List.map vU32 tb)) 55, .blk b13 [(vI (l.getD i Sts.zero).d), (vI (l.getD i Sts.zero).e), (vU32 (l.getD i Sts.zero).pg), (l.getD i Sts.zero).ev, (l.getD i Sts.zero).pv, (.bool (l.getD i Sts.zero).con), (vU32 (l.getD i Sts.zero).pp)] 61], HS⟩, ?_⟩
                  have hq := st14_2 wS HS
                  rw [hW] at hq
                  refine WH.cov ?_ hq
                  exact by repeat (first | exact trivial | refine ⟨rfl, ?_⟩)
                ·
                  refine WHS.op (i := 7) rfl (.inl rfl) rfl (op_load rfl (HS.cell (i := 7) rfl rfl) Try.underlying29 rfl ?_)
                  refine ⟨⟨[.blk b1 [(vU32 pg), hev] 48, .blk c8 [(vU32 pg), v8, (.map (some mb8))] 112, Ent.ar v8 1 he.length (List.map vU32 he), .obj mb8 (mP .i64 (List.map Gr.me gs) cn), Ent.bs 120 Gr.cells Gr.b gs, Ent.dp grD.list gs, .blk b9 ([] ++ (List.map vU32 tb)) 55, .blk b13 [(vI (l.getD i Sts.zero).d), (vI (l.getD i Sts.zero).e), (vU32 (l.getD i Sts.zero).pg), (l.getD i Sts.zero).ev, (l.getD i Sts.zero).pv, (.bool (l.getD i Sts.zero).con), (vU32 (l.getD i Sts.zero).pp)] 61], HS⟩, ?_⟩
                  have hq := st14_3 wS HS
                  rw [hW] at hq
                  refine WH.cov ?_ hq
                  exact by repeat (first | exact trivial | refine ⟨rfl, ?_⟩)
              have hq := st14_0 w16 H16
              rw [hW] at hq ⊢
              refine WH.cov ?_ hq
              exact by repeat (first | exact trivial | refine ⟨rfl, ?_⟩)
            ·
              have hc15 := of_decide_eq_false hb15
              refine WC.seq ?_
              refine WC.region ?_
              refine WL.op rfl rfl (op_eqlI (b := (1 : Int)) rfl rfl ?_)
              refine WL.op rfl rfl (op_assign rfl ?_)
              refine WL.nil ?_
              refine WQ.next ?_
              refine WC.cond rfl (fun (hb20 : (decide ((l.getD i Sts.zero).d = (1 : Int))) = true) => ?_) (fun (hb20 : (decide ((l.getD i Sts.zero).d = (1 : Int))) = false) => ?_)
              ·
                have hc20 := of_decide_eq_true hb20
                refine WC.region ?_
                refine WL.op rfl rfl (op_move rfl ?_)
                refine WL.op rfl rfl (op_fieldAddr rfl Fa.F61_1 ?_)
                refine WL.op rfl rfl (op_load rfl (H14.cell (i := 7) rfl rfl) Try.underlying3 rfl ?_)
                refine WL.op rfl rfl (op_callF Fa.C21 rfl ((capR_ok c8 pg v8 he mb8 cn gs ((l.getD i Sts.zero).e) m _ _ (H14.part [1, 2, 3, 4, 5] rfl rfl) hR).mono (fun e w21 hq => ?_)))
                obtain ⟨gs21, rfl, hi21, hd21, hq21⟩ := hq
                refine ⟨_, rfl, ?_⟩
                have H21 : Owl.Own [] w w21 [.blk b1 [(vU32 pg), hev] 48, .blk c8 [(vU32 pg), v8, (.map (some mb8))] 112, Ent.ar v8 1 he.length (List.map vU32 he), .obj mb8 (mP .i64 (List.map Gr.me gs21) cn), Ent.bs 120 Gr.cells Gr.b gs21, Ent.dp grD.list gs21, .blk b9 ([] ++ (List.map vU32 tb)) 55, .blk b13 [(vI (l.getD i Sts.zero).d), (vI (l.getD i Sts.zero).e), (vU32 (l.getD i Sts.zero).pg), (l.getD i Sts.zero).ev, (l.getD i Sts.zero).pv, (.bool (l.getD i Sts.zero).con), (vU32 (l.getD i Sts.zero).pp)] 61] := H14.splice [1, 2, 3, 4, 5] [.blk c8 [(vU32 pg), v8, (.map (some mb8))] 112, Ent.ar v8 1 he.length (List.map vU32 he), .obj mb8 (mP .i64 (List.map Gr.me gs21) cn), Ent.bs 120 Gr.cells Gr.b gs21, Ent.dp grD.list gs21] [] rfl rfl hq21 (Fits.solid True.intro (Fits.same (j := 1) rfl (Fits.solid True.intro (Fits.solid True.intro (Fits.dpTo 4 rfl hd21 Fits.nil)))))
                refine WL.nil ?_
                refine WQ.inNormal ?_
                exact WQ.here (tb, cn, gs21, (relG m ((l.getD i Sts.zero).e))) ⟨⟨hi21, hL.rel⟩, H21⟩ ⟨rfl, rfl, rfl, rfl, rfl, rfl, rfl, rfl, trivial⟩
              ·
                have hc20 := of_decide_eq_false hb20
                refine WC.seq ?_
                refine WC.region ?_
                refine WL.op rfl rfl (op_eqlI (b := (2 : Int)) rfl rfl ?_)
                refine WL.op rfl rfl (op_assign rfl ?_)
                refine WL.nil ?_
                refine WQ.next ?_
                refine WC.cond rfl (fun (hb22 : (decide ((l.getD i Sts.zero).d = (2 : Int))) = true) => ?_) (fun (hb22 : (decide ((l.getD i Sts.zero).d = (2 : Int))) = false) => ?_)
                ·
                  have hc22 := of_decide_eq_true hb22
                  refine WC.region ?_
                  refine WL.op rfl rfl (op_move rfl ?_)
                  refine WL.op rfl rfl (op_fieldAddr rfl Fa.F61_1 ?_)
                  refine WL.op rfl rfl (op_load rfl (H14.cell (i := 7) rfl rfl) Try.underlying3 rfl ?_)
                  refine WL.op rfl rfl (op_callF Fa.C22 rfl ((capT_ok c8 pg v8 he mb8 cn gs ((l.getD i Sts.zero).e) m _ _ (H14.part [1, 2, 3, 4, 5] rfl rfl) hR).mono (fun e w23 hq => ?_)))
                  obtain ⟨gs23, rfl, hi23, hd23, hq23⟩ := hq
                  refine ⟨_, rfl, ?_⟩
                  have H23 : Owl.Own [] w w23 [.blk b1 [(vU32 pg), hev] 48, .blk c8 [(vU32 pg), v8, (.map (some mb8))] 112, Ent.ar v8 1 he.length (List.map vU32 he), .obj mb8 (mP .i64 (List.map Gr.me gs23) cn), Ent.bs 120 Gr.cells Gr.b gs23, Ent.dp grD.list gs23, .blk b9 ([] ++ (List.map vU32 tb)) 55, .blk b13 [(vI (l.getD i Sts.zero).d), (vI (l.getD i Sts.zero).e), (vU32 (l.getD i Sts.zero).pg), (l.getD i Sts.zero).ev, (l.getD i Sts.zero).pv, (.bool (l.getD i Sts.zero).con), (vU32 (l.getD i Sts.zero).pp)] 61] := H14.splice [1, 2, 3, 4, 5] [.blk c8 [(vU32 pg), v8, (.map (some mb8))] 112, Ent.ar v8 1 he.length (List.map vU32 he), .obj mb8 (mP .i64 (List.map Gr.me gs23) cn), Ent.bs 120 Gr.cells Gr.b gs23, Ent.dp grD.list gs23] [] rfl rfl hq23 (Fits.solid True.intro (Fits.same (j := 1) rfl (Fits.solid True.intro (Fits.solid True.intro (Fits.dpTo 4 rfl hd23 Fits.nil)))))
                  refine WL.nil ?_
                  refine WQ.inNormal ?_
                  exact WQ.here (tb, cn, gs23, (takeG m ((l.getD i Sts.zero).e))) ⟨⟨hi23, hL.take⟩, H23⟩ ⟨rfl, rfl, rfl, rfl, rfl, rfl, rfl, rfl, trivial⟩
                ·
                  have hc22 := of_decide_eq_false hb22
                  refine WC.seq ?_
                  refine WC.region ?_
                  refine WL.op rfl rfl (op_eqlI (b := (3 : Int)) rfl rfl ?_)
                  refine WL.op rfl rfl (op_assign rfl ?_)
                  refine WL.nil ?_
                  refine WQ.next ?_
                  refine WC.cond rfl (fun (hb24 : (decide ((l.getD i Sts.zero).d = (3 : Int))) = true) => ?_) (fun (hb24 : (decide ((l.getD i Sts.zero).d = (3 : Int))) = false) => ?_)
                  ·
                    have hc24 := of_decide_eq_true hb24
                    refine WC.region ?_
                    refine WL.op rfl rfl (op_move rfl ?_)
                    refine WL.op rfl rfl (op_fieldAddr rfl Fa.F61_1 ?_)
                    refine WL.op rfl rfl (op_load rfl (H14.cell (i := 7) rfl rfl) Try.underlying3 rfl ?_)
                    refine WL.op rfl rfl (op_callF Fa.C23 rfl ((capGv_ok c8 pg v8 he mb8 cn gs ((l.getD i Sts.zero).e) m _ _ (H14.part [1, 2, 3, 4, 5] rfl rfl) hR).mono (fun e w25 hq => ?_)))
                    obtain ⟨gs25, rfl, hi25, hd25, hq25⟩ := hq
                    refine ⟨_, rfl, ?_⟩
                    have H25 : Owl.Own [] w w25 [.blk b1 [(vU32 pg), hev] 48, .blk c8 [(vU32 pg), v8, (.map (some mb8))] 112, Ent.ar v8 1 he.length (List.map vU32 he), .obj mb8 (mP .i64 (List.map Gr.me gs25) cn), Ent.bs 120 Gr.cells Gr.b gs25, Ent.dp grD.list gs25, .blk b9 ([] ++ (List.map vU32 tb)) 55, .blk b13 [(vI (l.getD i Sts.zero).d), (vI (l.getD i Sts.zero).e), (vU32 (l.getD i Sts.zero).pg), (l.getD i Sts.zero).ev, (l.getD i Sts.zero).pv, (.bool (l.getD i Sts.zero).con), (vU32 (l.getD i Sts.zero).pp)] 61] := H14.splice [1, 2, 3, 4, 5] [.blk c8 [(vU32 pg), v8, (.map (some mb8))] 112, Ent.ar v8 1 he.length (List.map vU32 he), .obj mb8 (mP .i64 (List.map Gr.me gs25) cn), Ent.bs 120 Gr.cells Gr.b gs25, Ent.dp grD.list gs25] [] rfl rfl hq25 (Fits.solid True.intro (Fits.same (j := 1) rfl (Fits.solid True.intro (Fits.solid True.intro (Fits.dpTo 4 rfl hd25 Fits.nil)))))
                    refine WL.nil ?_
                    refine WQ.inNormal ?_
                    exact WQ.here (tb, cn, gs25, (giveG m ((l.getD i Sts.zero).e))) ⟨⟨hi25, hL.give⟩, H25⟩ ⟨rfl, rfl, rfl, rfl, rfl, rfl, rfl, rfl, trivial⟩
                  ·
                    have hc24 := of_decide_eq_false hb24
                    refine WC.skip ?_
                    refine WQ.inNormal ?_
                    exact WQ.here (tb, cn, gs, m) ⟨⟨hR, hL⟩, H14⟩ ⟨rfl, rfl, rfl, rfl, rfl, rfl, rfl, rfl, trivial⟩
          ·
            rintro ⟨tb2, cn2, gs2, m2⟩ w26 ⟨⟨hR2, hL2⟩, H26⟩
            show WC _ _ _ _ _ [(1, lv), (2, (vU32 id)), (3, (vU32 bk)), (4, (vU16 y)), (5, (ptr b1 0)), (11, (ptr c8 0)), (13, (ptr b9 0)), (14, (vN i))] _
            have htl2 := hL2.tl
            have hgl := hR2.glen hL2
            refine WC.seq ?_
            refine WC.region ?_
            refine WL.op rfl rfl (op_move rfl ?_)
            refine WL.op rfl rfl (op_callF Fa.C24 rfl ((envs_ok c8 pg v8 he mb8 cn2 gs2 m2 _ (H26.cellsAt (i := 1) rfl) (H26.arrO (i := 2) rfl) (H26.mp (i := 3) rfl) (H26.bsG (i := 4) rfl) (H26.dpO (i := 5) rfl) hR2 (by omega)).mono (fun e w27 hq => ?_)))
            obtain ⟨v27, ks27, rfl, hk27, hq27⟩ := hq
            refine ⟨_, rfl, ?_⟩
            have H27 : Owl.Own [] w w27 [.blk b1 [(vU32 pg), hev] 48, .blk c8 [(vU32 pg), v8, (.map (some mb8))] 112, Ent.ar v8 1 he.length (List.map vU32 he), .obj mb8 (mP .i64 (List.map Gr.me gs2) cn2), Ent.bs 120 Gr.cells Gr.b gs2, Ent.dp grD.list gs2, .blk b9 ([] ++ (List.map vU32 tb2)) 55, .blk b13 [(vI (l.getD i Sts.zero).d), (vI (l.getD i Sts.zero).e), (vU32 (l.getD i Sts.zero).pg), (l.getD i Sts.zero).ev, (l.getD i Sts.zero).pv, (.bool (l.getD i Sts.zero).con), (vU32 (l.getD i Sts.zero).pp)] 61, .row v27 3 1 ks27.length (List.map vN ks27)] := H26.splice [] [] [.row v27 3 1 ks27.length (List.map vN ks27)] rfl rfl hq27 (Fits.solid True.intro Fits.nil)
            refine WL.op rfl rfl (op_assign rfl ?_)
            refine WL.nil ?_
            refine WQ.next ?_
            refine WC.seq ?_
            refine WC.region ?_
            obtain ⟨hp, -⟩ := hk27
            have hkl := hL2.ks_len hp
            refine WL.op rfl rfl (op_move rfl ?_)
            refine WL.op rfl rfl (op_callF Fa.C25 rfl ((freeL_ok c8 pg v8 he mb8 cn2 gs2 m2 _ (H27.cellsAt (i := 1) rfl) (H27.arrO (i := 2) rfl) (H27.mp (i := 3) rfl) (H27.bsG (i := 4) rfl) (H27.dpO (i := 5) rfl) hR2).mono (fun e w28 hq => ?_)))
            obtain ⟨rfl, hf28⟩ := hq
            refine ⟨_, rfl, ?_⟩
            have H28 := H27.fr' hf28
            refine WL.op rfl rfl (op_assign rfl ?_)
            refine WL.op rfl rfl (op_assign rfl ?_)
            refine WL.op rfl rfl (op_assign rfl ?_)
            refine WL.nil ?_
            refine WQ.next ?_
            refine WC.seq ?_
            refine WC.seq ?_
            refine WC.region ?_
            refine WL.op rfl rfl (op_move rfl ?_)
            refine WL.op rfl rfl (op_lenA Try.underlying64 rfl (H28.arrR (i := 8) rfl) ?_)
            refine WL.op rfl rfl (op_gtrN (b := 8) rfl rfl ?_)
            refine WL.nil ?_
            refine WQ.next ?_
            refine WC.no rfl (decide_eq_false (by omega)) ?_
            refine WC.skip ?_
            refine WQ.next ?_
            refine WC.seq ?_
            refine WC.seq ?_
            refine WC.region ?_
            refine WL.op rfl rfl (op_assign rfl ?_)
            refine WL.nil ?_
            refine WQ.next ?_
            refine WC.block ?_
            refine WC.loop (α := Nat) (fun k => [(1, lv), (2, (vU32 id)), (3, (vU32 bk)), (4, (vU16 y)), (5, (ptr b1 0)), (11, (ptr c8 0)), (13, (ptr b9 0)), (14, (vN i)), (17, v27), (18, (vU32 (freeS pg m2 + sumK m2 tb2 (ks27.take k)))), (19, (vN (cntK (fun g => busyQ g y) m2 (ks27.take k)))), (20, (vN (cntK (blkQ id bk) m2 (ks27.take k)))), (21, (vN k))]) (fun k w' => (k ≤ ks27.length) ∧ Owl.Own [] w w' [.blk b1 [(vU32 pg), hev] 48, .blk c8 [(vU32 pg), v8, (.map (some mb8))] 112, Ent.ar v8 1 he.length (List.map vU32 he), .obj mb8 (mP .i64 (List.map Gr.me gs2) cn2), Ent.bs 120 Gr.cells Gr.b gs2, Ent.dp grD.list gs2, .blk b9 ([] ++ (List.map vU32 tb2)) 55, .blk b13 [(vI (l.getD i Sts.zero).d), (vI (l.getD i Sts.zero).e), (vU32 (l.getD i Sts.zero).pg), (l.getD i Sts.zero).ev, (l.getD i Sts.zero).pv, (.bool (l.getD i Sts.zero).con), (vU32 (l.getD i Sts.zero).pp)] 61, .row v27 3 1 ks27.length (List.map vN ks27)]) (fun k => ks27.length - k) 0 ⟨(Nat.zero_le _), H28⟩ ⟨rfl, rfl, rfl, rfl, rfl, rfl, rfl, rfl, rfl, (congrArg (fun q => some (vU32 q)) (sumK_zero _).symm), rfl, rfl, rfl, trivial⟩ ?_
            rintro k w29 ⟨hkk, H29⟩
            show WC _ _ _ _ _ [(1, lv), (2, (vU32 id)), (3, (vU32 bk)), (4, (vU16 y)), (5, (ptr b1 0)), (11, (ptr c8 0)), (13, (ptr b9 0)), (14, (vN i)), (17, v27), (18, (vU32 (freeS pg m2 + sumK m2 tb2 (ks27.take k)))), (19, (vN (cntK (fun g => busyQ g y) m2 (ks27.take k)))), (20, (vN (cntK (blkQ id bk) m2 (ks27.take k)))), (21, (vN k))] _
            refine WC.seq ?_
            refine WC.seq ?_
            refine WC.region ?_
            refine WL.op rfl rfl (op_move rfl ?_)
            refine WL.op rfl rfl (op_move rfl ?_)
            refine WL.op rfl rfl (op_lenA Try.underlying64 rfl (H29.arrR (i := 8) rfl) ?_)
            refine WL.op rfl rfl (op_lssN rfl rfl ?_)
            refine WL.nil ?_
            refine WQ.next ?_
            refine WC.cond rfl (fun (hb30 : (decide (k < ks27.length)) = true) => ?_) (fun (hb30 : (decide (k < ks27.length)) = false) => ?_)
            ·
              have hc30 := of_decide_eq_true hb30
              obtain ⟨hk1, hk2, hk3, hk4⟩ := hL2.k1 hp (k := k) (by omega)
              have hq1 := cntK_le (p := fun g => busyQ g y) (l := m2) (ks := ks27) k
              have hq2 := cntK_le (p := blkQ id bk) (l := m2) (ks := ks27) k
              refine WC.skip ?_
              refine WQ.next ?_
              refine WC.seq ?_
              refine WC.block ?_
              refine WC.seq ?_
              refine WC.region ?_
              refine WL.op rfl rfl (op_move rfl ?_)
              refine WL.op rfl rfl (op_move rfl ?_)
              refine WL.op rfl rfl (op_move rfl ?_)
              refine WL.op rfl rfl (op_indexAddr1 Try.underlying64 Fa.I3 rfl (H29.arrR (i := 8) rfl) rfl (by omega) ?_)
              refine WL.op rfl rfl (op_load rfl ((H29.arrR (i := 8) rfl).at (get_map vN 0 (Arr.ltM (H29.arrR (i := 8) rfl) (by omega)))) Try.underlying3 rfl ?_)
              refine WL.op rfl rfl (op_callF Fa.C26 rfl ((manifest_ok c8 pg v8 he mb8 cn2 gs2 (((ks27.getD k 0) : Nat) : Int) m2 _ (H29.cellsAt (i := 1) rfl) (H29.arrO (i := 2) rfl) (H29.mp (i := 3) rfl) (H29.bsG (i := 4) rfl) (H29.dpO (i := 5) rfl) hR2).mono (fun e w31 hq => ?_)))
              obtain ⟨v31, u31, rfl, hq31⟩ := hq
              refine ⟨_, rfl, ?_⟩
              have H31 : Owl.Own [] w w31 [.blk b1 [(vU32 pg), hev] 48, .blk c8 [(vU32 pg), v8, (.map (some mb8))] 112, Ent.ar v8 1 he.length (List.map vU32 he), .obj mb8 (mP .i64 (List.map Gr.me gs2) cn2), Ent.bs 120 Gr.cells Gr.b gs2, Ent.dp grD.list gs2, .blk b9 ([] ++ (List.map vU32 tb2)) 55, .blk b13 [(vI (l.getD i Sts.zero).d), (vI (l.getD i Sts.zero).e), (vU32 (l.getD i Sts.zero).pg), (l.getD i Sts.zero).ev, (l.getD i Sts.zero).pv, (.bool (l.getD i Sts.zero).con), (vU32 (l.getD i Sts.zero).pp)] 61, .row v27 3 1 ks27.length (List.map vN ks27), .row v31 108 2 (obs m2 (((ks27.getD k 0) : Nat) : Int)).xs.length (List.flatMap xtc (obs m2 (((ks27.getD k 0) : Nat) : Int)).xs), .row u31 50 1 (obs m2 (((ks27.getD k 0) : Nat) : Int)).ps.length (List.map vU16 (obs m2 (((ks27.getD k 0) : Nat) : Int)).ps)] := H29.splice [] [] [.row v31 108 2 (obs m2 (((ks27.getD k 0) : Nat) : Int)).xs.length (List.flatMap xtc (obs m2 (((ks27.getD k 0) : Nat) : Int)).xs), .row u31 50 1 (obs m2 (((ks27.getD k 0) : Nat) : Int)).ps.length (List.map vU16 (obs m2 (((ks27.getD k 0) : Nat) : Int)).ps)] rfl rfl hq31 (Fits.solid True.intro (Fits.solid True.intro Fits.nil))
              refine WL.op rfl rfl (op_move rfl ?_)
              refine WL.op rfl rfl (op_extract rfl rfl ?_)
              refine WL.op rfl rfl (op_extract rfl rfl ?_)
              refine WL.op rfl rfl (op_alloc H31 Fa.I59 (fun b32 w32 H32 => ?_))
              refine WL.op rfl rfl (op_storeBW (i := 11) H32 rfl rfl rfl rfl (one_cons rfl (one_cons (Arr.one (H32.arrR (i := 9) rfl)) (one_cons (Arr.one (H32.arrR (i := 10) rfl)) (one_cons rfl one_nil)))) Fa.I59 (fun w33 H33 => ?_))
              refine WL.op rfl rfl (op_assign rfl ?_)
              refine WL.nil ?_
              refine WQ.next ?_
              refine WC.seq ?_
              refine WC.seq ?_
              refine WC.draw 27 Fa.M H33 (HW.op rfl (fun w1 H1 => op_move rfl ⟨rfl, Fr.refl _ _⟩) (HW.op rfl (fun w1 H1 => op_not rfl ⟨rfl, Fr.refl _ _⟩) (HW.op rfl (fun w1 H1 => op_move rfl ⟨rfl, Fr.refl _ _⟩) (HW.yes rfl rfl rfl (by rw [hk1]; rfl) (fun w1 H1 => op_move rfl ⟨rfl, Fr.refl _ _⟩) (HW.yes rfl rfl rfl (by rw [hk1]; rfl) (fun w1 H1 => op_move rfl ⟨rfl, Fr.refl _ _⟩) (HW.yes rfl rfl rfl (by rw [hk1]; rfl) (fun w1 H1 => op_indexAddr1 Try.underlying64 Fa.I3 rfl (H1.arrR (i := 8) rfl) rfl (by omega) ⟨rfl, Fr.refl _ _⟩) (HW.yes rfl rfl rfl (by rw [hk1]; rfl) (fun w1 H1 => op_load rfl ((H1.arrR (i := 8) rfl).at (get_map vN 0 (Arr.ltM (H1.arrR (i := 8) rfl) (by omega)))) Try.underlying3 rfl ⟨rfl, Fr.refl _ _⟩) (HW.yes rfl rfl rfl (by rw [hk1]; rfl) (fun w1 H1 => op_lssN (b := 1) rfl rfl ⟨rfl, Fr.refl _ _⟩) (HW.op rfl (fun w1 H1 => op_pickF rfl (by rw [hk1]; rfl) rfl ⟨rfl, Fr.refl _ _⟩) (HW.op rfl (fun w1 H1 => op_move rfl ⟨rfl, Fr.refl _ _⟩) (HW.yes rfl rfl rfl (decide_eq_false (by omega)) (fun w1 H1 => op_move rfl ⟨rfl, Fr.refl _ _⟩) (HW.yes rfl rfl rfl (decide_eq_false (by omega)) (fun w1 H1 => op_move rfl ⟨rfl, Fr.refl _ _⟩) (HW.yes rfl rfl rfl (decide_eq_false (by omega)) (fun w1 H1 => op_indexAddr1 Try.underlying64 Fa.I3 rfl (H1.arrR (i := 8) rfl) rfl (by omega) ⟨rfl, Fr.refl _ _⟩) (HW.yes rfl rfl rfl (decide_eq_false (by omega)) (fun w1 H1 => op_load rfl ((H1.arrR (i := 8) rfl).at (get_map vN 0 (Arr.ltM (H1.arrR (i := 8) rfl) (by omega)))) Try.underlying3 rfl ⟨rfl, Fr.refl _ _⟩) (HW.yes rfl rfl rfl (decide_eq_false (by omega)) (fun w1 H1 => op_gtrN (b := 8) rfl rfl ⟨rfl, Fr.refl _ _⟩) (HW.op rfl (fun w1 H1 => op_pickF rfl (decide_eq_false (by omega)) rfl ⟨rfl, Fr.refl _ _⟩) (HW.op rfl (fun w1 H1 => op_move rfl ⟨rfl, Fr.refl _ _⟩) (HW.yes rfl rfl rfl (decide_eq_false (by omega)) (fun w1 H1 => op_move rfl ⟨rfl, Fr.refl _ _⟩) (HW.yes rfl rfl rfl (decide_eq_false (by omega)) (fun w1 H1 => op_move rfl ⟨rfl, Fr.refl _ _⟩) (HW.yes rfl rfl rfl (decide_eq_false (by omega)) (fun w1 H1 => op_move rfl ⟨rfl, Fr.refl _ _⟩) (HW.yes rfl rfl rfl (decide_eq_false (by omega)) (fun w1 H1 => op_indexAddr1 Try.underlying64 Fa.I3 rfl (H1.arrR (i := 8) rfl) rfl (by omega) ⟨rfl, Fr.refl _ _⟩) (HW.yes rfl rfl rfl (decide_eq_false (by omega)) (fun w1 H1 => op_load rfl ((H1.arrR (i := 8) rfl).at (get_map vN 0 (Arr.ltM (H1.arrR (i := 8) rfl) (by omega)))) Try.underlying3 rfl ⟨rfl, Fr.refl _ _⟩) (HW.yes rfl rfl rfl (decide_eq_false (by omega)) (fun w1 H1 => op_callF Fa.C27 rfl ((left_ok c8 pg v8 he mb8 cn2 gs2 (((ks27.getD k 0) : Nat) : Int) m2 _ (H1.cellsAt (i := 1) rfl) (H1.arrO (i := 2) rfl) (H1.mp (i := 3) rfl) (H1.bsG (i := 4) rfl) (H1.dpO (i := 5) rfl) hR2).mono (fun e w2 hq => ⟨_, hq.1, rfl, hq.2⟩))) (HW.yes rfl rfl rfl (decide_eq_false (by omega)) (fun w1 H1 => op_fieldAddr rfl Fa.F59_0 ⟨rfl, Fr.refl _ _⟩) (HW.yes rfl rfl rfl (decide_eq_false (by omega)) (fun w1 H1 => op_load rfl (H1.cell (i := 11) rfl rfl) Try.underlying29 rfl ⟨rfl, Fr.refl _ _⟩) (HW.yes rfl rfl rfl (decide_eq_false (by omega)) (fun w1 H1 => op_gtrU32 rfl rfl ⟨rfl, Fr.refl _ _⟩) (HW.op rfl (fun w1 H1 => op_pickF rfl (decide_eq_false (by omega)) rfl ⟨rfl, Fr.refl _ _⟩)  HW.nil))))))))))))))))))))))))))) (by kernel_rfl) ?_
              intro β35 w35 H35
              refine WL.nil ?_
              refine WQ.next ?_
              refine WC.no rfl (decide_eq_false hk4) ?_
              refine WC.skip ?_
              refine WQ.next ?_
              refine WC.seq ?_
              refine WC.draw 12 Fa.M H35 (HW.op rfl (fun w1 H1 => op_move rfl ⟨rfl, Fr.refl _ _⟩) (HW.op rfl (fun w1 H1 => op_fieldAddr rfl Fa.F59_0 ⟨rfl, Fr.refl _ _⟩) (HW.op rfl (fun w1 H1 => op_load rfl (H1.cell (i := 11) rfl rfl) Try.underlying29 rfl ⟨rfl, Fr.refl _ _⟩) (HW.op rfl (fun w1 H1 => op_addU32 rfl rfl ⟨rfl, Fr.refl _ _⟩) (HW.op rfl (fun w1 H1 => op_move rfl ⟨rfl, Fr.refl _ _⟩) (HW.op rfl (fun w1 H1 => op_move rfl ⟨rfl, Fr.refl _ _⟩) (HW.op rfl (fun w1 H1 => op_indexAddr1 Try.underlying64 Fa.I3 rfl (H1.arrR (i := 8) rfl) rfl (by omega) ⟨rfl, Fr.refl _ _⟩) (HW.op rfl (fun w1 H1 => op_load rfl ((H1.arrR (i := 8) rfl).at (get_map vN 0 (Arr.ltM (H1.arrR (i := 8) rfl) (by omega)))) Try.underlying3 rfl ⟨rfl, Fr.refl _ _⟩) (HW.op rfl (fun w1 H1 => op_indexAddrA1 Try.underlying55 Fa.I29 rfl rfl (by omega) ⟨rfl, Fr.refl _ _⟩) (HW.op rfl (fun w1 H1 => op_load rfl (H1.cell (i := 6) rfl (get_tab _ tb2 0 (ks27.getD k 0) 0 (by omega))) Try.underlying29 rfl ⟨rfl, Fr.refl _ _⟩) (HW.op rfl (fun w1 H1 => op_addU32 rfl rfl ⟨rfl, Fr.refl _ _⟩) (HW.op rfl (fun w1 H1 => op_assign rfl ⟨rfl, Fr.refl _ _⟩)  HW.nil)))))))))))) (by kernel_rfl) ?_
              intro β36 w36 H36
              refine WL.nil ?_
              refine WQ.next ?_
              refine WC.seq ?_
              refine WC.seq ?_
              refine WC.region ?_
              refine WL.op rfl rfl (op_move rfl ?_)
              refine WL.op rfl rfl (op_move rfl ?_)
              refine WL.op rfl rfl (op_move rfl ?_)
              refine WL.op rfl rfl (op_indexAddr1 Try.underlying64 Fa.I3 rfl (H36.arrR (i := 8) rfl) rfl (by omega) ?_)
              refine WL.op rfl rfl (op_load rfl ((H36.arrR (i := 8) rfl).at (get_map vN 0 (Arr.ltM (H36.arrR (i := 8) rfl) (by omega)))) Try.underlying3 rfl ?_)
              refine WL.op rfl rfl (op_move rfl ?_)
              refine WL.op rfl rfl (op_callF Fa.C28 rfl ((port_ok c8 pg v8 he mb8 cn2 gs2 (((ks27.getD k 0) : Nat) : Int) y m2 _ (H36.cellsAt (i := 1) rfl) (H36.arrO (i := 2) rfl) (H36.mp (i := 3) rfl) (H36.bsG (i := 4) rfl) (H36.dpO (i := 5) rfl) hR2).mono (fun e w37 hq => ?_)))
              obtain ⟨rfl, hf37⟩ := hq
              refine ⟨_, rfl, ?_⟩
              have H37 := H36.fr' hf37
              refine WL.nil ?_
              refine WQ.next ?_
              refine WC.cond rfl (fun (hb38 : (busyQ (obs m2 (((ks27.getD k 0) : Nat) : Int)) y) = true) => ?_) (fun (hb38 : (busyQ (obs m2 (((ks27.getD k 0) : Nat) : Int)) y) = false) => ?_)
              ·
                refine WC.region ?_
                refine WL.op rfl rfl (op_move rfl ?_)
                refine WL.op rfl rfl (op_addN (b := 1) rfl rfl (by omega) ?_)
                refine WL.op rfl rfl (op_assign rfl ?_)
                refine WL.nil ?_
                refine WQ.next ?_
                refine WC.seq ?_
                refine WC.seq ?_
                refine WC.region ?_
                refine WL.op rfl rfl (op_move rfl ?_)
                refine WL.op rfl rfl (op_move rfl ?_)
                refine WL.op rfl rfl (op_move rfl ?_)
                refine WL.op rfl rfl (op_indexAddr1 Try.underlying64 Fa.I3 rfl (H37.arrR (i := 8) rfl) rfl (by omega) ?_)
                refine WL.op rfl rfl (op_load rfl ((H37.arrR (i := 8) rfl).at (get_map vN 0 (Arr.ltM (H37.arrR (i := 8) rfl) (by omega)))) Try.underlying3 rfl ?_)
                refine WL.op rfl rfl (op_move rfl ?_)
                refine WL.op rfl rfl (op_move rfl ?_)
                refine WL.op rfl rfl (op_callF Fa.C29 rfl ((cblock_ok c8 pg v8 he mb8 cn2 gs2 (((ks27.getD k 0) : Nat) : Int) id bk m2 _ (H37.cellsAt (i := 1) rfl) (H37.arrO (i := 2) rfl) (H37.mp (i := 3) rfl) (H37.bsG (i := 4) rfl) (H37.dpO (i := 5) rfl) hR2).mono (fun e w39 hq => ?_)))
                obtain ⟨rfl, hf39⟩ := hq
                refine ⟨_, rfl, ?_⟩
                have H39 := H37.fr' hf39
                refine WL.nil ?_
                refine WQ.next ?_
                refine WC.cond rfl (fun (hb40 : (hasX (obs m2 (((ks27.getD k 0) : Nat) : Int)).xs id && decide (bk < (extG (obs m2 (((ks27.getD k 0) : Nat) : Int)).xs id).bl)) = true) => ?_) (fun (hb40 : (hasX (obs m2 (((ks27.getD k 0) : Nat) : Int)).xs id && decide (bk < (extG (obs m2 (((ks27.getD k 0) : Nat) : Int)).xs id).bl)) = false) => ?_)
                ·
                  refine WC.region ?_
                  refine WL.op rfl rfl (op_move rfl ?_)
                  refine WL.op rfl rfl (op_addN (b := 1) rfl rfl (by omega) ?_)
                  refine WL.op rfl rfl (op_assign rfl ?_)
                  refine WL.nil ?_
                  refine WQ.next ?_
                  refine WC.seq ?_
                  refine WC.draw 37 Fa.M H39 (HW.op rfl (fun w1 H1 => op_move rfl ⟨rfl, Fr.refl _ _⟩) (HW.op rfl (fun w1 H1 => op_move rfl ⟨rfl, Fr.refl _ _⟩) (HW.op rfl (fun w1 H1 => op_move rfl ⟨rfl, Fr.refl _ _⟩) (HW.op rfl (fun w1 H1 => op_indexAddr1 Try.underlying64 Fa.I3 rfl (H1.arrR (i := 8) rfl) rfl (by omega) ⟨rfl, Fr.refl _ _⟩) (HW.op rfl (fun w1 H1 => op_load rfl ((H1.arrR (i := 8) rfl).at (get_map vN 0 (Arr.ltM (H1.arrR (i := 8) rfl) (by omega)))) Try.underlying3 rfl ⟨rfl, Fr.refl _ _⟩) (HW.op rfl (fun w1 H1 => op_move rfl ⟨rfl, Fr.refl _ _⟩) (HW.op rfl (fun w1 H1 => op_callF Fa.C28 rfl ((port_ok c8 pg v8 he mb8 cn2 gs2 (((ks27.getD k 0) : Nat) : Int) y m2 _ (H1.cellsAt (i := 1) rfl) (H1.arrO (i := 2) rfl) (H1.mp (i := 3) rfl) (H1.bsG (i := 4) rfl) (H1.dpO (i := 5) rfl) hR2).mono (fun e w2 hq => ⟨_, hq.1, rfl, hq.2⟩))) (HW.op rfl (fun w1 H1 => op_loadS (vs := [_, _, _, _]) rfl (H1.cells (i := 11) rfl rfl) Try.underlying59 rfl Fa.I59 rfl ⟨rfl, Fr.refl _ _⟩) (HW.op rfl (fun w1 H1 => op_move rfl ⟨rfl, Fr.refl _ _⟩) (HW.op rfl (fun w1 H1 => op_callF Fa.C30 rfl ((covers_ok ((obs m2 (((ks27.getD k 0) : Nat) : Int)).pg) _ _ ((obs m2 (((ks27.getD k 0) : Nat) : Int)).xs) ((obs m2 (((ks27.getD k 0) : Nat) : Int)).ps) ((obs m2 (((ks27.getD k 0) : Nat) : Int)).con) y _ (H1.arrR (i := 9) rfl) (H1.arrR (i := 10) rfl) (CapR.ofit hR2 _).1).mono (fun e w2 hq => ⟨_, hq.1, rfl, hq.2⟩))) (HW.op rfl (fun w1 H1 => op_neqB Try.underlying4 rfl rfl ⟨rfl, Fr.refl _ _⟩) (HW.op rfl (fun w1 H1 => op_move rfl ⟨rfl, Fr.refl _ _⟩) (HW.yes rfl rfl rfl (neqB_self rfl) (fun w1 H1 => op_move rfl ⟨rfl, Fr.refl _ _⟩) (HW.yes rfl rfl rfl (neqB_self rfl) (fun w1 H1 => op_move rfl ⟨rfl, Fr.refl _ _⟩) (HW.yes rfl rfl rfl (neqB_self rfl) (fun w1 H1 => op_move rfl ⟨rfl, Fr.refl _ _⟩) (HW.yes rfl rfl rfl (neqB_self rfl) (fun w1 H1 => op_indexAddr1 Try.underlying64 Fa.I3 rfl (H1.arrR (i := 8) rfl) rfl (by omega) ⟨rfl, Fr.refl _ _⟩) (HW.yes rfl rfl rfl (neqB_self rfl) (fun w1 H1 => op_load rfl ((H1.arrR (i := 8) rfl).at (get_map vN 0 (Arr.ltM (H1.arrR (i := 8) rfl) (by omega)))) Try.underlying3 rfl ⟨rfl, Fr.refl _ _⟩) (HW.yes rfl rfl rfl (neqB_self rfl) (fun w1 H1 => op_callF Fa.C31 rfl ((console_ok c8 pg v8 he mb8 cn2 gs2 (((ks27.getD k 0) : Nat) : Int) m2 _ (H1.cellsAt (i := 1) rfl) (H1.arrO (i := 2) rfl) (H1.mp (i := 3) rfl) (H1.bsG (i := 4) rfl) (H1.dpO (i := 5) rfl) hR2).mono (fun e w2 hq => ⟨_, hq.1, rfl, hq.2⟩))) (HW.yes rfl rfl rfl (neqB_self rfl) (fun w1 H1 => op_fieldAddr rfl Fa.F59_3 ⟨rfl, Fr.refl _ _⟩) (HW.yes rfl rfl rfl (neqB_self rfl) (fun w1 H1 => op_load rfl (H1.cell (i := 11) rfl rfl) Try.underlying4 rfl ⟨rfl, Fr.refl _ _⟩) (HW.yes rfl rfl rfl (neqB_self rfl) (fun w1 H1 => op_neqB Try.underlying4 rfl rfl ⟨rfl, Fr.refl _ _⟩) (HW.op rfl (fun w1 H1 => op_pickF rfl (neqB_self rfl) rfl ⟨rfl, Fr.refl _ _⟩) (HW.op rfl (fun w1 H1 => op_move rfl ⟨rfl, Fr.refl _ _⟩) (HW.yes rfl rfl rfl (neqB_self rfl) (fun w1 H1 => op_move rfl ⟨rfl, Fr.refl _ _⟩) (HW.yes rfl rfl rfl (neqB_self rfl) (fun w1 H1 => op_move rfl ⟨rfl, Fr.refl _ _⟩) (HW.yes rfl rfl rfl (neqB_self rfl) (fun w1 H1 => op_move rfl ⟨rfl, Fr.refl _ _⟩) (HW.yes rfl rfl rfl (neqB_self rfl) (fun w1 H1 => op_indexAddr1 Try.underlying64 Fa.I3 rfl (H1.arrR (i := 8) rfl) rfl (by omega) ⟨rfl, Fr.refl _ _⟩) (HW.yes rfl rfl rfl (neqB_self rfl) (fun w1 H1 => op_load rfl ((H1.arrR (i := 8) rfl).at (get_map vN 0 (Arr.ltM (H1.arrR (i := 8) rfl) (by omega)))) Try.underlying3 rfl ⟨rfl, Fr.refl _ _⟩) (HW.yes rfl rfl rfl (neqB_self rfl) (fun w1 H1 => op_move rfl ⟨rfl, Fr.refl _ _⟩) (HW.yes rfl rfl rfl (neqB_self rfl) (fun w1 H1 => op_move rfl ⟨rfl, Fr.refl _ _⟩) (HW.yes rfl rfl rfl (neqB_self rfl) (fun w1 H1 => op_callF Fa.C29 rfl ((cblock_ok c8 pg v8 he mb8 cn2 gs2 (((ks27.getD k 0) : Nat) : Int) id bk m2 _ (H1.cellsAt (i := 1) rfl) (H1.arrO (i := 2) rfl) (H1.mp (i := 3) rfl) (H1.bsG (i := 4) rfl) (H1.dpO (i := 5) rfl) hR2).mono (fun e w2 hq => ⟨_, hq.1, rfl, hq.2⟩))) (HW.yes rfl rfl rfl (neqB_self rfl) (fun w1 H1 => op_loadS (vs := [_, _, _, _]) rfl (H1.cells (i := 11) rfl rfl) Try.underlying59 rfl Fa.I59 rfl ⟨rfl, Fr.refl _ _⟩) (HW.yes rfl rfl rfl (neqB_self rfl) (fun w1 H1 => op_move rfl ⟨rfl, Fr.refl _ _⟩) (HW.yes rfl rfl rfl (neqB_self rfl) (fun w1 H1 => op_move rfl ⟨rfl, Fr.refl _ _⟩) (HW.yes rfl rfl rfl (neqB_self rfl) (fun w1 H1 => op_callF Fa.C32 rfl ((within_ok ((obs m2 (((ks27.getD k 0) : Nat) : Int)).pg) _ _ ((obs m2 (((ks27.getD k 0) : Nat) : Int)).xs) ((obs m2 (((ks27.getD k 0) : Nat) : Int)).ps) ((obs m2 (((ks27.getD k 0) : Nat) : Int)).con) id bk _ (H1.arrR (i := 9) rfl) (H1.arrR (i := 10) rfl) (CapR.ofit hR2 _).2).mono (fun e w2 hq => ⟨_, hq.1, rfl, hq.2⟩))) (HW.yes rfl rfl rfl (neqB_self rfl) (fun w1 H1 => op_neqB Try.underlying4 rfl rfl ⟨rfl, Fr.refl _ _⟩) (HW.op rfl (fun w1 H1 => op_pickF rfl (neqB_self rfl) rfl ⟨rfl, Fr.refl _ _⟩)  HW.nil))))))))))))))))))))))))))))))))))))) (by kernel_rfl) ?_
                  intro β46 w46 H46
                  refine WL.nil ?_
                  refine WQ.next ?_
                  refine WC.no rfl (neqB_self rfl) ?_
                  refine WC.skip ?_
                  refine WQ.inNormal ?_
                  refine WQ.next ?_
                  refine WC.region ?_
                  refine WL.op rfl rfl (op_move rfl ?_)
                  refine WL.op rfl rfl (op_addN (b := 1) rfl rfl (by omega) ?_)
                  refine WL.op rfl rfl (op_assign rfl ?_)
                  refine WL.nil ?_
                  exact WQ.round (k + 1) ⟨(by omega), (H46.take 9)⟩ ⟨rfl, rfl, rfl, rfl, rfl, rfl, rfl, rfl, rfl, (congrArg (fun q => some (vU32 q)) (sumK_step (by omega) _)), (congrArg (fun q : Nat => some (vN q)) (cntK_yes (p := fun g => busyQ g y) (by omega) hb38).symm), (congrArg (fun q : Nat => some (vN q)) (cntK_yes (p := blkQ id bk) (by omega) hb40).symm), rfl, trivial⟩ (by show ks27.length - (k + 1) < ks27.length - k; omega)
                ·
                  refine WC.skip ?_
                  refine WQ.next ?_
                  refine WC.seq ?_
                  refine WC.draw 37 Fa.M H39 (HW.op rfl (fun w1 H1 => op_move rfl ⟨rfl, Fr.refl _ _⟩) (HW.op rfl (fun w1 H1 => op_move rfl ⟨rfl, Fr.refl _ _⟩) (HW.op rfl (fun w1 H1 => op_move rfl ⟨rfl, Fr.refl _ _⟩) (HW.op rfl (fun w1 H1 => op_indexAddr1 Try.underlying64 Fa.I3 rfl (H1.arrR (i := 8) rfl) rfl (by omega) ⟨rfl, Fr.refl _ _⟩) (HW.op rfl (fun w1 H1 => op_load rfl ((H1.arrR (i := 8) rfl).at (get_map vN 0 (Arr.ltM (H1.arrR (i := 8) rfl) (by omega)))) Try.underlying3 rfl ⟨rfl, Fr.refl _ _⟩) (HW.op rfl (fun w1 H1 => op_move rfl ⟨rfl, Fr.refl _ _⟩) (HW.op rfl (fun w1 H1 => op_callF Fa.C28 rfl ((port_ok c8 pg v8 he mb8 cn2 gs2 (((ks27.getD k 0) : Nat) : Int) y m2 _ (H1.cellsAt (i := 1) rfl) (H1.arrO (i := 2) rfl) (H1.mp (i := 3) rfl) (H1.bsG (i := 4) rfl) (H1.dpO (i := 5) rfl) hR2).mono (fun e w2 hq => ⟨_, hq.1, rfl, hq.2⟩))) (HW.op rfl (fun w1 H1 => op_loadS (vs := [_, _, _, _]) rfl (H1.cells (i := 11) rfl rfl) Try.underlying59 rfl Fa.I59 rfl ⟨rfl, Fr.refl _ _⟩) (HW.op rfl (fun w1 H1 => op_move rfl ⟨rfl, Fr.refl _ _⟩) (HW.op rfl (fun w1 H1 => op_callF Fa.C30 rfl ((covers_ok ((obs m2 (((ks27.getD k 0) : Nat) : Int)).pg) _ _ ((obs m2 (((ks27.getD k 0) : Nat) : Int)).xs) ((obs m2 (((ks27.getD k 0) : Nat) : Int)).ps) ((obs m2 (((ks27.getD k 0) : Nat) : Int)).con) y _ (H1.arrR (i := 9) rfl) (H1.arrR (i := 10) rfl) (CapR.ofit hR2 _).1).mono (fun e w2 hq => ⟨_, hq.1, rfl, hq.2⟩))) (HW.op rfl (fun w1 H1 => op_neqB Try.underlying4 rfl rfl ⟨rfl, Fr.refl _ _⟩) (HW.op rfl (fun w1 H1 => op_move rfl ⟨rfl, Fr.refl _ _⟩) (HW.yes rfl rfl rfl (neqB_self rfl) (fun w1 H1 => op_move rfl ⟨rfl, Fr.refl _ _⟩) (HW.yes rfl rfl rfl (neqB_self rfl) (fun w1 H1 => op_move rfl ⟨rfl, Fr.refl _ _⟩) (HW.yes rfl rfl rfl (neqB_self rfl) (fun w1 H1 => op_move rfl ⟨rfl, Fr.refl _ _⟩) (HW.yes rfl rfl rfl (neqB_self rfl) (fun w1 H1 => op_indexAddr1 Try.underlying64 Fa.I3 rfl (H1.arrR (i := 8) rfl) rfl (by omega) ⟨rfl, Fr.refl _ _⟩) (HW.yes rfl rfl rfl (neqB_self rfl) (fun w1 H1 => op_load rfl ((H1.arrR (i := 8) rfl).at (get_map vN 0 (Arr.ltM (H1.arrR (i := 8) rfl) (by omega)))) Try.underlying3 rfl ⟨rfl, Fr.refl _ _⟩) (HW.yes rfl rfl rfl (neqB_self rfl) (fun w1 H1 => op_callF Fa.C31 rfl ((console_ok c8 pg v8 he mb8 cn2 gs2 (((ks27.getD k 0) : Nat) : Int) m2 _ (H1.cellsAt (i := 1) rfl) (H1.arrO (i := 2) rfl) (H1.mp (i := 3) rfl) (H1.bsG (i := 4) rfl) (H1.dpO (i := 5) rfl) hR2).mono (fun e w2 hq => ⟨_, hq.1, rfl, hq.2⟩))) (HW.yes rfl rfl rfl (neqB_self rfl) (fun w1 H1 => op_fieldAddr rfl Fa.F59_3 ⟨rfl, Fr.refl _ _⟩) (HW.yes rfl rfl rfl (neqB_self rfl) (fun w1 H1 => op_load rfl (H1.cell (i := 11) rfl rfl) Try.underlying4 rfl ⟨rfl, Fr.refl _ _⟩) (HW.yes rfl rfl rfl (neqB_self rfl) (fun w1 H1 => op_neqB Try.underlying4 rfl rfl ⟨rfl, Fr.refl _ _⟩) (HW.op rfl (fun w1 H1 => op_pickF rfl (neqB_self rfl) rfl ⟨rfl, Fr.refl _ _⟩) (HW.op rfl (fun w1 H1 => op_move rfl ⟨rfl, Fr.refl _ _⟩) (HW.yes rfl rfl rfl (neqB_self rfl) (fun w1 H1 => op_move rfl ⟨rfl, Fr.refl _ _⟩) (HW.yes rfl rfl rfl (neqB_self rfl) (fun w1 H1 => op_move rfl ⟨rfl, Fr.refl _ _⟩) (HW.yes rfl rfl rfl (neqB_self rfl) (fun w1 H1 => op_move rfl ⟨rfl, Fr.refl _ _⟩) (HW.yes rfl rfl rfl (neqB_self rfl) (fun w1 H1 => op_indexAddr1 Try.underlying64 Fa.I3 rfl (H1.arrR (i := 8) rfl) rfl (by omega) ⟨rfl, Fr.refl _ _⟩) (HW.yes rfl rfl rfl (neqB_self rfl) (fun w1 H1 => op_load rfl ((H1.arrR (i := 8) rfl).at (get_map vN 0 (Arr.ltM (H1.arrR (i := 8) rfl) (by omega)))) Try.underlying3 rfl ⟨rfl, Fr.refl _ _⟩) (HW.yes rfl rfl rfl (neqB_self rfl) (fun w1 H1 => op_move rfl ⟨rfl, Fr.refl _ _⟩) (HW.yes rfl rfl rfl (neqB_self rfl) (fun w1 H1 => op_move rfl ⟨rfl, Fr.refl _ _⟩) (HW.yes rfl rfl rfl (neqB_self rfl) (fun w1 H1 => op_callF Fa.C29 rfl ((cblock_ok c8 pg v8 he mb8 cn2 gs2 (((ks27.getD k 0) : Nat) : Int) id bk m2 _ (H1.cellsAt (i := 1) rfl) (H1.arrO (i := 2) rfl) (H1.mp (i := 3) rfl) (H1.bsG (i := 4) rfl) (H1.dpO (i := 5) rfl) hR2).mono (fun e w2 hq => ⟨_, hq.1, rfl, hq.2⟩))) (HW.yes rfl rfl rfl (neqB_self rfl) (fun w1 H1 => op_loadS (vs := [_, _, _, _]) rfl (H1.cells (i := 11) rfl rfl) Try.underlying59 rfl Fa.I59 rfl ⟨rfl, Fr.refl _ _⟩) (HW.yes rfl rfl rfl (neqB_self rfl) (fun w1 H1 => op_move rfl ⟨rfl, Fr.refl _ _⟩) (HW.yes rfl rfl rfl (neqB_self rfl) (fun w1 H1 => op_move rfl ⟨rfl, Fr.refl _ _⟩) (HW.yes rfl rfl rfl (neqB_self rfl) (fun w1 H1 => op_callF Fa.C32 rfl ((within_ok ((obs m2 (((ks27.getD k 0) : Nat) : Int)).pg) _ _ ((obs m2 (((ks27.getD k 0) : Nat) : Int)).xs) ((obs m2 (((ks27.getD k 0) : Nat) : Int)).ps) ((obs m2 (((ks27.getD k 0) : Nat) : Int)).con) id bk _ (H1.arrR (i := 9) rfl) (H1.arrR (i := 10) rfl) (CapR.ofit hR2 _).2).mono (fun e w2 hq => ⟨_, hq.1, rfl, hq.2⟩))) (HW.yes rfl rfl rfl (neqB_self rfl) (fun w1 H1 => op_neqB Try.underlying4 rfl rfl ⟨rfl, Fr.refl _ _⟩) (HW.op rfl (fun w1 H1 => op_pickF rfl (neqB_self rfl) rfl ⟨rfl, Fr.refl _ _⟩)  HW.nil))))))))))))))))))))))))))))))))))))) (by kernel_rfl) ?_
                  intro β52 w52 H52
                  refine WL.nil ?_
                  refine WQ.next ?_
                  refine WC.no rfl (neqB_self rfl) ?_
                  refine WC.skip ?_
                  refine WQ.inNormal ?_
                  refine WQ.next ?_
                  refine WC.region ?_
                  refine WL.op rfl rfl (op_move rfl ?_)
                  refine WL.op rfl rfl (op_addN (b := 1) rfl rfl (by omega) ?_)
                  refine WL.op rfl rfl (op_assign rfl ?_)
                  refine WL.nil ?_
                  exact WQ.round (k + 1) ⟨(by omega), (H52.take 9)⟩ ⟨rfl, rfl, rfl, rfl, rfl, rfl, rfl, rfl, rfl, (congrArg (fun q => some (vU32 q)) (sumK_step (by omega) _)), (congrArg (fun q : Nat => some (vN q)) (cntK_yes (p := fun g => busyQ g y) (by omega) hb38).symm), (congrArg (fun q : Nat => some (vN q)) (cntK_no (p := blkQ id bk) (by omega) hb40).symm), rfl, trivial⟩ (by show ks27.length - (k + 1) < ks27.length - k; omega)
              ·
                refine WC.skip ?_
                refine WQ.next ?_
                refine WC.seq ?_
                refine WC.seq ?_
                refine WC.region ?_
                refine WL.op rfl rfl (op_move rfl ?_)
                refine WL.op rfl rfl (op_move rfl ?_)
                refine WL.op rfl rfl (op_move rfl ?_)
                refine WL.op rfl rfl (op_indexAddr1 Try.underlying64 Fa.I3 rfl (H37.arrR (i := 8) rfl) rfl (by omega) ?_)
                refine WL.op rfl rfl (op_load rfl ((H37.arrR (i := 8) rfl).at (get_map vN 0 (Arr.ltM (H37.arrR (i := 8) rfl) (by omega)))) Try.underlying3 rfl ?_)
                refine WL.op rfl rfl (op_move rfl ?_)
                refine WL.op rfl rfl (op_move rfl ?_)
                refine WL.op rfl rfl (op_callF Fa.C29 rfl ((cblock_ok c8 pg v8 he mb8 cn2 gs2 (((ks27.getD k 0) : Nat) : Int) id bk m2 _ (H37.cellsAt (i := 1) rfl) (H37.arrO (i := 2) rfl) (H37.mp (i := 3) rfl) (H37.bsG (i := 4) rfl) (H37.dpO (i := 5) rfl) hR2).mono (fun e w53 hq => ?_)))
                obtain ⟨rfl, hf53⟩ := hq
                refine ⟨_, rfl, ?_⟩
                have H53 := H37.fr' hf53
                refine WL.nil ?_
                refine WQ.next ?_
                refine WC.cond rfl (fun (hb54 : (hasX (obs m2 (((ks27.getD k 0) : Nat) : Int)).xs id && decide (bk < (extG (obs m2 (((ks27.getD k 0) : Nat) : Int)).xs id).bl)) = true) => ?_) (fun (hb54 : (hasX (obs m2 (((ks27.getD k 0) : Nat) : Int)).xs id && decide (bk < (extG (obs m2 (((ks27.getD k 0) : Nat) : Int)).xs id).bl)) = false) => ?_)
                ·
                  refine WC.region ?_
                  refine WL.op rfl rfl (op_move rfl ?_)
                  refine WL.op rfl rfl (op_addN (b := 1) rfl rfl (by omega) ?_)
                  refine WL.op rfl rfl (op_assign rfl ?_)
                  refine WL.nil ?_
                  refine WQ.next ?_
                  refine WC.seq ?_
                  refine WC.draw 37 Fa.M H53 (HW.op rfl (fun w1 H1 => op_move rfl ⟨rfl, Fr.refl _ _⟩) (HW.op rfl (fun w1 H1 => op_move rfl ⟨rfl, Fr.refl _ _⟩) (HW.op rfl (fun w1 H1 => op_move rfl ⟨rfl, Fr.refl _ _⟩) (HW.op rfl (fun w1 H1 => op_indexAddr1 Try.underlying64 Fa.I3 rfl (H1.arrR (i := 8) rfl) rfl (by omega) ⟨rfl, Fr.refl _ _⟩) (HW.op rfl (fun w1 H1 => op_load rfl ((H1.arrR (i := 8) rfl).at (get_map vN 0 (Arr.ltM (H1.arrR (i := 8) rfl) (by omega)))) Try.underlying3 rfl ⟨rfl, Fr.refl _ _⟩) (HW.op rfl (fun w1 H1 => op_move rfl ⟨rfl, Fr.refl _ _⟩) (HW.op rfl (fun w1 H1 => op_callF Fa.C28 rfl ((port_ok c8 pg v8 he mb8 cn2 gs2 (((ks27.getD k 0) : Nat) : Int) y m2 _ (H1.cellsAt (i := 1) rfl) (H1.arrO (i := 2) rfl) (H1.mp (i := 3) rfl) (H1.bsG (i := 4) rfl) (H1.dpO (i := 5) rfl) hR2).mono (fun e w2 hq => ⟨_, hq.1, rfl, hq.2⟩))) (HW.op rfl (fun w1 H1 => op_loadS (vs := [_, _, _, _]) rfl (H1.cells (i := 11) rfl rfl) Try.underlying59 rfl Fa.I59 rfl ⟨rfl, Fr.refl _ _⟩) (HW.op rfl (fun w1 H1 => op_move rfl ⟨rfl, Fr.refl _ _⟩) (HW.op rfl (fun w1 H1 => op_callF Fa.C30 rfl ((covers_ok ((obs m2 (((ks27.getD k 0) : Nat) : Int)).pg) _ _ ((obs m2 (((ks27.getD k 0) : Nat) : Int)).xs) ((obs m2 (((ks27.getD k 0) : Nat) : Int)).ps) ((obs m2 (((ks27.getD k 0) : Nat) : Int)).con) y _ (H1.arrR (i := 9) rfl) (H1.arrR (i := 10) rfl) (CapR.ofit hR2 _).1).mono (fun e w2 hq => ⟨_, hq.1, rfl, hq.2⟩))) (HW.op rfl (fun w1 H1 => op_neqB Try.underlying4 rfl rfl ⟨rfl, Fr.refl _ _⟩) (HW.op rfl (fun w1 H1 => op_move rfl ⟨rfl, Fr.refl _ _⟩) (HW.yes rfl rfl rfl (neqB_self rfl) (fun w1 H1 => op_move rfl ⟨rfl, Fr.refl _ _⟩) (HW.yes rfl rfl rfl (neqB_self rfl) (fun w1 H1 => op_move rfl ⟨rfl, Fr.refl _ _⟩) (HW.yes rfl rfl rfl (neqB_self rfl) (fun w1 H1 => op_move rfl ⟨rfl, Fr.refl _ _⟩) (HW.yes rfl rfl rfl (neqB_self rfl) (fun w1 H1 => op_indexAddr1 Try.underlying64 Fa.I3 rfl (H1.arrR (i := 8) rfl) rfl (by omega) ⟨rfl, Fr.refl _ _⟩) (HW.yes rfl rfl rfl (neqB_self rfl) (fun w1 H1 => op_load rfl ((H1.arrR (i := 8) rfl).at (get_map vN 0 (Arr.ltM (H1.arrR (i := 8) rfl) (by omega)))) Try.underlying3 rfl ⟨rfl, Fr.refl _ _⟩) (HW.yes rfl rfl rfl (neqB_self rfl) (fun w1 H1 => op_callF Fa.C31 rfl ((console_ok c8 pg v8 he mb8 cn2 gs2 (((ks27.getD k 0) : Nat) : Int) m2 _ (H1.cellsAt (i := 1) rfl) (H1.arrO (i := 2) rfl) (H1.mp (i := 3) rfl) (H1.bsG (i := 4) rfl) (H1.dpO (i := 5) rfl) hR2).mono (fun e w2 hq => ⟨_, hq.1, rfl, hq.2⟩))) (HW.yes rfl rfl rfl (neqB_self rfl) (fun w1 H1 => op_fieldAddr rfl Fa.F59_3 ⟨rfl, Fr.refl _ _⟩) (HW.yes rfl rfl rfl (neqB_self rfl) (fun w1 H1 => op_load rfl (H1.cell (i := 11) rfl rfl) Try.underlying4 rfl ⟨rfl, Fr.refl _ _⟩) (HW.yes rfl rfl rfl (neqB_self rfl) (fun w1 H1 => op_neqB Try.underlying4 rfl rfl ⟨rfl, Fr.refl _ _⟩) (HW.op rfl (fun w1 H1 => op_pickF rfl (neqB_self rfl) rfl ⟨rfl, Fr.refl _ _⟩) (HW.op rfl (fun w1 H1 => op_move rfl ⟨rfl, Fr.refl _ _⟩) (HW.yes rfl rfl rfl (neqB_self rfl) (fun w1 H1 => op_move rfl ⟨rfl, Fr.refl _ _⟩) (HW.yes rfl rfl rfl (neqB_self rfl) (fun w1 H1 => op_move rfl ⟨rfl, Fr.refl _ _⟩) (HW.yes rfl rfl rfl (neqB_self rfl) (fun w1 H1 => op_move rfl ⟨rfl, Fr.refl _ _⟩) (HW.yes rfl rfl rfl (neqB_self rfl) (fun w1 H1 => op_indexAddr1 Try.underlying64 Fa.I3 rfl (H1.arrR (i := 8) rfl) rfl (by omega) ⟨rfl, Fr.refl _ _⟩) (HW.yes rfl rfl rfl (neqB_self rfl) (fun w1 H1 => op_load rfl ((H1.arrR (i := 8) rfl).at (get_map vN 0 (Arr.ltM (H1.arrR (i := 8) rfl) (by omega)))) Try.underlying3 rfl ⟨rfl, Fr.refl _ _⟩) (HW.yes rfl rfl rfl (neqB_self rfl) (fun w1 H1 => op_move rfl ⟨rfl, Fr.refl _ _⟩) (HW.yes rfl rfl rfl (neqB_self rfl) (fun w1 H1 => op_move rfl ⟨rfl, Fr.refl _ _⟩) (HW.yes rfl rfl rfl (neqB_self rfl) (fun w1 H1 => op_callF Fa.C29 rfl ((cblock_ok c8 pg v8 he mb8 cn2 gs2 (((ks27.getD k 0) : Nat) : Int) id bk m2 _ (H1.cellsAt (i := 1) rfl) (H1.arrO (i := 2) rfl) (H1.mp (i := 3) rfl) (H1.bsG (i := 4) rfl) (H1.dpO (i := 5) rfl) hR2).mono (fun e w2 hq => ⟨_, hq.1, rfl, hq.2⟩))) (HW.yes rfl rfl rfl (neqB_self rfl) (fun w1 H1 => op_loadS (vs := [_, _, _, _]) rfl (H1.cells (i := 11) rfl rfl) Try.underlying59 rfl Fa.I59 rfl ⟨rfl, Fr.refl _ _⟩) (HW.yes rfl rfl rfl (neqB_self rfl) (fun w1 H1 => op_move rfl ⟨rfl, Fr.refl _ _⟩) (HW.yes rfl rfl rfl (neqB_self rfl) (fun w1 H1 => op_move rfl ⟨rfl, Fr.refl _ _⟩) (HW.yes rfl rfl rfl (neqB_self rfl) (fun w1 H1 => op_callF Fa.C32 rfl ((within_ok ((obs m2 (((ks27.getD k 0) : Nat) : Int)).pg) _ _ ((obs m2 (((ks27.getD k 0) : Nat) : Int)).xs) ((obs m2 (((ks27.getD k 0) : Nat) : Int)).ps) ((obs m2 (((ks27.getD k 0) : Nat) : Int)).con) id bk _ (H1.arrR (i := 9) rfl) (H1.arrR (i := 10) rfl) (CapR.ofit hR2 _).2).mono (fun e w2 hq => ⟨_, hq.1, rfl, hq.2⟩))) (HW.yes rfl rfl rfl (neqB_self rfl) (fun w1 H1 => op_neqB Try.underlying4 rfl rfl ⟨rfl, Fr.refl _ _⟩) (HW.op rfl (fun w1 H1 => op_pickF rfl (neqB_self rfl) rfl ⟨rfl, Fr.refl _ _⟩)  HW.nil))))))))))))))))))))))))))))))))))))) (by kernel_rfl) ?_
                  intro β60 w60 H60
                  refine WL.nil ?_
                  refine WQ.next ?_
                  refine WC.no rfl (neqB_self rfl) ?_
                  refine WC.skip ?_
                  refine WQ.inNormal ?_
                  refine WQ.next ?_
                  refine WC.region ?_
                  refine WL.op rfl rfl (op_move rfl ?_)
                  refine WL.op rfl rfl (op_addN (b := 1) rfl rfl (by omega) ?_)
                  refine WL.op rfl rfl (op_assign rfl ?_)
                  refine WL.nil ?_
                  exact WQ.round (k + 1) ⟨(by omega), (H60.take 9)⟩ ⟨rfl, rfl, rfl, rfl, rfl, rfl, rfl, rfl, rfl, (congrArg (fun q => some (vU32 q)) (sumK_step (by omega) _)), (congrArg (fun q : Nat => some (vN q)) (cntK_no (p := fun g => busyQ g y) (by omega) hb38).symm), (congrArg (fun q : Nat => some (vN q)) (cntK_yes (p := blkQ id bk) (by omega) hb54).symm), rfl, trivial⟩ (by show ks27.length - (k + 1) < ks27.length - k; omega)
                ·
                  refine WC.skip ?_
                  refine WQ.next ?_
                  refine WC.seq ?_
                  refine WC.draw 37 Fa.M H53 (HW.op rfl (fun w1 H1 => op_move rfl ⟨rfl, Fr.refl _ _⟩) (HW.op rfl (fun w1 H1 => op_move rfl ⟨rfl, Fr.refl _ _⟩) (HW.op rfl (fun w1 H1 => op_move rfl ⟨rfl, Fr.refl _ _⟩) (HW.op rfl (fun w1 H1 => op_indexAddr1 Try.underlying64 Fa.I3 rfl (H1.arrR (i := 8) rfl) rfl (by omega) ⟨rfl, Fr.refl _ _⟩) (HW.op rfl (fun w1 H1 => op_load rfl ((H1.arrR (i := 8) rfl).at (get_map vN 0 (Arr.ltM (H1.arrR (i := 8) rfl) (by omega)))) Try.underlying3 rfl ⟨rfl, Fr.refl _ _⟩) (HW.op rfl (fun w1 H1 => op_move rfl ⟨rfl, Fr.refl _ _⟩) (HW.op rfl (fun w1 H1 => op_callF Fa.C28 rfl ((port_ok c8 pg v8 he mb8 cn2 gs2 (((ks27.getD k 0) : Nat) : Int) y m2 _ (H1.cellsAt (i := 1) rfl) (H1.arrO (i := 2) rfl) (H1.mp (i := 3) rfl) (H1.bsG (i := 4) rfl) (H1.dpO (i := 5) rfl) hR2).mono (fun e w2 hq => ⟨_, hq.1, rfl, hq.2⟩))) (HW.op rfl (fun w1 H1 => op_loadS (vs := [_, _, _, _]) rfl (H1.cells (i := 11) rfl rfl) Try.underlying59 rfl Fa.I59 rfl ⟨rfl, Fr.refl _ _⟩) (HW.op rfl (fun w1 H1 => op_move rfl ⟨rfl, Fr.refl _ _⟩) (HW.op rfl (fun w1 H1 => op_callF Fa.C30 rfl ((covers_ok ((obs m2 (((ks27.getD k 0) : Nat) : Int)).pg) _ _ ((obs m2 (((ks27.getD k 0) : Nat) : Int)).xs) ((obs m2 (((ks27.getD k 0) : Nat) : Int)).ps) ((obs m2 (((ks27.getD k 0) : Nat) : Int)).con) y _ (H1.arrR (i := 9) rfl) (H1.arrR (i := 10) rfl) (CapR.ofit hR2 _).1).mono (fun e w2 hq => ⟨_, hq.1, rfl, hq.2⟩))) (HW.op rfl (fun w1 H1 => op_neqB Try.underlying4 rfl rfl ⟨rfl, Fr.refl _ _⟩) (HW.op rfl (fun w1 H1 => op_move rfl ⟨rfl, Fr.refl _ _⟩) (HW.yes rfl rfl rfl (neqB_self rfl) (fun w1 H1 => op_move rfl ⟨rfl, Fr.refl _ _⟩) (HW.yes rfl rfl rfl (neqB_self rfl) (fun w1 H1 => op_move rfl ⟨rfl, Fr.refl _ _⟩) (HW.yes rfl rfl rfl (neqB_self rfl) (fun w1 H1 => op_move rfl ⟨rfl, Fr.refl _ _⟩) (HW.yes rfl rfl rfl (neqB_self rfl) (fun w1 H1 => op_indexAddr1 Try.underlying64 Fa.I3 rfl (H1.arrR (i := 8) rfl) rfl (by omega) ⟨rfl, Fr.refl _ _⟩) (HW.yes rfl rfl rfl (neqB_self rfl) (fun w1 H1 => op_load rfl ((H1.arrR (i := 8) rfl).at (get_map vN 0 (Arr.ltM (H1.arrR (i := 8) rfl) (by omega)))) Try.underlying3 rfl ⟨rfl, Fr.refl _ _⟩) (HW.yes rfl rfl rfl (neqB_self rfl) (fun w1 H1 => op_callF Fa.C31 rfl ((console_ok c8 pg v8 he mb8 cn2 gs2 (((ks27.getD k 0) : Nat) : Int) m2 _ (H1.cellsAt (i := 1) rfl) (H1.arrO (i := 2) rfl) (H1.mp (i := 3) rfl) (H1.bsG (i := 4) rfl) (H1.dpO (i := 5) rfl) hR2).mono (fun e w2 hq => ⟨_, hq.1, rfl, hq.2⟩))) (HW.yes rfl rfl rfl (neqB_self rfl) (fun w1 H1 => op_fieldAddr rfl Fa.F59_3 ⟨rfl, Fr.refl _ _⟩) (HW.yes rfl rfl rfl (neqB_self rfl) (fun w1 H1 => op_load rfl (H1.cell (i := 11) rfl rfl) Try.underlying4 rfl ⟨rfl, Fr.refl _ _⟩) (HW.yes rfl rfl rfl (neqB_self rfl) (fun w1 H1 => op_neqB Try.underlying4 rfl rfl ⟨rfl, Fr.refl _ _⟩) (HW.op rfl (fun w1 H1 => op_pickF rfl (neqB_self rfl) rfl ⟨rfl, Fr.refl _ _⟩) (HW.op rfl (fun w1 H1 => op_move rfl ⟨rfl, Fr.refl _ _⟩) (HW.yes rfl rfl rfl (neqB_self rfl) (fun w1 H1 => op_move rfl ⟨rfl, Fr.refl _ _⟩) (HW.yes rfl rfl rfl (neqB_self rfl) (fun w1 H1 => op_move rfl ⟨rfl, Fr.refl _ _⟩) (HW.yes rfl rfl rfl (neqB_self rfl) (fun w1 H1 => op_move rfl ⟨rfl, Fr.refl _ _⟩) (HW.yes rfl rfl rfl (neqB_self rfl) (fun w1 H1 => op_indexAddr1 Try.underlying64 Fa.I3 rfl (H1.arrR (i := 8) rfl) rfl (by omega) ⟨rfl, Fr.refl _ _⟩) (HW.yes rfl rfl rfl (neqB_self rfl) (fun w1 H1 => op_load rfl ((H1.arrR (i := 8) rfl).at (get_map vN 0 (Arr.ltM (H1.arrR (i := 8) rfl) (by omega)))) Try.underlying3 rfl ⟨rfl, Fr.refl _ _⟩) (HW.yes rfl rfl rfl (neqB_self rfl) (fun w1 H1 => op_move rfl ⟨rfl, Fr.refl _ _⟩) (HW.yes rfl rfl rfl (neqB_self rfl) (fun w1 H1 => op_move rfl ⟨rfl, Fr.refl _ _⟩) (HW.yes rfl rfl rfl (neqB_self rfl) (fun w1 H1 => op_callF Fa.C29 rfl ((cblock_ok c8 pg v8 he mb8 cn2 gs2 (((ks27.getD k 0) : Nat) : Int) id bk m2 _ (H1.cellsAt (i := 1) rfl) (H1.arrO (i := 2) rfl) (H1.mp (i := 3) rfl) (H1.bsG (i := 4) rfl) (H1.dpO (i := 5) rfl) hR2).mono (fun e w2 hq => ⟨_, hq.1, rfl, hq.2⟩))) (HW.yes rfl rfl rfl (neqB_self rfl) (fun w1 H1 => op_loadS (vs := [_, _, _, _]) rfl (H1.cells (i := 11) rfl rfl) Try.underlying59 rfl Fa.I59 rfl ⟨rfl, Fr.refl _ _⟩) (HW.yes rfl rfl rfl (neqB_self rfl) (fun w1 H1 => op_move rfl ⟨rfl, Fr.refl _ _⟩) (HW.yes rfl rfl rfl (neqB_self rfl) (fun w1 H1 => op_move rfl ⟨rfl, Fr.refl _ _⟩) (HW.yes rfl rfl rfl (neqB_self rfl) (fun w1 H1 => op_callF Fa.C32 rfl ((within_ok ((obs m2 (((ks27.getD k 0) : Nat) : Int)).pg) _ _ ((obs m2 (((ks27.getD k 0) : Nat) : Int)).xs) ((obs m2 (((ks27.getD k 0) : Nat) : Int)).ps) ((obs m2 (((ks27.getD k 0) : Nat) : Int)).con) id bk _ (H1.arrR (i := 9) rfl) (H1.arrR (i := 10) rfl) (CapR.ofit hR2 _).2).mono (fun e w2 hq => ⟨_, hq.1, rfl, hq.2⟩))) (HW.yes rfl rfl rfl (neqB_self rfl) (fun w1 H1 => op_neqB Try.underlying4 rfl rfl ⟨rfl, Fr.refl _ _⟩) (HW.op rfl (fun w1 H1 => op_pickF rfl (neqB_self rfl) rfl ⟨rfl, Fr.refl _ _⟩)  HW.nil))))))))))))))))))))))))))))))))))))) (by kernel_rfl) ?_
                  intro β66 w66 H66
                  refine WL.nil ?_
                  refine WQ.next ?_
                  refine WC.no rfl (neqB_self rfl) ?_
                  refine WC.skip ?_
                  refine WQ.inNormal ?_
                  refine WQ.next ?_
                  refine WC.region ?_
                  refine WL.op rfl rfl (op_move rfl ?_)
                  refine WL.op rfl rfl (op_addN (b := 1) rfl rfl (by omega) ?_)
                  refine WL.op rfl rfl (op_assign rfl ?_)
                  refine WL.nil ?_
                  exact WQ.round (k + 1) ⟨(by omega), (H66.take 9)⟩ ⟨rfl, rfl, rfl, rfl, rfl, rfl, rfl, rfl, rfl, (congrArg (fun q => some (vU32 q)) (sumK_step (by omega) _)), (congrArg (fun q : Nat => some (vN q)) (cntK_no (p := fun g => busyQ g y) (by omega) hb38).symm), (congrArg (fun q : Nat => some (vN q)) (cntK_no (p := blkQ id bk) (by omega) hb54).symm), rfl, trivial⟩ (by show ks27.length - (k + 1) < ks27.length - k; omega)
            ·
              have hc30 := of_decide_eq_false hb30
              have htk : ks27.take k = ks27 := List.take_of_length_le (by omega)
              refine WC.exit ?_
              refine WQ.thenExit ?_
              refine WQ.thenExit ?_
              refine WQ.inHere ?_
              refine WQ.next ?_
              refine WC.seq ?_
              refine WC.region ?_
              refine WL.op rfl rfl (op_move rfl ?_)
              refine WL.op rfl rfl (op_fieldAddr rfl Fa.F48_0 ?_)
              refine WL.op rfl rfl (op_load rfl (H29.cell (i := 0) rfl rfl) Try.underlying29 rfl ?_)
              refine WL.op rfl rfl (op_neqU32 rfl rfl ?_)
              refine WL.op rfl rfl (op_move rfl ?_)
              refine WL.yes rfl rfl rfl (decide_eq_false (fun h => h (by rw [htk]; exact hL2.sum hp))) rfl (op_move rfl ?_)
              refine WL.yes rfl rfl rfl (decide_eq_false (fun h => h (by rw [htk]; exact hL2.sum hp))) rfl (op_gtrN (b := 1) rfl rfl ?_)
              refine WL.op rfl rfl (op_pickF rfl (decide_eq_false (fun h => h (by rw [htk]; exact hL2.sum hp))) rfl ?_)
              refine WL.op rfl rfl (op_move rfl ?_)
              refine WL.yes rfl rfl rfl (decide_eq_false (by rw [htk]; exact hL2.ports hp y)) rfl (op_move rfl ?_)
              refine WL.yes rfl rfl rfl (decide_eq_false (by rw [htk]; exact hL2.ports hp y)) rfl (op_gtrN (b := 1) rfl rfl ?_)
              refine WL.op rfl rfl (op_pickF rfl (decide_eq_false (by rw [htk]; exact hL2.ports hp y)) rfl ?_)
              refine WL.op rfl rfl (op_move rfl ?_)
              refine WL.yes rfl rfl rfl (decide_eq_false (by rw [htk]; exact hL2.blocks hp id bk)) rfl (op_move rfl ?_)
              refine WL.yes rfl rfl rfl (decide_eq_false (by rw [htk]; exact hL2.blocks hp id bk)) rfl (op_eqlN (b := 1) rfl rfl ?_)
              refine WL.yes rfl rfl rfl (decide_eq_false (by rw [htk]; exact hL2.blocks hp id bk)) rfl (op_move rfl ?_)
              refine WL.split (t := 236) rfl (fun (hb67 : (decide ((cntK (blkQ id bk) m2 (ks27.take k)) = 1)) = true) => ?_) (fun (hb67 : (decide ((cntK (blkQ id bk) m2 (ks27.take k)) = 1)) = false) => ?_)
              ·
                have hc67 := of_decide_eq_true hb67
                have hin := hL2.inside hp (id := id) (bk := bk) (by have h := of_decide_eq_true hb67; rw [htk] at h; exact h)
                refine WL.yes rfl rfl rfl hb67 rfl (op_move rfl ?_)
                refine WL.yes rfl rfl rfl hb67 rfl (op_fieldAddr rfl Fa.F48_1 ?_)
                refine WL.yes rfl rfl rfl hb67 rfl (op_load rfl (H29.cell (i := 0) rfl rfl) Try.underlying46 rfl ?_)
                refine WL.yes rfl rfl rfl hb67 rfl (op_lenA Try.underlying46 rfl (H29.arr hH) ?_)
                refine WL.yes rfl rfl rfl hb67 rfl (op_convNU32 (hs := Try.underlying3) (hd := Try.underlying29) rfl ?_)
                refine WL.yes rfl rfl rfl hb67 rfl (op_geqU32 rfl rfl ?_)
                refine WL.yes rfl rfl rfl hb67 rfl (op_move rfl ?_)
                refine WL.yes rfl rfl rfl (decide_eq_false (u32_ge_no hin.1 (by omega))) rfl (op_move rfl ?_)
                refine WL.yes rfl rfl rfl (decide_eq_false (u32_ge_no hin.1 (by omega))) rfl (op_fieldAddr rfl Fa.F48_1 ?_)
                refine WL.yes rfl rfl rfl (decide_eq_false (u32_ge_no hin.1 (by omega))) rfl (op_load rfl (H29.cell (i := 0) rfl rfl) Try.underlying46 rfl ?_)
                refine WL.yes rfl rfl rfl (decide_eq_false (u32_ge_no hin.1 (by omega))) rfl (op_move rfl ?_)
                refine WL.yes rfl rfl rfl (decide_eq_false (u32_ge_no hin.1 (by omega))) rfl (op_indexAddr1 Try.underlying46 Fa.I29 rfl (H29.arr hH) rfl (by omega) ?_)
                refine WL.yes rfl rfl rfl (decide_eq_false (u32_ge_no hin.1 (by omega))) rfl (op_load rfl ((H29.arr hH).at (get_map vU32 0 (Arr.ltM (H29.arr hH) (by omega)))) Try.underlying29 rfl ?_)
                refine WL.yes rfl rfl rfl (decide_eq_false (u32_ge_no hin.1 (by omega))) rfl (op_geqU32 rfl rfl ?_)
                refine WL.yes rfl rfl rfl hb67 rfl (op_pickF rfl (decide_eq_false (u32_ge_no hin.1 (by omega))) rfl ?_)
                refine WL.yes rfl rfl rfl (decide_eq_false (by rw [htk]; exact hL2.blocks hp id bk)) rfl (op_pickT rfl hb67 rfl ?_)
                refine WL.op rfl rfl (op_pickF rfl (decide_eq_false (by rw [htk]; exact hL2.blocks hp id bk)) rfl ?_)
                refine WL.nil ?_
                refine WQ.next ?_
                refine WC.no rfl (decide_eq_false (u32_ge_not hin.2)) ?_
                refine WC.skip ?_
                refine WQ.inNormal ?_
                refine WQ.next ?_
                refine WC.region ?_
                refine WL.op rfl rfl (op_move rfl ?_)
                refine WL.op rfl rfl (op_addN (b := 1) rfl rfl (by omega) ?_)
                refine WL.op rfl rfl (op_assign rfl ?_)
                refine WL.nil ?_
                exact WQ.round (i + 1, tb2, cn2, gs2, m2) ⟨⟨by omega, hR2, hL2⟩, (H29.take 7)⟩ ⟨rfl, rfl, rfl, rfl, rfl, rfl, rfl, rfl, trivial⟩ (by show l.length - (i + 1) < l.length - i; omega)
              ·
                have hc67 := of_decide_eq_false hb67
                refine WL.no rfl rfl rfl hb67 rfl ?_
                refine WL.no rfl rfl rfl hb67 rfl ?_
                refine WL.no rfl rfl rfl hb67 rfl ?_
                refine WL.no rfl rfl rfl hb67 rfl ?_
                refine WL.no rfl rfl rfl hb67 rfl ?_
                refine WL.no rfl rfl rfl hb67 rfl ?_
                refine WL.no rfl rfl rfl hb67 rfl ?_
                refine WL.non rfl rfl rfl rfl ?_
                refine WL.non rfl rfl rfl rfl ?_
                refine WL.non rfl rfl rfl rfl ?_
                refine WL.non rfl rfl rfl rfl ?_
                refine WL.non rfl rfl rfl rfl ?_
                refine WL.non rfl rfl rfl rfl ?_
                refine WL.non rfl rfl rfl rfl ?_
                refine WL.no rfl rfl rfl hb67 rfl ?_
                refine WL.yes rfl rfl rfl (decide_eq_false (by rw [htk]; exact hL2.blocks hp id bk)) rfl (op_pickF rfl hb67 rfl ?_)
                refine WL.op rfl rfl (op_pickF rfl (decide_eq_false (by rw [htk]; exact hL2.blocks hp id bk)) rfl ?_)
                refine WL.nil ?_
                refine WQ.next ?_
                refine WC.no rfl rfl ?_
                refine WC.skip ?_
                refine WQ.inNormal ?_
                refine WQ.next ?_
                refine WC.region ?_
                refine WL.op rfl rfl (op_move rfl ?_)
                refine WL.op rfl rfl (op_addN (b := 1) rfl rfl (by omega) ?_)
                refine WL.op rfl rfl (op_assign rfl ?_)
                refine WL.nil ?_
                exact WQ.round (i + 1, tb2, cn2, gs2, m2) ⟨⟨by omega, hR2, hL2⟩, (H29.take 7)⟩ ⟨rfl, rfl, rfl, rfl, rfl, rfl, rfl, rfl, trivial⟩ (by show l.length - (i + 1) < l.length - i; omega)
        ·
          have hc12 := of_decide_eq_false hb12
          refine WC.exit ?_
          refine WQ.thenExit ?_
          refine WQ.thenExit ?_
          refine WQ.inHere ?_
          refine WQ.next ?_
          refine WC.seq ?_
          refine WC.region ?_
          refine WL.op rfl rfl (op_callF Fa.C17 rfl ((calive_ok _).mono (fun e w68 hq => ?_)))
          obtain ⟨rfl, hf68⟩ := hq
          refine ⟨_, rfl, ?_⟩
          have H68 := H11.fr' hf68
          refine WL.op rfl rfl (op_assign rfl ?_)
          refine WL.nil ?_
          refine WQ.next ?_
          refine WC.ret ?_
          refine WQ.out (.tmp rfl .nil) ?_
          exact ⟨rfl, H68.fr⟩
      ·
        have hc7 := of_decide_eq_false hb7
        refine WL.op rfl rfl (op_callF Fa.C18 rfl ((capsNewB_ok pg _ he _ (H2.arr hH) (by omega) (of_decide_eq_false hb7)).mono (fun e w69 hq => ?_)))
        obtain ⟨rfl, hf69⟩ := hq
        refine ⟨_, rfl, ?_⟩
        have H69 := H2.fr' hf69
        refine WL.op rfl rfl (op_move rfl ?_)
        refine WL.op rfl rfl (op_extract rfl rfl ?_)
        refine WL.op rfl rfl (op_extract rfl rfl ?_)
        refine WL.op rfl rfl (op_assign rfl ?_)
        refine WL.op rfl rfl (op_assign rfl ?_)
        refine WL.nil ?_
        refine WQ.next ?_
        refine WC.seq ?_
        refine WC.seq ?_
        refine WC.region ?_
        refine WL.op rfl rfl (op_move rfl ?_)
        refine WL.op rfl rfl (op_neqN (b := 0) rfl rfl ?_)
        refine WL.op rfl rfl (op_move rfl ?_)
        refine WL.no rfl rfl rfl (by decide) rfl ?_
        refine WL.no rfl rfl rfl (by decide) rfl ?_
        refine WL.op rfl rfl (op_pickT rfl (by decide) rfl ?_)
        refine WL.nil ?_
        refine WQ.next ?_
        refine WC.yes rfl rfl ?_
        refine WC.seq ?_
        refine WC.region ?_
        refine WL.op rfl rfl (op_callF Fa.C17 rfl ((calive_ok _).mono (fun e w70 hq => ?_)))
        obtain ⟨rfl, hf70⟩ := hq
        refine ⟨_, rfl, ?_⟩
        have H70 := H69.fr' hf70
        refine WL.op rfl rfl (op_assign rfl ?_)
        refine WL.nil ?_
        refine WQ.next ?_
        refine WC.ret ?_
        refine WQ.thenRet ?_
        refine WQ.out (.tmp rfl .nil) ?_
        exact ⟨rfl, H70.fr⟩
end Go.Proofs.Ytbjhccnffacbcaa
