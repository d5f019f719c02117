/- General lemmas and walks: DRel6. No condition but what each theorem names. -/
import Derived.Test.YtnngbnenekjffaaDoorQ968dcb6e
import Derived.Test.YtnngbnenekjffaaDoorQc8de279a
/-! from DRel6 -/
namespace Go.Proofs.YtnngbnenekjffaaDoor
open Go.Owl Go.Spec
set_option maxHeartbeats 1000000 in
set_option maxRecDepth 100000 in
theorem relocFills_ok (x : Sy) (av : Value) (ads : List UInt32) (s : List UInt8) (w : World) (hI : SyD.ok w x) (hfx : Fit x) (hry : ∀ y ∈ x.rl, y.nm.length < 2 ^ 47) (hA : Arr w av 1 ads.length (List.map vU32 ads)) (hz : ads.length < 2 ^ 46) (hs : s.length < 2 ^ 47) :
    Calls Tryd.prog 3 #[(.agg #[(str x.nm), (vU8 x.bind), (vU8 x.kind), (vU32 x.size), (str x.b), x.rv, x.nv]), av, (str s)] w (fun e w' => e = .returned (.bool true) ∧ Fr [] w w') := by
  refine enter (args := [(.agg #[(str x.nm), (vU8 x.bind), (vU8 x.kind), (vU32 x.size), (str x.b), x.rv, x.nv]), av, (str s)]) Tryd.func3 rfl rfl ?_
  have H0 : Own [] w w [] := Own.start w []
  refine WC.seq ?_
  refine WC.region ?_
  refine WL.op rfl rfl (op_box H0 rfl rfl (fun b1 w1 H1 => ?_))
  refine WL.op rfl rfl (op_assign rfl ?_)
  refine WL.nil ?_
  refine WQ.next ?_
  refine WC.seq ?_
  refine WC.seq ?_
  refine WC.region ?_
  refine WL.op rfl rfl (op_loadS (vs := [_, _, _, _, _, _, _]) rfl (H1.cells (i := 0) rfl rfl) Tryd.underlying26 rfl Fa.I26 rfl ?_)
  refine WL.op rfl rfl (op_move rfl ?_)
  refine WL.op rfl rfl (op_callF Fa.C11 rfl ((large15_ok x _ ads _ (SyD_mk (x := x) ((SyD_rl (SyD.fr0 hI H1.fr))) ((SyD_nt (SyD.fr0 hI H1.fr)))) hfx (H1.arr hA) (by first | omega | (simp; omega))).mono (fun e w2 hq => ?_)))
  obtain ⟨rfl, hf2⟩ := hq
  refine ⟨_, rfl, ?_⟩
  have H2 := H1.fr' hf2
  refine WL.op rfl rfl (op_move rfl ?_)
  refine WL.split (t := 20) rfl (fun (hb3 : (large15 x ads) = true) => ?_) (fun (hb3 : (large15 x ads) = false) => ?_)
  ·
    refine WL.no rfl rfl rfl hb3 rfl ?_
    refine WL.no rfl rfl rfl hb3 rfl ?_
    refine WL.no rfl rfl rfl hb3 rfl ?_
    refine WL.op rfl rfl (op_pickT rfl hb3 rfl ?_)
    refine WL.nil ?_
    refine WQ.next ?_
    refine WC.yes rfl rfl ?_
    refine WC.seq ?_
    refine WC.region ?_
    refine WL.op rfl rfl (op_callF Fa.C12 rfl ((alive15_ok _).mono (fun e w4 hq => ?_)))
    obtain ⟨rfl, hf4⟩ := hq
    refine ⟨_, rfl, ?_⟩
    have H4 := H2.fr' hf4
    refine WL.op rfl rfl (op_assign rfl ?_)
    refine WL.nil ?_
    refine WQ.next ?_
    refine WC.ret ?_
    refine WQ.thenRet ?_
    refine WQ.out (.tmp rfl .nil) ?_
    exact ⟨rfl, H4.fr⟩
  ·
    obtain ⟨hbx, hads⟩ := large15_no hry hb3
    refine WL.yes rfl rfl rfl hb3 rfl (op_move rfl ?_)
    refine WL.yes rfl rfl rfl hb3 rfl (op_lenStr Tryd.underlying9 rfl ?_)
    refine WL.yes rfl rfl rfl hb3 rfl (op_gtrN (b := 16384) rfl rfl ?_)
    refine WL.op rfl rfl (op_pickF rfl hb3 rfl ?_)
    refine WL.nil ?_
    refine WQ.next ?_
    refine WC.cond rfl (fun (hb5 : (decide (s.length > 16384)) = true) => ?_) (fun (hb5 : (decide (s.length > 16384)) = false) => ?_)
    ·
      have hc5 := of_decide_eq_true hb5
      refine WC.seq ?_
      refine WC.region ?_
      refine WL.op rfl rfl (op_callF Fa.C12 rfl ((alive15_ok _).mono (fun e w6 hq => ?_)))
      obtain ⟨rfl, hf6⟩ := hq
      refine ⟨_, rfl, ?_⟩
      have H6 := H2.fr' hf6
      refine WL.op rfl rfl (op_assign rfl ?_)
      refine WL.nil ?_
      refine WQ.next ?_
      refine WC.ret ?_
      refine WQ.thenRet ?_
      refine WQ.out (.tmp rfl .nil) ?_
      exact ⟨rfl, H6.fr⟩
    ·
      have hc5 := of_decide_eq_false hb5
      refine WC.skip ?_
      refine WQ.next ?_
      refine WC.seq ?_
      refine WC.region ?_
      refine WL.op rfl rfl (op_loadS (vs := [_, _, _, _, _, _, _]) rfl (H2.cells (i := 0) rfl rfl) Tryd.underlying26 rfl Fa.I26 rfl ?_)
      refine WL.op rfl rfl (op_buildSlice (cs := [_, _, _, _, _, _, _]) H2 Tryd.underlying30 Fa.I26 rfl rfl rfl rfl (by decide) (by decide) (fun b7 w7 H7 => ?_))
      refine WL.op rfl rfl (op_build (cs := [_, _]) Fa.I32 Fa.PL32 rfl rfl ?_)
      refine WL.op rfl rfl (op_callF Fa.C13 rfl ((copy08_ok ([]) _ ([x]) _ (Arr.lenF ((H7.arrR (i := 1) rfl)) (fun _ => rfl) (by decide)) (SyD.list_one (SyD_mk (x := x) ((SyD_rl (SyD.fr0 hI H7.fr))) ((SyD_nt (SyD.fr0 hI H7.fr))))) (by show 1 < 2 ^ 40; decide) (fun k => fit40 hbx k)).mono (fun e w8 hq => ?_)))
      obtain ⟨v8, l8, rfl, hc8, hf8, hq8⟩ := hq
      refine ⟨_, rfl, ?_⟩
      have H8 : Own [] w w8 [.blk b1 [(str x.nm), (vU8 x.bind), (vU8 x.kind), (vU32 x.size), (str x.b), x.rv, x.nv] 26, .row (.slice (some ⟨b7, 0, none⟩) 1 1) 26 7 1 (List.flatMap syc [x]), .row v8 26 7 l8.length (List.flatMap syc l8), Ent.dp SyD.list l8] := H7.splice [] [] [.row v8 26 7 l8.length (List.flatMap syc l8), Ent.dp SyD.list l8] rfl rfl hq8 (Fits.solid True.intro (Fits.fresh hf8 Fits.nil))
      obtain ⟨y8, hl8, hy8⟩ := bare_one hc8
      subst hl8
      have hby := bd_bare hy8 hbx
      refine WL.op rfl rfl (op_field1 rfl Fa.F32_1 rfl ?_)
      refine WL.op rfl rfl (op_indexAddr (m := 0) Tryd.underlying30 Fa.I26 rfl (H8.arrR (i := 2) rfl) rfl (by show 0 < 1; decide) ?_)
      refine WL.op rfl rfl (op_loadSP (vs := syc ([y8].getD 0 Sy.zero)) rfl (Arr.atsF (H8.arrR (i := 2) rfl) (fun _ => rfl) (by decide) Sy.zero (by show 0 < 1; decide)) Tryd.underlying26 rfl Fa.I26 rfl ?_)
      refine WL.op rfl rfl (op_alloc H8 Fa.I26 (fun b9 w9 H9 => ?_))
      refine WL.op rfl rfl (op_storeBW (i := 4) H9 rfl rfl rfl rfl (one_cons rfl (one_cons rfl (one_cons rfl (one_cons rfl (one_cons rfl (one_cons (Arr.one ((SyD_rl (Deep.getD SyD (H9.dpO (i := 3) rfl) Sy.zero (SyD_zero _) 0)))) (one_cons (Arr.one ((SyD_nt (Deep.getD SyD (H9.dpO (i := 3) rfl) Sy.zero (SyD_zero _) 0)))) one_nil))))))) Fa.I26 (fun w10 H10 => ?_))
      refine WL.nil ?_
      refine WQ.next ?_
      refine WC.seq ?_
      refine WC.region ?_
      refine WL.op rfl rfl (op_move rfl ?_)
      have H12 := H10.nilRow 22 1
      refine WL.op rfl rfl (op_appendM (f := vU32) (l := []) (l' := ads) (i := 5) H12 Tryd.underlying27 Fa.I22 rfl rfl rfl rfl (Src.ofArr Tryd.underlying27 (H12.arr hA)) (one_mapM (fun _ => rfl)) (by omega) (by omega) (fun v11 w11 H11 => ?_))
      refine WL.op rfl rfl (op_assign rfl ?_)
      refine WL.nil ?_
      refine WQ.next ?_
      refine WC.seq ?_
      refine WC.region ?_
      refine WL.op rfl rfl (op_loadS (vs := [_, _, _, _, _, _, _]) rfl (H11.cells (i := 4) rfl rfl) Tryd.underlying26 rfl Fa.I26 rfl ?_)
      refine WL.op rfl rfl (op_move rfl ?_)
      refine WL.op rfl rfl (op_callF Fa.C14 rfl ((ofill_ok ([y8].getD 0 Sy.zero) _ ([] ++ ads) _ (SyD_mk (x := ([y8].getD 0 Sy.zero)) ((SyD_rl (Deep.getD SyD (H11.dpO (i := 3) rfl) Sy.zero (SyD_zero _) 0))) ((SyD_nt (Deep.getD SyD (H11.dpO (i := 3) rfl) Sy.zero (SyD_zero _) 0)))) (by first | exact hbx.1 | exact hby.1) (by first | exact hbx.2.1 | exact hby.2.1) (by first | exact hbx.2.2.1 | exact hby.2.2.1) (by first | exact hbx.2.2.2.1 | exact hby.2.2.2.1) (by first | exact hbx.2.2.2.2 | exact hby.2.2.2.2) (Arr.lenM (H11.arrR (i := 5) rfl)) (by first | omega | (simp; omega))).mono (fun e w13 hq => ?_)))
      obtain ⟨rfl, hf13⟩ := hq
      refine ⟨_, rfl, ?_⟩
      have H13 := H11.fr' hf13
      refine WL.op rfl rfl (op_move rfl ?_)
      refine WL.op rfl rfl (op_extract rfl rfl ?_)
      refine WL.op rfl rfl (op_extract rfl rfl ?_)
      refine WL.op rfl rfl (op_assign rfl ?_)
      refine WL.op rfl rfl (op_assign rfl ?_)
      refine WL.nil ?_
      refine WQ.next ?_
      refine WC.seq ?_
      refine WC.region ?_
      refine WL.op rfl rfl (op_loadS (vs := [_, _, _, _, _, _, _]) rfl (H13.cells (i := 0) rfl rfl) Tryd.underlying26 rfl Fa.I26 rfl ?_)
      refine WL.op rfl rfl (op_move rfl ?_)
      refine WL.op rfl rfl (op_callF Fa.C15 rfl ((rfill_ok x _ ads _ (SyD_mk (x := x) ((SyD_rl (SyD.fr0 hI H13.fr))) ((SyD_nt (SyD.fr0 hI H13.fr)))) (by first | exact hbx.1 | exact hby.1) (by first | exact hbx.2.1 | exact hby.2.1) (by first | exact hbx.2.2.1 | exact hby.2.2.1) (by first | exact hbx.2.2.2.1 | exact hby.2.2.2.1) (by first | exact hbx.2.2.2.2 | exact hby.2.2.2.2) (H13.arr hA) (by first | omega | (simp; omega))).mono (fun e w14 hq => ?_)))
      obtain ⟨rfl, hf14⟩ := hq
      refine ⟨_, rfl, ?_⟩
      have H14 := H13.fr' hf14
      refine WL.op rfl rfl (op_move rfl ?_)
      refine WL.op rfl rfl (op_extract rfl rfl ?_)
      refine WL.op rfl rfl (op_extract rfl rfl ?_)
      refine WL.op rfl rfl (op_assign rfl ?_)
      refine WL.op rfl rfl (op_assign rfl ?_)
      refine WL.nil ?_
      refine WQ.next ?_
      refine WC.seq ?_
      refine WC.region ?_
      refine WL.op rfl rfl (op_loadS (vs := [_, _, _, _, _, _, _]) rfl (H14.cells (i := 4) rfl rfl) Tryd.underlying26 rfl Fa.I26 rfl ?_)
      refine WL.op rfl rfl (op_move rfl ?_)
      refine WL.op rfl rfl (op_callF Fa.C16 rfl ((olook_ok ([y8].getD 0 Sy.zero) s _ (SyD_mk (x := ([y8].getD 0 Sy.zero)) ((SyD_rl (Deep.getD SyD (H14.dpO (i := 3) rfl) Sy.zero (SyD_zero _) 0))) ((SyD_nt (Deep.getD SyD (H14.dpO (i := 3) rfl) Sy.zero (SyD_zero _) 0)))) (by first | exact hbx.1 | exact hby.1) (by first | exact hbx.2.1 | exact hby.2.1) (by first | exact hbx.2.2.1 | exact hby.2.2.1) (by first | exact hbx.2.2.2.1 | exact hby.2.2.2.1) (by first | exact hbx.2.2.2.2 | exact hby.2.2.2.2) (by omega)).mono (fun e w15 hq => ?_)))
      obtain ⟨v15, rfl, hq15⟩ := hq
      refine ⟨_, rfl, ?_⟩
      have H15 : Own [] w w15 [.blk b1 [(str x.nm), (vU8 x.bind), (vU8 x.kind), (vU32 x.size), (str x.b), x.rv, x.nv] 26, .row (.slice (some ⟨b7, 0, none⟩) 1 1) 26 7 1 (List.flatMap syc [x]), .row v8 26 7 [y8].length (List.flatMap syc [y8]), Ent.dp SyD.list [y8], .blk b9 [(str ([y8].getD 0 Sy.zero).nm), (vU8 ([y8].getD 0 Sy.zero).bind), (vU8 ([y8].getD 0 Sy.zero).kind), (vU32 ([y8].getD 0 Sy.zero).size), (str ([y8].getD 0 Sy.zero).b), ([y8].getD 0 Sy.zero).rv, ([y8].getD 0 Sy.zero).nv] 26, .row v11 22 1 (0 + ads.length) (List.map vU32 ([] ++ ads)), .row v15 22 1 (lookL ([y8].getD 0 Sy.zero) s).length (List.map vU32 (lookL ([y8].getD 0 Sy.zero) s))] := H14.splice [] [] [.row v15 22 1 (lookL ([y8].getD 0 Sy.zero) s).length (List.map vU32 (lookL ([y8].getD 0 Sy.zero) s))] rfl rfl hq15 (Fits.solid True.intro Fits.nil)
      refine WL.op rfl rfl (op_move rfl ?_)
      refine WL.op rfl rfl (op_extract rfl rfl ?_)
      refine WL.op rfl rfl (op_extract rfl rfl ?_)
      refine WL.op rfl rfl (op_assign rfl ?_)
      refine WL.op rfl rfl (op_assign rfl ?_)
      refine WL.nil ?_
      refine WQ.next ?_
      refine WC.seq ?_
      refine WC.region ?_
      refine WL.op rfl rfl (op_loadS (vs := [_, _, _, _, _, _, _]) rfl (H15.cells (i := 0) rfl rfl) Tryd.underlying26 rfl Fa.I26 rfl ?_)
      refine WL.op rfl rfl (op_move rfl ?_)
      refine WL.op rfl rfl (op_callF Fa.C17 rfl ((rlook_ok x s _ (SyD_mk (x := x) ((SyD_rl (SyD.fr0 hI H15.fr))) ((SyD_nt (SyD.fr0 hI H15.fr)))) (by first | exact hbx.1 | exact hby.1) (by first | exact hbx.2.1 | exact hby.2.1) (by first | exact hbx.2.2.1 | exact hby.2.2.1) (by first | exact hbx.2.2.2.1 | exact hby.2.2.2.1) (by first | exact hbx.2.2.2.2 | exact hby.2.2.2.2) (by omega)).mono (fun e w16 hq => ?_)))
      obtain ⟨v16, rfl, hq16⟩ := hq
      refine ⟨_, rfl, ?_⟩
      have H16 : Own [] w w16 [.blk b1 [(str x.nm), (vU8 x.bind), (vU8 x.kind), (vU32 x.size), (str x.b), x.rv, x.nv] 26, .row (.slice (some ⟨b7, 0, none⟩) 1 1) 26 7 1 (List.flatMap syc [x]), .row v8 26 7 [y8].length (List.flatMap syc [y8]), Ent.dp SyD.list [y8], .blk b9 [(str ([y8].getD 0 Sy.zero).nm), (vU8 ([y8].getD 0 Sy.zero).bind), (vU8 ([y8].getD 0 Sy.zero).kind), (vU32 ([y8].getD 0 Sy.zero).size), (str ([y8].getD 0 Sy.zero).b), ([y8].getD 0 Sy.zero).rv, ([y8].getD 0 Sy.zero).nv] 26, .row v11 22 1 (0 + ads.length) (List.map vU32 ([] ++ ads)), .row v15 22 1 (lookL ([y8].getD 0 Sy.zero) s).length (List.map vU32 (lookL ([y8].getD 0 Sy.zero) s)), .row v16 22 1 (lookL x s).length (List.map vU32 (lookL x s))] := H15.splice [] [] [.row v16 22 1 (lookL x s).length (List.map vU32 (lookL x s))] rfl rfl hq16 (Fits.solid True.intro Fits.nil)
      refine WL.op rfl rfl (op_move rfl ?_)
      refine WL.op rfl rfl (op_extract rfl rfl ?_)
      refine WL.op rfl rfl (op_extract rfl rfl ?_)
      refine WL.op rfl rfl (op_assign rfl ?_)
      refine WL.op rfl rfl (op_assign rfl ?_)
      refine WL.nil ?_
      refine WQ.next ?_
      refine WC.seq ?_
      refine WC.region ?_
      refine WL.op rfl rfl (op_move rfl ?_)
      refine WL.op rfl rfl (op_move rfl ?_)
      refine WL.op rfl rfl (op_eqlStr rfl rfl ?_)
      refine WL.op rfl rfl (op_move rfl ?_)
      refine WL.yes rfl rfl rfl (decide_eq_true ((fill_bare hy8).1)) rfl (op_move rfl ?_)
      refine WL.yes rfl rfl rfl (decide_eq_true ((fill_bare hy8).1)) rfl (op_move rfl ?_)
      refine WL.yes rfl rfl rfl (decide_eq_true ((fill_bare hy8).1)) rfl (op_eqlN rfl rfl ?_)
      refine WL.op rfl rfl (op_pickT rfl (decide_eq_true ((fill_bare hy8).1)) rfl ?_)
      refine WL.op rfl rfl (op_move rfl ?_)
      refine WL.yes rfl rfl rfl (decide_eq_true ((fill_bare hy8).2)) rfl (op_move rfl ?_)
      refine WL.yes rfl rfl rfl (decide_eq_true ((fill_bare hy8).2)) rfl (op_move rfl ?_)
      refine WL.yes rfl rfl rfl (decide_eq_true ((fill_bare hy8).2)) rfl (op_callF Fa.C18 rfl ((same15_ok _ _ (lookL ([y8].getD 0 Sy.zero) s) (lookL x s) _ (H16.arrR (i := 6) rfl) (H16.arrR (i := 7) rfl) (by first | exact lookL_lt hby _ | (simp; omega))).mono (fun e w17 hq => ?_)))
      obtain ⟨rfl, hf17⟩ := hq
      refine ⟨_, rfl, ?_⟩
      have H17 := H16.fr' hf17
      refine WL.op rfl rfl (op_pickT rfl (decide_eq_true ((fill_bare hy8).2)) rfl ?_)
      refine WL.op rfl rfl (op_move rfl ?_)
      refine WL.yes rfl rfl rfl (decide_eq_true ((look_bare hy8).1)) rfl (op_move rfl ?_)
      refine WL.yes rfl rfl rfl (decide_eq_true ((look_bare hy8).1)) rfl (op_move rfl ?_)
      refine WL.yes rfl rfl rfl (decide_eq_true ((look_bare hy8).1)) rfl (op_eqlN rfl rfl ?_)
      refine WL.op rfl rfl (op_pickT rfl (decide_eq_true ((look_bare hy8).1)) rfl ?_)
      refine WL.op rfl rfl (op_move rfl ?_)
      refine WL.yes rfl rfl rfl (decide_eq_true ((look_bare hy8).2)) rfl (op_loadS (vs := [_, _, _, _, _, _, _]) rfl (H17.cells (i := 4) rfl rfl) Tryd.underlying26 rfl Fa.I26 rfl ?_)
      refine WL.yes rfl rfl rfl (decide_eq_true ((look_bare hy8).2)) rfl (op_loadS (vs := [_, _, _, _, _, _, _]) rfl (H17.cells (i := 0) rfl rfl) Tryd.underlying26 rfl Fa.I26 rfl ?_)
      refine WL.yes rfl rfl rfl (decide_eq_true ((look_bare hy8).2)) rfl (op_callF Fa.C19 rfl ((samesy_ok ([y8].getD 0 Sy.zero) x _ (SyD_mk (x := ([y8].getD 0 Sy.zero)) ((SyD_rl (Deep.getD SyD (H17.dpO (i := 3) rfl) Sy.zero (SyD_zero _) 0))) ((SyD_nt (Deep.getD SyD (H17.dpO (i := 3) rfl) Sy.zero (SyD_zero _) 0)))) (SyD_mk (x := x) ((SyD_rl (SyD.fr0 hI H17.fr))) ((SyD_nt (SyD.fr0 hI H17.fr)))) (Nat.lt_trans hby.2.2.2.1 (by decide)) (Nat.lt_trans hby.2.2.2.2 (by decide))).mono (fun e w18 hq => ?_)))
      obtain ⟨rfl, hf18⟩ := hq
      refine ⟨_, rfl, ?_⟩
      have H18 := H17.fr' hf18
      refine WL.op rfl rfl (op_pickT rfl (decide_eq_true ((look_bare hy8).2)) rfl ?_)
      refine WL.op rfl rfl (op_move rfl ?_)
      refine WL.yes rfl rfl rfl (sameY_bare hy8) rfl (op_move rfl ?_)
      refine WL.yes rfl rfl rfl (sameY_bare hy8) rfl (op_move rfl ?_)
      refine WL.yes rfl rfl rfl (sameY_bare hy8) rfl (op_callF Fa.C18 rfl ((same15_ok _ _ ([] ++ ads) ads _ (Arr.lenM (H18.arrR (i := 5) rfl)) (H18.arr hA) (by first | exact lookL_lt hby _ | (simp; omega))).mono (fun e w19 hq => ?_)))
      obtain ⟨rfl, hf19⟩ := hq
      refine ⟨_, rfl, ?_⟩
      have H19 := H18.fr' hf19
      refine WL.op rfl rfl (op_pickT rfl (sameY_bare hy8) rfl ?_)
      refine WL.op rfl rfl (op_move rfl ?_)
      refine WL.yes rfl rfl rfl (decide_eq_true (rfl)) rfl (op_callF Fa.C12 rfl ((alive15_ok _).mono (fun e w20 hq => ?_)))
      obtain ⟨rfl, hf20⟩ := hq
      refine ⟨_, rfl, ?_⟩
      have H20 := H19.fr' hf20
      refine WL.op rfl rfl (op_pickT rfl (decide_eq_true (rfl)) rfl ?_)
      refine WL.op rfl rfl (op_assign rfl ?_)
      refine WL.nil ?_
      refine WQ.next ?_
      refine WC.ret ?_
      refine WQ.out (.tmp rfl .nil) ?_
      exact ⟨rfl, H20.fr⟩
end Go.Proofs.YtnngbnenekjffaaDoor
