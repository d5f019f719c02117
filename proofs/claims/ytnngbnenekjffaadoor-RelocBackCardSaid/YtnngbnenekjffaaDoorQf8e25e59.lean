/- General lemmas and walks: DRel5, DRel7. No condition but what each theorem names. -/
import Derived.Test.YtnngbnenekjffaaDoorQfc1fb625
import Derived.Test.YtnngbnenekjffaaDoorQ941c0de3
/-! from DRel5 -/
namespace Go.Proofs.YtnngbnenekjffaaDoor
open Go.Owl Go.Spec
set_option maxRecDepth 100000 in
theorem large15_ok (x : Sy) (av : Value) (ads : List UInt32) (w : World) (hI : SyD.ok w x) (hfx : Fit x) (hA : Arr w av 1 ads.length (List.map vU32 ads)) (hz : ads.length < 2 ^ 47) :
    Calls Tryd.prog 11 #[(.agg #[(str x.nm), (vU8 x.bind), (vU8 x.kind), (vU32 x.size), (str x.b), x.rv, x.nv]), av] w (fun e w' => e = .returned (.bool (large15 x ads)) ∧ Fr [] w w') := by
  refine enter (args := [(.agg #[(str x.nm), (vU8 x.bind), (vU8 x.kind), (vU32 x.size), (str x.b), x.rv, x.nv]), av]) Tryd.func11 rfl rfl ?_
  have H0 : Own [] w w [] := Own.start w []
  refine WC.seq ?_
  refine WC.region ?_
  refine WL.op rfl rfl (op_box H0 rfl rfl (fun b1 w1 H1 => ?_))
  refine WL.op rfl rfl (op_assign rfl ?_)
  refine WL.nil ?_
  refine WQ.next ?_
  refine WC.seq ?_
  refine WC.region ?_
  refine WL.op rfl rfl (op_loadS (vs := [_, _, _, _, _, _, _]) rfl (H1.cells (i := 0) rfl rfl) Tryd.underlying26 rfl Fa.I26 rfl ?_)
  refine WL.op rfl rfl (op_buildSlice (cs := [_, _, _, _, _, _, _]) H1 Tryd.underlying30 Fa.I26 rfl rfl rfl rfl (by decide) (by decide) (fun b2 w2 H2 => ?_))
  refine WL.op rfl rfl (op_build (cs := [_, _]) Fa.I32 Fa.PL32 rfl rfl ?_)
  refine WL.op rfl rfl (op_buildSlice (cs := [_, _]) H2 Tryd.underlying78 Fa.I32 rfl rfl rfl rfl (by decide) (by decide) (fun b3 w3 H3 => ?_))
  refine WL.op rfl rfl (op_callF Fa.C29 rfl ((lg08_ok _ [(Ob.mk [] (.slice (some ⟨b2, 0, none⟩) 1 1) ([x]))] _ (Arr.lenF ((H3.arrR (i := 2) rfl)) (fun _ => rfl) (by decide)) (ObD.list_one (ObD_mk (o := (Ob.mk [] (.slice (some ⟨b2, 0, none⟩) 1 1) ([x]))) (Arr.lenF ((H3.arrR (i := 1) rfl)) (fun _ => rfl) (by decide)) (SyD.list_one (SyD_mk (x := x) ((SyD_rl (SyD.fr0 hI H3.fr))) ((SyD_nt (SyD.fr0 hI H3.fr))))))) (fitO_one hfx) (by show 1 ≤ 1; decide)).mono (fun e w4 hq => ?_)))
  obtain ⟨rfl, hf4⟩ := hq
  refine ⟨_, rfl, ?_⟩
  have H4 := H3.fr' hf4
  refine WL.op rfl rfl (op_move rfl ?_)
  refine WL.split (t := 10) rfl (fun (hb5 : (lg08 [(Ob.mk [] (.slice (some ⟨b2, 0, none⟩) 1 1) ([x]))]) = true) => ?_) (fun (hb5 : (lg08 [(Ob.mk [] (.slice (some ⟨b2, 0, none⟩) 1 1) ([x]))]) = false) => ?_)
  ·
    refine WL.no rfl rfl rfl hb5 rfl ?_
    refine WL.no rfl rfl rfl hb5 rfl ?_
    refine WL.no rfl rfl rfl hb5 rfl ?_
    refine WL.op rfl rfl (op_pickT rfl hb5 rfl ?_)
    refine WL.op rfl rfl (op_assign rfl ?_)
    refine WL.nil ?_
    refine WQ.next ?_
    refine WC.ret ?_
    refine WQ.out (.tmp rfl .nil) ?_
    exact ⟨by (rw [large15, show lg08 [⟨[], .slice none 0 0, [x]⟩] = _ from hb5]) <;> rfl, H4.fr⟩
  ·
    refine WL.yes rfl rfl rfl hb5 rfl (op_move rfl ?_)
    refine WL.yes rfl rfl rfl hb5 rfl (op_lenA Tryd.underlying27 rfl (H4.arr hA) ?_)
    refine WL.yes rfl rfl rfl hb5 rfl (op_gtrN (b := 1200) rfl rfl ?_)
    refine WL.op rfl rfl (op_pickF rfl hb5 rfl ?_)
    refine WL.op rfl rfl (op_assign rfl ?_)
    refine WL.nil ?_
    refine WQ.next ?_
    refine WC.ret ?_
    refine WQ.out (.tmp rfl .nil) ?_
    exact ⟨by (rw [large15, show lg08 [⟨[], .slice none 0 0, [x]⟩] = _ from hb5]) <;> rfl, H4.fr⟩
set_option maxRecDepth 100000 in
theorem alive15_ok  (w : World) :
    Calls Tryd.prog 12 #[] w (fun e w' => e = .returned (.bool true) ∧ Fr [] w w') := by
  refine enter (args := []) Tryd.func12 rfl rfl ?_
  have H0 : Own [] w w [] := Own.start w []
  refine WC.seq ?_
  refine WC.region ?_
  refine WL.op rfl rfl (op_assign rfl ?_)
  refine WL.nil ?_
  refine WQ.next ?_
  refine WC.seq ?_
  refine WC.region ?_
  refine WL.op rfl rfl (op_build (cs := [_, _, _, _]) Fa.I44 Fa.PL44 rfl rfl ?_)
  refine WL.op rfl rfl (op_buildSlice (cs := [_, _, _, _]) H0 Tryd.underlying23 Fa.I44 rfl rfl rfl rfl (by decide) (by decide) (fun b1 w1 H1 => ?_))
  refine WL.op rfl rfl (op_build (cs := [_, _, _, _, _, _, _]) Fa.I26 Fa.PL26 rfl rfl ?_)
  refine WL.op rfl rfl (op_alloc H1 Fa.I26 (fun b2 w2 H2 => ?_))
  refine WL.op rfl rfl (op_storeBW (i := 1) H2 rfl rfl rfl rfl (one_cons rfl (one_cons rfl (one_cons rfl (one_cons rfl (one_cons rfl (one_cons (Arr.one (H2.arrR (i := 0) rfl)) (one_cons rfl one_nil))))))) Fa.I26 (fun w3 H3 => ?_))
  refine WL.nil ?_
  refine WQ.next ?_
  refine WC.seq ?_
  refine WC.region ?_
  refine WL.op rfl rfl (op_loadS (vs := [_, _, _, _, _, _, _]) rfl (H3.cells (i := 1) rfl rfl) Tryd.underlying26 rfl Fa.I26 rfl ?_)
  refine WL.op rfl rfl (op_buildSlice (cs := [_]) H3 Tryd.underlying27 Fa.I22 rfl rfl rfl rfl (by decide) (by decide) (fun b4 w4 H4 => ?_))
  refine WL.op rfl rfl (op_callF Fa.C14 rfl ((ofill_ok (Sy.mk [97] 0 2 6 [1, 2, 3, 4, 5] (.slice (some ⟨b1, 0, none⟩) 1 1) [(Rl.mk 1 2 [97] 2)] (.slice none 0 0) []) _ ([256]) _ (SyD_mk (x := (Sy.mk [97] 0 2 6 [1, 2, 3, 4, 5] (.slice (some ⟨b1, 0, none⟩) 1 1) [(Rl.mk 1 2 [97] 2)] (.slice none 0 0) [])) (Arr.lenF ((H4.arrR (i := 0) rfl)) (fun _ => rfl) (by decide)) (Arr.nil _ _)) (by show 1 < 2 ^ 47; decide) (by show 5 < 2 ^ 32; decide) (fun y hy => by rw [show y = ⟨1, 2, [97], 2⟩ from List.mem_singleton.1 hy]; decide) (by show 1 < 2 ^ 40; decide) (by show 0 < 2 ^ 40; decide) (Arr.lenM (H4.arrR (i := 2) rfl)) (by decide)).mono (fun e w5 hq => ?_)))
  obtain ⟨rfl, hf5⟩ := hq
  refine ⟨_, rfl, ?_⟩
  have H5 := H4.fr' hf5
  refine WL.op rfl rfl (op_move rfl ?_)
  refine WL.op rfl rfl (op_extract rfl rfl ?_)
  refine WL.op rfl rfl (op_extract rfl rfl ?_)
  refine WL.op rfl rfl (op_assign rfl ?_)
  refine WL.op rfl rfl (op_assign rfl ?_)
  refine WL.nil ?_
  refine WQ.next ?_
  refine WC.seq ?_
  refine WC.region ?_
  refine WL.op rfl rfl (op_loadS (vs := [_, _, _, _, _, _, _]) rfl (H5.cells (i := 1) rfl rfl) Tryd.underlying26 rfl Fa.I26 rfl ?_)
  refine WL.op rfl rfl (op_move rfl ?_)
  refine WL.op rfl rfl (op_callF Fa.C16 rfl ((olook_ok (Sy.mk [97] 0 2 6 [1, 2, 3, 4, 5] (.slice (some ⟨b1, 0, none⟩) 1 1) [(Rl.mk 1 2 [97] 2)] (.slice none 0 0) []) (fillS (Sy.mk [97] 0 2 6 [1, 2, 3, 4, 5] (.slice (some ⟨b1, 0, none⟩) 1 1) [(Rl.mk 1 2 [97] 2)] (.slice none 0 0) []) ([256])) _ (SyD_mk (x := (Sy.mk [97] 0 2 6 [1, 2, 3, 4, 5] (.slice (some ⟨b1, 0, none⟩) 1 1) [(Rl.mk 1 2 [97] 2)] (.slice none 0 0) [])) (Arr.lenF ((H5.arrR (i := 0) rfl)) (fun _ => rfl) (by decide)) (Arr.nil _ _)) (by show 1 < 2 ^ 47; decide) (by show 5 < 2 ^ 32; decide) (fun y hy => by rw [show y = ⟨1, 2, [97], 2⟩ from List.mem_singleton.1 hy]; decide) (by show 1 < 2 ^ 40; decide) (by show 0 < 2 ^ 40; decide) (of_decide_eq_true (by kernel_rfl))).mono (fun e w6 hq => ?_)))
  obtain ⟨v6, rfl, hq6⟩ := hq
  refine ⟨_, rfl, ?_⟩
  have H6 : Own [] w w6 [.row (.slice (some ⟨b1, 0, none⟩) 1 1) 44 4 1 (List.flatMap rlc [(Rl.mk 1 2 [97] 2)]), .blk b2 [(str [97]), (vU8 0), (vU8 2), (vU32 6), (str [1, 2, 3, 4, 5]), (.slice (some ⟨b1, 0, none⟩) 1 1), (.slice none 0 0)] 26, .row (.slice (some ⟨b4, 0, none⟩) 1 1) 22 1 1 (List.map vU32 [256]), .row v6 22 1 (lookL (Sy.mk [97] 0 2 6 [1, 2, 3, 4, 5] (.slice (some ⟨b1, 0, none⟩) 1 1) [(Rl.mk 1 2 [97] 2)] (.slice none 0 0) []) (fillS (Sy.mk [97] 0 2 6 [1, 2, 3, 4, 5] (.slice (some ⟨b1, 0, none⟩) 1 1) [(Rl.mk 1 2 [97] 2)] (.slice none 0 0) []) ([256]))).length (List.map vU32 (lookL (Sy.mk [97] 0 2 6 [1, 2, 3, 4, 5] (.slice (some ⟨b1, 0, none⟩) 1 1) [(Rl.mk 1 2 [97] 2)] (.slice none 0 0) []) (fillS (Sy.mk [97] 0 2 6 [1, 2, 3, 4, 5] (.slice (some ⟨b1, 0, none⟩) 1 1) [(Rl.mk 1 2 [97] 2)] (.slice none 0 0) []) ([256]))))] := H5.splice [] [] [.row v6 22 1 (lookL (Sy.mk [97] 0 2 6 [1, 2, 3, 4, 5] (.slice (some ⟨b1, 0, none⟩) 1 1) [(Rl.mk 1 2 [97] 2)] (.slice none 0 0) []) (fillS (Sy.mk [97] 0 2 6 [1, 2, 3, 4, 5] (.slice (some ⟨b1, 0, none⟩) 1 1) [(Rl.mk 1 2 [97] 2)] (.slice none 0 0) []) ([256]))).length (List.map vU32 (lookL (Sy.mk [97] 0 2 6 [1, 2, 3, 4, 5] (.slice (some ⟨b1, 0, none⟩) 1 1) [(Rl.mk 1 2 [97] 2)] (.slice none 0 0) []) (fillS (Sy.mk [97] 0 2 6 [1, 2, 3, 4, 5] (.slice (some ⟨b1, 0, none⟩) 1 1) [(Rl.mk 1 2 [97] 2)] (.slice none 0 0) []) ([256]))))] rfl rfl hq6 (Fits.solid True.intro Fits.nil)
  refine WL.op rfl rfl (op_move rfl ?_)
  refine WL.op rfl rfl (op_extract rfl rfl ?_)
  refine WL.op rfl rfl (op_extract rfl rfl ?_)
  refine WL.op rfl rfl (op_assign rfl ?_)
  refine WL.op rfl rfl (op_assign rfl ?_)
  refine WL.nil ?_
  refine WQ.next ?_
  refine WC.seq ?_
  refine WC.region ?_
  refine WL.op rfl rfl (op_loadS (vs := [_, _, _, _, _, _, _]) rfl (H6.cells (i := 1) rfl rfl) Tryd.underlying26 rfl Fa.I26 rfl ?_)
  refine WL.op rfl rfl (op_buildSlice (cs := [_]) H6 Tryd.underlying27 Fa.I22 rfl rfl rfl rfl (by decide) (by decide) (fun b7 w7 H7 => ?_))
  refine WL.op rfl rfl (op_callF Fa.C14 rfl ((ofill_ok (Sy.mk [97] 0 2 6 [1, 2, 3, 4, 5] (.slice (some ⟨b1, 0, none⟩) 1 1) [(Rl.mk 1 2 [97] 2)] (.slice none 0 0) []) _ ([65534]) _ (SyD_mk (x := (Sy.mk [97] 0 2 6 [1, 2, 3, 4, 5] (.slice (some ⟨b1, 0, none⟩) 1 1) [(Rl.mk 1 2 [97] 2)] (.slice none 0 0) [])) (Arr.lenF ((H7.arrR (i := 0) rfl)) (fun _ => rfl) (by decide)) (Arr.nil _ _)) (by show 1 < 2 ^ 47; decide) (by show 5 < 2 ^ 32; decide) (fun y hy => by rw [show y = ⟨1, 2, [97], 2⟩ from List.mem_singleton.1 hy]; decide) (by show 1 < 2 ^ 40; decide) (by show 0 < 2 ^ 40; decide) (Arr.lenM (H7.arrR (i := 4) rfl)) (by decide)).mono (fun e w8 hq => ?_)))
  obtain ⟨rfl, hf8⟩ := hq
  refine ⟨_, rfl, ?_⟩
  have H8 := H7.fr' hf8
  refine WL.op rfl rfl (op_move rfl ?_)
  refine WL.op rfl rfl (op_extract rfl rfl ?_)
  refine WL.op rfl rfl (op_extract rfl rfl ?_)
  refine WL.op rfl rfl (op_assign rfl ?_)
  refine WL.op rfl rfl (op_assign rfl ?_)
  refine WL.nil ?_
  refine WQ.next ?_
  refine WC.seq ?_
  refine WC.region ?_
  refine WL.op rfl rfl (op_loadS (vs := [_, _, _, _, _, _, _]) rfl (H8.cells (i := 1) rfl rfl) Tryd.underlying26 rfl Fa.I26 rfl ?_)
  refine WL.op rfl rfl (op_callF Fa.C14 rfl ((ofill_ok (Sy.mk [97] 0 2 6 [1, 2, 3, 4, 5] (.slice (some ⟨b1, 0, none⟩) 1 1) [(Rl.mk 1 2 [97] 2)] (.slice none 0 0) []) _ [] _ (SyD_mk (x := (Sy.mk [97] 0 2 6 [1, 2, 3, 4, 5] (.slice (some ⟨b1, 0, none⟩) 1 1) [(Rl.mk 1 2 [97] 2)] (.slice none 0 0) [])) (Arr.lenF ((H8.arrR (i := 0) rfl)) (fun _ => rfl) (by decide)) (Arr.nil _ _)) (by show 1 < 2 ^ 47; decide) (by show 5 < 2 ^ 32; decide) (fun y hy => by rw [show y = ⟨1, 2, [97], 2⟩ from List.mem_singleton.1 hy]; decide) (by show 1 < 2 ^ 40; decide) (by show 0 < 2 ^ 40; decide) (Arr.nil _ _) (by decide)).mono (fun e w9 hq => ?_)))
  obtain ⟨rfl, hf9⟩ := hq
  refine ⟨_, rfl, ?_⟩
  have H9 := H8.fr' hf9
  refine WL.op rfl rfl (op_move rfl ?_)
  refine WL.op rfl rfl (op_extract rfl rfl ?_)
  refine WL.op rfl rfl (op_extract rfl rfl ?_)
  refine WL.op rfl rfl (op_assign rfl ?_)
  refine WL.op rfl rfl (op_assign rfl ?_)
  refine WL.nil ?_
  refine WQ.next ?_
  refine WC.seq ?_
  refine WC.region ?_
  refine WL.op rfl rfl (op_move rfl ?_)
  refine WL.op rfl rfl (op_eqlStr rfl rfl ?_)
  refine WL.op rfl rfl (op_move rfl ?_)
  refine WL.yes rfl rfl rfl (by kernel_rfl) rfl (op_move rfl ?_)
  refine WL.yes rfl rfl rfl (by kernel_rfl) rfl (op_eqlN (b := 0) rfl rfl ?_)
  refine WL.op rfl rfl (op_pickT rfl (by kernel_rfl) rfl ?_)
  refine WL.op rfl rfl (op_move rfl ?_)
  refine WL.yes rfl rfl rfl (by kernel_rfl) rfl (op_move rfl ?_)
  refine WL.yes rfl rfl rfl (by kernel_rfl) rfl (op_lenA Tryd.underlying27 rfl (H9.arrR (i := 3) rfl) ?_)
  refine WL.yes rfl rfl rfl (by kernel_rfl) rfl (op_eqlN (b := 1) rfl rfl ?_)
  refine WL.op rfl rfl (op_pickT rfl (by kernel_rfl) rfl ?_)
  refine WL.op rfl rfl (op_move rfl ?_)
  refine WL.yes rfl rfl rfl (by kernel_rfl) rfl (op_move rfl ?_)
  refine WL.yes rfl rfl rfl (by kernel_rfl) rfl (op_indexAddr1 (m := 0) Tryd.underlying27 Fa.I22 rfl (H9.arrR (i := 3) rfl) rfl (of_decide_eq_true (by kernel_rfl)) ?_)
  refine WL.yes rfl rfl rfl (by kernel_rfl) rfl (op_load rfl ((H9.arrR (i := 3) rfl).at (get_map vU32 0 (of_decide_eq_true (by kernel_rfl)))) Tryd.underlying22 rfl ?_)
  refine WL.yes rfl rfl rfl (by kernel_rfl) rfl (op_eqlU32 (b := 256) rfl rfl ?_)
  refine WL.op rfl rfl (op_pickT rfl (by kernel_rfl) rfl ?_)
  refine WL.op rfl rfl (op_move rfl ?_)
  refine WL.yes rfl rfl rfl (by kernel_rfl) rfl (op_move rfl ?_)
  refine WL.yes rfl rfl rfl (by kernel_rfl) rfl (op_eqlN (b := 0) rfl rfl ?_)
  refine WL.op rfl rfl (op_pickT rfl (by kernel_rfl) rfl ?_)
  refine WL.op rfl rfl (op_move rfl ?_)
  refine WL.yes rfl rfl rfl (by kernel_rfl) rfl (op_move rfl ?_)
  refine WL.yes rfl rfl rfl (by kernel_rfl) rfl (op_eqlN (b := 150) rfl rfl ?_)
  refine WL.op rfl rfl (op_pickT rfl (by kernel_rfl) rfl ?_)
  refine WL.op rfl rfl (op_move rfl ?_)
  refine WL.yes rfl rfl rfl (by kernel_rfl) rfl (op_move rfl ?_)
  refine WL.yes rfl rfl rfl (by kernel_rfl) rfl (op_eqlN (b := 2) rfl rfl ?_)
  refine WL.op rfl rfl (op_pickT rfl (by kernel_rfl) rfl ?_)
  refine WL.op rfl rfl (op_assign rfl ?_)
  refine WL.nil ?_
  refine WQ.next ?_
  refine WC.ret ?_
  refine WQ.out (.tmp rfl .nil) ?_
  exact ⟨rfl, H9.fr⟩
end Go.Proofs.YtnngbnenekjffaaDoor
/-! from DRel7 -/
namespace Go.Proofs.YtnngbnenekjffaaDoor
open Go.Owl Go.Spec
set_option maxHeartbeats 2000000 in
set_option maxRecDepth 100000 in
theorem relocBack_ok (x : Sy) (av : Value) (ads : List UInt32) (up : UInt32) (w : World) (hI : SyD.ok w x) (hfx : Fit x) (hry : ∀ y ∈ x.rl, y.nm.length < 2 ^ 47) (hA : Arr w av 1 ads.length (List.map vU32 ads)) (hz : ads.length < 2 ^ 46) :
    Calls Tryd.prog 4 #[(.agg #[(str x.nm), (vU8 x.bind), (vU8 x.kind), (vU32 x.size), (str x.b), x.rv, x.nv]), av, (vU32 up)] w (fun e w' => e = .returned (.bool true) ∧ Fr [] w w') := by
  refine enter (args := [(.agg #[(str x.nm), (vU8 x.bind), (vU8 x.kind), (vU32 x.size), (str x.b), x.rv, x.nv]), av, (vU32 up)]) Tryd.func4 rfl rfl ?_
  have H0 : Own [] w w [] := Own.start w []
  refine WC.seq ?_
  refine WC.region ?_
  refine WL.op rfl rfl (op_box H0 rfl rfl (fun b1 w1 H1 => ?_))
  refine WL.op rfl rfl (op_assign rfl ?_)
  refine WL.nil ?_
  refine WQ.next ?_
  refine WC.seq ?_
  refine WC.seq ?_
  refine WC.region ?_
  refine WL.op rfl rfl (op_loadS (vs := [_, _, _, _, _, _, _]) rfl (H1.cells (i := 0) rfl rfl) Tryd.underlying26 rfl Fa.I26 rfl ?_)
  refine WL.op rfl rfl (op_move rfl ?_)
  refine WL.op rfl rfl (op_callF Fa.C11 rfl ((large15_ok x _ ads _ (SyD_mk (x := x) ((SyD_rl (SyD.fr0 hI H1.fr))) ((SyD_nt (SyD.fr0 hI H1.fr)))) hfx (H1.arr hA) (by first | omega | (rw [more_len]; omega))).mono (fun e w2 hq => ?_)))
  obtain ⟨rfl, hf2⟩ := hq
  refine ⟨_, rfl, ?_⟩
  have H2 := H1.fr' hf2
  refine WL.nil ?_
  refine WQ.next ?_
  refine WC.cond rfl (fun (hb3 : (large15 x ads) = true) => ?_) (fun (hb3 : (large15 x ads) = false) => ?_)
  ·
    refine WC.seq ?_
    refine WC.region ?_
    refine WL.op rfl rfl (op_callF Fa.C12 rfl ((alive15_ok _).mono (fun e w4 hq => ?_)))
    obtain ⟨rfl, hf4⟩ := hq
    refine ⟨_, rfl, ?_⟩
    have H4 := H2.fr' hf4
    refine WL.op rfl rfl (op_assign rfl ?_)
    refine WL.nil ?_
    refine WQ.next ?_
    refine WC.ret ?_
    refine WQ.thenRet ?_
    refine WQ.out (.tmp rfl .nil) ?_
    exact ⟨rfl, H4.fr⟩
  ·
    obtain ⟨hbx, hads⟩ := large15_no hry hb3
    refine WC.skip ?_
    refine WQ.next ?_
    refine WC.seq ?_
    refine WC.region ?_
    refine WL.op rfl rfl (op_assign rfl ?_)
    have H5 := H2.nilRow 22 1
    refine WL.nil ?_
    refine WQ.next ?_
    refine WC.seq ?_
    refine WC.seq ?_
    refine WC.region ?_
    refine WL.op rfl rfl (op_assign rfl ?_)
    refine WL.nil ?_
    refine WQ.next ?_
    refine WC.block ?_
    refine WC.loop (α := Nat × Value) (fun (k, v) => [(1, av), (2, (vU32 up)), (3, (ptr b1 0)), (6, (.bool false)), (7, v), (8, (vN k))]) (fun (k, v) w' => (k ≤ ads.length) ∧ Own [] w w' [.blk b1 [(str x.nm), (vU8 x.bind), (vU8 x.kind), (vU32 x.size), (str x.b), x.rv, x.nv] 26, .row v 22 1 k (List.map vU32 ((List.range k).map (moreV x ads up)))]) (fun (k, v) => ads.length - k) (0, (.slice none 0 0)) ⟨(Nat.zero_le _), H5⟩ ⟨rfl, rfl, rfl, rfl, rfl, rfl, trivial⟩ ?_
    rintro ⟨k, v⟩ w6 ⟨hk1, H6⟩
    show WC _ _ _ _ _ [(1, av), (2, (vU32 up)), (3, (ptr b1 0)), (6, (.bool false)), (7, v), (8, (vN k))] _
    refine WC.seq ?_
    refine WC.seq ?_
    refine WC.region ?_
    refine WL.op rfl rfl (op_move rfl ?_)
    refine WL.op rfl rfl (op_move rfl ?_)
    refine WL.op rfl rfl (op_lenA Tryd.underlying27 rfl (H6.arr hA) ?_)
    refine WL.op rfl rfl (op_lssN rfl rfl ?_)
    refine WL.nil ?_
    refine WQ.next ?_
    refine WC.cond rfl (fun (hb7 : (decide (k < ads.length)) = true) => ?_) (fun (hb7 : (decide (k < ads.length)) = false) => ?_)
    ·
      have hc7 := of_decide_eq_true hb7
      refine WC.skip ?_
      refine WQ.next ?_
      refine WC.seq ?_
      refine WC.block ?_
      refine WC.seq ?_
      refine WC.region ?_
      refine WL.op rfl rfl (op_move rfl ?_)
      refine WL.op rfl rfl (op_move rfl ?_)
      refine WL.op rfl rfl (op_indexAddr1 Tryd.underlying27 Fa.I22 rfl (H6.arr hA) rfl (by omega) ?_)
      refine WL.op rfl rfl (op_load rfl ((H6.arr hA).at (get_map vU32 0 (Arr.ltM (H6.arr hA) (by omega)))) Tryd.underlying22 rfl ?_)
      refine WL.op rfl rfl (op_move rfl ?_)
      refine WL.op rfl rfl (op_addU32 rfl rfl ?_)
      refine WL.op rfl rfl (op_assign rfl ?_)
      refine WL.nil ?_
      refine WQ.next ?_
      refine WC.seq ?_
      refine WC.seq ?_
      refine WC.region ?_
      refine WL.op rfl rfl (op_move rfl ?_)
      refine WL.op rfl rfl (op_fieldAddr rfl Fa.F26_5 ?_)
      refine WL.op rfl rfl (op_load rfl (H6.cell (i := 0) rfl rfl) Tryd.underlying23 rfl ?_)
      refine WL.op rfl rfl (op_lenA Tryd.underlying23 rfl ((SyD_rl (SyD.fr0 hI H6.fr))) ?_)
      refine WL.op rfl rfl (op_lssN rfl rfl ?_)
      refine WL.op rfl rfl (op_move rfl ?_)
      refine WL.split (t := 46) rfl (fun (hb8 : (decide (k < x.rl.length)) = true) => ?_) (fun (hb8 : (decide (k < x.rl.length)) = false) => ?_)
      ·
        have hc8 := of_decide_eq_true hb8
        refine WL.yes rfl rfl rfl hb8 rfl (op_fieldAddr rfl Fa.F26_5 ?_)
        refine WL.yes rfl rfl rfl hb8 rfl (op_load rfl (H6.cell (i := 0) rfl rfl) Tryd.underlying23 rfl ?_)
        refine WL.yes rfl rfl rfl hb8 rfl (op_move rfl ?_)
        refine WL.yes rfl rfl rfl hb8 rfl (op_indexAddr Tryd.underlying23 Fa.I44 rfl ((SyD_rl (SyD.fr0 hI H6.fr))) rfl (by omega) ?_)
        refine WL.yes rfl rfl rfl hb8 rfl (op_fieldAddrS rfl Fa.F44_1 ?_)
        refine WL.yes rfl rfl rfl hb8 rfl (op_load rfl (Arr.atF (k := 1) ((SyD_rl (SyD.fr0 hI H6.fr))) (fun _ => rfl) (by decide) Rl.zero (by omega) rfl) Tryd.underlying5 rfl ?_)
        refine WL.yes rfl rfl rfl hb8 rfl (op_eqlU8 (b := 2) rfl rfl ?_)
        refine WL.op rfl rfl (op_pickT rfl hb8 rfl ?_)
        refine WL.nil ?_
        refine WQ.next ?_
        refine WC.cond rfl (fun (hb9 : (decide ((x.rl.getD k Rl.zero).kind = (2 : UInt8))) = true) => ?_) (fun (hb9 : (decide ((x.rl.getD k Rl.zero).kind = (2 : UInt8))) = false) => ?_)
        ·
          have hc9 := of_decide_eq_true hb9
          refine WC.region ?_
          refine WL.op rfl rfl (op_move rfl ?_)
          refine WL.op rfl rfl (op_move rfl ?_)
          refine WL.op rfl rfl (op_indexAddr1 Tryd.underlying27 Fa.I22 rfl (H6.arr hA) rfl (by omega) ?_)
          refine WL.op rfl rfl (op_load rfl ((H6.arr hA).at (get_map vU32 0 (Arr.ltM (H6.arr hA) (by omega)))) Tryd.underlying22 rfl ?_)
          refine WL.op rfl rfl (op_assign rfl ?_)
          refine WL.nil ?_
          refine WQ.next ?_
          refine WC.region ?_
          refine WL.op rfl rfl (op_move rfl ?_)
          refine WL.op rfl rfl (op_move rfl ?_)
          refine WL.op rfl rfl (op_buildSlice (cs := [_]) H6 Tryd.underlying27 Fa.I22 rfl rfl rfl rfl (by decide) (by decide) (fun b10 w10 H10 => ?_))
          refine WL.op rfl rfl (op_appendM (f := vU32) (l := ((List.range k).map (moreV x ads up))) (l' := [(ads.getD k 0)]) (i := 1) H10 Tryd.underlying27 Fa.I22 rfl rfl rfl rfl (Src.ofArr Tryd.underlying27 (H10.arrR (i := 2) rfl)) (one_mapM (fun _ => rfl)) (by omega) (by omega) (fun v11 w11 H11 => ?_))
          refine WL.op rfl rfl (op_assign rfl ?_)
          refine WL.nil ?_
          refine WQ.inNormal ?_
          refine WQ.next ?_
          refine WC.region ?_
          refine WL.op rfl rfl (op_move rfl ?_)
          refine WL.op rfl rfl (op_addN (b := 1) rfl rfl (by omega) ?_)
          refine WL.op rfl rfl (op_assign rfl ?_)
          refine WL.nil ?_
          exact WQ.round (k + 1, v11) ⟨(by omega), (Own.rowEqN (i := 1) (f := vU32) (show Own [] w w11 [.blk b1 [(str x.nm), (vU8 x.bind), (vU8 x.kind), (vU32 x.size), (str x.b), x.rv, x.nv] 26, .row v11 22 1 (k + 1) (List.map vU32 (((List.range k).map (moreV x ads up)) ++ [(ads.getD k 0)]))] from (H11.take 2)) rfl (more_step (more_1 hb8 hb9)) rfl)⟩ ⟨rfl, rfl, rfl, rfl, rfl, rfl, trivial⟩ (by show ads.length - (k + 1) < ads.length - k; omega)
        ·
          have hc9 := of_decide_eq_false hb9
          refine WC.skip ?_
          refine WQ.next ?_
          refine WC.region ?_
          refine WL.op rfl rfl (op_move rfl ?_)
          refine WL.op rfl rfl (op_move rfl ?_)
          refine WL.op rfl rfl (op_buildSlice (cs := [_]) H6 Tryd.underlying27 Fa.I22 rfl rfl rfl rfl (by decide) (by decide) (fun b12 w12 H12 => ?_))
          refine WL.op rfl rfl (op_appendM (f := vU32) (l := ((List.range k).map (moreV x ads up))) (l' := [((ads.getD k 0) + up)]) (i := 1) H12 Tryd.underlying27 Fa.I22 rfl rfl rfl rfl (Src.ofArr Tryd.underlying27 (H12.arrR (i := 2) rfl)) (one_mapM (fun _ => rfl)) (by omega) (by omega) (fun v13 w13 H13 => ?_))
          refine WL.op rfl rfl (op_assign rfl ?_)
          refine WL.nil ?_
          refine WQ.inNormal ?_
          refine WQ.next ?_
          refine WC.region ?_
          refine WL.op rfl rfl (op_move rfl ?_)
          refine WL.op rfl rfl (op_addN (b := 1) rfl rfl (by omega) ?_)
          refine WL.op rfl rfl (op_assign rfl ?_)
          refine WL.nil ?_
          exact WQ.round (k + 1, v13) ⟨(by omega), (Own.rowEqN (i := 1) (f := vU32) (show Own [] w w13 [.blk b1 [(str x.nm), (vU8 x.bind), (vU8 x.kind), (vU32 x.size), (str x.b), x.rv, x.nv] 26, .row v13 22 1 (k + 1) (List.map vU32 (((List.range k).map (moreV x ads up)) ++ [((ads.getD k 0) + up)]))] from (H13.take 2)) rfl (more_step (more_3 hb9)) rfl)⟩ ⟨rfl, rfl, rfl, rfl, rfl, rfl, trivial⟩ (by show ads.length - (k + 1) < ads.length - k; omega)
      ·
        have hc8 := of_decide_eq_false hb8
        refine WL.no rfl rfl rfl hb8 rfl ?_
        refine WL.no rfl rfl rfl hb8 rfl ?_
        refine WL.no rfl rfl rfl hb8 rfl ?_
        refine WL.no rfl rfl rfl hb8 rfl ?_
        refine WL.no rfl rfl rfl hb8 rfl ?_
        refine WL.no rfl rfl rfl hb8 rfl ?_
        refine WL.no rfl rfl rfl hb8 rfl ?_
        refine WL.op rfl rfl (op_pickF rfl hb8 rfl ?_)
        refine WL.nil ?_
        refine WQ.next ?_
        refine WC.no rfl rfl ?_
        refine WC.skip ?_
        refine WQ.next ?_
        refine WC.region ?_
        refine WL.op rfl rfl (op_move rfl ?_)
        refine WL.op rfl rfl (op_move rfl ?_)
        refine WL.op rfl rfl (op_buildSlice (cs := [_]) H6 Tryd.underlying27 Fa.I22 rfl rfl rfl rfl (by decide) (by decide) (fun b14 w14 H14 => ?_))
        refine WL.op rfl rfl (op_appendM (f := vU32) (l := ((List.range k).map (moreV x ads up))) (l' := [((ads.getD k 0) + up)]) (i := 1) H14 Tryd.underlying27 Fa.I22 rfl rfl rfl rfl (Src.ofArr Tryd.underlying27 (H14.arrR (i := 2) rfl)) (one_mapM (fun _ => rfl)) (by omega) (by omega) (fun v15 w15 H15 => ?_))
        refine WL.op rfl rfl (op_assign rfl ?_)
        refine WL.nil ?_
        refine WQ.inNormal ?_
        refine WQ.next ?_
        refine WC.region ?_
        refine WL.op rfl rfl (op_move rfl ?_)
        refine WL.op rfl rfl (op_addN (b := 1) rfl rfl (by omega) ?_)
        refine WL.op rfl rfl (op_assign rfl ?_)
        refine WL.nil ?_
        exact WQ.round (k + 1, v15) ⟨(by omega), (Own.rowEqN (i := 1) (f := vU32) (show Own [] w w15 [.blk b1 [(str x.nm), (vU8 x.bind), (vU8 x.kind), (vU32 x.size), (str x.b), x.rv, x.nv] 26, .row v15 22 1 (k + 1) (List.map vU32 (((List.range k).map (moreV x ads up)) ++ [((ads.getD k 0) + up)]))] from (H15.take 2)) rfl (more_step (more_2 hb8)) rfl)⟩ ⟨rfl, rfl, rfl, rfl, rfl, rfl, trivial⟩ (by show ads.length - (k + 1) < ads.length - k; omega)
    ·
      have hc7 := of_decide_eq_false hb7
      refine WC.exit ?_
      refine WQ.thenExit ?_
      refine WQ.thenExit ?_
      refine WQ.inHere ?_
      refine WQ.next ?_
      refine WC.seq ?_
      refine WC.region ?_
      have H16 : Own [] w w6 [.blk b1 [(str x.nm), (vU8 x.bind), (vU8 x.kind), (vU32 x.size), (str x.b), x.rv, x.nv] 26, .row v 22 1 (moreL x ads up).length (List.map vU32 (moreL x ads up))] := Own.rowEqN (i := 1) (f := vU32) (show Own [] w w6 [.blk b1 [(str x.nm), (vU8 x.bind), (vU8 x.kind), (vU32 x.size), (str x.b), x.rv, x.nv] 26, .row v 22 1 k (List.map vU32 ((List.range k).map (moreV x ads up)))] from H6) rfl (by rw [moreL, show k = ads.length by omega]) (by rw [more_len]; omega)
      refine WL.op rfl rfl (op_loadS (vs := [_, _, _, _, _, _, _]) rfl (H16.cells (i := 0) rfl rfl) Tryd.underlying26 rfl Fa.I26 rfl ?_)
      refine WL.op rfl rfl (op_move rfl ?_)
      refine WL.op rfl rfl (op_callF Fa.C14 rfl ((ofill_ok x _ ads _ (SyD_mk (x := x) ((SyD_rl (SyD.fr0 hI H16.fr))) ((SyD_nt (SyD.fr0 hI H16.fr)))) hbx.1 hbx.2.1 hbx.2.2.1 hbx.2.2.2.1 hbx.2.2.2.2 (H16.arr hA) (by first | omega | (rw [more_len]; omega))).mono (fun e w17 hq => ?_)))
      obtain ⟨rfl, hf17⟩ := hq
      refine ⟨_, rfl, ?_⟩
      have H17 := H16.fr' hf17
      refine WL.op rfl rfl (op_move rfl ?_)
      refine WL.op rfl rfl (op_extract rfl rfl ?_)
      refine WL.op rfl rfl (op_extract rfl rfl ?_)
      refine WL.op rfl rfl (op_assign rfl ?_)
      refine WL.op rfl rfl (op_assign rfl ?_)
      refine WL.nil ?_
      refine WQ.next ?_
      refine WC.seq ?_
      refine WC.region ?_
      refine WL.op rfl rfl (op_loadS (vs := [_, _, _, _, _, _, _]) rfl (H17.cells (i := 0) rfl rfl) Tryd.underlying26 rfl Fa.I26 rfl ?_)
      refine WL.op rfl rfl (op_move rfl ?_)
      refine WL.op rfl rfl (op_callF Fa.C14 rfl ((ofill_ok x _ (moreL x ads up) _ (SyD_mk (x := x) ((SyD_rl (SyD.fr0 hI H17.fr))) ((SyD_nt (SyD.fr0 hI H17.fr)))) hbx.1 hbx.2.1 hbx.2.2.1 hbx.2.2.2.1 hbx.2.2.2.2 (H17.arrR (i := 1) rfl) (by first | omega | (rw [more_len]; omega))).mono (fun e w18 hq => ?_)))
      obtain ⟨rfl, hf18⟩ := hq
      refine ⟨_, rfl, ?_⟩
      have H18 := H17.fr' hf18
      refine WL.op rfl rfl (op_move rfl ?_)
      refine WL.op rfl rfl (op_extract rfl rfl ?_)
      refine WL.op rfl rfl (op_extract rfl rfl ?_)
      refine WL.op rfl rfl (op_assign rfl ?_)
      refine WL.op rfl rfl (op_assign rfl ?_)
      refine WL.nil ?_
      refine WQ.next ?_
      refine WC.seq ?_
      refine WC.seq ?_
      refine WC.region ?_
      refine WL.op rfl rfl (op_move rfl ?_)
      refine WL.op rfl rfl (op_neqN (b := 0) rfl rfl ?_)
      refine WL.nil ?_
      refine WQ.next ?_
      refine WC.cond rfl (fun (hb19 : (decide ((fillE x ads) ≠ 0)) = true) => ?_) (fun (hb19 : (decide ((fillE x ads) ≠ 0)) = false) => ?_)
      ·
        have hc19 := of_decide_eq_true hb19
        refine WC.seq ?_
        refine WC.region ?_
        refine WL.op rfl rfl (op_move rfl ?_)
        refine WL.op rfl rfl (op_eqlStr rfl rfl ?_)
        refine WL.op rfl rfl (op_move rfl ?_)
        refine WL.yes rfl rfl rfl (decide_eq_true (fillS_no hc19)) rfl (op_callF Fa.C12 rfl ((alive15_ok _).mono (fun e w20 hq => ?_)))
        obtain ⟨rfl, hf20⟩ := hq
        refine ⟨_, rfl, ?_⟩
        have H20 := H18.fr' hf20
        refine WL.op rfl rfl (op_pickT rfl (decide_eq_true (fillS_no hc19)) rfl ?_)
        refine WL.op rfl rfl (op_assign rfl ?_)
        refine WL.nil ?_
        refine WQ.next ?_
        refine WC.ret ?_
        refine WQ.thenRet ?_
        refine WQ.out (.tmp rfl .nil) ?_
        exact ⟨rfl, H20.fr⟩
      ·
        have hc19 := of_decide_eq_false hb19
        have h0 : fillE x ads = 0 := Decidable.not_not.mp hc19
        obtain ⟨hsy, hal, hov⟩ := fill_0 h0
        have hm0 := more_fill (up := up) h0
        have hfl := fillS_len h0
        have hfm := fillS_len hm0
        have hfit := sym_fits hsy
        have hl1 := look_ads h0
        have hl2 := look_ads hm0
        have hml := more_len (x := x) (ads := ads) (up := up)
        refine WC.skip ?_
        refine WQ.next ?_
        refine WC.seq ?_
        refine WC.seq ?_
        refine WC.region ?_
        refine WL.op rfl rfl (op_move rfl ?_)
        refine WL.op rfl rfl (op_neqN (b := 0) rfl rfl ?_)
        refine WL.op rfl rfl (op_move rfl ?_)
        refine WL.yes rfl rfl rfl (decide_eq_false (fun h => h (hm0))) rfl (op_move rfl ?_)
        refine WL.yes rfl rfl rfl (decide_eq_false (fun h => h (hm0))) rfl (op_lenStr Tryd.underlying9 rfl ?_)
        refine WL.yes rfl rfl rfl (decide_eq_false (fun h => h (hm0))) rfl (op_fieldAddr rfl Fa.F26_3 ?_)
        refine WL.yes rfl rfl rfl (decide_eq_false (fun h => h (hm0))) rfl (op_load rfl (H18.cell (i := 0) rfl rfl) Tryd.underlying22 rfl ?_)
        refine WL.yes rfl rfl rfl (decide_eq_false (fun h => h (hm0))) rfl (op_convU32N (hs := Tryd.underlying22) (hd := Tryd.underlying3) rfl ?_)
        refine WL.yes rfl rfl rfl (decide_eq_false (fun h => h (hm0))) rfl (op_neqN rfl rfl ?_)
        refine WL.op rfl rfl (op_pickF rfl (decide_eq_false (fun h => h (hm0))) rfl ?_)
        refine WL.op rfl rfl (op_move rfl ?_)
        refine WL.yes rfl rfl rfl (decide_eq_false (fun h => h (hfl))) rfl (op_move rfl ?_)
        refine WL.yes rfl rfl rfl (decide_eq_false (fun h => h (hfl))) rfl (op_lenStr Tryd.underlying9 rfl ?_)
        refine WL.yes rfl rfl rfl (decide_eq_false (fun h => h (hfl))) rfl (op_move rfl ?_)
        refine WL.yes rfl rfl rfl (decide_eq_false (fun h => h (hfl))) rfl (op_lenStr Tryd.underlying9 rfl ?_)
        refine WL.yes rfl rfl rfl (decide_eq_false (fun h => h (hfl))) rfl (op_neqN rfl rfl ?_)
        refine WL.op rfl rfl (op_pickF rfl (decide_eq_false (fun h => h (hfl))) rfl ?_)
        refine WL.nil ?_
        refine WQ.next ?_
        refine WC.no rfl (decide_eq_false (fun h => h (by rw [hfm, hfl]))) ?_
        refine WC.skip ?_
        refine WQ.next ?_
        refine WC.seq ?_
        refine WC.region ?_
        refine WL.op rfl rfl (op_move rfl ?_)
        refine WL.op rfl rfl (op_lenStr Tryd.underlying9 rfl ?_)
        refine WL.op rfl rfl (op_makeSliceM (f := Value.bool) (c := false) H18 Tryd.underlying45 Fa.I4 rfl rfl (by omega) (by omega) (fun b21 w21 H21 => ?_))
        refine WL.op rfl rfl (op_assign rfl ?_)
        refine WL.nil ?_
        refine WQ.next ?_
        refine WC.seq ?_
        refine WC.region ?_
        refine WL.op rfl rfl (op_loadS (vs := [_, _, _, _, _, _, _]) rfl (H21.cells (i := 0) rfl rfl) Tryd.underlying26 rfl Fa.I26 rfl ?_)
        refine WL.op rfl rfl (op_move rfl ?_)
        refine WL.op rfl rfl (op_callF Fa.C16 rfl ((olook_ok x (fillS x ads) _ (SyD_mk (x := x) ((SyD_rl (SyD.fr0 hI H21.fr))) ((SyD_nt (SyD.fr0 hI H21.fr)))) hbx.1 hbx.2.1 hbx.2.2.1 hbx.2.2.2.1 hbx.2.2.2.2 (by omega)).mono (fun e w22 hq => ?_)))
        obtain ⟨v22, rfl, hq22⟩ := hq
        refine ⟨_, rfl, ?_⟩
        have H22 : Own [] w w22 [.blk b1 [(str x.nm), (vU8 x.bind), (vU8 x.kind), (vU32 x.size), (str x.b), x.rv, x.nv] 26, .row v 22 1 (moreL x ads up).length (List.map vU32 (moreL x ads up)), .row (.slice (some ⟨b21, 0, none⟩) (fillS x ads).length (fillS x ads).length) 4 1 (fillS x ads).length (List.map Value.bool (List.replicate (fillS x ads).length false)), .row v22 22 1 (lookL x (fillS x ads)).length (List.map vU32 (lookL x (fillS x ads)))] := H21.splice [] [] [.row v22 22 1 (lookL x (fillS x ads)).length (List.map vU32 (lookL x (fillS x ads)))] rfl rfl hq22 (Fits.solid True.intro Fits.nil)
        refine WL.op rfl rfl (op_move rfl ?_)
        refine WL.op rfl rfl (op_extract rfl rfl ?_)
        refine WL.op rfl rfl (op_extract rfl rfl ?_)
        refine WL.op rfl rfl (op_assign rfl ?_)
        refine WL.op rfl rfl (op_assign rfl ?_)
        refine WL.nil ?_
        refine WQ.next ?_
        refine WC.seq ?_
        refine WC.region ?_
        refine WL.op rfl rfl (op_loadS (vs := [_, _, _, _, _, _, _]) rfl (H22.cells (i := 0) rfl rfl) Tryd.underlying26 rfl Fa.I26 rfl ?_)
        refine WL.op rfl rfl (op_move rfl ?_)
        refine WL.op rfl rfl (op_callF Fa.C16 rfl ((olook_ok x (fillS x (moreL x ads up)) _ (SyD_mk (x := x) ((SyD_rl (SyD.fr0 hI H22.fr))) ((SyD_nt (SyD.fr0 hI H22.fr)))) hbx.1 hbx.2.1 hbx.2.2.1 hbx.2.2.2.1 hbx.2.2.2.2 (by omega)).mono (fun e w23 hq => ?_)))
        obtain ⟨v23, rfl, hq23⟩ := hq
        refine ⟨_, rfl, ?_⟩
        have H23 : Own [] w w23 [.blk b1 [(str x.nm), (vU8 x.bind), (vU8 x.kind), (vU32 x.size), (str x.b), x.rv, x.nv] 26, .row v 22 1 (moreL x ads up).length (List.map vU32 (moreL x ads up)), .row (.slice (some ⟨b21, 0, none⟩) (fillS x ads).length (fillS x ads).length) 4 1 (fillS x ads).length (List.map Value.bool (List.replicate (fillS x ads).length false)), .row v22 22 1 (lookL x (fillS x ads)).length (List.map vU32 (lookL x (fillS x ads))), .row v23 22 1 (lookL x (fillS x (moreL x ads up))).length (List.map vU32 (lookL x (fillS x (moreL x ads up))))] := H22.splice [] [] [.row v23 22 1 (lookL x (fillS x (moreL x ads up))).length (List.map vU32 (lookL x (fillS x (moreL x ads up))))] rfl rfl hq23 (Fits.solid True.intro Fits.nil)
        refine WL.op rfl rfl (op_move rfl ?_)
        refine WL.op rfl rfl (op_extract rfl rfl ?_)
        refine WL.op rfl rfl (op_extract rfl rfl ?_)
        refine WL.op rfl rfl (op_assign rfl ?_)
        refine WL.op rfl rfl (op_assign rfl ?_)
        refine WL.nil ?_
        refine WQ.next ?_
        refine WC.seq ?_
        refine WC.seq ?_
        refine WC.region ?_
        have H24 : Own [] w w23 [.blk b1 [(str x.nm), (vU8 x.bind), (vU8 x.kind), (vU32 x.size), (str x.b), x.rv, x.nv] 26, .row v 22 1 (moreL x ads up).length (List.map vU32 (moreL x ads up)), .row (.slice (some ⟨b21, 0, none⟩) (fillS x ads).length (fillS x ads).length) 4 1 (fillS x ads).length (List.map Value.bool (List.replicate (fillS x ads).length false)), .row v22 22 1 ads.length (List.map vU32 ads), .row v23 22 1 (lookL x (fillS x (moreL x ads up))).length (List.map vU32 (lookL x (fillS x (moreL x ads up))))] := Own.rowEqN (i := 3) (f := vU32) (show Own [] w w23 [.blk b1 [(str x.nm), (vU8 x.bind), (vU8 x.kind), (vU32 x.size), (str x.b), x.rv, x.nv] 26, .row v 22 1 (moreL x ads up).length (List.map vU32 (moreL x ads up)), .row (.slice (some ⟨b21, 0, none⟩) (fillS x ads).length (fillS x ads).length) 4 1 (fillS x ads).length (List.map Value.bool (List.replicate (fillS x ads).length false)), .row v22 22 1 (lookL x (fillS x ads)).length (List.map vU32 (lookL x (fillS x ads))), .row v23 22 1 (lookL x (fillS x (moreL x ads up))).length (List.map vU32 (lookL x (fillS x (moreL x ads up))))] from H23) rfl hl1.2 (by rw [hl1.2])
        have H25 : Own [] w w23 [.blk b1 [(str x.nm), (vU8 x.bind), (vU8 x.kind), (vU32 x.size), (str x.b), x.rv, x.nv] 26, .row v 22 1 (moreL x ads up).length (List.map vU32 (moreL x ads up)), .row (.slice (some ⟨b21, 0, none⟩) (fillS x ads).length (fillS x ads).length) 4 1 (fillS x ads).length (List.map Value.bool (List.replicate (fillS x ads).length false)), .row v22 22 1 ads.length (List.map vU32 ads), .row v23 22 1 (moreL x ads up).length (List.map vU32 (moreL x ads up))] := Own.rowEqN (i := 4) (f := vU32) (show Own [] w w23 [.blk b1 [(str x.nm), (vU8 x.bind), (vU8 x.kind), (vU32 x.size), (str x.b), x.rv, x.nv] 26, .row v 22 1 (moreL x ads up).length (List.map vU32 (moreL x ads up)), .row (.slice (some ⟨b21, 0, none⟩) (fillS x ads).length (fillS x ads).length) 4 1 (fillS x ads).length (List.map Value.bool (List.replicate (fillS x ads).length false)), .row v22 22 1 ads.length (List.map vU32 ads), .row v23 22 1 (lookL x (fillS x (moreL x ads up))).length (List.map vU32 (lookL x (fillS x (moreL x ads up))))] from H24) rfl hl2.2 (by rw [hl2.2])
        refine WL.op rfl rfl (op_move rfl ?_)
        refine WL.op rfl rfl (op_neqN (b := 0) rfl rfl ?_)
        refine WL.op rfl rfl (op_move rfl ?_)
        refine WL.yes rfl rfl rfl (decide_eq_false (fun h => h (hl1.1))) rfl (op_move rfl ?_)
        refine WL.yes rfl rfl rfl (decide_eq_false (fun h => h (hl1.1))) rfl (op_neqN (b := 0) rfl rfl ?_)
        refine WL.op rfl rfl (op_pickF rfl (decide_eq_false (fun h => h (hl1.1))) rfl ?_)
        refine WL.op rfl rfl (op_move rfl ?_)
        refine WL.yes rfl rfl rfl (decide_eq_false (fun h => h (hl2.1))) rfl (op_move rfl ?_)
        refine WL.yes rfl rfl rfl (decide_eq_false (fun h => h (hl2.1))) rfl (op_lenA Tryd.underlying27 rfl (H25.arrR (i := 3) rfl) ?_)
        refine WL.yes rfl rfl rfl (decide_eq_false (fun h => h (hl2.1))) rfl (op_move rfl ?_)
        refine WL.yes rfl rfl rfl (decide_eq_false (fun h => h (hl2.1))) rfl (op_lenA Tryd.underlying27 rfl (H25.arr hA) ?_)
        refine WL.yes rfl rfl rfl (decide_eq_false (fun h => h (hl2.1))) rfl (op_neqN rfl rfl ?_)
        refine WL.op rfl rfl (op_pickF rfl (decide_eq_false (fun h => h (hl2.1))) rfl ?_)
        refine WL.op rfl rfl (op_move rfl ?_)
        refine WL.yes rfl rfl rfl (decide_eq_false (fun h => h (rfl))) rfl (op_move rfl ?_)
        refine WL.yes rfl rfl rfl (decide_eq_false (fun h => h (rfl))) rfl (op_lenA Tryd.underlying27 rfl (H25.arrR (i := 4) rfl) ?_)
        refine WL.yes rfl rfl rfl (decide_eq_false (fun h => h (rfl))) rfl (op_move rfl ?_)
        refine WL.yes rfl rfl rfl (decide_eq_false (fun h => h (rfl))) rfl (op_lenA Tryd.underlying27 rfl (H25.arr hA) ?_)
        refine WL.yes rfl rfl rfl (decide_eq_false (fun h => h (rfl))) rfl (op_neqN rfl rfl ?_)
        refine WL.op rfl rfl (op_pickF rfl (decide_eq_false (fun h => h (rfl))) rfl ?_)
        refine WL.nil ?_
        refine WQ.next ?_
        refine WC.no rfl (decide_eq_false (fun h => h (hml))) ?_
        refine WC.skip ?_
        refine WQ.next ?_
        refine WC.seq ?_
        refine WC.seq ?_
        refine WC.region ?_
        refine WL.op rfl rfl (op_assign rfl ?_)
        refine WL.nil ?_
        refine WQ.next ?_
        refine WC.block ?_
        refine WC.loop (α := Nat × List Bool) (fun (i, p) => [(1, av), (2, (vU32 up)), (3, (ptr b1 0)), (6, (.bool false)), (10, (str (fillS x ads))), (12, (str (fillS x (moreL x ads up)))), (14, (.slice (some ⟨b21, 0, none⟩) (fillS x ads).length (fillS x ads).length)), (15, v22), (17, v23), (19, (vN i))]) (fun (i, p) w' => (i ≤ x.rl.length ∧ p.length = x.size.toNat ∧ (∀ idx, p.getD idx false = false → ∀ j, j < i → ¬ ((x.rl.getD j Rl.zero).off.toNat ≤ idx ∧ idx < endOf (x.rl.getD j Rl.zero)))) ∧ Own [] w w' [.blk b1 [(str x.nm), (vU8 x.bind), (vU8 x.kind), (vU32 x.size), (str x.b), x.rv, x.nv] 26, .row v 22 1 (moreL x ads up).length (List.map vU32 (moreL x ads up)), .row (.slice (some ⟨b21, 0, none⟩) (fillS x ads).length (fillS x ads).length) 4 1 (fillS x ads).length (List.map Value.bool p), .row v22 22 1 ads.length (List.map vU32 ads), .row v23 22 1 (moreL x ads up).length (List.map vU32 (moreL x ads up))]) (fun (i, p) => x.rl.length - i) (0, List.replicate (fillS x ads).length false) ⟨⟨Nat.zero_le _, by rw [List.length_replicate]; exact hfl, fun idx _ j hj => by omega⟩, H25⟩ ⟨rfl, rfl, rfl, rfl, rfl, rfl, rfl, rfl, rfl, rfl, trivial⟩ ?_
        rintro ⟨i, p⟩ w26 ⟨⟨hi1, hpl, hpo⟩, H26⟩
        show WC _ _ _ _ _ [(1, av), (2, (vU32 up)), (3, (ptr b1 0)), (6, (.bool false)), (10, (str (fillS x ads))), (12, (str (fillS x (moreL x ads up)))), (14, (.slice (some ⟨b21, 0, none⟩) (fillS x ads).length (fillS x ads).length)), (15, v22), (17, v23), (19, (vN i))] _
        refine WC.seq ?_
        refine WC.seq ?_
        refine WC.region ?_
        refine WL.op rfl rfl (op_move rfl ?_)
        refine WL.op rfl rfl (op_fieldAddr rfl Fa.F26_5 ?_)
        refine WL.op rfl rfl (op_load rfl (H26.cell (i := 0) rfl rfl) Tryd.underlying23 rfl ?_)
        refine WL.op rfl rfl (op_lenA Tryd.underlying23 rfl ((SyD_rl (SyD.fr0 hI H26.fr))) ?_)
        refine WL.op rfl rfl (op_lssN rfl rfl ?_)
        refine WL.nil ?_
        refine WQ.next ?_
        refine WC.cond rfl (fun (hb27 : (decide (i < x.rl.length)) = true) => ?_) (fun (hb27 : (decide (i < x.rl.length)) = false) => ?_)
        ·
          have hc27 := of_decide_eq_true hb27
          have hpc := sym_place hsy hc27
          have hgm := more_get (x := x) (up := up) (show i < ads.length by omega)
          refine WC.skip ?_
          refine WQ.next ?_
          refine WC.seq ?_
          refine WC.block ?_
          refine WC.seq ?_
          refine WC.region ?_
          refine WL.op rfl rfl (op_fieldAddr rfl Fa.F26_5 ?_)
          refine WL.op rfl rfl (op_load rfl (H26.cell (i := 0) rfl rfl) Tryd.underlying23 rfl ?_)
          refine WL.op rfl rfl (op_move rfl ?_)
          refine WL.op rfl rfl (op_indexAddr Tryd.underlying23 Fa.I44 rfl ((SyD_rl (SyD.fr0 hI H26.fr))) rfl (by omega) ?_)
          refine WL.op rfl rfl (op_loadSP (vs := rlc (x.rl.getD i Rl.zero)) rfl (Arr.atsF ((SyD_rl (SyD.fr0 hI H26.fr))) (fun _ => rfl) (by decide) Rl.zero (by omega)) Tryd.underlying44 rfl Fa.I44 rfl ?_)
          refine WL.op rfl rfl (op_alloc H26 Fa.I44 (fun b28 w28 H28 => ?_))
          refine WL.op rfl rfl (op_storeBW (i := 5) H28 rfl rfl rfl rfl rfl Fa.I44 (fun w29 H29 => ?_))
          refine WL.nil ?_
          refine WQ.next ?_
          refine WC.seq ?_
          refine WC.region ?_
          refine WL.op rfl rfl (op_assign rfl ?_)
          refine WL.nil ?_
          refine WQ.next ?_
          refine WC.seq ?_
          refine WC.seq ?_
          refine WC.region ?_
          refine WL.op rfl rfl (op_fieldAddr rfl Fa.F44_1 ?_)
          refine WL.op rfl rfl (op_load rfl (H29.cell (i := 5) rfl rfl) Tryd.underlying5 rfl ?_)
          refine WL.op rfl rfl (op_eqlU8 (b := 2) rfl rfl ?_)
          refine WL.nil ?_
          refine WQ.next ?_
          refine WC.cond rfl (fun (hb30 : (decide ((x.rl.getD i Rl.zero).kind = (2 : UInt8))) = true) => ?_) (fun (hb30 : (decide ((x.rl.getD i Rl.zero).kind = (2 : UInt8))) = false) => ?_)
          ·
            have hc30 := of_decide_eq_true hb30
            have hw : widthN (x.rl.getD i Rl.zero).kind = 2 := width2 hb30
            have hmv : moreV x ads up i = ads.getD i 0 := more_1 (decide_eq_true (by omega)) hb30
            refine WC.region ?_
            refine WL.op rfl rfl (op_assign rfl ?_)
            refine WL.nil ?_
            refine WQ.next ?_
            refine WC.seq ?_
            refine WC.seq ?_
            refine WC.region ?_
            refine WL.op rfl rfl (op_assign rfl ?_)
            refine WL.nil ?_
            refine WQ.next ?_
            refine WC.block ?_
            refine WC.loop (α := Nat × List Bool) (fun (k, q) => [(1, av), (2, (vU32 up)), (3, (ptr b1 0)), (6, (.bool false)), (10, (str (fillS x ads))), (12, (str (fillS x (moreL x ads up)))), (14, (.slice (some ⟨b21, 0, none⟩) (fillS x ads).length (fillS x ads).length)), (15, v22), (17, v23), (19, (vN i)), (20, (ptr b28 0)), (21, (vN 2)), (22, (vN k))]) (fun (k, q) w' => (k ≤ 2 ∧ q.length = x.size.toNat ∧ (∀ idx, q.getD idx false = false → (∀ j, j < i → ¬ ((x.rl.getD j Rl.zero).off.toNat ≤ idx ∧ idx < endOf (x.rl.getD j Rl.zero))) ∧ ¬ ((x.rl.getD i Rl.zero).off.toNat ≤ idx ∧ idx < (x.rl.getD i Rl.zero).off.toNat + k))) ∧ Own [] w w' [.blk b1 [(str x.nm), (vU8 x.bind), (vU8 x.kind), (vU32 x.size), (str x.b), x.rv, x.nv] 26, .row v 22 1 (moreL x ads up).length (List.map vU32 (moreL x ads up)), .row (.slice (some ⟨b21, 0, none⟩) (fillS x ads).length (fillS x ads).length) 4 1 (fillS x ads).length (List.map Value.bool q), .row v22 22 1 ads.length (List.map vU32 ads), .row v23 22 1 (moreL x ads up).length (List.map vU32 (moreL x ads up)), .blk b28 [(vU32 (x.rl.getD i Rl.zero).off), (vU8 (x.rl.getD i Rl.zero).kind), (str (x.rl.getD i Rl.zero).nm), (vU32 (x.rl.getD i Rl.zero).add)] 44]) (fun (k, q) => 2 - k) (0, p) ⟨⟨Nat.zero_le _, hpl, fun idx hx => ⟨hpo idx hx, by omega⟩⟩, H29⟩ ⟨rfl, rfl, rfl, rfl, rfl, rfl, rfl, rfl, rfl, rfl, rfl, rfl, rfl, trivial⟩ ?_
            rintro ⟨k, q⟩ w31 ⟨⟨hk1, hql, hqo⟩, H31⟩
            show WC _ _ _ _ _ [(1, av), (2, (vU32 up)), (3, (ptr b1 0)), (6, (.bool false)), (10, (str (fillS x ads))), (12, (str (fillS x (moreL x ads up)))), (14, (.slice (some ⟨b21, 0, none⟩) (fillS x ads).length (fillS x ads).length)), (15, v22), (17, v23), (19, (vN i)), (20, (ptr b28 0)), (21, (vN 2)), (22, (vN k))] _
            refine WC.seq ?_
            refine WC.seq ?_
            refine WC.region ?_
            refine WL.op rfl rfl (op_move rfl ?_)
            refine WL.op rfl rfl (op_move rfl ?_)
            refine WL.op rfl rfl (op_lssN rfl rfl ?_)
            refine WL.op rfl rfl (op_move rfl ?_)
            refine WL.split (t := 152) rfl (fun (hb32 : (decide (k < 2)) = true) => ?_) (fun (hb32 : (decide (k < 2)) = false) => ?_)
            ·
              have hc32 := of_decide_eq_true hb32
              refine WL.yes rfl rfl rfl hb32 rfl (op_fieldAddr rfl Fa.F44_0 ?_)
              refine WL.yes rfl rfl rfl hb32 rfl (op_load rfl (H31.cell (i := 5) rfl rfl) Tryd.underlying22 rfl ?_)
              refine WL.yes rfl rfl rfl hb32 rfl (op_convU32N (hs := Tryd.underlying22) (hd := Tryd.underlying3) rfl ?_)
              refine WL.yes rfl rfl rfl hb32 rfl (op_move rfl ?_)
              refine WL.yes rfl rfl rfl hb32 rfl (op_addN rfl rfl (by omega) ?_)
              refine WL.yes rfl rfl rfl hb32 rfl (op_move rfl ?_)
              refine WL.yes rfl rfl rfl hb32 rfl (op_lenA Tryd.underlying45 rfl (H31.arrR (i := 2) rfl) ?_)
              refine WL.yes rfl rfl rfl hb32 rfl (op_lssN rfl rfl ?_)
              refine WL.op rfl rfl (op_pickT rfl hb32 rfl ?_)
              refine WL.nil ?_
              refine WQ.next ?_
              refine WC.yes rfl (decide_eq_true (by rw [hfl]; have := hpc.2.2; unfold endOf at this; rw [hw] at this; omega)) ?_
              refine WC.skip ?_
              refine WQ.next ?_
              refine WC.seq ?_
              refine WC.block ?_
              refine WC.region ?_
              refine WL.op rfl rfl (op_move rfl ?_)
              refine WL.op rfl rfl (op_fieldAddr rfl Fa.F44_0 ?_)
              refine WL.op rfl rfl (op_load rfl (H31.cell (i := 5) rfl rfl) Tryd.underlying22 rfl ?_)
              refine WL.op rfl rfl (op_convU32N (hs := Tryd.underlying22) (hd := Tryd.underlying3) rfl ?_)
              refine WL.op rfl rfl (op_move rfl ?_)
              refine WL.op rfl rfl (op_addN rfl rfl (by omega) ?_)
              refine WL.op rfl rfl (op_indexAddr1 Tryd.underlying45 Fa.I4 rfl (H31.arrR (i := 2) rfl) rfl (by rw [hfl]; have := hpc.2.2; unfold endOf at this; rw [hw] at this; omega) ?_)
              refine WL.op rfl rfl (op_storeRM (i := 2) (f := Value.bool) (l := q) (c := true) H31 rfl rfl rfl (by rw [hfl]; have := hpc.2.2; unfold endOf at this; rw [hw] at this; omega) rfl Fa.I4 (fun w33 H33 => ?_))
              refine WL.nil ?_
              refine WQ.inNormal ?_
              refine WQ.next ?_
              refine WC.region ?_
              refine WL.op rfl rfl (op_move rfl ?_)
              refine WL.op rfl rfl (op_addN (b := 1) rfl rfl (by omega) ?_)
              refine WL.op rfl rfl (op_assign rfl ?_)
              refine WL.nil ?_
              exact WQ.round (k + 1, q.set ((x.rl.getD i Rl.zero).off.toNat + k) true) ⟨⟨by omega, by rw [List.length_set]; exact hql, fun idx hx => by have h5 := mark_step (by rw [hql]; have := hpc.2.2; unfold endOf at this; omega) hx; have h6 := hqo idx h5.2; exact ⟨h6.1, by omega⟩⟩, H33⟩ ⟨rfl, rfl, rfl, rfl, rfl, rfl, rfl, rfl, rfl, rfl, rfl, rfl, rfl, trivial⟩ (by show 2 - (k + 1) < 2 - k; omega)
            ·
              have hc32 := of_decide_eq_false hb32
              refine WL.no rfl rfl rfl hb32 rfl ?_
              refine WL.no rfl rfl rfl hb32 rfl ?_
              refine WL.no rfl rfl rfl hb32 rfl ?_
              refine WL.no rfl rfl rfl hb32 rfl ?_
              refine WL.no rfl rfl rfl hb32 rfl ?_
              refine WL.no rfl rfl rfl hb32 rfl ?_
              refine WL.no rfl rfl rfl hb32 rfl ?_
              refine WL.no rfl rfl rfl hb32 rfl ?_
              refine WL.op rfl rfl (op_pickF rfl hb32 rfl ?_)
              refine WL.nil ?_
              refine WQ.next ?_
              refine WC.no rfl rfl ?_
              refine WC.exit ?_
              refine WQ.thenExit ?_
              refine WQ.thenExit ?_
              refine WQ.inHere ?_
              refine WQ.next ?_
              refine WC.seq ?_
              refine WC.draw 54 Fa.M H31 (HW.op rfl (fun w1 H1 => op_move rfl ⟨rfl, Fr.refl _ _⟩) (HW.op rfl (fun w1 H1 => op_eqlN (b := 4) rfl rfl ⟨rfl, Fr.refl _ _⟩) (HW.op rfl (fun w1 H1 => op_move rfl ⟨rfl, Fr.refl _ _⟩) (HW.no rfl rfl rfl (by decide) (HW.no rfl rfl rfl (by decide) (HW.no rfl rfl rfl (by decide) (HW.no rfl rfl rfl (by decide) (HW.no rfl rfl rfl (by decide) (HW.no rfl rfl rfl (by decide) (HW.no rfl rfl rfl (by decide) (HW.no rfl rfl rfl (by decide) (HW.no rfl rfl rfl (by decide) (HW.no rfl rfl rfl (by decide) (HW.non rfl rfl rfl (HW.non rfl rfl rfl (HW.non rfl rfl rfl (HW.non rfl rfl rfl (HW.non rfl rfl rfl (HW.non rfl rfl rfl (HW.non rfl rfl rfl (HW.non rfl rfl rfl (HW.non rfl rfl rfl (HW.non rfl rfl rfl (HW.non rfl rfl rfl (HW.no rfl rfl rfl (by decide) (HW.op rfl (fun w1 H1 => op_pickF rfl (by decide) rfl ⟨rfl, Fr.refl _ _⟩) (HW.op rfl (fun w1 H1 => op_move rfl ⟨rfl, Fr.refl _ _⟩) (HW.yes rfl rfl rfl rfl (fun w1 H1 => op_move rfl ⟨rfl, Fr.refl _ _⟩) (HW.yes rfl rfl rfl rfl (fun w1 H1 => op_eqlN (b := 2) rfl rfl ⟨rfl, Fr.refl _ _⟩) (HW.yes rfl rfl rfl rfl (fun w1 H1 => op_move rfl ⟨rfl, Fr.refl _ _⟩) (HW.yes rfl rfl rfl (by decide) (fun w1 H1 => op_move rfl ⟨rfl, Fr.refl _ _⟩) (HW.yes rfl rfl rfl (by decide) (fun w1 H1 => op_move rfl ⟨rfl, Fr.refl _ _⟩) (HW.yes rfl rfl rfl (by decide) (fun w1 H1 => op_indexAddr1 Tryd.underlying27 Fa.I22 rfl (H1.arrR (i := 3) rfl) rfl (by omega) ⟨rfl, Fr.refl _ _⟩) (HW.yes rfl rfl rfl (by decide) (fun w1 H1 => op_load rfl ((H1.arrR (i := 3) rfl).at (get_map vU32 0 (Arr.ltM (H1.arrR (i := 3) rfl) (by omega)))) Tryd.underlying22 rfl ⟨rfl, Fr.refl _ _⟩) (HW.yes rfl rfl rfl (by decide) (fun w1 H1 => op_convU32U16 (hs := Tryd.underlying22) (hd := Tryd.underlying46) rfl ⟨rfl, Fr.refl _ _⟩) (HW.yes rfl rfl rfl (by decide) (fun w1 H1 => op_move rfl ⟨rfl, Fr.refl _ _⟩) (HW.yes rfl rfl rfl (by decide) (fun w1 H1 => op_move rfl ⟨rfl, Fr.refl _ _⟩) (HW.yes rfl rfl rfl (by decide) (fun w1 H1 => op_indexAddr1 Tryd.underlying27 Fa.I22 rfl (H1.arr hA) rfl (by omega) ⟨rfl, Fr.refl _ _⟩) (HW.yes rfl rfl rfl (by decide) (fun w1 H1 => op_load rfl ((H1.arr hA).at (get_map vU32 0 (Arr.ltM (H1.arr hA) (by omega)))) Tryd.underlying22 rfl ⟨rfl, Fr.refl _ _⟩) (HW.yes rfl rfl rfl (by decide) (fun w1 H1 => op_convU32U16 (hs := Tryd.underlying22) (hd := Tryd.underlying46) rfl ⟨rfl, Fr.refl _ _⟩) (HW.yes rfl rfl rfl (by decide) (fun w1 H1 => op_neqU16 rfl rfl ⟨rfl, Fr.refl _ _⟩) (HW.yes rfl rfl rfl (by decide) (fun w1 H1 => op_move rfl ⟨rfl, Fr.refl _ _⟩) (HW.yes rfl rfl rfl (decide_eq_false (fun h => h (rfl))) (fun w1 H1 => op_move rfl ⟨rfl, Fr.refl _ _⟩) (HW.yes rfl rfl rfl (decide_eq_false (fun h => h (rfl))) (fun w1 H1 => op_move rfl ⟨rfl, Fr.refl _ _⟩) (HW.yes rfl rfl rfl (decide_eq_false (fun h => h (rfl))) (fun w1 H1 => op_indexAddr1 Tryd.underlying27 Fa.I22 rfl (H1.arrR (i := 3) rfl) rfl (by omega) ⟨rfl, Fr.refl _ _⟩) (HW.yes rfl rfl rfl (decide_eq_false (fun h => h (rfl))) (fun w1 H1 => op_load rfl ((H1.arrR (i := 3) rfl).at (get_map vU32 0 (Arr.ltM (H1.arrR (i := 3) rfl) (by omega)))) Tryd.underlying22 rfl ⟨rfl, Fr.refl _ _⟩) (HW.yes rfl rfl rfl (decide_eq_false (fun h => h (rfl))) (fun w1 H1 => op_move rfl ⟨rfl, Fr.refl _ _⟩) (HW.yes rfl rfl rfl (decide_eq_false (fun h => h (rfl))) (fun w1 H1 => op_move rfl ⟨rfl, Fr.refl _ _⟩) (HW.yes rfl rfl rfl (decide_eq_false (fun h => h (rfl))) (fun w1 H1 => op_indexAddr1 Tryd.underlying27 Fa.I22 rfl (H1.arrR (i := 4) rfl) rfl (by rw [hml]; omega) ⟨rfl, Fr.refl _ _⟩) (HW.yes rfl rfl rfl (decide_eq_false (fun h => h (rfl))) (fun w1 H1 => op_load rfl ((H1.arrR (i := 4) rfl).at (get_map vU32 0 (Arr.ltM (H1.arrR (i := 4) rfl) (by omega)))) Tryd.underlying22 rfl ⟨rfl, Fr.refl _ _⟩) (HW.yes rfl rfl rfl (decide_eq_false (fun h => h (rfl))) (fun w1 H1 => op_neqU32 rfl rfl ⟨rfl, Fr.refl _ _⟩) (HW.yes rfl rfl rfl (by decide) (fun w1 H1 => op_pickF rfl (decide_eq_false (fun h => h (rfl))) rfl ⟨rfl, Fr.refl _ _⟩) (HW.yes rfl rfl rfl rfl (fun w1 H1 => op_pickT rfl (by decide) rfl ⟨rfl, Fr.refl _ _⟩) (HW.op rfl (fun w1 H1 => op_pickF rfl rfl rfl ⟨rfl, Fr.refl _ _⟩)  HW.nil)))))))))))))))))))))))))))))))))))))))))))))))))))))) (by kernel_rfl) ?_
              intro β34 w34 H34
              refine WL.nil ?_
              refine WQ.next ?_
              refine WC.no rfl (decide_eq_false (fun h => h (by rw [hgm, hmv]))) ?_
              refine WC.skip ?_
              refine WQ.inNormal ?_
              refine WQ.next ?_
              refine WC.region ?_
              refine WL.op rfl rfl (op_move rfl ?_)
              refine WL.op rfl rfl (op_addN (b := 1) rfl rfl (by omega) ?_)
              refine WL.op rfl rfl (op_assign rfl ?_)
              refine WL.nil ?_
              exact WQ.round (i + 1, q) ⟨⟨by omega, hql, fun idx hx => out_next (hqo idx hx).1 (by have h5 := (hqo idx hx).2; unfold endOf; rw [hw]; rw [show k = 2 by omega] at h5; exact h5)⟩, (H34.take 5)⟩ ⟨rfl, rfl, rfl, rfl, rfl, rfl, rfl, rfl, rfl, rfl, trivial⟩ (by show x.rl.length - (i + 1) < x.rl.length - i; omega)
          ·
            have hc30 := of_decide_eq_false hb30
            have hw : widthN (x.rl.getD i Rl.zero).kind = 4 := width4 hb30 hpc.1
            have hmv : moreV x ads up i = ads.getD i 0 + up := more_3 hb30
            refine WC.skip ?_
            refine WQ.next ?_
            refine WC.seq ?_
            refine WC.seq ?_
            refine WC.region ?_
            refine WL.op rfl rfl (op_assign rfl ?_)
            refine WL.nil ?_
            refine WQ.next ?_
            refine WC.block ?_
            refine WC.loop (α := Nat × List Bool) (fun (k, q) => [(1, av), (2, (vU32 up)), (3, (ptr b1 0)), (6, (.bool false)), (10, (str (fillS x ads))), (12, (str (fillS x (moreL x ads up)))), (14, (.slice (some ⟨b21, 0, none⟩) (fillS x ads).length (fillS x ads).length)), (15, v22), (17, v23), (19, (vN i)), (20, (ptr b28 0)), (21, (vN 4)), (22, (vN k))]) (fun (k, q) w' => (k ≤ 4 ∧ q.length = x.size.toNat ∧ (∀ idx, q.getD idx false = false → (∀ j, j < i → ¬ ((x.rl.getD j Rl.zero).off.toNat ≤ idx ∧ idx < endOf (x.rl.getD j Rl.zero))) ∧ ¬ ((x.rl.getD i Rl.zero).off.toNat ≤ idx ∧ idx < (x.rl.getD i Rl.zero).off.toNat + k))) ∧ Own [] w w' [.blk b1 [(str x.nm), (vU8 x.bind), (vU8 x.kind), (vU32 x.size), (str x.b), x.rv, x.nv] 26, .row v 22 1 (moreL x ads up).length (List.map vU32 (moreL x ads up)), .row (.slice (some ⟨b21, 0, none⟩) (fillS x ads).length (fillS x ads).length) 4 1 (fillS x ads).length (List.map Value.bool q), .row v22 22 1 ads.length (List.map vU32 ads), .row v23 22 1 (moreL x ads up).length (List.map vU32 (moreL x ads up)), .blk b28 [(vU32 (x.rl.getD i Rl.zero).off), (vU8 (x.rl.getD i Rl.zero).kind), (str (x.rl.getD i Rl.zero).nm), (vU32 (x.rl.getD i Rl.zero).add)] 44]) (fun (k, q) => 4 - k) (0, p) ⟨⟨Nat.zero_le _, hpl, fun idx hx => ⟨hpo idx hx, by omega⟩⟩, H29⟩ ⟨rfl, rfl, rfl, rfl, rfl, rfl, rfl, rfl, rfl, rfl, rfl, rfl, rfl, trivial⟩ ?_
            rintro ⟨k, q⟩ w35 ⟨⟨hk1, hql, hqo⟩, H35⟩
            show WC _ _ _ _ _ [(1, av), (2, (vU32 up)), (3, (ptr b1 0)), (6, (.bool false)), (10, (str (fillS x ads))), (12, (str (fillS x (moreL x ads up)))), (14, (.slice (some ⟨b21, 0, none⟩) (fillS x ads).length (fillS x ads).length)), (15, v22), (17, v23), (19, (vN i)), (20, (ptr b28 0)), (21, (vN 4)), (22, (vN k))] _
            refine WC.seq ?_
            refine WC.seq ?_
            refine WC.region ?_
            refine WL.op rfl rfl (op_move rfl ?_)
            refine WL.op rfl rfl (op_move rfl ?_)
            refine WL.op rfl rfl (op_lssN rfl rfl ?_)
            refine WL.op rfl rfl (op_move rfl ?_)
            refine WL.split (t := 152) rfl (fun (hb36 : (decide (k < 4)) = true) => ?_) (fun (hb36 : (decide (k < 4)) = false) => ?_)
            ·
              have hc36 := of_decide_eq_true hb36
              refine WL.yes rfl rfl rfl hb36 rfl (op_fieldAddr rfl Fa.F44_0 ?_)
              refine WL.yes rfl rfl rfl hb36 rfl (op_load rfl (H35.cell (i := 5) rfl rfl) Tryd.underlying22 rfl ?_)
              refine WL.yes rfl rfl rfl hb36 rfl (op_convU32N (hs := Tryd.underlying22) (hd := Tryd.underlying3) rfl ?_)
              refine WL.yes rfl rfl rfl hb36 rfl (op_move rfl ?_)
              refine WL.yes rfl rfl rfl hb36 rfl (op_addN rfl rfl (by omega) ?_)
              refine WL.yes rfl rfl rfl hb36 rfl (op_move rfl ?_)
              refine WL.yes rfl rfl rfl hb36 rfl (op_lenA Tryd.underlying45 rfl (H35.arrR (i := 2) rfl) ?_)
              refine WL.yes rfl rfl rfl hb36 rfl (op_lssN rfl rfl ?_)
              refine WL.op rfl rfl (op_pickT rfl hb36 rfl ?_)
              refine WL.nil ?_
              refine WQ.next ?_
              refine WC.yes rfl (decide_eq_true (by rw [hfl]; have := hpc.2.2; unfold endOf at this; rw [hw] at this; omega)) ?_
              refine WC.skip ?_
              refine WQ.next ?_
              refine WC.seq ?_
              refine WC.block ?_
              refine WC.region ?_
              refine WL.op rfl rfl (op_move rfl ?_)
              refine WL.op rfl rfl (op_fieldAddr rfl Fa.F44_0 ?_)
              refine WL.op rfl rfl (op_load rfl (H35.cell (i := 5) rfl rfl) Tryd.underlying22 rfl ?_)
              refine WL.op rfl rfl (op_convU32N (hs := Tryd.underlying22) (hd := Tryd.underlying3) rfl ?_)
              refine WL.op rfl rfl (op_move rfl ?_)
              refine WL.op rfl rfl (op_addN rfl rfl (by omega) ?_)
              refine WL.op rfl rfl (op_indexAddr1 Tryd.underlying45 Fa.I4 rfl (H35.arrR (i := 2) rfl) rfl (by rw [hfl]; have := hpc.2.2; unfold endOf at this; rw [hw] at this; omega) ?_)
              refine WL.op rfl rfl (op_storeRM (i := 2) (f := Value.bool) (l := q) (c := true) H35 rfl rfl rfl (by rw [hfl]; have := hpc.2.2; unfold endOf at this; rw [hw] at this; omega) rfl Fa.I4 (fun w37 H37 => ?_))
              refine WL.nil ?_
              refine WQ.inNormal ?_
              refine WQ.next ?_
              refine WC.region ?_
              refine WL.op rfl rfl (op_move rfl ?_)
              refine WL.op rfl rfl (op_addN (b := 1) rfl rfl (by omega) ?_)
              refine WL.op rfl rfl (op_assign rfl ?_)
              refine WL.nil ?_
              exact WQ.round (k + 1, q.set ((x.rl.getD i Rl.zero).off.toNat + k) true) ⟨⟨by omega, by rw [List.length_set]; exact hql, fun idx hx => by have h5 := mark_step (by rw [hql]; have := hpc.2.2; unfold endOf at this; omega) hx; have h6 := hqo idx h5.2; exact ⟨h6.1, by omega⟩⟩, H37⟩ ⟨rfl, rfl, rfl, rfl, rfl, rfl, rfl, rfl, rfl, rfl, rfl, rfl, rfl, trivial⟩ (by show 4 - (k + 1) < 4 - k; omega)
            ·
              have hc36 := of_decide_eq_false hb36
              refine WL.no rfl rfl rfl hb36 rfl ?_
              refine WL.no rfl rfl rfl hb36 rfl ?_
              refine WL.no rfl rfl rfl hb36 rfl ?_
              refine WL.no rfl rfl rfl hb36 rfl ?_
              refine WL.no rfl rfl rfl hb36 rfl ?_
              refine WL.no rfl rfl rfl hb36 rfl ?_
              refine WL.no rfl rfl rfl hb36 rfl ?_
              refine WL.no rfl rfl rfl hb36 rfl ?_
              refine WL.op rfl rfl (op_pickF rfl hb36 rfl ?_)
              refine WL.nil ?_
              refine WQ.next ?_
              refine WC.no rfl rfl ?_
              refine WC.exit ?_
              refine WQ.thenExit ?_
              refine WQ.thenExit ?_
              refine WQ.inHere ?_
              refine WQ.next ?_
              refine WC.seq ?_
              refine WC.draw 54 Fa.M H35 (HW.op rfl (fun w1 H1 => op_move rfl ⟨rfl, Fr.refl _ _⟩) (HW.op rfl (fun w1 H1 => op_eqlN (b := 4) rfl rfl ⟨rfl, Fr.refl _ _⟩) (HW.op rfl (fun w1 H1 => op_move rfl ⟨rfl, Fr.refl _ _⟩) (HW.yes rfl rfl rfl (by decide) (fun w1 H1 => op_move rfl ⟨rfl, Fr.refl _ _⟩) (HW.yes rfl rfl rfl (by decide) (fun w1 H1 => op_move rfl ⟨rfl, Fr.refl _ _⟩) (HW.yes rfl rfl rfl (by decide) (fun w1 H1 => op_indexAddr1 Tryd.underlying27 Fa.I22 rfl (H1.arrR (i := 3) rfl) rfl (by omega) ⟨rfl, Fr.refl _ _⟩) (HW.yes rfl rfl rfl (by decide) (fun w1 H1 => op_load rfl ((H1.arrR (i := 3) rfl).at (get_map vU32 0 (Arr.ltM (H1.arrR (i := 3) rfl) (by omega)))) Tryd.underlying22 rfl ⟨rfl, Fr.refl _ _⟩) (HW.yes rfl rfl rfl (by decide) (fun w1 H1 => op_move rfl ⟨rfl, Fr.refl _ _⟩) (HW.yes rfl rfl rfl (by decide) (fun w1 H1 => op_move rfl ⟨rfl, Fr.refl _ _⟩) (HW.yes rfl rfl rfl (by decide) (fun w1 H1 => op_indexAddr1 Tryd.underlying27 Fa.I22 rfl (H1.arr hA) rfl (by omega) ⟨rfl, Fr.refl _ _⟩) (HW.yes rfl rfl rfl (by decide) (fun w1 H1 => op_load rfl ((H1.arr hA).at (get_map vU32 0 (Arr.ltM (H1.arr hA) (by omega)))) Tryd.underlying22 rfl ⟨rfl, Fr.refl _ _⟩) (HW.yes rfl rfl rfl (by decide) (fun w1 H1 => op_neqU32 rfl rfl ⟨rfl, Fr.refl _ _⟩) (HW.yes rfl rfl rfl (by decide) (fun w1 H1 => op_move rfl ⟨rfl, Fr.refl _ _⟩) (HW.yes rfl rfl rfl (decide_eq_false (fun h => h (rfl))) (fun w1 H1 => op_move rfl ⟨rfl, Fr.refl _ _⟩) (HW.yes rfl rfl rfl (decide_eq_false (fun h => h (rfl))) (fun w1 H1 => op_move rfl ⟨rfl, Fr.refl _ _⟩) (HW.yes rfl rfl rfl (decide_eq_false (fun h => h (rfl))) (fun w1 H1 => op_indexAddr1 Tryd.underlying27 Fa.I22 rfl (H1.arrR (i := 4) rfl) rfl (by rw [hml]; omega) ⟨rfl, Fr.refl _ _⟩) (HW.yes rfl rfl rfl (decide_eq_false (fun h => h (rfl))) (fun w1 H1 => op_load rfl ((H1.arrR (i := 4) rfl).at (get_map vU32 0 (Arr.ltM (H1.arrR (i := 4) rfl) (by omega)))) Tryd.underlying22 rfl ⟨rfl, Fr.refl _ _⟩) (HW.yes rfl rfl rfl (decide_eq_false (fun h => h (rfl))) (fun w1 H1 => op_move rfl ⟨rfl, Fr.refl _ _⟩) (HW.yes rfl rfl rfl (decide_eq_false (fun h => h (rfl))) (fun w1 H1 => op_move rfl ⟨rfl, Fr.refl _ _⟩) (HW.yes rfl rfl rfl (decide_eq_false (fun h => h (rfl))) (fun w1 H1 => op_indexAddr1 Tryd.underlying27 Fa.I22 rfl (H1.arr hA) rfl (by omega) ⟨rfl, Fr.refl _ _⟩) (HW.yes rfl rfl rfl (decide_eq_false (fun h => h (rfl))) (fun w1 H1 => op_load rfl ((H1.arr hA).at (get_map vU32 0 (Arr.ltM (H1.arr hA) (by omega)))) Tryd.underlying22 rfl ⟨rfl, Fr.refl _ _⟩) (HW.yes rfl rfl rfl (decide_eq_false (fun h => h (rfl))) (fun w1 H1 => op_move rfl ⟨rfl, Fr.refl _ _⟩) (HW.yes rfl rfl rfl (decide_eq_false (fun h => h (rfl))) (fun w1 H1 => op_addU32 rfl rfl ⟨rfl, Fr.refl _ _⟩) (HW.yes rfl rfl rfl (decide_eq_false (fun h => h (rfl))) (fun w1 H1 => op_neqU32 rfl rfl ⟨rfl, Fr.refl _ _⟩) (HW.yes rfl rfl rfl (by decide) (fun w1 H1 => op_pickF rfl (decide_eq_false (fun h => h (rfl))) rfl ⟨rfl, Fr.refl _ _⟩) (HW.op rfl (fun w1 H1 => op_pickT rfl (by decide) rfl ⟨rfl, Fr.refl _ _⟩) (HW.op rfl (fun w1 H1 => op_move rfl ⟨rfl, Fr.refl _ _⟩) (HW.yes rfl rfl rfl (decide_eq_false (fun h => h (by rw [hgm, hmv]))) (fun w1 H1 => op_move rfl ⟨rfl, Fr.refl _ _⟩) (HW.yes rfl rfl rfl (decide_eq_false (fun h => h (by rw [hgm, hmv]))) (fun w1 H1 => op_eqlN (b := 2) rfl rfl ⟨rfl, Fr.refl _ _⟩) (HW.yes rfl rfl rfl (decide_eq_false (fun h => h (by rw [hgm, hmv]))) (fun w1 H1 => op_move rfl ⟨rfl, Fr.refl _ _⟩) (HW.no rfl rfl rfl (by decide) (HW.no rfl rfl rfl (by decide) (HW.no rfl rfl rfl (by decide) (HW.no rfl rfl rfl (by decide) (HW.no rfl rfl rfl (by decide) (HW.no rfl rfl rfl (by decide) (HW.no rfl rfl rfl (by decide) (HW.no rfl rfl rfl (by decide) (HW.no rfl rfl rfl (by decide) (HW.no rfl rfl rfl (by decide) (HW.no rfl rfl rfl (by decide) (HW.no rfl rfl rfl (by decide) (HW.non rfl rfl rfl (HW.non rfl rfl rfl (HW.non rfl rfl rfl (HW.non rfl rfl rfl (HW.non rfl rfl rfl (HW.non rfl rfl rfl (HW.non rfl rfl rfl (HW.non rfl rfl rfl (HW.non rfl rfl rfl (HW.no rfl rfl rfl (by decide) (HW.yes rfl rfl rfl (decide_eq_false (fun h => h (by rw [hgm, hmv]))) (fun w1 H1 => op_pickF rfl (by decide) rfl ⟨rfl, Fr.refl _ _⟩) (HW.op rfl (fun w1 H1 => op_pickF rfl (decide_eq_false (fun h => h (by rw [hgm, hmv]))) rfl ⟨rfl, Fr.refl _ _⟩)  HW.nil)))))))))))))))))))))))))))))))))))))))))))))))))))))) (by kernel_rfl) ?_
              intro β38 w38 H38
              refine WL.nil ?_
              refine WQ.next ?_
              refine WC.no rfl rfl ?_
              refine WC.skip ?_
              refine WQ.inNormal ?_
              refine WQ.next ?_
              refine WC.region ?_
              refine WL.op rfl rfl (op_move rfl ?_)
              refine WL.op rfl rfl (op_addN (b := 1) rfl rfl (by omega) ?_)
              refine WL.op rfl rfl (op_assign rfl ?_)
              refine WL.nil ?_
              exact WQ.round (i + 1, q) ⟨⟨by omega, hql, fun idx hx => out_next (hqo idx hx).1 (by have h5 := (hqo idx hx).2; unfold endOf; rw [hw]; rw [show k = 4 by omega] at h5; exact h5)⟩, (H38.take 5)⟩ ⟨rfl, rfl, rfl, rfl, rfl, rfl, rfl, rfl, rfl, rfl, trivial⟩ (by show x.rl.length - (i + 1) < x.rl.length - i; omega)
        ·
          have hc27 := of_decide_eq_false hb27
          refine WC.exit ?_
          refine WQ.thenExit ?_
          refine WQ.thenExit ?_
          refine WQ.inHere ?_
          refine WQ.next ?_
          refine WC.seq ?_
          refine WC.seq ?_
          refine WC.region ?_
          refine WL.op rfl rfl (op_assign rfl ?_)
          refine WL.nil ?_
          refine WQ.next ?_
          refine WC.block ?_
          refine WC.loop (α := Nat) (fun m => [(1, av), (2, (vU32 up)), (3, (ptr b1 0)), (6, (.bool false)), (10, (str (fillS x ads))), (12, (str (fillS x (moreL x ads up)))), (14, (.slice (some ⟨b21, 0, none⟩) (fillS x ads).length (fillS x ads).length)), (15, v22), (17, v23), (23, (vN m))]) (fun m w' => (m ≤ (fillS x ads).length) ∧ Own [] w w' [.blk b1 [(str x.nm), (vU8 x.bind), (vU8 x.kind), (vU32 x.size), (str x.b), x.rv, x.nv] 26, .row v 22 1 (moreL x ads up).length (List.map vU32 (moreL x ads up)), .row (.slice (some ⟨b21, 0, none⟩) (fillS x ads).length (fillS x ads).length) 4 1 (fillS x ads).length (List.map Value.bool p), .row v22 22 1 ads.length (List.map vU32 ads), .row v23 22 1 (moreL x ads up).length (List.map vU32 (moreL x ads up))]) (fun m => (fillS x ads).length - m) 0 ⟨(Nat.zero_le _), H26⟩ ⟨rfl, rfl, rfl, rfl, rfl, rfl, rfl, rfl, rfl, rfl, trivial⟩ ?_
          rintro m w39 ⟨hm1, H39⟩
          show WC _ _ _ _ _ [(1, av), (2, (vU32 up)), (3, (ptr b1 0)), (6, (.bool false)), (10, (str (fillS x ads))), (12, (str (fillS x (moreL x ads up)))), (14, (.slice (some ⟨b21, 0, none⟩) (fillS x ads).length (fillS x ads).length)), (15, v22), (17, v23), (23, (vN m))] _
          refine WC.seq ?_
          refine WC.seq ?_
          refine WC.region ?_
          refine WL.op rfl rfl (op_move rfl ?_)
          refine WL.op rfl rfl (op_move rfl ?_)
          refine WL.op rfl rfl (op_lenStr Tryd.underlying9 rfl ?_)
          refine WL.op rfl rfl (op_lssN rfl rfl ?_)
          refine WL.nil ?_
          refine WQ.next ?_
          refine WC.cond rfl (fun (hb40 : (decide (m < (fillS x ads).length)) = true) => ?_) (fun (hb40 : (decide (m < (fillS x ads).length)) = false) => ?_)
          ·
            have hc40 := of_decide_eq_true hb40
            refine WC.skip ?_
            refine WQ.next ?_
            refine WC.seq ?_
            refine WC.block ?_
            refine WC.seq ?_
            refine WC.region ?_
            refine WL.op rfl rfl (op_assign rfl ?_)
            refine WL.nil ?_
            refine WQ.next ?_
            refine WC.seq ?_
            refine WC.seq ?_
            refine WC.region ?_
            refine WL.op rfl rfl (op_move rfl ?_)
            refine WL.op rfl rfl (op_fieldAddr rfl Fa.F26_4 ?_)
            refine WL.op rfl rfl (op_load rfl (H39.cell (i := 0) rfl rfl) Tryd.underlying9 rfl ?_)
            refine WL.op rfl rfl (op_lenStr Tryd.underlying9 rfl ?_)
            refine WL.op rfl rfl (op_lssN rfl rfl ?_)
            refine WL.nil ?_
            refine WQ.next ?_
            refine WC.cond rfl (fun (hb41 : (decide (m < x.b.length)) = true) => ?_) (fun (hb41 : (decide (m < x.b.length)) = false) => ?_)
            ·
              have hc41 := of_decide_eq_true hb41
              refine WC.region ?_
              refine WL.op rfl rfl (op_fieldAddr rfl Fa.F26_4 ?_)
              refine WL.op rfl rfl (op_load rfl (H39.cell (i := 0) rfl rfl) Tryd.underlying9 rfl ?_)
              refine WL.op rfl rfl (op_move rfl ?_)
              refine WL.op rfl rfl (op_indexStrD Tryd.underlying9 rfl rfl (by omega) ?_)
              refine WL.op rfl rfl (op_assign rfl ?_)
              refine WL.nil ?_
              refine WQ.next ?_
              refine WC.seq ?_
              refine WC.region ?_
              refine WL.op rfl rfl (op_move rfl ?_)
              refine WL.op rfl rfl (op_move rfl ?_)
              refine WL.op rfl rfl (op_indexAddr1 Tryd.underlying45 Fa.I4 rfl (H39.arrR (i := 2) rfl) rfl (by omega) ?_)
              refine WL.op rfl rfl (op_load rfl ((H39.arrR (i := 2) rfl).at (get_map Value.bool false (Arr.ltM (H39.arrR (i := 2) rfl) (by omega)))) Tryd.underlying4 rfl ?_)
              refine WL.op rfl rfl (op_not rfl ?_)
              refine WL.op rfl rfl (op_move rfl ?_)
              refine WL.split (t := 245) rfl (fun (hb42 : (!(p.getD m false)) = true) => ?_) (fun (hb42 : (!(p.getD m false)) = false) => ?_)
              ·
                have hn42 := (Bool.not_eq_true' _).mp hb42
                have hou : ∀ j, j < x.rl.length → ¬ ((x.rl.getD j Rl.zero).off.toNat ≤ m ∧ m < endOf (x.rl.getD j Rl.zero)) := fun j hj => hpo m hn42 j (by omega)
                refine WL.yes rfl rfl rfl hb42 rfl (op_move rfl ?_)
                refine WL.yes rfl rfl rfl hb42 rfl (op_move rfl ?_)
                refine WL.yes rfl rfl rfl hb42 rfl (op_indexStrD Tryd.underlying9 rfl rfl (by omega) ?_)
                refine WL.yes rfl rfl rfl hb42 rfl (op_move rfl ?_)
                refine WL.yes rfl rfl rfl hb42 rfl (op_neqU8 rfl rfl ?_)
                refine WL.yes rfl rfl rfl hb42 rfl (op_move rfl ?_)
                refine WL.yes rfl rfl rfl (decide_eq_false (fun h => h (out_in h0 hou (of_decide_eq_true hb41)))) rfl (op_move rfl ?_)
                refine WL.yes rfl rfl rfl (decide_eq_false (fun h => h (out_in h0 hou (of_decide_eq_true hb41)))) rfl (op_move rfl ?_)
                refine WL.yes rfl rfl rfl (decide_eq_false (fun h => h (out_in h0 hou (of_decide_eq_true hb41)))) rfl (op_indexStrD Tryd.underlying9 rfl rfl (by rw [hfm]; omega) ?_)
                refine WL.yes rfl rfl rfl (decide_eq_false (fun h => h (out_in h0 hou (of_decide_eq_true hb41)))) rfl (op_move rfl ?_)
                refine WL.yes rfl rfl rfl (decide_eq_false (fun h => h (out_in h0 hou (of_decide_eq_true hb41)))) rfl (op_neqU8 rfl rfl ?_)
                refine WL.yes rfl rfl rfl hb42 rfl (op_pickF rfl (decide_eq_false (fun h => h (out_in h0 hou (of_decide_eq_true hb41)))) rfl ?_)
                refine WL.op rfl rfl (op_pickT rfl hb42 rfl ?_)
                refine WL.nil ?_
                refine WQ.next ?_
                refine WC.no rfl (decide_eq_false (fun h => h (out_in hm0 hou (of_decide_eq_true hb41)))) ?_
                refine WC.skip ?_
                refine WQ.inNormal ?_
                refine WQ.next ?_
                refine WC.region ?_
                refine WL.op rfl rfl (op_move rfl ?_)
                refine WL.op rfl rfl (op_addN (b := 1) rfl rfl (by omega) ?_)
                refine WL.op rfl rfl (op_assign rfl ?_)
                refine WL.nil ?_
                exact WQ.round (m + 1) ⟨(by omega), H39⟩ ⟨rfl, rfl, rfl, rfl, rfl, rfl, rfl, rfl, rfl, rfl, trivial⟩ (by omega)
              ·
                have hn42 := (Bool.not_eq_false' _).mp hb42
                refine WL.no rfl rfl rfl hb42 rfl ?_
                refine WL.no rfl rfl rfl hb42 rfl ?_
                refine WL.no rfl rfl rfl hb42 rfl ?_
                refine WL.no rfl rfl rfl hb42 rfl ?_
                refine WL.no rfl rfl rfl hb42 rfl ?_
                refine WL.no rfl rfl rfl hb42 rfl ?_
                refine WL.non rfl rfl rfl rfl ?_
                refine WL.non rfl rfl rfl rfl ?_
                refine WL.non rfl rfl rfl rfl ?_
                refine WL.non rfl rfl rfl rfl ?_
                refine WL.non rfl rfl rfl rfl ?_
                refine WL.no rfl rfl rfl hb42 rfl ?_
                refine WL.op rfl rfl (op_pickF rfl hb42 rfl ?_)
                refine WL.nil ?_
                refine WQ.next ?_
                refine WC.no rfl rfl ?_
                refine WC.skip ?_
                refine WQ.inNormal ?_
                refine WQ.next ?_
                refine WC.region ?_
                refine WL.op rfl rfl (op_move rfl ?_)
                refine WL.op rfl rfl (op_addN (b := 1) rfl rfl (by omega) ?_)
                refine WL.op rfl rfl (op_assign rfl ?_)
                refine WL.nil ?_
                exact WQ.round (m + 1) ⟨(by omega), H39⟩ ⟨rfl, rfl, rfl, rfl, rfl, rfl, rfl, rfl, rfl, rfl, trivial⟩ (by omega)
            ·
              have hc41 := of_decide_eq_false hb41
              refine WC.skip ?_
              refine WQ.next ?_
              refine WC.seq ?_
              refine WC.region ?_
              refine WL.op rfl rfl (op_move rfl ?_)
              refine WL.op rfl rfl (op_move rfl ?_)
              refine WL.op rfl rfl (op_indexAddr1 Tryd.underlying45 Fa.I4 rfl (H39.arrR (i := 2) rfl) rfl (by omega) ?_)
              refine WL.op rfl rfl (op_load rfl ((H39.arrR (i := 2) rfl).at (get_map Value.bool false (Arr.ltM (H39.arrR (i := 2) rfl) (by omega)))) Tryd.underlying4 rfl ?_)
              refine WL.op rfl rfl (op_not rfl ?_)
              refine WL.op rfl rfl (op_move rfl ?_)
              refine WL.split (t := 245) rfl (fun (hb43 : (!(p.getD m false)) = true) => ?_) (fun (hb43 : (!(p.getD m false)) = false) => ?_)
              ·
                have hn43 := (Bool.not_eq_true' _).mp hb43
                have hou : ∀ j, j < x.rl.length → ¬ ((x.rl.getD j Rl.zero).off.toNat ≤ m ∧ m < endOf (x.rl.getD j Rl.zero)) := fun j hj => hpo m hn43 j (by omega)
                refine WL.yes rfl rfl rfl hb43 rfl (op_move rfl ?_)
                refine WL.yes rfl rfl rfl hb43 rfl (op_move rfl ?_)
                refine WL.yes rfl rfl rfl hb43 rfl (op_indexStrD Tryd.underlying9 rfl rfl (by omega) ?_)
                refine WL.yes rfl rfl rfl hb43 rfl (op_move rfl ?_)
                refine WL.yes rfl rfl rfl hb43 rfl (op_neqU8 (b := 0) rfl rfl ?_)
                refine WL.yes rfl rfl rfl hb43 rfl (op_move rfl ?_)
                refine WL.yes rfl rfl rfl (decide_eq_false (fun h => h (out_0 h0 hou (of_decide_eq_false hb41)))) rfl (op_move rfl ?_)
                refine WL.yes rfl rfl rfl (decide_eq_false (fun h => h (out_0 h0 hou (of_decide_eq_false hb41)))) rfl (op_move rfl ?_)
                refine WL.yes rfl rfl rfl (decide_eq_false (fun h => h (out_0 h0 hou (of_decide_eq_false hb41)))) rfl (op_indexStrD Tryd.underlying9 rfl rfl (by rw [hfm]; omega) ?_)
                refine WL.yes rfl rfl rfl (decide_eq_false (fun h => h (out_0 h0 hou (of_decide_eq_false hb41)))) rfl (op_move rfl ?_)
                refine WL.yes rfl rfl rfl (decide_eq_false (fun h => h (out_0 h0 hou (of_decide_eq_false hb41)))) rfl (op_neqU8 (b := 0) rfl rfl ?_)
                refine WL.yes rfl rfl rfl hb43 rfl (op_pickF rfl (decide_eq_false (fun h => h (out_0 h0 hou (of_decide_eq_false hb41)))) rfl ?_)
                refine WL.op rfl rfl (op_pickT rfl hb43 rfl ?_)
                refine WL.nil ?_
                refine WQ.next ?_
                refine WC.no rfl (decide_eq_false (fun h => h (out_0 hm0 hou (of_decide_eq_false hb41)))) ?_
                refine WC.skip ?_
                refine WQ.inNormal ?_
                refine WQ.next ?_
                refine WC.region ?_
                refine WL.op rfl rfl (op_move rfl ?_)
                refine WL.op rfl rfl (op_addN (b := 1) rfl rfl (by omega) ?_)
                refine WL.op rfl rfl (op_assign rfl ?_)
                refine WL.nil ?_
                exact WQ.round (m + 1) ⟨(by omega), H39⟩ ⟨rfl, rfl, rfl, rfl, rfl, rfl, rfl, rfl, rfl, rfl, trivial⟩ (by omega)
              ·
                have hn43 := (Bool.not_eq_false' _).mp hb43
                refine WL.no rfl rfl rfl hb43 rfl ?_
                refine WL.no rfl rfl rfl hb43 rfl ?_
                refine WL.no rfl rfl rfl hb43 rfl ?_
                refine WL.no rfl rfl rfl hb43 rfl ?_
                refine WL.no rfl rfl rfl hb43 rfl ?_
                refine WL.no rfl rfl rfl hb43 rfl ?_
                refine WL.non rfl rfl rfl rfl ?_
                refine WL.non rfl rfl rfl rfl ?_
                refine WL.non rfl rfl rfl rfl ?_
                refine WL.non rfl rfl rfl rfl ?_
                refine WL.non rfl rfl rfl rfl ?_
                refine WL.no rfl rfl rfl hb43 rfl ?_
                refine WL.op rfl rfl (op_pickF rfl hb43 rfl ?_)
                refine WL.nil ?_
                refine WQ.next ?_
                refine WC.no rfl rfl ?_
                refine WC.skip ?_
                refine WQ.inNormal ?_
                refine WQ.next ?_
                refine WC.region ?_
                refine WL.op rfl rfl (op_move rfl ?_)
                refine WL.op rfl rfl (op_addN (b := 1) rfl rfl (by omega) ?_)
                refine WL.op rfl rfl (op_assign rfl ?_)
                refine WL.nil ?_
                exact WQ.round (m + 1) ⟨(by omega), H39⟩ ⟨rfl, rfl, rfl, rfl, rfl, rfl, rfl, rfl, rfl, rfl, trivial⟩ (by omega)
          ·
            have hc40 := of_decide_eq_false hb40
            refine WC.exit ?_
            refine WQ.thenExit ?_
            refine WQ.thenExit ?_
            refine WQ.inHere ?_
            refine WQ.next ?_
            refine WC.seq ?_
            refine WC.region ?_
            refine WL.op rfl rfl (op_callF Fa.C12 rfl ((alive15_ok _).mono (fun e w44 hq => ?_)))
            obtain ⟨rfl, hf44⟩ := hq
            refine ⟨_, rfl, ?_⟩
            have H44 := H39.fr' hf44
            refine WL.op rfl rfl (op_assign rfl ?_)
            refine WL.nil ?_
            refine WQ.next ?_
            refine WC.ret ?_
            refine WQ.out (.tmp rfl .nil) ?_
            exact ⟨rfl, H44.fr⟩
end Go.Proofs.YtnngbnenekjffaaDoor
