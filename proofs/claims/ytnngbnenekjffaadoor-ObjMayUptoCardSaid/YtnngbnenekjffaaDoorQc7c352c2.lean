/- General lemmas and walks: DOb6. No condition but what each theorem names. -/
import Derived.Test.YtnngbnenekjffaaDoorQf589b15c
import Derived.Test.YtnngbnenekjffaaDoorQ48a5575f
/-! from DOb6 -/
namespace Go.Proofs.YtnngbnenekjffaaDoor
open Go.Owl Go.Spec
set_option maxHeartbeats 2000000 in
set_option maxRecDepth 100000 in
theorem objMay_ok (nm : List UInt8) (lv : Value) (l : List Sy) (x : Nt) (s : List UInt8) (w : World) (hA : Arr w lv 7 l.length (List.flatMap syc l)) (hI : SyD.list.ok w l) (hU : FitU (Ob.mk nm lv l)) :
    Calls Tryd.prog 8 #[(.agg #[(str nm), lv]), (.agg #[(vU8 x.kind), (vU32 x.n), (vU32 x.m)]), (str s)] w (fun e w' => e = .returned (.bool true) ∧ Fr [] w w') := by
  refine enter (args := [(.agg #[(str nm), lv]), (.agg #[(vU8 x.kind), (vU32 x.n), (vU32 x.m)]), (str s)]) Tryd.func8 rfl rfl ?_
  have H0 : Own [] w w [] := Own.start w []
  have hF : ∀ x ∈ l, FitH x := fun x hx => fitU_H (hU.2.2 x hx)
  have hn : l.length < 2 ^ 46 := by have h : l.length ≤ 1048576 := hU.2.1; omega
  have hn4 : l.length ≤ 1048576 := hU.2.1
  have hnm : nm.length < 2 ^ 47 := by have h : nm.length ≤ 1048576 := hU.1; omega
  refine WC.seq ?_
  refine WC.region ?_
  refine WL.op rfl rfl (op_box H0 rfl rfl (fun b1 w1 H1 => ?_))
  refine WL.op rfl rfl (op_box H1 rfl rfl (fun b2 w2 H2 => ?_))
  refine WL.op rfl rfl (op_assign rfl ?_)
  refine WL.nil ?_
  refine WQ.next ?_
  refine WC.seq ?_
  refine WC.seq ?_
  refine WC.region ?_
  refine WL.op rfl rfl (op_loadS (vs := [_, _]) rfl (H2.cells (i := 0) rfl rfl) Tryd.underlying32 rfl Fa.I32 rfl ?_)
  refine WL.op rfl rfl (op_buildSlice (cs := [_, _]) H2 Tryd.underlying78 Fa.I32 rfl rfl rfl rfl (by decide) (by decide) (fun b3 w3 H3 => ?_))
  refine WL.op rfl rfl (op_callF Fa.C29 rfl ((lg08_ok _ [(Ob.mk nm lv l)] _ (H3.arrR (i := 2) rfl) (ObD.list_one (ObD_mk (o := (Ob.mk nm lv l)) (H3.arr hA) (Deep.fr0 SyD.list hI H3.fr))) (fitO_ob hU) (by show 1 ≤ 1; decide)).mono (fun e w4 hq => ?_)))
  obtain ⟨rfl, hf4⟩ := hq
  refine ⟨_, rfl, ?_⟩
  have H4 := H3.fr' hf4
  refine WL.op rfl rfl (op_move rfl ?_)
  refine WL.split (t := 19) rfl (fun (hb5 : (lg08 [(Ob.mk nm lv l)]) = true) => ?_) (fun (hb5 : (lg08 [(Ob.mk nm lv l)]) = false) => ?_)
  ·
    refine WL.no rfl rfl rfl hb5 rfl ?_
    refine WL.no rfl rfl rfl hb5 rfl ?_
    refine WL.no rfl rfl rfl hb5 rfl ?_
    refine WL.op rfl rfl (op_pickT rfl hb5 rfl ?_)
    refine WL.nil ?_
    refine WQ.next ?_
    refine WC.yes rfl rfl ?_
    refine WC.seq ?_
    refine WC.region ?_
    refine WL.op rfl rfl (op_callF Fa.C30 rfl ((alive08_ok _).mono (fun e w6 hq => ?_)))
    obtain ⟨rfl, hf6⟩ := hq
    refine ⟨_, rfl, ?_⟩
    have H6 := H4.fr' hf6
    refine WL.op rfl rfl (op_assign rfl ?_)
    refine WL.nil ?_
    refine WQ.next ?_
    refine WC.ret ?_
    refine WQ.thenRet ?_
    refine WQ.out (.tmp rfl .nil) ?_
    exact ⟨rfl, H6.fr⟩
  ·
    refine WL.yes rfl rfl rfl hb5 rfl (op_move rfl ?_)
    refine WL.yes rfl rfl rfl hb5 rfl (op_lenStr Tryd.underlying9 rfl ?_)
    refine WL.yes rfl rfl rfl hb5 rfl (op_gtrN (b := 4096) rfl rfl ?_)
    refine WL.op rfl rfl (op_pickF rfl hb5 rfl ?_)
    refine WL.nil ?_
    refine WQ.next ?_
    refine WC.cond rfl (fun (hb7 : (decide (s.length > 4096)) = true) => ?_) (fun (hb7 : (decide (s.length > 4096)) = false) => ?_)
    ·
      have hc7 := of_decide_eq_true hb7
      refine WC.seq ?_
      refine WC.region ?_
      refine WL.op rfl rfl (op_callF Fa.C30 rfl ((alive08_ok _).mono (fun e w8 hq => ?_)))
      obtain ⟨rfl, hf8⟩ := hq
      refine ⟨_, rfl, ?_⟩
      have H8 := H4.fr' hf8
      refine WL.op rfl rfl (op_assign rfl ?_)
      refine WL.nil ?_
      refine WQ.next ?_
      refine WC.ret ?_
      refine WQ.thenRet ?_
      refine WQ.out (.tmp rfl .nil) ?_
      exact ⟨rfl, H8.fr⟩
    ·
      have hc7 := of_decide_eq_false hb7
      refine WC.skip ?_
      refine WQ.next ?_
      refine WC.seq ?_
      refine WC.region ?_
      refine WL.op rfl rfl (op_loadS (vs := [_, _]) rfl (H4.cells (i := 0) rfl rfl) Tryd.underlying32 rfl Fa.I32 rfl ?_)
      refine WL.op rfl rfl (op_callF Fa.C13 rfl ((copy08_ok nm _ l _ (H4.arr hA) (Deep.fr0 SyD.list hI H4.fr) (by omega) (fun k => ⟨(fitH_getD hF k).2.2.2.1, (fitH_getD hF k).2.2.2.2⟩)).mono (fun e w9 hq => ?_)))
      obtain ⟨v9, l9, rfl, hc9, hf9, hq9⟩ := hq
      refine ⟨_, rfl, ?_⟩
      have H9 : Own [] w w9 [.blk b1 [(str nm), lv] 32, .blk b2 [(vU8 x.kind), (vU32 x.n), (vU32 x.m)] 68, .row (.slice (some ⟨b3, 0, none⟩) 1 1) 32 2 1 (List.flatMap obc [(Ob.mk nm lv l)]), .row v9 26 7 l9.length (List.flatMap syc l9), Ent.dp SyD.list l9] := H4.splice [] [] [.row v9 26 7 l9.length (List.flatMap syc l9), Ent.dp SyD.list l9] rfl rfl hq9 (Fits.solid True.intro (Fits.fresh hf9 Fits.nil))
      refine WL.op rfl rfl (op_alloc H9 Fa.I32 (fun b10 w10 H10 => ?_))
      refine WL.op rfl rfl (op_storeBW (i := 5) H10 rfl rfl rfl rfl (one_cons rfl (one_cons (Arr.one (H10.arrR (i := 3) rfl)) one_nil)) Fa.I32 (fun w11 H11 => ?_))
      refine WL.nil ?_
      refine WQ.next ?_
      refine WC.seq ?_
      refine WC.draw 6 Fa.M H11 (HW.op rfl (fun w1 H1 => op_loadS (vs := [_, _]) rfl (H1.cells (i := 5) rfl rfl) Tryd.underlying32 rfl Fa.I32 rfl ⟨rfl, Fr.refl _ _⟩) (HW.op rfl (fun w1 H1 => op_callF Fa.C31 rfl ((ocheck_ok nm _ l9 _ (H1.arrR (i := 3) rfl) (H1.dpO (i := 4) rfl) (bare_fit hc9 hF) (by rw [bare_len hc9]; omega) hnm).mono (fun e w2 hq => ⟨_, hq.1, rfl, hq.2⟩))) (HW.op rfl (fun w1 H1 => op_loadS (vs := [_, _, _]) rfl (H1.cells (i := 1) rfl rfl) Tryd.underlying68 rfl Fa.I68 rfl ⟨rfl, Fr.refl _ _⟩) (HW.op rfl (fun w1 H1 => op_callF Fa.C32 rfl ((onote_ok x _).mono (fun e w2 hq => ⟨_, hq.1, rfl, hq.2⟩))) (HW.op rfl (fun w1 H1 => op_assign rfl ⟨rfl, Fr.refl _ _⟩) (HW.op rfl (fun w1 H1 => op_assign rfl ⟨rfl, Fr.refl _ _⟩)  HW.nil)))))) (by kernel_rfl) ?_
      intro β14 w14 H14
      refine WL.nil ?_
      refine WQ.next ?_
      refine WC.seq ?_
      refine WC.seq ?_
      refine WC.region ?_
      refine WL.op rfl rfl (op_move rfl ?_)
      refine WL.op rfl rfl (op_eqlN (b := 0) rfl rfl ?_)
      refine WL.op rfl rfl (op_loadS (vs := [_, _]) rfl (H14.cells (i := 0) rfl rfl) Tryd.underlying32 rfl Fa.I32 rfl ?_)
      refine WL.op rfl rfl (op_callF Fa.C33 rfl ((rmayo_ok nm _ l _ (H14.arr hA) (Deep.fr0 SyD.list hI H14.fr) hF hn hnm).mono (fun e w15 hq => ?_)))
      obtain ⟨rfl, hf15⟩ := hq
      refine ⟨_, rfl, ?_⟩
      have H15 := H14.fr' hf15
      refine WL.op rfl rfl (op_neqB Tryd.underlying4 rfl rfl ?_)
      refine WL.op rfl rfl (op_move rfl ?_)
      refine WL.yes rfl rfl rfl (by rw [bare_may hc9, told_is]; exact neq_self _) rfl (op_move rfl ?_)
      refine WL.yes rfl rfl rfl (by rw [bare_may hc9, told_is]; exact neq_self _) rfl (op_neqN (b := 0) rfl rfl ?_)
      refine WL.yes rfl rfl rfl (by rw [bare_may hc9, told_is]; exact neq_self _) rfl (op_move rfl ?_)
      refine WL.split (t := 39) rfl (fun (hb16 : (decide ((toldN (mayOb nm l9)) ≠ 0)) = true) => ?_) (fun (hb16 : (decide ((toldN (mayOb nm l9)) ≠ 0)) = false) => ?_)
      ·
        have hc16 := of_decide_eq_true hb16
        refine WL.yes rfl rfl rfl hb16 rfl (op_move rfl ?_)
        refine WL.yes rfl rfl rfl hb16 rfl (op_neqN (b := 2) rfl rfl ?_)
        refine WL.yes rfl rfl rfl (by rw [bare_may hc9, told_is]; exact neq_self _) rfl (op_pickT rfl hb16 rfl ?_)
        refine WL.op rfl rfl (op_pickF rfl (by rw [bare_may hc9, told_is]; exact neq_self _) rfl ?_)
        refine WL.op rfl rfl (op_move rfl ?_)
        refine WL.yes rfl rfl rfl (told_2 (told_ne hb16)) rfl (op_move rfl ?_)
        refine WL.yes rfl rfl rfl (told_2 (told_ne hb16)) rfl (op_eqlN (b := 0) rfl rfl ?_)
        refine WL.yes rfl rfl rfl (told_2 (told_ne hb16)) rfl (op_loadS (vs := [_, _, _]) rfl (H15.cells (i := 1) rfl rfl) Tryd.underlying68 rfl Fa.I68 rfl ?_)
        refine WL.yes rfl rfl rfl (told_2 (told_ne hb16)) rfl (op_callF Fa.C34 rfl ((rnote_ok x _).mono (fun e w17 hq => ?_)))
        obtain ⟨rfl, hf17⟩ := hq
        refine ⟨_, rfl, ?_⟩
        have H17 := H15.fr' hf17
        refine WL.yes rfl rfl rfl (told_2 (told_ne hb16)) rfl (op_neqB Tryd.underlying4 rfl rfl ?_)
        refine WL.op rfl rfl (op_pickF rfl (told_2 (told_ne hb16)) rfl ?_)
        refine WL.op rfl rfl (op_move rfl ?_)
        refine WL.yes rfl rfl rfl (by rw [show noteE x = toldN (noteB x) from rfl, told_is]; exact neq_self _) rfl (op_move rfl ?_)
        refine WL.yes rfl rfl rfl (by rw [show noteE x = toldN (noteB x) from rfl, told_is]; exact neq_self _) rfl (op_neqN (b := 0) rfl rfl ?_)
        refine WL.yes rfl rfl rfl (by rw [show noteE x = toldN (noteB x) from rfl, told_is]; exact neq_self _) rfl (op_move rfl ?_)
        refine WL.split (t := 54) rfl (fun (hb18 : (decide ((noteE x) ≠ 0)) = true) => ?_) (fun (hb18 : (decide ((noteE x) ≠ 0)) = false) => ?_)
        ·
          have hc18 := of_decide_eq_true hb18
          refine WL.yes rfl rfl rfl hb18 rfl (op_move rfl ?_)
          refine WL.yes rfl rfl rfl hb18 rfl (op_neqN (b := 2) rfl rfl ?_)
          refine WL.yes rfl rfl rfl (by rw [show noteE x = toldN (noteB x) from rfl, told_is]; exact neq_self _) rfl (op_pickT rfl hb18 rfl ?_)
          refine WL.op rfl rfl (op_pickF rfl (by rw [show noteE x = toldN (noteB x) from rfl, told_is]; exact neq_self _) rfl ?_)
          refine WL.nil ?_
          refine WQ.next ?_
          refine WC.no rfl (told_2 (told_ne hb18)) ?_
          refine WC.skip ?_
          refine WQ.next ?_
          refine WC.seq ?_
          refine WC.seq ?_
          refine WC.region ?_
          refine WL.op rfl rfl (op_assign rfl ?_)
          refine WL.nil ?_
          refine WQ.next ?_
          refine WC.block ?_
          refine WC.loop (α := Nat) (fun k => [(2, (str s)), (3, (ptr b1 0)), (4, (ptr b2 0)), (6, (.bool false)), (7, (ptr b10 0)), (8, (vN (toldN (mayOb nm l9)))), (9, (vN (noteE x))), (10, (vN k))]) (fun k w' => (k ≤ l.length) ∧ Own [] w w' [.blk b1 [(str nm), lv] 32, .blk b2 [(vU8 x.kind), (vU32 x.n), (vU32 x.m)] 68, .row (.slice (some ⟨b3, 0, none⟩) 1 1) 32 2 1 (List.flatMap obc [(Ob.mk nm lv l)]), .row v9 26 7 l9.length (List.flatMap syc l9), Ent.dp SyD.list l9, .blk b10 [(str nm), v9] 32]) (fun k => l.length - k) 0 ⟨(Nat.zero_le _), H17⟩ ⟨rfl, rfl, rfl, rfl, rfl, rfl, rfl, rfl, trivial⟩ ?_
          rintro k w19 ⟨hk1, H19⟩
          show WC _ _ _ _ _ [(2, (str s)), (3, (ptr b1 0)), (4, (ptr b2 0)), (6, (.bool false)), (7, (ptr b10 0)), (8, (vN (toldN (mayOb nm l9)))), (9, (vN (noteE x))), (10, (vN k))] _
          refine WC.seq ?_
          refine WC.seq ?_
          refine WC.region ?_
          refine WL.op rfl rfl (op_move rfl ?_)
          refine WL.op rfl rfl (op_fieldAddr rfl Fa.F32_1 ?_)
          refine WL.op rfl rfl (op_load rfl (H19.cell (i := 0) rfl rfl) Tryd.underlying30 rfl ?_)
          refine WL.op rfl rfl (op_lenA Tryd.underlying30 rfl (H19.arr hA) ?_)
          refine WL.op rfl rfl (op_lssN rfl rfl ?_)
          refine WL.nil ?_
          refine WQ.next ?_
          refine WC.cond rfl (fun (hb20 : (decide (k < l.length)) = true) => ?_) (fun (hb20 : (decide (k < l.length)) = false) => ?_)
          ·
            have hc20 := of_decide_eq_true hb20
            have hk2 : k < l.length := by omega
            have hln := bare_len hc9
            have hg := fitH_getD (bare_fit hc9 hF) k
            obtain ⟨hg1, hg2, hg3, hg4, hg5⟩ := hg
            have hf := fitH_getD hF k
            obtain ⟨hf1, hf2, hf3, hf4, hf5⟩ := hf
            have hbs := bare_sym hc9 k
            refine WC.skip ?_
            refine WQ.next ?_
            refine WC.seq ?_
            refine WC.block ?_
            refine WC.seq ?_
            refine WC.region ?_
            refine WL.op rfl rfl (op_fieldAddr rfl Fa.F32_1 ?_)
            refine WL.op rfl rfl (op_load rfl (H19.cell (i := 5) rfl rfl) Tryd.underlying30 rfl ?_)
            refine WL.op rfl rfl (op_move rfl ?_)
            refine WL.op rfl rfl (op_indexAddr Tryd.underlying30 Fa.I26 rfl (H19.arrR (i := 3) rfl) rfl (by omega) ?_)
            refine WL.op rfl rfl (op_loadSP (vs := syc (l9.getD k Sy.zero)) rfl (Arr.atsF (H19.arrR (i := 3) rfl) (fun _ => rfl) (by decide) Sy.zero (by omega)) Tryd.underlying26 rfl Fa.I26 rfl ?_)
            refine WL.op rfl rfl (op_callF Fa.C27 rfl ((osym_ok (l9.getD k Sy.zero) _ (SyD_mk (x := (l9.getD k Sy.zero)) ((SyD_rl (Deep.getD SyD (H19.dpO (i := 4) rfl) Sy.zero (SyD_zero _) k))) ((SyD_nt (Deep.getD SyD (H19.dpO (i := 4) rfl) Sy.zero (SyD_zero _) k)))) hg1 hg2 hg3 hg4 hg5).mono (fun e w21 hq => ?_)))
            obtain ⟨rfl, hf21⟩ := hq
            refine ⟨_, rfl, ?_⟩
            have H21 := H19.fr' hf21
            refine WL.op rfl rfl (op_assign rfl ?_)
            refine WL.nil ?_
            refine WQ.next ?_
            refine WC.seq ?_
            refine WC.region ?_
            refine WL.op rfl rfl (op_move rfl ?_)
            refine WL.op rfl rfl (op_eqlN (b := 0) rfl rfl ?_)
            refine WL.op rfl rfl (op_fieldAddr rfl Fa.F32_1 ?_)
            refine WL.op rfl rfl (op_load rfl (H21.cell (i := 0) rfl rfl) Tryd.underlying30 rfl ?_)
            refine WL.op rfl rfl (op_move rfl ?_)
            refine WL.op rfl rfl (op_indexAddr Tryd.underlying30 Fa.I26 rfl (H21.arr hA) rfl (by omega) ?_)
            refine WL.op rfl rfl (op_loadSP (vs := syc (l.getD k Sy.zero)) rfl (Arr.atsF (H21.arr hA) (fun _ => rfl) (by decide) Sy.zero (by omega)) Tryd.underlying26 rfl Fa.I26 rfl ?_)
            refine WL.op rfl rfl (op_callF Fa.C26 rfl ((rsym_ok (l.getD k Sy.zero) _ (SyD_mk (x := (l.getD k Sy.zero)) ((SyD_rl (Deep.getD SyD (Deep.fr0 SyD.list hI H21.fr) Sy.zero (SyD_zero _) k))) ((SyD_nt (Deep.getD SyD (Deep.fr0 SyD.list hI H21.fr) Sy.zero (SyD_zero _) k)))) hf1 hf2 hf3 hf4 hf5).mono (fun e w22 hq => ?_)))
            obtain ⟨rfl, hf22⟩ := hq
            refine ⟨_, rfl, ?_⟩
            have H22 := H21.fr' hf22
            refine WL.op rfl rfl (op_neqB Tryd.underlying4 rfl rfl ?_)
            refine WL.op rfl rfl (op_move rfl ?_)
            refine WL.yes rfl rfl rfl (by rw [← hbs, show symE _ = toldN (symB _) from rfl, told_is]; exact neq_self _) rfl (op_move rfl ?_)
            refine WL.yes rfl rfl rfl (by rw [← hbs, show symE _ = toldN (symB _) from rfl, told_is]; exact neq_self _) rfl (op_neqN (b := 0) rfl rfl ?_)
            refine WL.yes rfl rfl rfl (by rw [← hbs, show symE _ = toldN (symB _) from rfl, told_is]; exact neq_self _) rfl (op_move rfl ?_)
            refine WL.split (t := 84) rfl (fun (hb23 : (decide ((symE (l9.getD k Sy.zero)) ≠ 0)) = true) => ?_) (fun (hb23 : (decide ((symE (l9.getD k Sy.zero)) ≠ 0)) = false) => ?_)
            ·
              have hc23 := of_decide_eq_true hb23
              refine WL.yes rfl rfl rfl hb23 rfl (op_move rfl ?_)
              refine WL.yes rfl rfl rfl hb23 rfl (op_neqN (b := 2) rfl rfl ?_)
              refine WL.yes rfl rfl rfl (by rw [← hbs, show symE _ = toldN (symB _) from rfl, told_is]; exact neq_self _) rfl (op_pickT rfl hb23 rfl ?_)
              refine WL.op rfl rfl (op_pickF rfl (by rw [← hbs, show symE _ = toldN (symB _) from rfl, told_is]; exact neq_self _) rfl ?_)
              refine WL.nil ?_
              refine WQ.next ?_
              refine WC.no rfl (told_2 (told_ne hb23)) ?_
              refine WC.skip ?_
              refine WQ.inNormal ?_
              refine WQ.next ?_
              refine WC.region ?_
              refine WL.op rfl rfl (op_move rfl ?_)
              refine WL.op rfl rfl (op_addN (b := 1) rfl rfl (by omega) ?_)
              refine WL.op rfl rfl (op_assign rfl ?_)
              refine WL.nil ?_
              exact WQ.round (k + 1) ⟨(by omega), H22⟩ ⟨rfl, rfl, rfl, rfl, rfl, rfl, rfl, rfl, trivial⟩ (by omega)
            ·
              have hc23 := of_decide_eq_false hb23
              refine WL.no rfl rfl rfl hb23 rfl ?_
              refine WL.no rfl rfl rfl hb23 rfl ?_
              refine WL.yes rfl rfl rfl (by rw [← hbs, show symE _ = toldN (symB _) from rfl, told_is]; exact neq_self _) rfl (op_pickF rfl hb23 rfl ?_)
              refine WL.op rfl rfl (op_pickF rfl (by rw [← hbs, show symE _ = toldN (symB _) from rfl, told_is]; exact neq_self _) rfl ?_)
              refine WL.nil ?_
              refine WQ.next ?_
              refine WC.no rfl rfl ?_
              refine WC.skip ?_
              refine WQ.inNormal ?_
              refine WQ.next ?_
              refine WC.region ?_
              refine WL.op rfl rfl (op_move rfl ?_)
              refine WL.op rfl rfl (op_addN (b := 1) rfl rfl (by omega) ?_)
              refine WL.op rfl rfl (op_assign rfl ?_)
              refine WL.nil ?_
              exact WQ.round (k + 1) ⟨(by omega), H22⟩ ⟨rfl, rfl, rfl, rfl, rfl, rfl, rfl, rfl, trivial⟩ (by omega)
          ·
            have hc20 := of_decide_eq_false hb20
            refine WC.exit ?_
            refine WQ.thenExit ?_
            refine WQ.thenExit ?_
            refine WQ.inHere ?_
            refine WQ.next ?_
            refine WC.seq ?_
            refine WC.region ?_
            refine WL.op rfl rfl (op_loadS (vs := [_, _]) rfl (H19.cells (i := 5) rfl rfl) Tryd.underlying32 rfl Fa.I32 rfl ?_)
            refine WL.op rfl rfl (op_move rfl ?_)
            refine WL.op rfl rfl (op_callF Fa.C35 rfl ((ofind_ok nm _ l9 s _ (H19.arrR (i := 3) rfl) (H19.dpO (i := 4) rfl) (bare_fit hc9 hF) (by rw [bare_len hc9]; omega) hnm).mono (fun e w24 hq => ?_)))
            obtain ⟨rfl, hf24⟩ := hq
            refine ⟨_, rfl, ?_⟩
            have H24 := H19.fr' hf24
            refine WL.op rfl rfl (op_move rfl ?_)
            refine WL.op rfl rfl (op_extract rfl rfl ?_)
            refine WL.op rfl rfl (op_extract rfl rfl ?_)
            refine WL.op rfl rfl (op_assign rfl ?_)
            refine WL.op rfl rfl (op_assign rfl ?_)
            refine WL.nil ?_
            refine WQ.next ?_
            refine WC.seq ?_
            refine WC.region ?_
            refine WL.op rfl rfl (op_loadS (vs := [_, _]) rfl (H24.cells (i := 0) rfl rfl) Tryd.underlying32 rfl Fa.I32 rfl ?_)
            refine WL.op rfl rfl (op_move rfl ?_)
            refine WL.op rfl rfl (op_callF Fa.C36 rfl ((rfind_ok nm _ l s _ (H24.arr hA) (Deep.fr0 SyD.list hI H24.fr) hF hn hnm).mono (fun e w25 hq => ?_)))
            obtain ⟨rfl, hf25⟩ := hq
            refine ⟨_, rfl, ?_⟩
            have H25 := H24.fr' hf25
            refine WL.op rfl rfl (op_move rfl ?_)
            refine WL.op rfl rfl (op_extract rfl rfl ?_)
            refine WL.op rfl rfl (op_extract rfl rfl ?_)
            refine WL.op rfl rfl (op_assign rfl ?_)
            refine WL.op rfl rfl (op_assign rfl ?_)
            refine WL.nil ?_
            refine WQ.next ?_
            refine WC.seq ?_
            refine WC.region ?_
            refine WL.op rfl rfl (op_move rfl ?_)
            refine WL.op rfl rfl (op_move rfl ?_)
            refine WL.op rfl rfl (op_eqlN rfl rfl ?_)
            refine WL.op rfl rfl (op_move rfl ?_)
            refine WL.yes rfl rfl rfl (decide_eq_true (by rw [(bare_find hc9).1])) rfl (op_move rfl ?_)
            refine WL.yes rfl rfl rfl (decide_eq_true (by rw [(bare_find hc9).1])) rfl (op_move rfl ?_)
            refine WL.yes rfl rfl rfl (decide_eq_true (by rw [(bare_find hc9).1])) rfl (op_eqlB Tryd.underlying4 rfl rfl ?_)
            refine WL.op rfl rfl (op_pickT rfl (decide_eq_true (by rw [(bare_find hc9).1])) rfl ?_)
            refine WL.op rfl rfl (op_move rfl ?_)
            refine WL.yes rfl rfl rfl (by rw [(bare_find hc9).2]; exact beq_self_eq_true _) rfl (op_loadS (vs := [_, _]) rfl (H25.cells (i := 5) rfl rfl) Tryd.underlying32 rfl Fa.I32 rfl ?_)
            refine WL.yes rfl rfl rfl (by rw [(bare_find hc9).2]; exact beq_self_eq_true _) rfl (op_loadS (vs := [_, _]) rfl (H25.cells (i := 0) rfl rfl) Tryd.underlying32 rfl Fa.I32 rfl ?_)
            refine WL.yes rfl rfl rfl (by rw [(bare_find hc9).2]; exact beq_self_eq_true _) rfl (op_callF Fa.C37 rfl ((same08_ok nm nm _ _ l9 l _ (H25.arrR (i := 3) rfl) (H25.dpO (i := 4) rfl) (H25.arr hA) (Deep.fr0 SyD.list hI H25.fr) (by rw [bare_len hc9]; omega) (bare_fit hc9 hF)).mono (fun e w26 hq => ?_)))
            obtain ⟨rfl, hf26⟩ := hq
            refine ⟨_, rfl, ?_⟩
            have H26 := H25.fr' hf26
            refine WL.op rfl rfl (op_pickT rfl (by rw [(bare_find hc9).2]; exact beq_self_eq_true _) rfl ?_)
            refine WL.op rfl rfl (op_move rfl ?_)
            refine WL.yes rfl rfl rfl (sameO_bare hc9) rfl (op_callF Fa.C30 rfl ((alive08_ok _).mono (fun e w27 hq => ?_)))
            obtain ⟨rfl, hf27⟩ := hq
            refine ⟨_, rfl, ?_⟩
            have H27 := H26.fr' hf27
            refine WL.op rfl rfl (op_pickT rfl (sameO_bare hc9) rfl ?_)
            refine WL.op rfl rfl (op_assign rfl ?_)
            refine WL.nil ?_
            refine WQ.next ?_
            refine WC.ret ?_
            refine WQ.out (.tmp rfl .nil) ?_
            exact ⟨rfl, H27.fr⟩
        ·
          have hc18 := of_decide_eq_false hb18
          refine WL.no rfl rfl rfl hb18 rfl ?_
          refine WL.no rfl rfl rfl hb18 rfl ?_
          refine WL.yes rfl rfl rfl (by rw [show noteE x = toldN (noteB x) from rfl, told_is]; exact neq_self _) rfl (op_pickF rfl hb18 rfl ?_)
          refine WL.op rfl rfl (op_pickF rfl (by rw [show noteE x = toldN (noteB x) from rfl, told_is]; exact neq_self _) rfl ?_)
          refine WL.nil ?_
          refine WQ.next ?_
          refine WC.no rfl rfl ?_
          refine WC.skip ?_
          refine WQ.next ?_
          refine WC.seq ?_
          refine WC.seq ?_
          refine WC.region ?_
          refine WL.op rfl rfl (op_assign rfl ?_)
          refine WL.nil ?_
          refine WQ.next ?_
          refine WC.block ?_
          refine WC.loop (α := Nat) (fun k => [(2, (str s)), (3, (ptr b1 0)), (4, (ptr b2 0)), (6, (.bool false)), (7, (ptr b10 0)), (8, (vN (toldN (mayOb nm l9)))), (9, (vN (noteE x))), (10, (vN k))]) (fun k w' => (k ≤ l.length) ∧ Own [] w w' [.blk b1 [(str nm), lv] 32, .blk b2 [(vU8 x.kind), (vU32 x.n), (vU32 x.m)] 68, .row (.slice (some ⟨b3, 0, none⟩) 1 1) 32 2 1 (List.flatMap obc [(Ob.mk nm lv l)]), .row v9 26 7 l9.length (List.flatMap syc l9), Ent.dp SyD.list l9, .blk b10 [(str nm), v9] 32]) (fun k => l.length - k) 0 ⟨(Nat.zero_le _), H17⟩ ⟨rfl, rfl, rfl, rfl, rfl, rfl, rfl, rfl, trivial⟩ ?_
          rintro k w28 ⟨hk1, H28⟩
          show WC _ _ _ _ _ [(2, (str s)), (3, (ptr b1 0)), (4, (ptr b2 0)), (6, (.bool false)), (7, (ptr b10 0)), (8, (vN (toldN (mayOb nm l9)))), (9, (vN (noteE x))), (10, (vN k))] _
          refine WC.seq ?_
          refine WC.seq ?_
          refine WC.region ?_
          refine WL.op rfl rfl (op_move rfl ?_)
          refine WL.op rfl rfl (op_fieldAddr rfl Fa.F32_1 ?_)
          refine WL.op rfl rfl (op_load rfl (H28.cell (i := 0) rfl rfl) Tryd.underlying30 rfl ?_)
          refine WL.op rfl rfl (op_lenA Tryd.underlying30 rfl (H28.arr hA) ?_)
          refine WL.op rfl rfl (op_lssN rfl rfl ?_)
          refine WL.nil ?_
          refine WQ.next ?_
          refine WC.cond rfl (fun (hb29 : (decide (k < l.length)) = true) => ?_) (fun (hb29 : (decide (k < l.length)) = false) => ?_)
          ·
            have hc29 := of_decide_eq_true hb29
            have hk2 : k < l.length := by omega
            have hln := bare_len hc9
            have hg := fitH_getD (bare_fit hc9 hF) k
            obtain ⟨hg1, hg2, hg3, hg4, hg5⟩ := hg
            have hf := fitH_getD hF k
            obtain ⟨hf1, hf2, hf3, hf4, hf5⟩ := hf
            have hbs := bare_sym hc9 k
            refine WC.skip ?_
            refine WQ.next ?_
            refine WC.seq ?_
            refine WC.block ?_
            refine WC.seq ?_
            refine WC.region ?_
            refine WL.op rfl rfl (op_fieldAddr rfl Fa.F32_1 ?_)
            refine WL.op rfl rfl (op_load rfl (H28.cell (i := 5) rfl rfl) Tryd.underlying30 rfl ?_)
            refine WL.op rfl rfl (op_move rfl ?_)
            refine WL.op rfl rfl (op_indexAddr Tryd.underlying30 Fa.I26 rfl (H28.arrR (i := 3) rfl) rfl (by omega) ?_)
            refine WL.op rfl rfl (op_loadSP (vs := syc (l9.getD k Sy.zero)) rfl (Arr.atsF (H28.arrR (i := 3) rfl) (fun _ => rfl) (by decide) Sy.zero (by omega)) Tryd.underlying26 rfl Fa.I26 rfl ?_)
            refine WL.op rfl rfl (op_callF Fa.C27 rfl ((osym_ok (l9.getD k Sy.zero) _ (SyD_mk (x := (l9.getD k Sy.zero)) ((SyD_rl (Deep.getD SyD (H28.dpO (i := 4) rfl) Sy.zero (SyD_zero _) k))) ((SyD_nt (Deep.getD SyD (H28.dpO (i := 4) rfl) Sy.zero (SyD_zero _) k)))) hg1 hg2 hg3 hg4 hg5).mono (fun e w30 hq => ?_)))
            obtain ⟨rfl, hf30⟩ := hq
            refine ⟨_, rfl, ?_⟩
            have H30 := H28.fr' hf30
            refine WL.op rfl rfl (op_assign rfl ?_)
            refine WL.nil ?_
            refine WQ.next ?_
            refine WC.seq ?_
            refine WC.region ?_
            refine WL.op rfl rfl (op_move rfl ?_)
            refine WL.op rfl rfl (op_eqlN (b := 0) rfl rfl ?_)
            refine WL.op rfl rfl (op_fieldAddr rfl Fa.F32_1 ?_)
            refine WL.op rfl rfl (op_load rfl (H30.cell (i := 0) rfl rfl) Tryd.underlying30 rfl ?_)
            refine WL.op rfl rfl (op_move rfl ?_)
            refine WL.op rfl rfl (op_indexAddr Tryd.underlying30 Fa.I26 rfl (H30.arr hA) rfl (by omega) ?_)
            refine WL.op rfl rfl (op_loadSP (vs := syc (l.getD k Sy.zero)) rfl (Arr.atsF (H30.arr hA) (fun _ => rfl) (by decide) Sy.zero (by omega)) Tryd.underlying26 rfl Fa.I26 rfl ?_)
            refine WL.op rfl rfl (op_callF Fa.C26 rfl ((rsym_ok (l.getD k Sy.zero) _ (SyD_mk (x := (l.getD k Sy.zero)) ((SyD_rl (Deep.getD SyD (Deep.fr0 SyD.list hI H30.fr) Sy.zero (SyD_zero _) k))) ((SyD_nt (Deep.getD SyD (Deep.fr0 SyD.list hI H30.fr) Sy.zero (SyD_zero _) k)))) hf1 hf2 hf3 hf4 hf5).mono (fun e w31 hq => ?_)))
            obtain ⟨rfl, hf31⟩ := hq
            refine ⟨_, rfl, ?_⟩
            have H31 := H30.fr' hf31
            refine WL.op rfl rfl (op_neqB Tryd.underlying4 rfl rfl ?_)
            refine WL.op rfl rfl (op_move rfl ?_)
            refine WL.yes rfl rfl rfl (by rw [← hbs, show symE _ = toldN (symB _) from rfl, told_is]; exact neq_self _) rfl (op_move rfl ?_)
            refine WL.yes rfl rfl rfl (by rw [← hbs, show symE _ = toldN (symB _) from rfl, told_is]; exact neq_self _) rfl (op_neqN (b := 0) rfl rfl ?_)
            refine WL.yes rfl rfl rfl (by rw [← hbs, show symE _ = toldN (symB _) from rfl, told_is]; exact neq_self _) rfl (op_move rfl ?_)
            refine WL.split (t := 84) rfl (fun (hb32 : (decide ((symE (l9.getD k Sy.zero)) ≠ 0)) = true) => ?_) (fun (hb32 : (decide ((symE (l9.getD k Sy.zero)) ≠ 0)) = false) => ?_)
            ·
              have hc32 := of_decide_eq_true hb32
              refine WL.yes rfl rfl rfl hb32 rfl (op_move rfl ?_)
              refine WL.yes rfl rfl rfl hb32 rfl (op_neqN (b := 2) rfl rfl ?_)
              refine WL.yes rfl rfl rfl (by rw [← hbs, show symE _ = toldN (symB _) from rfl, told_is]; exact neq_self _) rfl (op_pickT rfl hb32 rfl ?_)
              refine WL.op rfl rfl (op_pickF rfl (by rw [← hbs, show symE _ = toldN (symB _) from rfl, told_is]; exact neq_self _) rfl ?_)
              refine WL.nil ?_
              refine WQ.next ?_
              refine WC.no rfl (told_2 (told_ne hb32)) ?_
              refine WC.skip ?_
              refine WQ.inNormal ?_
              refine WQ.next ?_
              refine WC.region ?_
              refine WL.op rfl rfl (op_move rfl ?_)
              refine WL.op rfl rfl (op_addN (b := 1) rfl rfl (by omega) ?_)
              refine WL.op rfl rfl (op_assign rfl ?_)
              refine WL.nil ?_
              exact WQ.round (k + 1) ⟨(by omega), H31⟩ ⟨rfl, rfl, rfl, rfl, rfl, rfl, rfl, rfl, trivial⟩ (by omega)
            ·
              have hc32 := of_decide_eq_false hb32
              refine WL.no rfl rfl rfl hb32 rfl ?_
              refine WL.no rfl rfl rfl hb32 rfl ?_
              refine WL.yes rfl rfl rfl (by rw [← hbs, show symE _ = toldN (symB _) from rfl, told_is]; exact neq_self _) rfl (op_pickF rfl hb32 rfl ?_)
              refine WL.op rfl rfl (op_pickF rfl (by rw [← hbs, show symE _ = toldN (symB _) from rfl, told_is]; exact neq_self _) rfl ?_)
              refine WL.nil ?_
              refine WQ.next ?_
              refine WC.no rfl rfl ?_
              refine WC.skip ?_
              refine WQ.inNormal ?_
              refine WQ.next ?_
              refine WC.region ?_
              refine WL.op rfl rfl (op_move rfl ?_)
              refine WL.op rfl rfl (op_addN (b := 1) rfl rfl (by omega) ?_)
              refine WL.op rfl rfl (op_assign rfl ?_)
              refine WL.nil ?_
              exact WQ.round (k + 1) ⟨(by omega), H31⟩ ⟨rfl, rfl, rfl, rfl, rfl, rfl, rfl, rfl, trivial⟩ (by omega)
          ·
            have hc29 := of_decide_eq_false hb29
            refine WC.exit ?_
            refine WQ.thenExit ?_
            refine WQ.thenExit ?_
            refine WQ.inHere ?_
            refine WQ.next ?_
            refine WC.seq ?_
            refine WC.region ?_
            refine WL.op rfl rfl (op_loadS (vs := [_, _]) rfl (H28.cells (i := 5) rfl rfl) Tryd.underlying32 rfl Fa.I32 rfl ?_)
            refine WL.op rfl rfl (op_move rfl ?_)
            refine WL.op rfl rfl (op_callF Fa.C35 rfl ((ofind_ok nm _ l9 s _ (H28.arrR (i := 3) rfl) (H28.dpO (i := 4) rfl) (bare_fit hc9 hF) (by rw [bare_len hc9]; omega) hnm).mono (fun e w33 hq => ?_)))
            obtain ⟨rfl, hf33⟩ := hq
            refine ⟨_, rfl, ?_⟩
            have H33 := H28.fr' hf33
            refine WL.op rfl rfl (op_move rfl ?_)
            refine WL.op rfl rfl (op_extract rfl rfl ?_)
            refine WL.op rfl rfl (op_extract rfl rfl ?_)
            refine WL.op rfl rfl (op_assign rfl ?_)
            refine WL.op rfl rfl (op_assign rfl ?_)
            refine WL.nil ?_
            refine WQ.next ?_
            refine WC.seq ?_
            refine WC.region ?_
            refine WL.op rfl rfl (op_loadS (vs := [_, _]) rfl (H33.cells (i := 0) rfl rfl) Tryd.underlying32 rfl Fa.I32 rfl ?_)
            refine WL.op rfl rfl (op_move rfl ?_)
            refine WL.op rfl rfl (op_callF Fa.C36 rfl ((rfind_ok nm _ l s _ (H33.arr hA) (Deep.fr0 SyD.list hI H33.fr) hF hn hnm).mono (fun e w34 hq => ?_)))
            obtain ⟨rfl, hf34⟩ := hq
            refine ⟨_, rfl, ?_⟩
            have H34 := H33.fr' hf34
            refine WL.op rfl rfl (op_move rfl ?_)
            refine WL.op rfl rfl (op_extract rfl rfl ?_)
            refine WL.op rfl rfl (op_extract rfl rfl ?_)
            refine WL.op rfl rfl (op_assign rfl ?_)
            refine WL.op rfl rfl (op_assign rfl ?_)
            refine WL.nil ?_
            refine WQ.next ?_
            refine WC.seq ?_
            refine WC.region ?_
            refine WL.op rfl rfl (op_move rfl ?_)
            refine WL.op rfl rfl (op_move rfl ?_)
            refine WL.op rfl rfl (op_eqlN rfl rfl ?_)
            refine WL.op rfl rfl (op_move rfl ?_)
            refine WL.yes rfl rfl rfl (decide_eq_true (by rw [(bare_find hc9).1])) rfl (op_move rfl ?_)
            refine WL.yes rfl rfl rfl (decide_eq_true (by rw [(bare_find hc9).1])) rfl (op_move rfl ?_)
            refine WL.yes rfl rfl rfl (decide_eq_true (by rw [(bare_find hc9).1])) rfl (op_eqlB Tryd.underlying4 rfl rfl ?_)
            refine WL.op rfl rfl (op_pickT rfl (decide_eq_true (by rw [(bare_find hc9).1])) rfl ?_)
            refine WL.op rfl rfl (op_move rfl ?_)
            refine WL.yes rfl rfl rfl (by rw [(bare_find hc9).2]; exact beq_self_eq_true _) rfl (op_loadS (vs := [_, _]) rfl (H34.cells (i := 5) rfl rfl) Tryd.underlying32 rfl Fa.I32 rfl ?_)
            refine WL.yes rfl rfl rfl (by rw [(bare_find hc9).2]; exact beq_self_eq_true _) rfl (op_loadS (vs := [_, _]) rfl (H34.cells (i := 0) rfl rfl) Tryd.underlying32 rfl Fa.I32 rfl ?_)
            refine WL.yes rfl rfl rfl (by rw [(bare_find hc9).2]; exact beq_self_eq_true _) rfl (op_callF Fa.C37 rfl ((same08_ok nm nm _ _ l9 l _ (H34.arrR (i := 3) rfl) (H34.dpO (i := 4) rfl) (H34.arr hA) (Deep.fr0 SyD.list hI H34.fr) (by rw [bare_len hc9]; omega) (bare_fit hc9 hF)).mono (fun e w35 hq => ?_)))
            obtain ⟨rfl, hf35⟩ := hq
            refine ⟨_, rfl, ?_⟩
            have H35 := H34.fr' hf35
            refine WL.op rfl rfl (op_pickT rfl (by rw [(bare_find hc9).2]; exact beq_self_eq_true _) rfl ?_)
            refine WL.op rfl rfl (op_move rfl ?_)
            refine WL.yes rfl rfl rfl (sameO_bare hc9) rfl (op_callF Fa.C30 rfl ((alive08_ok _).mono (fun e w36 hq => ?_)))
            obtain ⟨rfl, hf36⟩ := hq
            refine ⟨_, rfl, ?_⟩
            have H36 := H35.fr' hf36
            refine WL.op rfl rfl (op_pickT rfl (sameO_bare hc9) rfl ?_)
            refine WL.op rfl rfl (op_assign rfl ?_)
            refine WL.nil ?_
            refine WQ.next ?_
            refine WC.ret ?_
            refine WQ.out (.tmp rfl .nil) ?_
            exact ⟨rfl, H36.fr⟩
      ·
        have hc16 := of_decide_eq_false hb16
        refine WL.no rfl rfl rfl hb16 rfl ?_
        refine WL.no rfl rfl rfl hb16 rfl ?_
        refine WL.yes rfl rfl rfl (by rw [bare_may hc9, told_is]; exact neq_self _) rfl (op_pickF rfl hb16 rfl ?_)
        refine WL.op rfl rfl (op_pickF rfl (by rw [bare_may hc9, told_is]; exact neq_self _) rfl ?_)
        refine WL.op rfl rfl (op_move rfl ?_)
        refine WL.yes rfl rfl rfl rfl rfl (op_move rfl ?_)
        refine WL.yes rfl rfl rfl rfl rfl (op_eqlN (b := 0) rfl rfl ?_)
        refine WL.yes rfl rfl rfl rfl rfl (op_loadS (vs := [_, _, _]) rfl (H15.cells (i := 1) rfl rfl) Tryd.underlying68 rfl Fa.I68 rfl ?_)
        refine WL.yes rfl rfl rfl rfl rfl (op_callF Fa.C34 rfl ((rnote_ok x _).mono (fun e w37 hq => ?_)))
        obtain ⟨rfl, hf37⟩ := hq
        refine ⟨_, rfl, ?_⟩
        have H37 := H15.fr' hf37
        refine WL.yes rfl rfl rfl rfl rfl (op_neqB Tryd.underlying4 rfl rfl ?_)
        refine WL.op rfl rfl (op_pickF rfl rfl rfl ?_)
        refine WL.op rfl rfl (op_move rfl ?_)
        refine WL.yes rfl rfl rfl (by rw [show noteE x = toldN (noteB x) from rfl, told_is]; exact neq_self _) rfl (op_move rfl ?_)
        refine WL.yes rfl rfl rfl (by rw [show noteE x = toldN (noteB x) from rfl, told_is]; exact neq_self _) rfl (op_neqN (b := 0) rfl rfl ?_)
        refine WL.yes rfl rfl rfl (by rw [show noteE x = toldN (noteB x) from rfl, told_is]; exact neq_self _) rfl (op_move rfl ?_)
        refine WL.split (t := 54) rfl (fun (hb38 : (decide ((noteE x) ≠ 0)) = true) => ?_) (fun (hb38 : (decide ((noteE x) ≠ 0)) = false) => ?_)
        ·
          have hc38 := of_decide_eq_true hb38
          refine WL.yes rfl rfl rfl hb38 rfl (op_move rfl ?_)
          refine WL.yes rfl rfl rfl hb38 rfl (op_neqN (b := 2) rfl rfl ?_)
          refine WL.yes rfl rfl rfl (by rw [show noteE x = toldN (noteB x) from rfl, told_is]; exact neq_self _) rfl (op_pickT rfl hb38 rfl ?_)
          refine WL.op rfl rfl (op_pickF rfl (by rw [show noteE x = toldN (noteB x) from rfl, told_is]; exact neq_self _) rfl ?_)
          refine WL.nil ?_
          refine WQ.next ?_
          refine WC.no rfl (told_2 (told_ne hb38)) ?_
          refine WC.skip ?_
          refine WQ.next ?_
          refine WC.seq ?_
          refine WC.seq ?_
          refine WC.region ?_
          refine WL.op rfl rfl (op_assign rfl ?_)
          refine WL.nil ?_
          refine WQ.next ?_
          refine WC.block ?_
          refine WC.loop (α := Nat) (fun k => [(2, (str s)), (3, (ptr b1 0)), (4, (ptr b2 0)), (6, (.bool false)), (7, (ptr b10 0)), (8, (vN (toldN (mayOb nm l9)))), (9, (vN (noteE x))), (10, (vN k))]) (fun k w' => (k ≤ l.length) ∧ Own [] w w' [.blk b1 [(str nm), lv] 32, .blk b2 [(vU8 x.kind), (vU32 x.n), (vU32 x.m)] 68, .row (.slice (some ⟨b3, 0, none⟩) 1 1) 32 2 1 (List.flatMap obc [(Ob.mk nm lv l)]), .row v9 26 7 l9.length (List.flatMap syc l9), Ent.dp SyD.list l9, .blk b10 [(str nm), v9] 32]) (fun k => l.length - k) 0 ⟨(Nat.zero_le _), H37⟩ ⟨rfl, rfl, rfl, rfl, rfl, rfl, rfl, rfl, trivial⟩ ?_
          rintro k w39 ⟨hk1, H39⟩
          show WC _ _ _ _ _ [(2, (str s)), (3, (ptr b1 0)), (4, (ptr b2 0)), (6, (.bool false)), (7, (ptr b10 0)), (8, (vN (toldN (mayOb nm l9)))), (9, (vN (noteE x))), (10, (vN k))] _
          refine WC.seq ?_
          refine WC.seq ?_
          refine WC.region ?_
          refine WL.op rfl rfl (op_move rfl ?_)
          refine WL.op rfl rfl (op_fieldAddr rfl Fa.F32_1 ?_)
          refine WL.op rfl rfl (op_load rfl (H39.cell (i := 0) rfl rfl) Tryd.underlying30 rfl ?_)
          refine WL.op rfl rfl (op_lenA Tryd.underlying30 rfl (H39.arr hA) ?_)
          refine WL.op rfl rfl (op_lssN rfl rfl ?_)
          refine WL.nil ?_
          refine WQ.next ?_
          refine WC.cond rfl (fun (hb40 : (decide (k < l.length)) = true) => ?_) (fun (hb40 : (decide (k < l.length)) = false) => ?_)
          ·
            have hc40 := of_decide_eq_true hb40
            have hk2 : k < l.length := by omega
            have hln := bare_len hc9
            have hg := fitH_getD (bare_fit hc9 hF) k
            obtain ⟨hg1, hg2, hg3, hg4, hg5⟩ := hg
            have hf := fitH_getD hF k
            obtain ⟨hf1, hf2, hf3, hf4, hf5⟩ := hf
            have hbs := bare_sym hc9 k
            refine WC.skip ?_
            refine WQ.next ?_
            refine WC.seq ?_
            refine WC.block ?_
            refine WC.seq ?_
            refine WC.region ?_
            refine WL.op rfl rfl (op_fieldAddr rfl Fa.F32_1 ?_)
            refine WL.op rfl rfl (op_load rfl (H39.cell (i := 5) rfl rfl) Tryd.underlying30 rfl ?_)
            refine WL.op rfl rfl (op_move rfl ?_)
            refine WL.op rfl rfl (op_indexAddr Tryd.underlying30 Fa.I26 rfl (H39.arrR (i := 3) rfl) rfl (by omega) ?_)
            refine WL.op rfl rfl (op_loadSP (vs := syc (l9.getD k Sy.zero)) rfl (Arr.atsF (H39.arrR (i := 3) rfl) (fun _ => rfl) (by decide) Sy.zero (by omega)) Tryd.underlying26 rfl Fa.I26 rfl ?_)
            refine WL.op rfl rfl (op_callF Fa.C27 rfl ((osym_ok (l9.getD k Sy.zero) _ (SyD_mk (x := (l9.getD k Sy.zero)) ((SyD_rl (Deep.getD SyD (H39.dpO (i := 4) rfl) Sy.zero (SyD_zero _) k))) ((SyD_nt (Deep.getD SyD (H39.dpO (i := 4) rfl) Sy.zero (SyD_zero _) k)))) hg1 hg2 hg3 hg4 hg5).mono (fun e w41 hq => ?_)))
            obtain ⟨rfl, hf41⟩ := hq
            refine ⟨_, rfl, ?_⟩
            have H41 := H39.fr' hf41
            refine WL.op rfl rfl (op_assign rfl ?_)
            refine WL.nil ?_
            refine WQ.next ?_
            refine WC.seq ?_
            refine WC.region ?_
            refine WL.op rfl rfl (op_move rfl ?_)
            refine WL.op rfl rfl (op_eqlN (b := 0) rfl rfl ?_)
            refine WL.op rfl rfl (op_fieldAddr rfl Fa.F32_1 ?_)
            refine WL.op rfl rfl (op_load rfl (H41.cell (i := 0) rfl rfl) Tryd.underlying30 rfl ?_)
            refine WL.op rfl rfl (op_move rfl ?_)
            refine WL.op rfl rfl (op_indexAddr Tryd.underlying30 Fa.I26 rfl (H41.arr hA) rfl (by omega) ?_)
            refine WL.op rfl rfl (op_loadSP (vs := syc (l.getD k Sy.zero)) rfl (Arr.atsF (H41.arr hA) (fun _ => rfl) (by decide) Sy.zero (by omega)) Tryd.underlying26 rfl Fa.I26 rfl ?_)
            refine WL.op rfl rfl (op_callF Fa.C26 rfl ((rsym_ok (l.getD k Sy.zero) _ (SyD_mk (x := (l.getD k Sy.zero)) ((SyD_rl (Deep.getD SyD (Deep.fr0 SyD.list hI H41.fr) Sy.zero (SyD_zero _) k))) ((SyD_nt (Deep.getD SyD (Deep.fr0 SyD.list hI H41.fr) Sy.zero (SyD_zero _) k)))) hf1 hf2 hf3 hf4 hf5).mono (fun e w42 hq => ?_)))
            obtain ⟨rfl, hf42⟩ := hq
            refine ⟨_, rfl, ?_⟩
            have H42 := H41.fr' hf42
            refine WL.op rfl rfl (op_neqB Tryd.underlying4 rfl rfl ?_)
            refine WL.op rfl rfl (op_move rfl ?_)
            refine WL.yes rfl rfl rfl (by rw [← hbs, show symE _ = toldN (symB _) from rfl, told_is]; exact neq_self _) rfl (op_move rfl ?_)
            refine WL.yes rfl rfl rfl (by rw [← hbs, show symE _ = toldN (symB _) from rfl, told_is]; exact neq_self _) rfl (op_neqN (b := 0) rfl rfl ?_)
            refine WL.yes rfl rfl rfl (by rw [← hbs, show symE _ = toldN (symB _) from rfl, told_is]; exact neq_self _) rfl (op_move rfl ?_)
            refine WL.split (t := 84) rfl (fun (hb43 : (decide ((symE (l9.getD k Sy.zero)) ≠ 0)) = true) => ?_) (fun (hb43 : (decide ((symE (l9.getD k Sy.zero)) ≠ 0)) = false) => ?_)
            ·
              have hc43 := of_decide_eq_true hb43
              refine WL.yes rfl rfl rfl hb43 rfl (op_move rfl ?_)
              refine WL.yes rfl rfl rfl hb43 rfl (op_neqN (b := 2) rfl rfl ?_)
              refine WL.yes rfl rfl rfl (by rw [← hbs, show symE _ = toldN (symB _) from rfl, told_is]; exact neq_self _) rfl (op_pickT rfl hb43 rfl ?_)
              refine WL.op rfl rfl (op_pickF rfl (by rw [← hbs, show symE _ = toldN (symB _) from rfl, told_is]; exact neq_self _) rfl ?_)
              refine WL.nil ?_
              refine WQ.next ?_
              refine WC.no rfl (told_2 (told_ne hb43)) ?_
              refine WC.skip ?_
              refine WQ.inNormal ?_
              refine WQ.next ?_
              refine WC.region ?_
              refine WL.op rfl rfl (op_move rfl ?_)
              refine WL.op rfl rfl (op_addN (b := 1) rfl rfl (by omega) ?_)
              refine WL.op rfl rfl (op_assign rfl ?_)
              refine WL.nil ?_
              exact WQ.round (k + 1) ⟨(by omega), H42⟩ ⟨rfl, rfl, rfl, rfl, rfl, rfl, rfl, rfl, trivial⟩ (by omega)
            ·
              have hc43 := of_decide_eq_false hb43
              refine WL.no rfl rfl rfl hb43 rfl ?_
              refine WL.no rfl rfl rfl hb43 rfl ?_
              refine WL.yes rfl rfl rfl (by rw [← hbs, show symE _ = toldN (symB _) from rfl, told_is]; exact neq_self _) rfl (op_pickF rfl hb43 rfl ?_)
              refine WL.op rfl rfl (op_pickF rfl (by rw [← hbs, show symE _ = toldN (symB _) from rfl, told_is]; exact neq_self _) rfl ?_)
              refine WL.nil ?_
              refine WQ.next ?_
              refine WC.no rfl rfl ?_
              refine WC.skip ?_
              refine WQ.inNormal ?_
              refine WQ.next ?_
              refine WC.region ?_
              refine WL.op rfl rfl (op_move rfl ?_)
              refine WL.op rfl rfl (op_addN (b := 1) rfl rfl (by omega) ?_)
              refine WL.op rfl rfl (op_assign rfl ?_)
              refine WL.nil ?_
              exact WQ.round (k + 1) ⟨(by omega), H42⟩ ⟨rfl, rfl, rfl, rfl, rfl, rfl, rfl, rfl, trivial⟩ (by omega)
          ·
            have hc40 := of_decide_eq_false hb40
            refine WC.exit ?_
            refine WQ.thenExit ?_
            refine WQ.thenExit ?_
            refine WQ.inHere ?_
            refine WQ.next ?_
            refine WC.seq ?_
            refine WC.region ?_
            refine WL.op rfl rfl (op_loadS (vs := [_, _]) rfl (H39.cells (i := 5) rfl rfl) Tryd.underlying32 rfl Fa.I32 rfl ?_)
            refine WL.op rfl rfl (op_move rfl ?_)
            refine WL.op rfl rfl (op_callF Fa.C35 rfl ((ofind_ok nm _ l9 s _ (H39.arrR (i := 3) rfl) (H39.dpO (i := 4) rfl) (bare_fit hc9 hF) (by rw [bare_len hc9]; omega) hnm).mono (fun e w44 hq => ?_)))
            obtain ⟨rfl, hf44⟩ := hq
            refine ⟨_, rfl, ?_⟩
            have H44 := H39.fr' hf44
            refine WL.op rfl rfl (op_move rfl ?_)
            refine WL.op rfl rfl (op_extract rfl rfl ?_)
            refine WL.op rfl rfl (op_extract rfl rfl ?_)
            refine WL.op rfl rfl (op_assign rfl ?_)
            refine WL.op rfl rfl (op_assign rfl ?_)
            refine WL.nil ?_
            refine WQ.next ?_
            refine WC.seq ?_
            refine WC.region ?_
            refine WL.op rfl rfl (op_loadS (vs := [_, _]) rfl (H44.cells (i := 0) rfl rfl) Tryd.underlying32 rfl Fa.I32 rfl ?_)
            refine WL.op rfl rfl (op_move rfl ?_)
            refine WL.op rfl rfl (op_callF Fa.C36 rfl ((rfind_ok nm _ l s _ (H44.arr hA) (Deep.fr0 SyD.list hI H44.fr) hF hn hnm).mono (fun e w45 hq => ?_)))
            obtain ⟨rfl, hf45⟩ := hq
            refine ⟨_, rfl, ?_⟩
            have H45 := H44.fr' hf45
            refine WL.op rfl rfl (op_move rfl ?_)
            refine WL.op rfl rfl (op_extract rfl rfl ?_)
            refine WL.op rfl rfl (op_extract rfl rfl ?_)
            refine WL.op rfl rfl (op_assign rfl ?_)
            refine WL.op rfl rfl (op_assign rfl ?_)
            refine WL.nil ?_
            refine WQ.next ?_
            refine WC.seq ?_
            refine WC.region ?_
            refine WL.op rfl rfl (op_move rfl ?_)
            refine WL.op rfl rfl (op_move rfl ?_)
            refine WL.op rfl rfl (op_eqlN rfl rfl ?_)
            refine WL.op rfl rfl (op_move rfl ?_)
            refine WL.yes rfl rfl rfl (decide_eq_true (by rw [(bare_find hc9).1])) rfl (op_move rfl ?_)
            refine WL.yes rfl rfl rfl (decide_eq_true (by rw [(bare_find hc9).1])) rfl (op_move rfl ?_)
            refine WL.yes rfl rfl rfl (decide_eq_true (by rw [(bare_find hc9).1])) rfl (op_eqlB Tryd.underlying4 rfl rfl ?_)
            refine WL.op rfl rfl (op_pickT rfl (decide_eq_true (by rw [(bare_find hc9).1])) rfl ?_)
            refine WL.op rfl rfl (op_move rfl ?_)
            refine WL.yes rfl rfl rfl (by rw [(bare_find hc9).2]; exact beq_self_eq_true _) rfl (op_loadS (vs := [_, _]) rfl (H45.cells (i := 5) rfl rfl) Tryd.underlying32 rfl Fa.I32 rfl ?_)
            refine WL.yes rfl rfl rfl (by rw [(bare_find hc9).2]; exact beq_self_eq_true _) rfl (op_loadS (vs := [_, _]) rfl (H45.cells (i := 0) rfl rfl) Tryd.underlying32 rfl Fa.I32 rfl ?_)
            refine WL.yes rfl rfl rfl (by rw [(bare_find hc9).2]; exact beq_self_eq_true _) rfl (op_callF Fa.C37 rfl ((same08_ok nm nm _ _ l9 l _ (H45.arrR (i := 3) rfl) (H45.dpO (i := 4) rfl) (H45.arr hA) (Deep.fr0 SyD.list hI H45.fr) (by rw [bare_len hc9]; omega) (bare_fit hc9 hF)).mono (fun e w46 hq => ?_)))
            obtain ⟨rfl, hf46⟩ := hq
            refine ⟨_, rfl, ?_⟩
            have H46 := H45.fr' hf46
            refine WL.op rfl rfl (op_pickT rfl (by rw [(bare_find hc9).2]; exact beq_self_eq_true _) rfl ?_)
            refine WL.op rfl rfl (op_move rfl ?_)
            refine WL.yes rfl rfl rfl (sameO_bare hc9) rfl (op_callF Fa.C30 rfl ((alive08_ok _).mono (fun e w47 hq => ?_)))
            obtain ⟨rfl, hf47⟩ := hq
            refine ⟨_, rfl, ?_⟩
            have H47 := H46.fr' hf47
            refine WL.op rfl rfl (op_pickT rfl (sameO_bare hc9) rfl ?_)
            refine WL.op rfl rfl (op_assign rfl ?_)
            refine WL.nil ?_
            refine WQ.next ?_
            refine WC.ret ?_
            refine WQ.out (.tmp rfl .nil) ?_
            exact ⟨rfl, H47.fr⟩
        ·
          have hc38 := of_decide_eq_false hb38
          refine WL.no rfl rfl rfl hb38 rfl ?_
          refine WL.no rfl rfl rfl hb38 rfl ?_
          refine WL.yes rfl rfl rfl (by rw [show noteE x = toldN (noteB x) from rfl, told_is]; exact neq_self _) rfl (op_pickF rfl hb38 rfl ?_)
          refine WL.op rfl rfl (op_pickF rfl (by rw [show noteE x = toldN (noteB x) from rfl, told_is]; exact neq_self _) rfl ?_)
          refine WL.nil ?_
          refine WQ.next ?_
          refine WC.no rfl rfl ?_
          refine WC.skip ?_
          refine WQ.next ?_
          refine WC.seq ?_
          refine WC.seq ?_
          refine WC.region ?_
          refine WL.op rfl rfl (op_assign rfl ?_)
          refine WL.nil ?_
          refine WQ.next ?_
          refine WC.block ?_
          refine WC.loop (α := Nat) (fun k => [(2, (str s)), (3, (ptr b1 0)), (4, (ptr b2 0)), (6, (.bool false)), (7, (ptr b10 0)), (8, (vN (toldN (mayOb nm l9)))), (9, (vN (noteE x))), (10, (vN k))]) (fun k w' => (k ≤ l.length) ∧ Own [] w w' [.blk b1 [(str nm), lv] 32, .blk b2 [(vU8 x.kind), (vU32 x.n), (vU32 x.m)] 68, .row (.slice (some ⟨b3, 0, none⟩) 1 1) 32 2 1 (List.flatMap obc [(Ob.mk nm lv l)]), .row v9 26 7 l9.length (List.flatMap syc l9), Ent.dp SyD.list l9, .blk b10 [(str nm), v9] 32]) (fun k => l.length - k) 0 ⟨(Nat.zero_le _), H37⟩ ⟨rfl, rfl, rfl, rfl, rfl, rfl, rfl, rfl, trivial⟩ ?_
          rintro k w48 ⟨hk1, H48⟩
          show WC _ _ _ _ _ [(2, (str s)), (3, (ptr b1 0)), (4, (ptr b2 0)), (6, (.bool false)), (7, (ptr b10 0)), (8, (vN (toldN (mayOb nm l9)))), (9, (vN (noteE x))), (10, (vN k))] _
          refine WC.seq ?_
          refine WC.seq ?_
          refine WC.region ?_
          refine WL.op rfl rfl (op_move rfl ?_)
          refine WL.op rfl rfl (op_fieldAddr rfl Fa.F32_1 ?_)
          refine WL.op rfl rfl (op_load rfl (H48.cell (i := 0) rfl rfl) Tryd.underlying30 rfl ?_)
          refine WL.op rfl rfl (op_lenA Tryd.underlying30 rfl (H48.arr hA) ?_)
          refine WL.op rfl rfl (op_lssN rfl rfl ?_)
          refine WL.nil ?_
          refine WQ.next ?_
          refine WC.cond rfl (fun (hb49 : (decide (k < l.length)) = true) => ?_) (fun (hb49 : (decide (k < l.length)) = false) => ?_)
          ·
            have hc49 := of_decide_eq_true hb49
            have hk2 : k < l.length := by omega
            have hln := bare_len hc9
            have hg := fitH_getD (bare_fit hc9 hF) k
            obtain ⟨hg1, hg2, hg3, hg4, hg5⟩ := hg
            have hf := fitH_getD hF k
            obtain ⟨hf1, hf2, hf3, hf4, hf5⟩ := hf
            have hbs := bare_sym hc9 k
            refine WC.skip ?_
            refine WQ.next ?_
            refine WC.seq ?_
            refine WC.block ?_
            refine WC.seq ?_
            refine WC.region ?_
            refine WL.op rfl rfl (op_fieldAddr rfl Fa.F32_1 ?_)
            refine WL.op rfl rfl (op_load rfl (H48.cell (i := 5) rfl rfl) Tryd.underlying30 rfl ?_)
            refine WL.op rfl rfl (op_move rfl ?_)
            refine WL.op rfl rfl (op_indexAddr Tryd.underlying30 Fa.I26 rfl (H48.arrR (i := 3) rfl) rfl (by omega) ?_)
            refine WL.op rfl rfl (op_loadSP (vs := syc (l9.getD k Sy.zero)) rfl (Arr.atsF (H48.arrR (i := 3) rfl) (fun _ => rfl) (by decide) Sy.zero (by omega)) Tryd.underlying26 rfl Fa.I26 rfl ?_)
            refine WL.op rfl rfl (op_callF Fa.C27 rfl ((osym_ok (l9.getD k Sy.zero) _ (SyD_mk (x := (l9.getD k Sy.zero)) ((SyD_rl (Deep.getD SyD (H48.dpO (i := 4) rfl) Sy.zero (SyD_zero _) k))) ((SyD_nt (Deep.getD SyD (H48.dpO (i := 4) rfl) Sy.zero (SyD_zero _) k)))) hg1 hg2 hg3 hg4 hg5).mono (fun e w50 hq => ?_)))
            obtain ⟨rfl, hf50⟩ := hq
            refine ⟨_, rfl, ?_⟩
            have H50 := H48.fr' hf50
            refine WL.op rfl rfl (op_assign rfl ?_)
            refine WL.nil ?_
            refine WQ.next ?_
            refine WC.seq ?_
            refine WC.region ?_
            refine WL.op rfl rfl (op_move rfl ?_)
            refine WL.op rfl rfl (op_eqlN (b := 0) rfl rfl ?_)
            refine WL.op rfl rfl (op_fieldAddr rfl Fa.F32_1 ?_)
            refine WL.op rfl rfl (op_load rfl (H50.cell (i := 0) rfl rfl) Tryd.underlying30 rfl ?_)
            refine WL.op rfl rfl (op_move rfl ?_)
            refine WL.op rfl rfl (op_indexAddr Tryd.underlying30 Fa.I26 rfl (H50.arr hA) rfl (by omega) ?_)
            refine WL.op rfl rfl (op_loadSP (vs := syc (l.getD k Sy.zero)) rfl (Arr.atsF (H50.arr hA) (fun _ => rfl) (by decide) Sy.zero (by omega)) Tryd.underlying26 rfl Fa.I26 rfl ?_)
            refine WL.op rfl rfl (op_callF Fa.C26 rfl ((rsym_ok (l.getD k Sy.zero) _ (SyD_mk (x := (l.getD k Sy.zero)) ((SyD_rl (Deep.getD SyD (Deep.fr0 SyD.list hI H50.fr) Sy.zero (SyD_zero _) k))) ((SyD_nt (Deep.getD SyD (Deep.fr0 SyD.list hI H50.fr) Sy.zero (SyD_zero _) k)))) hf1 hf2 hf3 hf4 hf5).mono (fun e w51 hq => ?_)))
            obtain ⟨rfl, hf51⟩ := hq
            refine ⟨_, rfl, ?_⟩
            have H51 := H50.fr' hf51
            refine WL.op rfl rfl (op_neqB Tryd.underlying4 rfl rfl ?_)
            refine WL.op rfl rfl (op_move rfl ?_)
            refine WL.yes rfl rfl rfl (by rw [← hbs, show symE _ = toldN (symB _) from rfl, told_is]; exact neq_self _) rfl (op_move rfl ?_)
            refine WL.yes rfl rfl rfl (by rw [← hbs, show symE _ = toldN (symB _) from rfl, told_is]; exact neq_self _) rfl (op_neqN (b := 0) rfl rfl ?_)
            refine WL.yes rfl rfl rfl (by rw [← hbs, show symE _ = toldN (symB _) from rfl, told_is]; exact neq_self _) rfl (op_move rfl ?_)
            refine WL.split (t := 84) rfl (fun (hb52 : (decide ((symE (l9.getD k Sy.zero)) ≠ 0)) = true) => ?_) (fun (hb52 : (decide ((symE (l9.getD k Sy.zero)) ≠ 0)) = false) => ?_)
            ·
              have hc52 := of_decide_eq_true hb52
              refine WL.yes rfl rfl rfl hb52 rfl (op_move rfl ?_)
              refine WL.yes rfl rfl rfl hb52 rfl (op_neqN (b := 2) rfl rfl ?_)
              refine WL.yes rfl rfl rfl (by rw [← hbs, show symE _ = toldN (symB _) from rfl, told_is]; exact neq_self _) rfl (op_pickT rfl hb52 rfl ?_)
              refine WL.op rfl rfl (op_pickF rfl (by rw [← hbs, show symE _ = toldN (symB _) from rfl, told_is]; exact neq_self _) rfl ?_)
              refine WL.nil ?_
              refine WQ.next ?_
              refine WC.no rfl (told_2 (told_ne hb52)) ?_
              refine WC.skip ?_
              refine WQ.inNormal ?_
              refine WQ.next ?_
              refine WC.region ?_
              refine WL.op rfl rfl (op_move rfl ?_)
              refine WL.op rfl rfl (op_addN (b := 1) rfl rfl (by omega) ?_)
              refine WL.op rfl rfl (op_assign rfl ?_)
              refine WL.nil ?_
              exact WQ.round (k + 1) ⟨(by omega), H51⟩ ⟨rfl, rfl, rfl, rfl, rfl, rfl, rfl, rfl, trivial⟩ (by omega)
            ·
              have hc52 := of_decide_eq_false hb52
              refine WL.no rfl rfl rfl hb52 rfl ?_
              refine WL.no rfl rfl rfl hb52 rfl ?_
              refine WL.yes rfl rfl rfl (by rw [← hbs, show symE _ = toldN (symB _) from rfl, told_is]; exact neq_self _) rfl (op_pickF rfl hb52 rfl ?_)
              refine WL.op rfl rfl (op_pickF rfl (by rw [← hbs, show symE _ = toldN (symB _) from rfl, told_is]; exact neq_self _) rfl ?_)
              refine WL.nil ?_
              refine WQ.next ?_
              refine WC.no rfl rfl ?_
              refine WC.skip ?_
              refine WQ.inNormal ?_
              refine WQ.next ?_
              refine WC.region ?_
              refine WL.op rfl rfl (op_move rfl ?_)
              refine WL.op rfl rfl (op_addN (b := 1) rfl rfl (by omega) ?_)
              refine WL.op rfl rfl (op_assign rfl ?_)
              refine WL.nil ?_
              exact WQ.round (k + 1) ⟨(by omega), H51⟩ ⟨rfl, rfl, rfl, rfl, rfl, rfl, rfl, rfl, trivial⟩ (by omega)
          ·
            have hc49 := of_decide_eq_false hb49
            refine WC.exit ?_
            refine WQ.thenExit ?_
            refine WQ.thenExit ?_
            refine WQ.inHere ?_
            refine WQ.next ?_
            refine WC.seq ?_
            refine WC.region ?_
            refine WL.op rfl rfl (op_loadS (vs := [_, _]) rfl (H48.cells (i := 5) rfl rfl) Tryd.underlying32 rfl Fa.I32 rfl ?_)
            refine WL.op rfl rfl (op_move rfl ?_)
            refine WL.op rfl rfl (op_callF Fa.C35 rfl ((ofind_ok nm _ l9 s _ (H48.arrR (i := 3) rfl) (H48.dpO (i := 4) rfl) (bare_fit hc9 hF) (by rw [bare_len hc9]; omega) hnm).mono (fun e w53 hq => ?_)))
            obtain ⟨rfl, hf53⟩ := hq
            refine ⟨_, rfl, ?_⟩
            have H53 := H48.fr' hf53
            refine WL.op rfl rfl (op_move rfl ?_)
            refine WL.op rfl rfl (op_extract rfl rfl ?_)
            refine WL.op rfl rfl (op_extract rfl rfl ?_)
            refine WL.op rfl rfl (op_assign rfl ?_)
            refine WL.op rfl rfl (op_assign rfl ?_)
            refine WL.nil ?_
            refine WQ.next ?_
            refine WC.seq ?_
            refine WC.region ?_
            refine WL.op rfl rfl (op_loadS (vs := [_, _]) rfl (H53.cells (i := 0) rfl rfl) Tryd.underlying32 rfl Fa.I32 rfl ?_)
            refine WL.op rfl rfl (op_move rfl ?_)
            refine WL.op rfl rfl (op_callF Fa.C36 rfl ((rfind_ok nm _ l s _ (H53.arr hA) (Deep.fr0 SyD.list hI H53.fr) hF hn hnm).mono (fun e w54 hq => ?_)))
            obtain ⟨rfl, hf54⟩ := hq
            refine ⟨_, rfl, ?_⟩
            have H54 := H53.fr' hf54
            refine WL.op rfl rfl (op_move rfl ?_)
            refine WL.op rfl rfl (op_extract rfl rfl ?_)
            refine WL.op rfl rfl (op_extract rfl rfl ?_)
            refine WL.op rfl rfl (op_assign rfl ?_)
            refine WL.op rfl rfl (op_assign rfl ?_)
            refine WL.nil ?_
            refine WQ.next ?_
            refine WC.seq ?_
            refine WC.region ?_
            refine WL.op rfl rfl (op_move rfl ?_)
            refine WL.op rfl rfl (op_move rfl ?_)
            refine WL.op rfl rfl (op_eqlN rfl rfl ?_)
            refine WL.op rfl rfl (op_move rfl ?_)
            refine WL.yes rfl rfl rfl (decide_eq_true (by rw [(bare_find hc9).1])) rfl (op_move rfl ?_)
            refine WL.yes rfl rfl rfl (decide_eq_true (by rw [(bare_find hc9).1])) rfl (op_move rfl ?_)
            refine WL.yes rfl rfl rfl (decide_eq_true (by rw [(bare_find hc9).1])) rfl (op_eqlB Tryd.underlying4 rfl rfl ?_)
            refine WL.op rfl rfl (op_pickT rfl (decide_eq_true (by rw [(bare_find hc9).1])) rfl ?_)
            refine WL.op rfl rfl (op_move rfl ?_)
            refine WL.yes rfl rfl rfl (by rw [(bare_find hc9).2]; exact beq_self_eq_true _) rfl (op_loadS (vs := [_, _]) rfl (H54.cells (i := 5) rfl rfl) Tryd.underlying32 rfl Fa.I32 rfl ?_)
            refine WL.yes rfl rfl rfl (by rw [(bare_find hc9).2]; exact beq_self_eq_true _) rfl (op_loadS (vs := [_, _]) rfl (H54.cells (i := 0) rfl rfl) Tryd.underlying32 rfl Fa.I32 rfl ?_)
            refine WL.yes rfl rfl rfl (by rw [(bare_find hc9).2]; exact beq_self_eq_true _) rfl (op_callF Fa.C37 rfl ((same08_ok nm nm _ _ l9 l _ (H54.arrR (i := 3) rfl) (H54.dpO (i := 4) rfl) (H54.arr hA) (Deep.fr0 SyD.list hI H54.fr) (by rw [bare_len hc9]; omega) (bare_fit hc9 hF)).mono (fun e w55 hq => ?_)))
            obtain ⟨rfl, hf55⟩ := hq
            refine ⟨_, rfl, ?_⟩
            have H55 := H54.fr' hf55
            refine WL.op rfl rfl (op_pickT rfl (by rw [(bare_find hc9).2]; exact beq_self_eq_true _) rfl ?_)
            refine WL.op rfl rfl (op_move rfl ?_)
            refine WL.yes rfl rfl rfl (sameO_bare hc9) rfl (op_callF Fa.C30 rfl ((alive08_ok _).mono (fun e w56 hq => ?_)))
            obtain ⟨rfl, hf56⟩ := hq
            refine ⟨_, rfl, ?_⟩
            have H56 := H55.fr' hf56
            refine WL.op rfl rfl (op_pickT rfl (sameO_bare hc9) rfl ?_)
            refine WL.op rfl rfl (op_assign rfl ?_)
            refine WL.nil ?_
            refine WQ.next ?_
            refine WC.ret ?_
            refine WQ.out (.tmp rfl .nil) ?_
            exact ⟨rfl, H56.fr⟩
end Go.Proofs.YtnngbnenekjffaaDoor
