/- General lemmas and walks: DAsm9. No condition but what each theorem names. -/
import Derived.Test.YtnngbnenekjffaaDoorQ88a9bbe8
import Derived.Test.YtnngbnenekjffaaDoorQa673ddf2
import Derived.Test.YtnngbnenekjffaaDoorQa07af9e6
import Derived.Test.YtnngbnenekjffaaDoorQc839c9c7
/-! from DAsm9 -/
namespace Go.Proofs.YtnngbnenekjffaaDoor
open Go.Owl Go.Spec
set_option maxHeartbeats 1000000 in
set_option maxRecDepth 100000 in
theorem asmData_ok (x : Sy) (w : World) (hI : SyD.ok w x) (hfx : Fit x) (hry : ∀ y ∈ x.rl, y.nm.length < 2 ^ 47) :
    Calls Tryd.prog 6 #[(.agg #[(str x.nm), (vU8 x.bind), (vU8 x.kind), (vU32 x.size), (str x.b), x.rv, x.nv])] w (fun e w' => e = .returned (.bool true) ∧ Fr [] w w') := by
  refine enter (args := [(.agg #[(str x.nm), (vU8 x.bind), (vU8 x.kind), (vU32 x.size), (str x.b), x.rv, x.nv])]) Tryd.func6 rfl rfl ?_
  have H0 : Own [] w w [] := Own.start w []
  refine WC.seq ?_
  refine WC.region ?_
  refine WL.op rfl rfl (op_box H0 rfl rfl (fun b1 w1 H1 => ?_))
  refine WL.op rfl rfl (op_assign rfl ?_)
  refine WL.nil ?_
  refine WQ.next ?_
  refine WC.seq ?_
  refine WC.seq ?_
  refine WC.region ?_
  refine WL.op rfl rfl (op_fieldAddr rfl Fa.F26_4 ?_)
  refine WL.op rfl rfl (op_load rfl (H1.cell (i := 0) rfl rfl) Tryd.underlying9 rfl ?_)
  refine WL.op rfl rfl (op_lenStr Tryd.underlying9 rfl ?_)
  refine WL.op rfl rfl (op_gtrN (b := 16384) rfl rfl ?_)
  refine WL.op rfl rfl (op_move rfl ?_)
  refine WL.split (t := 10) rfl (fun (hb2 : (decide (x.b.length > 16384)) = true) => ?_) (fun (hb2 : (decide (x.b.length > 16384)) = false) => ?_)
  ·
    have hc2 := of_decide_eq_true hb2
    refine WL.no rfl rfl rfl hb2 rfl ?_
    refine WL.no rfl rfl rfl hb2 rfl ?_
    refine WL.no rfl rfl rfl hb2 rfl ?_
    refine WL.no rfl rfl rfl hb2 rfl ?_
    refine WL.op rfl rfl (op_pickT rfl hb2 rfl ?_)
    refine WL.op rfl rfl (op_move rfl ?_)
    refine WL.no rfl rfl rfl rfl rfl ?_
    refine WL.no rfl rfl rfl rfl rfl ?_
    refine WL.no rfl rfl rfl rfl rfl ?_
    refine WL.no rfl rfl rfl rfl rfl ?_
    refine WL.op rfl rfl (op_pickT rfl rfl rfl ?_)
    refine WL.nil ?_
    refine WQ.next ?_
    refine WC.yes rfl rfl ?_
    refine WC.seq ?_
    refine WC.region ?_
    refine WL.op rfl rfl (op_callF Fa.C21 rfl ((alive10_ok _).mono (fun e w3 hq => ?_)))
    obtain ⟨rfl, hf3⟩ := hq
    refine ⟨_, rfl, ?_⟩
    have H3 := H1.fr' hf3
    refine WL.op rfl rfl (op_assign rfl ?_)
    refine WL.nil ?_
    refine WQ.next ?_
    refine WC.ret ?_
    refine WQ.thenRet ?_
    refine WQ.out (.tmp rfl .nil) ?_
    exact ⟨rfl, H3.fr⟩
  ·
    have hc2 := of_decide_eq_false hb2
    refine WL.yes rfl rfl rfl hb2 rfl (op_fieldAddr rfl Fa.F26_6 ?_)
    refine WL.yes rfl rfl rfl hb2 rfl (op_load rfl (H1.cell (i := 0) rfl rfl) Tryd.underlying24 rfl ?_)
    refine WL.yes rfl rfl rfl hb2 rfl (op_lenA Tryd.underlying24 rfl ((SyD_nt (x := x) (SyD.fr0 hI H1.fr))) ?_)
    refine WL.yes rfl rfl rfl hb2 rfl (op_gtrN (b := 100) rfl rfl ?_)
    refine WL.op rfl rfl (op_pickF rfl hb2 rfl ?_)
    refine WL.op rfl rfl (op_move rfl ?_)
    refine WL.split (t := 16) rfl (fun (hb4 : (decide (x.nt.length > 100)) = true) => ?_) (fun (hb4 : (decide (x.nt.length > 100)) = false) => ?_)
    ·
      have hc4 := of_decide_eq_true hb4
      refine WL.no rfl rfl rfl hb4 rfl ?_
      refine WL.no rfl rfl rfl hb4 rfl ?_
      refine WL.no rfl rfl rfl hb4 rfl ?_
      refine WL.no rfl rfl rfl hb4 rfl ?_
      refine WL.op rfl rfl (op_pickT rfl hb4 rfl ?_)
      refine WL.nil ?_
      refine WQ.next ?_
      refine WC.yes rfl rfl ?_
      refine WC.seq ?_
      refine WC.region ?_
      refine WL.op rfl rfl (op_callF Fa.C21 rfl ((alive10_ok _).mono (fun e w5 hq => ?_)))
      obtain ⟨rfl, hf5⟩ := hq
      refine ⟨_, rfl, ?_⟩
      have H5 := H1.fr' hf5
      refine WL.op rfl rfl (op_assign rfl ?_)
      refine WL.nil ?_
      refine WQ.next ?_
      refine WC.ret ?_
      refine WQ.thenRet ?_
      refine WQ.out (.tmp rfl .nil) ?_
      exact ⟨rfl, H5.fr⟩
    ·
      have hc4 := of_decide_eq_false hb4
      refine WL.yes rfl rfl rfl hb4 rfl (op_fieldAddr rfl Fa.F26_0 ?_)
      refine WL.yes rfl rfl rfl hb4 rfl (op_load rfl (H1.cell (i := 0) rfl rfl) Tryd.underlying9 rfl ?_)
      refine WL.yes rfl rfl rfl hb4 rfl (op_lenStr Tryd.underlying9 rfl ?_)
      refine WL.yes rfl rfl rfl hb4 rfl (op_gtrN (b := 1024) rfl rfl ?_)
      refine WL.op rfl rfl (op_pickF rfl hb4 rfl ?_)
      refine WL.nil ?_
      refine WQ.next ?_
      refine WC.cond rfl (fun (hb6 : (decide (x.nm.length > 1024)) = true) => ?_) (fun (hb6 : (decide (x.nm.length > 1024)) = false) => ?_)
      ·
        have hc6 := of_decide_eq_true hb6
        refine WC.seq ?_
        refine WC.region ?_
        refine WL.op rfl rfl (op_callF Fa.C21 rfl ((alive10_ok _).mono (fun e w7 hq => ?_)))
        obtain ⟨rfl, hf7⟩ := hq
        refine ⟨_, rfl, ?_⟩
        have H7 := H1.fr' hf7
        refine WL.op rfl rfl (op_assign rfl ?_)
        refine WL.nil ?_
        refine WQ.next ?_
        refine WC.ret ?_
        refine WQ.thenRet ?_
        refine WQ.out (.tmp rfl .nil) ?_
        exact ⟨rfl, H7.fr⟩
      ·
        have hc6 := of_decide_eq_false hb6
        have hl1 := Nat.le_of_not_lt (of_decide_eq_false hb2)
        have hl2 := Nat.le_of_not_lt (of_decide_eq_false hb4)
        have hl3 := Nat.le_of_not_lt (of_decide_eq_false hb6)
        refine WC.skip ?_
        refine WQ.next ?_
        refine WC.seq ?_
        refine WC.held 20 rfl Fa.M H1 (fun w' => ∃ L', Own [] w w' ([.blk b1 [(str x.nm), (vU8 x.bind), (vU8 x.kind), (vU32 x.size), (str x.b), x.rv, x.nv] 26] ++ L')) ?_
        intro w8 H8
        refine WH.take (i := 0) (v := (ptr b1 0)) rfl rfl (.inl rfl) rfl (by kernel_rfl) ⟨[], H8⟩ (fun w1 hS1 => hS1.elim fun L1 H1 => op_fieldAddr rfl Fa.F26_0 ⟨rfl, rfl⟩) ?_
        refine WH.take (i := 1) (v := (str x.nm)) rfl rfl (.inl rfl) rfl (by kernel_rfl) ⟨[], H8⟩ (fun w1 hS1 => hS1.elim fun L1 H1 => op_load rfl (H1.cell (i := 0) rfl rfl) Tryd.underlying9 rfl ⟨rfl, rfl⟩) ?_
        refine WH.take (i := 2) (v := (ptr b1 1)) rfl rfl (.inl rfl) rfl (by kernel_rfl) ⟨[], H8⟩ (fun w1 hS1 => hS1.elim fun L1 H1 => op_fieldAddr rfl Fa.F26_1 ⟨rfl, rfl⟩) ?_
        refine WH.take (i := 3) (v := (vU8 x.bind)) rfl rfl (.inl rfl) rfl (by kernel_rfl) ⟨[], H8⟩ (fun w1 hS1 => hS1.elim fun L1 H1 => op_load rfl (H1.cell (i := 0) rfl rfl) Tryd.underlying5 rfl ⟨rfl, rfl⟩) ?_
        refine WH.take (i := 4) (v := (ptr b1 2)) rfl rfl (.inl rfl) rfl (by kernel_rfl) ⟨[], H8⟩ (fun w1 hS1 => hS1.elim fun L1 H1 => op_fieldAddr rfl Fa.F26_2 ⟨rfl, rfl⟩) ?_
        refine WH.take (i := 5) (v := (vU8 x.kind)) rfl rfl (.inl rfl) rfl (by kernel_rfl) ⟨[], H8⟩ (fun w1 hS1 => hS1.elim fun L1 H1 => op_load rfl (H1.cell (i := 0) rfl rfl) Tryd.underlying5 rfl ⟨rfl, rfl⟩) ?_
        refine WH.take (i := 6) (v := (ptr b1 3)) rfl rfl (.inl rfl) rfl (by kernel_rfl) ⟨[], H8⟩ (fun w1 hS1 => hS1.elim fun L1 H1 => op_fieldAddr rfl Fa.F26_3 ⟨rfl, rfl⟩) ?_
        refine WH.take (i := 7) (v := (vU32 x.size)) rfl rfl (.inl rfl) rfl (by kernel_rfl) ⟨[], H8⟩ (fun w1 hS1 => hS1.elim fun L1 H1 => op_load rfl (H1.cell (i := 0) rfl rfl) Tryd.underlying22 rfl ⟨rfl, rfl⟩) ?_
        refine WH.take (i := 8) (v := (ptr b1 4)) rfl rfl (.inl rfl) rfl (by kernel_rfl) ⟨[], H8⟩ (fun w1 hS1 => hS1.elim fun L1 H1 => op_fieldAddr rfl Fa.F26_4 ⟨rfl, rfl⟩) ?_
        refine WH.take (i := 9) (v := (str x.b)) rfl rfl (.inl rfl) rfl (by kernel_rfl) ⟨[], H8⟩ (fun w1 hS1 => hS1.elim fun L1 H1 => op_load rfl (H1.cell (i := 0) rfl rfl) Tryd.underlying9 rfl ⟨rfl, rfl⟩) ?_
        refine WH.take (i := 10) (v := (ptr b1 6)) rfl rfl (.inl rfl) rfl (by kernel_rfl) ⟨[], H8⟩ (fun w1 hS1 => hS1.elim fun L1 H1 => op_fieldAddr rfl Fa.F26_6 ⟨rfl, rfl⟩) ?_
        refine WH.take (i := 11) (v := x.nv) rfl rfl (.inl rfl) rfl (by kernel_rfl) ⟨[], H8⟩ (fun w1 hS1 => hS1.elim fun L1 H1 => op_load rfl (H1.cell (i := 0) rfl rfl) Tryd.underlying24 rfl ⟨rfl, rfl⟩) ?_
        refine WH.named (fun W hW => ?_)
        have st3_6 : ∀ (b19341 : Nat) (y19261 : Sy) (v19241 : Value) (hc19261 : y19261.bare = dtS x.nm x.bind x.kind x.size x.b ([] ++ x.nt)) (wS : World), Own [] w wS [.blk b1 [(str x.nm), (vU8 x.bind), (vU8 x.kind), (vU32 x.size), (str x.b), x.rv, x.nv] 26, .row v19241 68 3 (0 + x.nt.length) (List.flatMap ntc ([] ++ x.nt)), .row y19261.rv 44 4 y19261.rl.length (List.flatMap rlc y19261.rl), .row y19261.nv 68 3 y19261.nt.length (List.flatMap ntc y19261.nt), .blk b19341 [(str y19261.nm), (vU8 y19261.bind), (vU8 y19261.kind), (vU32 y19261.size), (str y19261.b), y19261.rv, y19261.nv] 26] → W 0 #[true, true, true, true, true, true, true, true, true, true, true, true, true, true, true, true, true, true, true, true] [(0, (.agg #[(str x.nm), (vU8 x.bind), (vU8 x.kind), (vU32 x.size), (str x.b), x.rv, x.nv])), (1, (ptr b1 0)), (2, (.bool false)), (3, (ptr b19341 0)), (4, (vN (dtE x.nm x.bind x.kind x.size x.b ([] ++ x.nt)))), (6, (ptr b1 4)), (7, (str x.b)), (8, (vN x.b.length)), (9, (.bool (decide (x.b.length > 16384)))), (10, (.bool (decide (x.b.length > 16384)))), (11, (ptr b1 6)), (12, x.nv), (13, (vN x.nt.length)), (14, (.bool (decide (x.nt.length > 100)))), (15, (.bool (decide (x.nt.length > 100)))), (16, (.bool (decide (x.nt.length > 100)))), (17, (ptr b1 0)), (18, (str x.nm)), (19, (vN x.nm.length)), (20, (.bool (decide (x.nm.length > 1024)))), (21, (.bool (decide (x.nm.length > 1024)))), (23, (.tuple #[(.agg #[(str y19261.nm), (vU8 y19261.bind), (vU8 y19261.kind), (vU32 y19261.size), (str y19261.b), y19261.rv, y19261.nv]), (vN (dtE x.nm x.bind x.kind x.size x.b ([] ++ x.nt)))])), (24, (ptr b1 0)), (25, (str x.nm)), (26, (ptr b1 1)), (27, (vU8 x.bind)), (28, (ptr b1 2)), (29, (vU8 x.kind)), (30, (ptr b1 3)), (31, (vU32 x.size)), (32, (ptr b1 4)), (33, (str x.b)), (34, (ptr b1 6)), (35, x.nv), (36, v19241), (37, (.tuple #[(.agg #[(str y19261.nm), (vU8 y19261.bind), (vU8 y19261.kind), (vU32 y19261.size), (str y19261.b), y19261.rv, y19261.nv]), (vN (dtE x.nm x.bind x.kind x.size x.b ([] ++ x.nt)))])), (38, (.agg #[(str y19261.nm), (vU8 y19261.bind), (vU8 y19261.kind), (vU32 y19261.size), (str y19261.b), y19261.rv, y19261.nv])), (39, (vN (dtE x.nm x.bind x.kind x.size x.b ([] ++ x.nt))))] wS := by
          intro b19341 y19261 v19241 hc19261 wS HS
          rw [hW]
          refine WH.done (by kernel_rfl) ?_
          refine WQ.next ?_
          refine WC.seq ?_
          refine WC.region ?_
          refine WL.op rfl rfl (op_loadS (vs := [_, _, _, _, _, _, _]) rfl (HS.cells (i := 0) rfl rfl) Tryd.underlying26 rfl Fa.I26 rfl ?_)
          refine WL.op rfl rfl (op_alloc HS Fa.I26 (fun b10 w10 H10 => ?_))
          refine WL.op rfl rfl (op_storeBW (i := 5) H10 rfl rfl rfl rfl (one_cons rfl (one_cons rfl (one_cons rfl (one_cons rfl (one_cons rfl (one_cons (Arr.one ((SyD_rl (x := x) (SyD.fr0 hI H10.fr)))) (one_cons (Arr.one ((SyD_nt (x := x) (SyD.fr0 hI H10.fr)))) one_nil))))))) Fa.I26 (fun w11 H11 => ?_))
          refine WL.nil ?_
          refine WQ.next ?_
          refine WC.seq ?_
          refine WC.region ?_
          refine WL.op rfl rfl (op_fieldAddr rfl Fa.F26_5 ?_)
          refine WL.op rfl rfl (op_storeB (i := 5) H11 rfl rfl rfl rfl rfl Fa.I23 (fun w12 H12 => ?_))
          refine WL.nil ?_
          refine WQ.next ?_
          refine WC.seq ?_
          refine WC.seq ?_
          refine WC.region ?_
          refine WL.op rfl rfl (op_fieldAddr rfl Fa.F26_2 ?_)
          refine WL.op rfl rfl (op_load rfl (H12.cell (i := 0) rfl rfl) Tryd.underlying5 rfl ?_)
          refine WL.op rfl rfl (op_neqU8 (b := 2) rfl rfl ?_)
          refine WL.op rfl rfl (op_move rfl ?_)
          refine WL.split (t := 45) rfl (fun (hb13 : (decide (x.kind ≠ (2 : UInt8))) = true) => ?_) (fun (hb13 : (decide (x.kind ≠ (2 : UInt8))) = false) => ?_)
          ·
            have hc13 := of_decide_eq_true hb13
            refine WL.yes rfl rfl rfl hb13 rfl (op_fieldAddr rfl Fa.F26_2 ?_)
            refine WL.yes rfl rfl rfl hb13 rfl (op_load rfl (H12.cell (i := 0) rfl rfl) Tryd.underlying5 rfl ?_)
            refine WL.yes rfl rfl rfl hb13 rfl (op_neqU8 (b := 3) rfl rfl ?_)
            refine WL.op rfl rfl (op_pickT rfl hb13 rfl ?_)
            refine WL.op rfl rfl (op_move rfl ?_)
            refine WL.split (t := 50) rfl (fun (hb14 : (decide (x.kind ≠ (3 : UInt8))) = true) => ?_) (fun (hb14 : (decide (x.kind ≠ (3 : UInt8))) = false) => ?_)
            ·
              have hc14 := of_decide_eq_true hb14
              refine WL.no rfl rfl rfl hb14 rfl ?_
              refine WL.no rfl rfl rfl hb14 rfl ?_
              refine WL.no rfl rfl rfl hb14 rfl ?_
              refine WL.op rfl rfl (op_pickT rfl hb14 rfl ?_)
              refine WL.nil ?_
              refine WQ.next ?_
              refine WC.yes rfl rfl ?_
              refine WC.seq ?_
              refine WC.region ?_
              refine WL.op rfl rfl (op_loadS (vs := [_, _, _, _, _, _, _]) rfl (H12.cells (i := 4) rfl rfl) Tryd.underlying26 rfl Fa.I26 rfl ?_)
              refine WL.op rfl rfl (op_build (cs := [_, _, _, _, _, _, _]) Fa.I26 Fa.PL26 rfl rfl ?_)
              refine WL.op rfl rfl (op_callF Fa.C19 rfl ((samesy_ok y19261 (Sy.mk [] 0 0 0 [] (.slice none 0 0) [] (.slice none 0 0) []) _ (SyD_mk (x := y19261) (H12.arrR (i := 2) rfl) (H12.arrR (i := 3) rfl)) (SyD_mk (x := (Sy.mk [] 0 0 0 [] (.slice none 0 0) [] (.slice none 0 0) [])) (Arr.nil _ _) (Arr.nil _ _)) (dt_fit hc19261 (by first | omega | (show x.nt.length ≤ _; omega))).1 (dt_fit hc19261 (by first | omega | (show x.nt.length ≤ _; omega))).2).mono (fun e w15 hq => ?_)))
              obtain ⟨rfl, hf15⟩ := hq
              refine ⟨_, rfl, ?_⟩
              have H15 := H12.fr' hf15
              refine WL.op rfl rfl (op_move rfl ?_)
              refine WL.yes rfl rfl rfl (dt_zero hc19261 (dt_1 hb13 hb14)) rfl (op_move rfl ?_)
              refine WL.yes rfl rfl rfl (dt_zero hc19261 (dt_1 hb13 hb14)) rfl (op_eqlN (b := 2) rfl rfl ?_)
              refine WL.op rfl rfl (op_pickT rfl (dt_zero hc19261 (dt_1 hb13 hb14)) rfl ?_)
              refine WL.op rfl rfl (op_move rfl ?_)
              refine WL.yes rfl rfl rfl (decide_eq_true (dt_1 hb13 hb14)) rfl (op_callF Fa.C21 rfl ((alive10_ok _).mono (fun e w16 hq => ?_)))
              obtain ⟨rfl, hf16⟩ := hq
              refine ⟨_, rfl, ?_⟩
              have H16 := H15.fr' hf16
              refine WL.op rfl rfl (op_pickT rfl (decide_eq_true (dt_1 hb13 hb14)) rfl ?_)
              refine WL.op rfl rfl (op_assign rfl ?_)
              refine WL.nil ?_
              refine WQ.next ?_
              refine WC.ret ?_
              refine WQ.thenRet ?_
              refine WQ.out (.tmp rfl .nil) ?_
              exact ⟨rfl, H16.fr⟩
            ·
              have hc14 := of_decide_eq_false hb14
              refine WL.yes rfl rfl rfl hb14 rfl (op_loadS (vs := [_, _, _, _, _, _, _]) rfl (H12.cells (i := 5) rfl rfl) Tryd.underlying26 rfl Fa.I26 rfl ?_)
              refine WL.yes rfl rfl rfl hb14 rfl (op_callF Fa.C26 rfl ((rsym_ok (Sy.mk x.nm x.bind x.kind x.size x.b (.slice none 0 0) [] x.nv x.nt) _ (SyD_mk (x := (Sy.mk x.nm x.bind x.kind x.size x.b (.slice none 0 0) [] x.nv x.nt)) (Arr.nil _ _) ((SyD_nt (x := x) (SyD.fr0 hI H12.fr)))) (by show x.nm.length < _; omega) (by show x.b.length < _; omega) (fun y hy => by cases hy) (by show 0 < _; decide) (by show x.nt.length < _; omega)).mono (fun e w17 hq => ?_)))
              obtain ⟨rfl, hf17⟩ := hq
              refine ⟨_, rfl, ?_⟩
              have H17 := H12.fr' hf17
              refine WL.yes rfl rfl rfl hb14 rfl (op_not rfl ?_)
              refine WL.op rfl rfl (op_pickF rfl hb14 rfl ?_)
              refine WL.nil ?_
              refine WQ.next ?_
              refine WC.cond rfl (fun (hb18 : (!(symB (Sy.mk x.nm x.bind x.kind x.size x.b (.slice none 0 0) [] x.nv x.nt))) = true) => ?_) (fun (hb18 : (!(symB (Sy.mk x.nm x.bind x.kind x.size x.b (.slice none 0 0) [] x.nv x.nt))) = false) => ?_)
              ·
                have hn18 := (Bool.not_eq_true' _).mp hb18
                refine WC.seq ?_
                refine WC.region ?_
                refine WL.op rfl rfl (op_loadS (vs := [_, _, _, _, _, _, _]) rfl (H17.cells (i := 4) rfl rfl) Tryd.underlying26 rfl Fa.I26 rfl ?_)
                refine WL.op rfl rfl (op_build (cs := [_, _, _, _, _, _, _]) Fa.I26 Fa.PL26 rfl rfl ?_)
                refine WL.op rfl rfl (op_callF Fa.C19 rfl ((samesy_ok y19261 (Sy.mk [] 0 0 0 [] (.slice none 0 0) [] (.slice none 0 0) []) _ (SyD_mk (x := y19261) (H17.arrR (i := 2) rfl) (H17.arrR (i := 3) rfl)) (SyD_mk (x := (Sy.mk [] 0 0 0 [] (.slice none 0 0) [] (.slice none 0 0) [])) (Arr.nil _ _) (Arr.nil _ _)) (dt_fit hc19261 (by first | omega | (show x.nt.length ≤ _; omega))).1 (dt_fit hc19261 (by first | omega | (show x.nt.length ≤ _; omega))).2).mono (fun e w19 hq => ?_)))
                obtain ⟨rfl, hf19⟩ := hq
                refine ⟨_, rfl, ?_⟩
                have H19 := H17.fr' hf19
                refine WL.op rfl rfl (op_move rfl ?_)
                refine WL.yes rfl rfl rfl (dt_zero hc19261 (dt_2 hn18)) rfl (op_move rfl ?_)
                refine WL.yes rfl rfl rfl (dt_zero hc19261 (dt_2 hn18)) rfl (op_eqlN (b := 2) rfl rfl ?_)
                refine WL.op rfl rfl (op_pickT rfl (dt_zero hc19261 (dt_2 hn18)) rfl ?_)
                refine WL.op rfl rfl (op_move rfl ?_)
                refine WL.yes rfl rfl rfl (decide_eq_true (dt_2 hn18)) rfl (op_callF Fa.C21 rfl ((alive10_ok _).mono (fun e w20 hq => ?_)))
                obtain ⟨rfl, hf20⟩ := hq
                refine ⟨_, rfl, ?_⟩
                have H20 := H19.fr' hf20
                refine WL.op rfl rfl (op_pickT rfl (decide_eq_true (dt_2 hn18)) rfl ?_)
                refine WL.op rfl rfl (op_assign rfl ?_)
                refine WL.nil ?_
                refine WQ.next ?_
                refine WC.ret ?_
                refine WQ.thenRet ?_
                refine WQ.out (.tmp rfl .nil) ?_
                exact ⟨rfl, H20.fr⟩
              ·
                have hn18 := (Bool.not_eq_false' _).mp hb18
                refine WC.skip ?_
                refine WQ.next ?_
                refine WC.seq ?_
                refine WC.region ?_
                refine WL.op rfl rfl (op_loadS (vs := [_, _, _, _, _, _, _]) rfl (H17.cells (i := 4) rfl rfl) Tryd.underlying26 rfl Fa.I26 rfl ?_)
                refine WL.op rfl rfl (op_loadS (vs := [_, _, _, _, _, _, _]) rfl (H17.cells (i := 5) rfl rfl) Tryd.underlying26 rfl Fa.I26 rfl ?_)
                refine WL.op rfl rfl (op_callF Fa.C19 rfl ((samesy_ok y19261 (Sy.mk x.nm x.bind x.kind x.size x.b (.slice none 0 0) [] x.nv x.nt) _ (SyD_mk (x := y19261) (H17.arrR (i := 2) rfl) (H17.arrR (i := 3) rfl)) (SyD_mk (x := (Sy.mk x.nm x.bind x.kind x.size x.b (.slice none 0 0) [] x.nv x.nt)) (Arr.nil _ _) ((SyD_nt (x := x) (SyD.fr0 hI H17.fr)))) (dt_fit hc19261 (by first | omega | (show x.nt.length ≤ _; omega))).1 (dt_fit hc19261 (by first | omega | (show x.nt.length ≤ _; omega))).2).mono (fun e w21 hq => ?_)))
                obtain ⟨rfl, hf21⟩ := hq
                refine ⟨_, rfl, ?_⟩
                have H21 := H17.fr' hf21
                refine WL.op rfl rfl (op_move rfl ?_)
                refine WL.yes rfl rfl rfl (dt_same hc19261 (dt_0 (ki_3 hb14) hn18)) rfl (op_move rfl ?_)
                refine WL.yes rfl rfl rfl (dt_same hc19261 (dt_0 (ki_3 hb14) hn18)) rfl (op_eqlN (b := 0) rfl rfl ?_)
                refine WL.op rfl rfl (op_pickT rfl (dt_same hc19261 (dt_0 (ki_3 hb14) hn18)) rfl ?_)
                refine WL.op rfl rfl (op_move rfl ?_)
                refine WL.yes rfl rfl rfl (decide_eq_true (dt_0 (ki_3 hb14) hn18)) rfl (op_callF Fa.C21 rfl ((alive10_ok _).mono (fun e w22 hq => ?_)))
                obtain ⟨rfl, hf22⟩ := hq
                refine ⟨_, rfl, ?_⟩
                have H22 := H21.fr' hf22
                refine WL.op rfl rfl (op_pickT rfl (decide_eq_true (dt_0 (ki_3 hb14) hn18)) rfl ?_)
                refine WL.op rfl rfl (op_assign rfl ?_)
                refine WL.nil ?_
                refine WQ.next ?_
                refine WC.ret ?_
                refine WQ.out (.tmp rfl .nil) ?_
                exact ⟨rfl, H22.fr⟩
          ·
            have hc13 := of_decide_eq_false hb13
            refine WL.no rfl rfl rfl hb13 rfl ?_
            refine WL.no rfl rfl rfl hb13 rfl ?_
            refine WL.no rfl rfl rfl hb13 rfl ?_
            refine WL.op rfl rfl (op_pickF rfl hb13 rfl ?_)
            refine WL.op rfl rfl (op_move rfl ?_)
            refine WL.yes rfl rfl rfl rfl rfl (op_loadS (vs := [_, _, _, _, _, _, _]) rfl (H12.cells (i := 5) rfl rfl) Tryd.underlying26 rfl Fa.I26 rfl ?_)
            refine WL.yes rfl rfl rfl rfl rfl (op_callF Fa.C26 rfl ((rsym_ok (Sy.mk x.nm x.bind x.kind x.size x.b (.slice none 0 0) [] x.nv x.nt) _ (SyD_mk (x := (Sy.mk x.nm x.bind x.kind x.size x.b (.slice none 0 0) [] x.nv x.nt)) (Arr.nil _ _) ((SyD_nt (x := x) (SyD.fr0 hI H12.fr)))) (by show x.nm.length < _; omega) (by show x.b.length < _; omega) (fun y hy => by cases hy) (by show 0 < _; decide) (by show x.nt.length < _; omega)).mono (fun e w23 hq => ?_)))
            obtain ⟨rfl, hf23⟩ := hq
            refine ⟨_, rfl, ?_⟩
            have H23 := H12.fr' hf23
            refine WL.yes rfl rfl rfl rfl rfl (op_not rfl ?_)
            refine WL.op rfl rfl (op_pickF rfl rfl rfl ?_)
            refine WL.nil ?_
            refine WQ.next ?_
            refine WC.cond rfl (fun (hb24 : (!(symB (Sy.mk x.nm x.bind x.kind x.size x.b (.slice none 0 0) [] x.nv x.nt))) = true) => ?_) (fun (hb24 : (!(symB (Sy.mk x.nm x.bind x.kind x.size x.b (.slice none 0 0) [] x.nv x.nt))) = false) => ?_)
            ·
              have hn24 := (Bool.not_eq_true' _).mp hb24
              refine WC.seq ?_
              refine WC.region ?_
              refine WL.op rfl rfl (op_loadS (vs := [_, _, _, _, _, _, _]) rfl (H23.cells (i := 4) rfl rfl) Tryd.underlying26 rfl Fa.I26 rfl ?_)
              refine WL.op rfl rfl (op_build (cs := [_, _, _, _, _, _, _]) Fa.I26 Fa.PL26 rfl rfl ?_)
              refine WL.op rfl rfl (op_callF Fa.C19 rfl ((samesy_ok y19261 (Sy.mk [] 0 0 0 [] (.slice none 0 0) [] (.slice none 0 0) []) _ (SyD_mk (x := y19261) (H23.arrR (i := 2) rfl) (H23.arrR (i := 3) rfl)) (SyD_mk (x := (Sy.mk [] 0 0 0 [] (.slice none 0 0) [] (.slice none 0 0) [])) (Arr.nil _ _) (Arr.nil _ _)) (dt_fit hc19261 (by first | omega | (show x.nt.length ≤ _; omega))).1 (dt_fit hc19261 (by first | omega | (show x.nt.length ≤ _; omega))).2).mono (fun e w25 hq => ?_)))
              obtain ⟨rfl, hf25⟩ := hq
              refine ⟨_, rfl, ?_⟩
              have H25 := H23.fr' hf25
              refine WL.op rfl rfl (op_move rfl ?_)
              refine WL.yes rfl rfl rfl (dt_zero hc19261 (dt_2 hn24)) rfl (op_move rfl ?_)
              refine WL.yes rfl rfl rfl (dt_zero hc19261 (dt_2 hn24)) rfl (op_eqlN (b := 2) rfl rfl ?_)
              refine WL.op rfl rfl (op_pickT rfl (dt_zero hc19261 (dt_2 hn24)) rfl ?_)
              refine WL.op rfl rfl (op_move rfl ?_)
              refine WL.yes rfl rfl rfl (decide_eq_true (dt_2 hn24)) rfl (op_callF Fa.C21 rfl ((alive10_ok _).mono (fun e w26 hq => ?_)))
              obtain ⟨rfl, hf26⟩ := hq
              refine ⟨_, rfl, ?_⟩
              have H26 := H25.fr' hf26
              refine WL.op rfl rfl (op_pickT rfl (decide_eq_true (dt_2 hn24)) rfl ?_)
              refine WL.op rfl rfl (op_assign rfl ?_)
              refine WL.nil ?_
              refine WQ.next ?_
              refine WC.ret ?_
              refine WQ.thenRet ?_
              refine WQ.out (.tmp rfl .nil) ?_
              exact ⟨rfl, H26.fr⟩
            ·
              have hn24 := (Bool.not_eq_false' _).mp hb24
              refine WC.skip ?_
              refine WQ.next ?_
              refine WC.seq ?_
              refine WC.region ?_
              refine WL.op rfl rfl (op_loadS (vs := [_, _, _, _, _, _, _]) rfl (H23.cells (i := 4) rfl rfl) Tryd.underlying26 rfl Fa.I26 rfl ?_)
              refine WL.op rfl rfl (op_loadS (vs := [_, _, _, _, _, _, _]) rfl (H23.cells (i := 5) rfl rfl) Tryd.underlying26 rfl Fa.I26 rfl ?_)
              refine WL.op rfl rfl (op_callF Fa.C19 rfl ((samesy_ok y19261 (Sy.mk x.nm x.bind x.kind x.size x.b (.slice none 0 0) [] x.nv x.nt) _ (SyD_mk (x := y19261) (H23.arrR (i := 2) rfl) (H23.arrR (i := 3) rfl)) (SyD_mk (x := (Sy.mk x.nm x.bind x.kind x.size x.b (.slice none 0 0) [] x.nv x.nt)) (Arr.nil _ _) ((SyD_nt (x := x) (SyD.fr0 hI H23.fr)))) (dt_fit hc19261 (by first | omega | (show x.nt.length ≤ _; omega))).1 (dt_fit hc19261 (by first | omega | (show x.nt.length ≤ _; omega))).2).mono (fun e w27 hq => ?_)))
              obtain ⟨rfl, hf27⟩ := hq
              refine ⟨_, rfl, ?_⟩
              have H27 := H23.fr' hf27
              refine WL.op rfl rfl (op_move rfl ?_)
              refine WL.yes rfl rfl rfl (dt_same hc19261 (dt_0 (ki_2 hb13) hn24)) rfl (op_move rfl ?_)
              refine WL.yes rfl rfl rfl (dt_same hc19261 (dt_0 (ki_2 hb13) hn24)) rfl (op_eqlN (b := 0) rfl rfl ?_)
              refine WL.op rfl rfl (op_pickT rfl (dt_same hc19261 (dt_0 (ki_2 hb13) hn24)) rfl ?_)
              refine WL.op rfl rfl (op_move rfl ?_)
              refine WL.yes rfl rfl rfl (decide_eq_true (dt_0 (ki_2 hb13) hn24)) rfl (op_callF Fa.C21 rfl ((alive10_ok _).mono (fun e w28 hq => ?_)))
              obtain ⟨rfl, hf28⟩ := hq
              refine ⟨_, rfl, ?_⟩
              have H28 := H27.fr' hf28
              refine WL.op rfl rfl (op_pickT rfl (decide_eq_true (dt_0 (ki_2 hb13) hn24)) rfl ?_)
              refine WL.op rfl rfl (op_assign rfl ?_)
              refine WL.nil ?_
              refine WQ.next ?_
              refine WC.ret ?_
              refine WQ.out (.tmp rfl .nil) ?_
              exact ⟨rfl, H28.fr⟩
        have st3_5 : ∀ (b19341 : Nat) (y19261 : Sy) (v19241 : Value) (hc19261 : y19261.bare = dtS x.nm x.bind x.kind x.size x.b ([] ++ x.nt)) (wS : World), Own [] w wS [.blk b1 [(str x.nm), (vU8 x.bind), (vU8 x.kind), (vU32 x.size), (str x.b), x.rv, x.nv] 26, .row v19241 68 3 (0 + x.nt.length) (List.flatMap ntc ([] ++ x.nt)), .row y19261.rv 44 4 y19261.rl.length (List.flatMap rlc y19261.rl), .row y19261.nv 68 3 y19261.nt.length (List.flatMap ntc y19261.nt), .blk b19341 [(str []), (vU8 0), (vU8 0), (vU32 0), (str []), (.slice none 0 0), (.slice none 0 0)] 26] → W 2 #[true, true, true, true, true, true, true, true, true, true, true, true, true, true, true, true, true, true, false, false] [(0, (.agg #[(str x.nm), (vU8 x.bind), (vU8 x.kind), (vU32 x.size), (str x.b), x.rv, x.nv])), (1, (ptr b1 0)), (2, (.bool false)), (3, (ptr b19341 0)), (6, (ptr b1 4)), (7, (str x.b)), (8, (vN x.b.length)), (9, (.bool (decide (x.b.length > 16384)))), (10, (.bool (decide (x.b.length > 16384)))), (11, (ptr b1 6)), (12, x.nv), (13, (vN x.nt.length)), (14, (.bool (decide (x.nt.length > 100)))), (15, (.bool (decide (x.nt.length > 100)))), (16, (.bool (decide (x.nt.length > 100)))), (17, (ptr b1 0)), (18, (str x.nm)), (19, (vN x.nm.length)), (20, (.bool (decide (x.nm.length > 1024)))), (21, (.bool (decide (x.nm.length > 1024)))), (23, (.tuple #[(.agg #[(str y19261.nm), (vU8 y19261.bind), (vU8 y19261.kind), (vU32 y19261.size), (str y19261.b), y19261.rv, y19261.nv]), (vN (dtE x.nm x.bind x.kind x.size x.b ([] ++ x.nt)))])), (24, (ptr b1 0)), (25, (str x.nm)), (26, (ptr b1 1)), (27, (vU8 x.bind)), (28, (ptr b1 2)), (29, (vU8 x.kind)), (30, (ptr b1 3)), (31, (vU32 x.size)), (32, (ptr b1 4)), (33, (str x.b)), (34, (ptr b1 6)), (35, x.nv), (36, v19241), (37, (.tuple #[(.agg #[(str y19261.nm), (vU8 y19261.bind), (vU8 y19261.kind), (vU32 y19261.size), (str y19261.b), y19261.rv, y19261.nv]), (vN (dtE x.nm x.bind x.kind x.size x.b ([] ++ x.nt)))])), (38, (.agg #[(str y19261.nm), (vU8 y19261.bind), (vU8 y19261.kind), (vU32 y19261.size), (str y19261.b), y19261.rv, y19261.nv])), (39, (vN (dtE x.nm x.bind x.kind x.size x.b ([] ++ x.nt))))] wS := by
          intro b19341 y19261 v19241 hc19261 wS HS
          rw [hW]
          refine WH.all1 (i := 18) (by kernel_rfl) ?_
          ·
            refine WHS.op (i := 18) rfl (.inl rfl) rfl (op_storeBW (i := 4) HS rfl rfl rfl rfl (one_cons rfl (one_cons rfl (one_cons rfl (one_cons rfl (one_cons rfl (one_cons (Arr.one (HS.arrR (i := 2) rfl)) (one_cons (Arr.one (HS.arrR (i := 3) rfl)) one_nil))))))) Fa.I26 (fun w19361 H19361 => ?_))
            refine ⟨⟨[.row v19241 68 3 (0 + x.nt.length) (List.flatMap ntc ([] ++ x.nt)), .row y19261.rv 44 4 y19261.rl.length (List.flatMap rlc y19261.rl), .row y19261.nv 68 3 y19261.nt.length (List.flatMap ntc y19261.nt), .blk b19341 [(str y19261.nm), (vU8 y19261.bind), (vU8 y19261.kind), (vU32 y19261.size), (str y19261.b), y19261.rv, y19261.nv] 26], H19361⟩, ?_⟩
            refine WH.take (i := 19) (v := (vN (dtE x.nm x.bind x.kind x.size x.b ([] ++ x.nt)))) rfl rfl (.inl rfl) rfl (by kernel_rfl) ⟨[.row v19241 68 3 (0 + x.nt.length) (List.flatMap ntc ([] ++ x.nt)), .row y19261.rv 44 4 y19261.rl.length (List.flatMap rlc y19261.rl), .row y19261.nv 68 3 y19261.nt.length (List.flatMap ntc y19261.nt), .blk b19341 [(str y19261.nm), (vU8 y19261.bind), (vU8 y19261.kind), (vU32 y19261.size), (str y19261.b), y19261.rv, y19261.nv] 26], H19361⟩ (fun w1 hS1 => hS1.elim fun L1 H1 => op_assign rfl ⟨rfl, rfl⟩) ?_
            have hq := st3_6 b19341 y19261 v19241 hc19261 w19361 H19361
            rw [hW] at hq
            refine WH.cov ?_ hq
            exact by repeat (first | exact trivial | refine ⟨rfl, ?_⟩)
        have st3_3 : ∀ (y19261 : Sy) (v19241 : Value) (hc19261 : y19261.bare = dtS x.nm x.bind x.kind x.size x.b ([] ++ x.nt)) (wS : World), Own [] w wS [.blk b1 [(str x.nm), (vU8 x.bind), (vU8 x.kind), (vU32 x.size), (str x.b), x.rv, x.nv] 26, .row v19241 68 3 (0 + x.nt.length) (List.flatMap ntc ([] ++ x.nt)), .row y19261.rv 44 4 y19261.rl.length (List.flatMap rlc y19261.rl), .row y19261.nv 68 3 y19261.nt.length (List.flatMap ntc y19261.nt)] → W 3 #[true, true, true, true, true, true, true, true, true, true, true, true, true, true, true, true, true, false, false, false] [(0, (.agg #[(str x.nm), (vU8 x.bind), (vU8 x.kind), (vU32 x.size), (str x.b), x.rv, x.nv])), (1, (ptr b1 0)), (2, (.bool false)), (6, (ptr b1 4)), (7, (str x.b)), (8, (vN x.b.length)), (9, (.bool (decide (x.b.length > 16384)))), (10, (.bool (decide (x.b.length > 16384)))), (11, (ptr b1 6)), (12, x.nv), (13, (vN x.nt.length)), (14, (.bool (decide (x.nt.length > 100)))), (15, (.bool (decide (x.nt.length > 100)))), (16, (.bool (decide (x.nt.length > 100)))), (17, (ptr b1 0)), (18, (str x.nm)), (19, (vN x.nm.length)), (20, (.bool (decide (x.nm.length > 1024)))), (21, (.bool (decide (x.nm.length > 1024)))), (23, (.tuple #[(.agg #[(str y19261.nm), (vU8 y19261.bind), (vU8 y19261.kind), (vU32 y19261.size), (str y19261.b), y19261.rv, y19261.nv]), (vN (dtE x.nm x.bind x.kind x.size x.b ([] ++ x.nt)))])), (24, (ptr b1 0)), (25, (str x.nm)), (26, (ptr b1 1)), (27, (vU8 x.bind)), (28, (ptr b1 2)), (29, (vU8 x.kind)), (30, (ptr b1 3)), (31, (vU32 x.size)), (32, (ptr b1 4)), (33, (str x.b)), (34, (ptr b1 6)), (35, x.nv), (36, v19241), (37, (.tuple #[(.agg #[(str y19261.nm), (vU8 y19261.bind), (vU8 y19261.kind), (vU32 y19261.size), (str y19261.b), y19261.rv, y19261.nv]), (vN (dtE x.nm x.bind x.kind x.size x.b ([] ++ x.nt)))])), (38, (.agg #[(str y19261.nm), (vU8 y19261.bind), (vU8 y19261.kind), (vU32 y19261.size), (str y19261.b), y19261.rv, y19261.nv])), (39, (vN (dtE x.nm x.bind x.kind x.size x.b ([] ++ x.nt))))] wS := by
          intro y19261 v19241 hc19261 wS HS
          rw [hW]
          refine WH.all1 (i := 17) (by kernel_rfl) ?_
          ·
            refine WHS.op (i := 17) rfl (.inl rfl) rfl (op_alloc HS Fa.I26 (fun b19341 w19341 H19341 => ?_))
            refine ⟨⟨[.row v19241 68 3 (0 + x.nt.length) (List.flatMap ntc ([] ++ x.nt)), .row y19261.rv 44 4 y19261.rl.length (List.flatMap rlc y19261.rl), .row y19261.nv 68 3 y19261.nt.length (List.flatMap ntc y19261.nt), .blk b19341 [(str []), (vU8 0), (vU8 0), (vU32 0), (str []), (.slice none 0 0), (.slice none 0 0)] 26], H19341⟩, ?_⟩
            have hq := st3_5 b19341 y19261 v19241 hc19261 w19341 H19341
            rw [hW] at hq
            refine WH.cov ?_ hq
            exact by repeat (first | exact trivial | refine ⟨rfl, ?_⟩)
        have st3_4 : ∀ (b19341 : Nat) (v19241 : Value) (wS : World), Own [] w wS [.blk b1 [(str x.nm), (vU8 x.bind), (vU8 x.kind), (vU32 x.size), (str x.b), x.rv, x.nv] 26, .row v19241 68 3 (0 + x.nt.length) (List.flatMap ntc ([] ++ x.nt)), .blk b19341 [(str []), (vU8 0), (vU8 0), (vU32 0), (str []), (.slice none 0 0), (.slice none 0 0)] 26] → W 6 #[true, true, true, true, true, true, true, true, true, true, true, true, true, false, false, false, false, true, false, false] [(0, (.agg #[(str x.nm), (vU8 x.bind), (vU8 x.kind), (vU32 x.size), (str x.b), x.rv, x.nv])), (1, (ptr b1 0)), (2, (.bool false)), (3, (ptr b19341 0)), (6, (ptr b1 4)), (7, (str x.b)), (8, (vN x.b.length)), (9, (.bool (decide (x.b.length > 16384)))), (10, (.bool (decide (x.b.length > 16384)))), (11, (ptr b1 6)), (12, x.nv), (13, (vN x.nt.length)), (14, (.bool (decide (x.nt.length > 100)))), (15, (.bool (decide (x.nt.length > 100)))), (16, (.bool (decide (x.nt.length > 100)))), (17, (ptr b1 0)), (18, (str x.nm)), (19, (vN x.nm.length)), (20, (.bool (decide (x.nm.length > 1024)))), (21, (.bool (decide (x.nm.length > 1024)))), (24, (ptr b1 0)), (25, (str x.nm)), (26, (ptr b1 1)), (27, (vU8 x.bind)), (28, (ptr b1 2)), (29, (vU8 x.kind)), (30, (ptr b1 3)), (31, (vU32 x.size)), (32, (ptr b1 4)), (33, (str x.b)), (34, (ptr b1 6)), (35, x.nv), (36, v19241)] wS := by
          intro b19341 v19241 wS HS
          rw [hW]
          refine WH.all1 (i := 13) (by kernel_rfl) ?_
          ·
            refine WHS.op (i := 13) rfl (.inl rfl) rfl (op_callF Fa.C25 rfl ((data_ok x.nm x.bind x.kind x.size x.b _ ([] ++ x.nt) _ (Arr.lenF ((HS.arrR (i := 1) rfl)) (fun _ => rfl) (by decide)) (by omega) (by omega) (by first | omega | (show x.nt.length < _; omega))).mono (fun e w19261 hq => ?_)))
            obtain ⟨y19261, rfl, hc19261, hq19261⟩ := hq
            refine ⟨_, rfl, ?_⟩
            have H19261 : Own [] w w19261 [.blk b1 [(str x.nm), (vU8 x.bind), (vU8 x.kind), (vU32 x.size), (str x.b), x.rv, x.nv] 26, .row v19241 68 3 (0 + x.nt.length) (List.flatMap ntc ([] ++ x.nt)), .blk b19341 [(str []), (vU8 0), (vU8 0), (vU32 0), (str []), (.slice none 0 0), (.slice none 0 0)] 26, .row y19261.rv 44 4 y19261.rl.length (List.flatMap rlc y19261.rl), .row y19261.nv 68 3 y19261.nt.length (List.flatMap ntc y19261.nt)] := HS.splice [] [] [.row y19261.rv 44 4 y19261.rl.length (List.flatMap rlc y19261.rl), .row y19261.nv 68 3 y19261.nt.length (List.flatMap ntc y19261.nt)] rfl rfl hq19261 (Fits.solid True.intro (Fits.solid True.intro Fits.nil))
            refine ⟨⟨[.row v19241 68 3 (0 + x.nt.length) (List.flatMap ntc ([] ++ x.nt)), .blk b19341 [(str []), (vU8 0), (vU8 0), (vU32 0), (str []), (.slice none 0 0), (.slice none 0 0)] 26, .row y19261.rv 44 4 y19261.rl.length (List.flatMap rlc y19261.rl), .row y19261.nv 68 3 y19261.nt.length (List.flatMap ntc y19261.nt)], H19261⟩, ?_⟩
            refine WH.take (i := 14) (v := (.tuple #[(.agg #[(str y19261.nm), (vU8 y19261.bind), (vU8 y19261.kind), (vU32 y19261.size), (str y19261.b), y19261.rv, y19261.nv]), (vN (dtE x.nm x.bind x.kind x.size x.b ([] ++ x.nt)))])) rfl rfl (.inl rfl) rfl (by kernel_rfl) ⟨[.row v19241 68 3 (0 + x.nt.length) (List.flatMap ntc ([] ++ x.nt)), .blk b19341 [(str []), (vU8 0), (vU8 0), (vU32 0), (str []), (.slice none 0 0), (.slice none 0 0)] 26, .row y19261.rv 44 4 y19261.rl.length (List.flatMap rlc y19261.rl), .row y19261.nv 68 3 y19261.nt.length (List.flatMap ntc y19261.nt)], H19261⟩ (fun w1 hS1 => hS1.elim fun L1 H1 => op_move rfl ⟨rfl, rfl⟩) ?_
            refine WH.take (i := 15) (v := (.agg #[(str y19261.nm), (vU8 y19261.bind), (vU8 y19261.kind), (vU32 y19261.size), (str y19261.b), y19261.rv, y19261.nv])) rfl rfl (.inl rfl) rfl (by kernel_rfl) ⟨[.row v19241 68 3 (0 + x.nt.length) (List.flatMap ntc ([] ++ x.nt)), .blk b19341 [(str []), (vU8 0), (vU8 0), (vU32 0), (str []), (.slice none 0 0), (.slice none 0 0)] 26, .row y19261.rv 44 4 y19261.rl.length (List.flatMap rlc y19261.rl), .row y19261.nv 68 3 y19261.nt.length (List.flatMap ntc y19261.nt)], H19261⟩ (fun w1 hS1 => hS1.elim fun L1 H1 => op_extract rfl rfl ⟨rfl, rfl⟩) ?_
            refine WH.take (i := 16) (v := (vN (dtE x.nm x.bind x.kind x.size x.b ([] ++ x.nt)))) rfl rfl (.inl rfl) rfl (by kernel_rfl) ⟨[.row v19241 68 3 (0 + x.nt.length) (List.flatMap ntc ([] ++ x.nt)), .blk b19341 [(str []), (vU8 0), (vU8 0), (vU32 0), (str []), (.slice none 0 0), (.slice none 0 0)] 26, .row y19261.rv 44 4 y19261.rl.length (List.flatMap rlc y19261.rl), .row y19261.nv 68 3 y19261.nt.length (List.flatMap ntc y19261.nt)], H19261⟩ (fun w1 hS1 => hS1.elim fun L1 H1 => op_extract rfl rfl ⟨rfl, rfl⟩) ?_
            have hq := st3_5 b19341 y19261 v19241 hc19261 w19261 (H19261.sel [0, 1, 3, 4, 2] rfl rfl)
            rw [hW] at hq
            refine WH.cov ?_ hq
            exact by repeat (first | exact trivial | refine ⟨rfl, ?_⟩)
        have st3_1 : ∀ (v19241 : Value) (wS : World), Own [] w wS [.blk b1 [(str x.nm), (vU8 x.bind), (vU8 x.kind), (vU32 x.size), (str x.b), x.rv, x.nv] 26, .row v19241 68 3 (0 + x.nt.length) (List.flatMap ntc ([] ++ x.nt))] → W 7 #[true, true, true, true, true, true, true, true, true, true, true, true, true, false, false, false, false, false, false, false] [(0, (.agg #[(str x.nm), (vU8 x.bind), (vU8 x.kind), (vU32 x.size), (str x.b), x.rv, x.nv])), (1, (ptr b1 0)), (2, (.bool false)), (6, (ptr b1 4)), (7, (str x.b)), (8, (vN x.b.length)), (9, (.bool (decide (x.b.length > 16384)))), (10, (.bool (decide (x.b.length > 16384)))), (11, (ptr b1 6)), (12, x.nv), (13, (vN x.nt.length)), (14, (.bool (decide (x.nt.length > 100)))), (15, (.bool (decide (x.nt.length > 100)))), (16, (.bool (decide (x.nt.length > 100)))), (17, (ptr b1 0)), (18, (str x.nm)), (19, (vN x.nm.length)), (20, (.bool (decide (x.nm.length > 1024)))), (21, (.bool (decide (x.nm.length > 1024)))), (24, (ptr b1 0)), (25, (str x.nm)), (26, (ptr b1 1)), (27, (vU8 x.bind)), (28, (ptr b1 2)), (29, (vU8 x.kind)), (30, (ptr b1 3)), (31, (vU32 x.size)), (32, (ptr b1 4)), (33, (str x.b)), (34, (ptr b1 6)), (35, x.nv), (36, v19241)] wS := by
          intro v19241 wS HS
          rw [hW]
          refine WH.all2 (i := 13) (j := 17) (by kernel_rfl) ?_ ?_
          ·
            refine WHS.op (i := 13) rfl (.inl rfl) rfl (op_callF Fa.C25 rfl ((data_ok x.nm x.bind x.kind x.size x.b _ ([] ++ x.nt) _ (Arr.lenF ((HS.arrR (i := 1) rfl)) (fun _ => rfl) (by decide)) (by omega) (by omega) (by first | omega | (show x.nt.length < _; omega))).mono (fun e w19261 hq => ?_)))
            obtain ⟨y19261, rfl, hc19261, hq19261⟩ := hq
            refine ⟨_, rfl, ?_⟩
            have H19261 : Own [] w w19261 [.blk b1 [(str x.nm), (vU8 x.bind), (vU8 x.kind), (vU32 x.size), (str x.b), x.rv, x.nv] 26, .row v19241 68 3 (0 + x.nt.length) (List.flatMap ntc ([] ++ x.nt)), .row y19261.rv 44 4 y19261.rl.length (List.flatMap rlc y19261.rl), .row y19261.nv 68 3 y19261.nt.length (List.flatMap ntc y19261.nt)] := HS.splice [] [] [.row y19261.rv 44 4 y19261.rl.length (List.flatMap rlc y19261.rl), .row y19261.nv 68 3 y19261.nt.length (List.flatMap ntc y19261.nt)] rfl rfl hq19261 (Fits.solid True.intro (Fits.solid True.intro Fits.nil))
            refine ⟨⟨[.row v19241 68 3 (0 + x.nt.length) (List.flatMap ntc ([] ++ x.nt)), .row y19261.rv 44 4 y19261.rl.length (List.flatMap rlc y19261.rl), .row y19261.nv 68 3 y19261.nt.length (List.flatMap ntc y19261.nt)], H19261⟩, ?_⟩
            refine WH.take (i := 14) (v := (.tuple #[(.agg #[(str y19261.nm), (vU8 y19261.bind), (vU8 y19261.kind), (vU32 y19261.size), (str y19261.b), y19261.rv, y19261.nv]), (vN (dtE x.nm x.bind x.kind x.size x.b ([] ++ x.nt)))])) rfl rfl (.inl rfl) rfl (by kernel_rfl) ⟨[.row v19241 68 3 (0 + x.nt.length) (List.flatMap ntc ([] ++ x.nt)), .row y19261.rv 44 4 y19261.rl.length (List.flatMap rlc y19261.rl), .row y19261.nv 68 3 y19261.nt.length (List.flatMap ntc y19261.nt)], H19261⟩ (fun w1 hS1 => hS1.elim fun L1 H1 => op_move rfl ⟨rfl, rfl⟩) ?_
            refine WH.take (i := 15) (v := (.agg #[(str y19261.nm), (vU8 y19261.bind), (vU8 y19261.kind), (vU32 y19261.size), (str y19261.b), y19261.rv, y19261.nv])) rfl rfl (.inl rfl) rfl (by kernel_rfl) ⟨[.row v19241 68 3 (0 + x.nt.length) (List.flatMap ntc ([] ++ x.nt)), .row y19261.rv 44 4 y19261.rl.length (List.flatMap rlc y19261.rl), .row y19261.nv 68 3 y19261.nt.length (List.flatMap ntc y19261.nt)], H19261⟩ (fun w1 hS1 => hS1.elim fun L1 H1 => op_extract rfl rfl ⟨rfl, rfl⟩) ?_
            refine WH.take (i := 16) (v := (vN (dtE x.nm x.bind x.kind x.size x.b ([] ++ x.nt)))) rfl rfl (.inl rfl) rfl (by kernel_rfl) ⟨[.row v19241 68 3 (0 + x.nt.length) (List.flatMap ntc ([] ++ x.nt)), .row y19261.rv 44 4 y19261.rl.length (List.flatMap rlc y19261.rl), .row y19261.nv 68 3 y19261.nt.length (List.flatMap ntc y19261.nt)], H19261⟩ (fun w1 hS1 => hS1.elim fun L1 H1 => op_extract rfl rfl ⟨rfl, rfl⟩) ?_
            have hq := st3_3 y19261 v19241 hc19261 w19261 H19261
            rw [hW] at hq
            refine WH.cov ?_ hq
            exact by repeat (first | exact trivial | refine ⟨rfl, ?_⟩)
          ·
            refine WHS.op (i := 17) rfl (.inl rfl) rfl (op_alloc HS Fa.I26 (fun b19341 w19341 H19341 => ?_))
            refine ⟨⟨[.row v19241 68 3 (0 + x.nt.length) (List.flatMap ntc ([] ++ x.nt)), .blk b19341 [(str []), (vU8 0), (vU8 0), (vU32 0), (str []), (.slice none 0 0), (.slice none 0 0)] 26], H19341⟩, ?_⟩
            have hq := st3_4 b19341 v19241 w19341 H19341
            rw [hW] at hq
            refine WH.cov ?_ hq
            exact by repeat (first | exact trivial | refine ⟨rfl, ?_⟩)
        have st3_2 : ∀ (b19341 : Nat) (wS : World), Own [] w wS [.blk b1 [(str x.nm), (vU8 x.bind), (vU8 x.kind), (vU32 x.size), (str x.b), x.rv, x.nv] 26, .blk b19341 [(str []), (vU8 0), (vU8 0), (vU32 0), (str []), (.slice none 0 0), (.slice none 0 0)] 26] → W 7 #[true, true, true, true, true, true, true, true, true, true, true, true, false, false, false, false, false, true, false, false] [(0, (.agg #[(str x.nm), (vU8 x.bind), (vU8 x.kind), (vU32 x.size), (str x.b), x.rv, x.nv])), (1, (ptr b1 0)), (2, (.bool false)), (3, (ptr b19341 0)), (6, (ptr b1 4)), (7, (str x.b)), (8, (vN x.b.length)), (9, (.bool (decide (x.b.length > 16384)))), (10, (.bool (decide (x.b.length > 16384)))), (11, (ptr b1 6)), (12, x.nv), (13, (vN x.nt.length)), (14, (.bool (decide (x.nt.length > 100)))), (15, (.bool (decide (x.nt.length > 100)))), (16, (.bool (decide (x.nt.length > 100)))), (17, (ptr b1 0)), (18, (str x.nm)), (19, (vN x.nm.length)), (20, (.bool (decide (x.nm.length > 1024)))), (21, (.bool (decide (x.nm.length > 1024)))), (24, (ptr b1 0)), (25, (str x.nm)), (26, (ptr b1 1)), (27, (vU8 x.bind)), (28, (ptr b1 2)), (29, (vU8 x.kind)), (30, (ptr b1 3)), (31, (vU32 x.size)), (32, (ptr b1 4)), (33, (str x.b)), (34, (ptr b1 6)), (35, x.nv)] wS := by
          intro b19341 wS HS
          rw [hW]
          refine WH.all1 (i := 12) (by kernel_rfl) ?_
          ·
            have H19242 := HS.nilRow 68 3
            refine WHS.op (i := 12) rfl (.inl rfl) rfl (op_appendF (f := ntc) (l := []) (l' := x.nt) (i := 2) H19242 Tryd.underlying24 Fa.I68 rfl rfl rfl rfl (Src.ofArr Tryd.underlying24 ((SyD_nt (x := x) (SyD.fr0 hI H19242.fr)))) (one_flat (fun _ => by simp [ntc, Value.oneCell'])) (by omega) (by omega) (fun v19241 w19241 H19241 => ?_))
            refine ⟨⟨[.blk b19341 [(str []), (vU8 0), (vU8 0), (vU32 0), (str []), (.slice none 0 0), (.slice none 0 0)] 26, .row v19241 68 3 (0 + x.nt.length) (List.flatMap ntc ([] ++ x.nt))], H19241⟩, ?_⟩
            have hq := st3_4 b19341 v19241 w19241 (H19241.sel [0, 2, 1] rfl rfl)
            rw [hW] at hq
            refine WH.cov ?_ hq
            exact by repeat (first | exact trivial | refine ⟨rfl, ?_⟩)
        have st3_0 : ∀ (wS : World), Own [] w wS [.blk b1 [(str x.nm), (vU8 x.bind), (vU8 x.kind), (vU32 x.size), (str x.b), x.rv, x.nv] 26] → W 8 #[true, true, true, true, true, true, true, true, true, true, true, true, false, false, false, false, false, false, false, false] [(0, (.agg #[(str x.nm), (vU8 x.bind), (vU8 x.kind), (vU32 x.size), (str x.b), x.rv, x.nv])), (1, (ptr b1 0)), (2, (.bool false)), (6, (ptr b1 4)), (7, (str x.b)), (8, (vN x.b.length)), (9, (.bool (decide (x.b.length > 16384)))), (10, (.bool (decide (x.b.length > 16384)))), (11, (ptr b1 6)), (12, x.nv), (13, (vN x.nt.length)), (14, (.bool (decide (x.nt.length > 100)))), (15, (.bool (decide (x.nt.length > 100)))), (16, (.bool (decide (x.nt.length > 100)))), (17, (ptr b1 0)), (18, (str x.nm)), (19, (vN x.nm.length)), (20, (.bool (decide (x.nm.length > 1024)))), (21, (.bool (decide (x.nm.length > 1024)))), (24, (ptr b1 0)), (25, (str x.nm)), (26, (ptr b1 1)), (27, (vU8 x.bind)), (28, (ptr b1 2)), (29, (vU8 x.kind)), (30, (ptr b1 3)), (31, (vU32 x.size)), (32, (ptr b1 4)), (33, (str x.b)), (34, (ptr b1 6)), (35, x.nv)] wS := by
          intro wS HS
          rw [hW]
          refine WH.all2 (i := 12) (j := 17) (by kernel_rfl) ?_ ?_
          ·
            have H19242 := HS.nilRow 68 3
            refine WHS.op (i := 12) rfl (.inl rfl) rfl (op_appendF (f := ntc) (l := []) (l' := x.nt) (i := 1) H19242 Tryd.underlying24 Fa.I68 rfl rfl rfl rfl (Src.ofArr Tryd.underlying24 ((SyD_nt (x := x) (SyD.fr0 hI H19242.fr)))) (one_flat (fun _ => by simp [ntc, Value.oneCell'])) (by omega) (by omega) (fun v19241 w19241 H19241 => ?_))
            refine ⟨⟨[.row v19241 68 3 (0 + x.nt.length) (List.flatMap ntc ([] ++ x.nt))], H19241⟩, ?_⟩
            have hq := st3_1 v19241 w19241 H19241
            rw [hW] at hq
            refine WH.cov ?_ hq
            exact by repeat (first | exact trivial | refine ⟨rfl, ?_⟩)
          ·
            refine WHS.op (i := 17) rfl (.inl rfl) rfl (op_alloc HS Fa.I26 (fun b19341 w19341 H19341 => ?_))
            refine ⟨⟨[.blk b19341 [(str []), (vU8 0), (vU8 0), (vU32 0), (str []), (.slice none 0 0), (.slice none 0 0)] 26], H19341⟩, ?_⟩
            have hq := st3_2 b19341 w19341 H19341
            rw [hW] at hq
            refine WH.cov ?_ hq
            exact by repeat (first | exact trivial | refine ⟨rfl, ?_⟩)
        have hq := st3_0 w8 H8
        rw [hW] at hq ⊢
        refine WH.cov ?_ hq
        exact by repeat (first | exact trivial | refine ⟨rfl, ?_⟩)
end Go.Proofs.YtnngbnenekjffaaDoor
