import Derived.Test.YtfdlkkhhakjgeaaWInsn
import Derived.Test.YtfdlkkhhakjgeaaLawInsn
namespace Go.Proofs.Ytfdlkkhhakjgeaa
open Go.Owl Go.Spec
set_option maxRecDepth 100000 in
theorem alive04_ok  (w : World) :
    Calls Try.prog 15 #[] w (fun e w' => e = .returned (.bool true) ∧ Fr [] w w') := by
  refine enter (args := []) Try.func15 rfl rfl ?_
  have H0 : Own [] w w [] := Own.start w []
  refine WC.seq ?_
  refine WC.region ?_
  refine WL.op rfl rfl (op_assign rfl ?_)
  refine WL.nil ?_
  refine WQ.next ?_
  refine WC.seq ?_
  refine WC.region ?_
  refine WL.op rfl rfl (op_build (cs := [_, _, _, _, _]) Fa.I24 Fa.PL24 rfl rfl ?_)
  refine WL.op rfl rfl (op_callF Fa.C13 rfl ((encode_ok 1 1 2 3 0 _).mono (fun e w1 hq => ?_)))
  obtain ⟨rfl, hf1⟩ := hq
  refine ⟨_, rfl, ?_⟩
  have H1 := H0.fr' hf1
  refine WL.op rfl rfl (op_move rfl ?_)
  refine WL.op rfl rfl (op_extract rfl rfl ?_)
  refine WL.op rfl rfl (op_extract rfl rfl ?_)
  refine WL.op rfl rfl (op_assign rfl ?_)
  refine WL.op rfl rfl (op_assign rfl ?_)
  refine WL.nil ?_
  refine WQ.next ?_
  refine WC.seq ?_
  refine WC.region ?_
  refine WL.op rfl rfl (op_build (cs := [_, _, _, _, _]) Fa.I24 Fa.PL24 rfl rfl ?_)
  refine WL.op rfl rfl (op_callF Fa.C13 rfl ((encode_ok 32 15 0 0 258 _).mono (fun e w2 hq => ?_)))
  obtain ⟨rfl, hf2⟩ := hq
  refine ⟨_, rfl, ?_⟩
  have H2 := H1.fr' hf2
  refine WL.op rfl rfl (op_move rfl ?_)
  refine WL.op rfl rfl (op_extract rfl rfl ?_)
  refine WL.op rfl rfl (op_extract rfl rfl ?_)
  refine WL.op rfl rfl (op_assign rfl ?_)
  refine WL.op rfl rfl (op_assign rfl ?_)
  refine WL.nil ?_
  refine WQ.next ?_
  refine WC.seq ?_
  refine WC.region ?_
  refine WL.op rfl rfl (op_move rfl ?_)
  refine WL.op rfl rfl (op_callF Fa.C14 rfl ((decode_ok (encS 32 15 0 0 258) _).mono (fun e w3 hq => ?_)))
  obtain ⟨rfl, hf3⟩ := hq
  refine ⟨_, rfl, ?_⟩
  have H3 := H2.fr' hf3
  refine WL.op rfl rfl (op_move rfl ?_)
  refine WL.op rfl rfl (op_extract rfl rfl ?_)
  refine WL.op rfl rfl (op_extract rfl rfl ?_)
  refine WL.op rfl rfl (op_alloc H3 Fa.I24 (fun b4 w4 H4 => ?_))
  refine WL.op rfl rfl (op_storeBW (i := 0) H4 rfl rfl rfl rfl rfl Fa.I24 (fun w5 H5 => ?_))
  refine WL.op rfl rfl (op_assign rfl ?_)
  refine WL.nil ?_
  refine WQ.next ?_
  refine WC.seq ?_
  refine WC.region ?_
  refine WL.op rfl rfl (op_move rfl ?_)
  refine WL.op rfl rfl (op_eqlStr rfl rfl ?_)
  refine WL.op rfl rfl (op_move rfl ?_)
  refine WL.yes rfl rfl rfl (by kernel_rfl) rfl (op_move rfl ?_)
  refine WL.yes rfl rfl rfl (by kernel_rfl) rfl (op_eqlN (b := 0) rfl rfl ?_)
  refine WL.op rfl rfl (op_pickT rfl (by kernel_rfl) rfl ?_)
  refine WL.op rfl rfl (op_move rfl ?_)
  refine WL.yes rfl rfl rfl (by kernel_rfl) rfl (op_move rfl ?_)
  refine WL.yes rfl rfl rfl (by kernel_rfl) rfl (op_eqlStr rfl rfl ?_)
  refine WL.op rfl rfl (op_pickT rfl (by kernel_rfl) rfl ?_)
  refine WL.op rfl rfl (op_move rfl ?_)
  refine WL.yes rfl rfl rfl (by kernel_rfl) rfl (op_move rfl ?_)
  refine WL.yes rfl rfl rfl (by kernel_rfl) rfl (op_eqlN (b := 0) rfl rfl ?_)
  refine WL.op rfl rfl (op_pickT rfl (by kernel_rfl) rfl ?_)
  refine WL.op rfl rfl (op_move rfl ?_)
  refine WL.yes rfl rfl rfl (by kernel_rfl) rfl (op_fieldAddr rfl Fa.F24_4 ?_)
  refine WL.yes rfl rfl rfl (by kernel_rfl) rfl (op_load rfl (H5.cell (i := 0) rfl rfl) Try.underlying22 rfl ?_)
  refine WL.yes rfl rfl rfl (by kernel_rfl) rfl (op_eqlU32 (b := 258) rfl rfl ?_)
  refine WL.op rfl rfl (op_pickT rfl (by kernel_rfl) rfl ?_)
  refine WL.op rfl rfl (op_move rfl ?_)
  refine WL.yes rfl rfl rfl (by kernel_rfl) rfl (op_move rfl ?_)
  refine WL.yes rfl rfl rfl (by kernel_rfl) rfl (op_eqlN (b := 0) rfl rfl ?_)
  refine WL.op rfl rfl (op_pickT rfl (by kernel_rfl) rfl ?_)
  refine WL.op rfl rfl (op_move rfl ?_)
  refine WL.yes rfl rfl rfl (by kernel_rfl) rfl (op_build (cs := [_, _, _, _, _]) Fa.I24 Fa.PL24 rfl rfl ?_)
  refine WL.yes rfl rfl rfl (by kernel_rfl) rfl (op_callF Fa.C18 rfl ((check_ok 42 1 15 0 0 _).mono (fun e w6 hq => ?_)))
  obtain ⟨rfl, hf6⟩ := hq
  refine ⟨_, rfl, ?_⟩
  have H6 := H5.fr' hf6
  refine WL.yes rfl rfl rfl (by kernel_rfl) rfl (op_eqlN (b := 2) rfl rfl ?_)
  refine WL.op rfl rfl (op_pickT rfl (by kernel_rfl) rfl ?_)
  refine WL.op rfl rfl (op_move rfl ?_)
  refine WL.yes rfl rfl rfl (by kernel_rfl) rfl (op_build (cs := [_, _, _, _, _]) Fa.I24 Fa.PL24 rfl rfl ?_)
  refine WL.yes rfl rfl rfl (by kernel_rfl) rfl (op_callF Fa.C18 rfl ((check_ok 50 0 0 1 0 _).mono (fun e w7 hq => ?_)))
  obtain ⟨rfl, hf7⟩ := hq
  refine ⟨_, rfl, ?_⟩
  have H7 := H6.fr' hf7
  refine WL.yes rfl rfl rfl (by kernel_rfl) rfl (op_eqlN (b := 2) rfl rfl ?_)
  refine WL.op rfl rfl (op_pickT rfl (by kernel_rfl) rfl ?_)
  refine WL.op rfl rfl (op_move rfl ?_)
  refine WL.yes rfl rfl rfl (by kernel_rfl) rfl (op_build (cs := [_, _, _, _, _]) Fa.I24 Fa.PL24 rfl rfl ?_)
  refine WL.yes rfl rfl rfl (by kernel_rfl) rfl (op_callF Fa.C18 rfl ((check_ok 15 0 0 0 0 _).mono (fun e w8 hq => ?_)))
  obtain ⟨rfl, hf8⟩ := hq
  refine ⟨_, rfl, ?_⟩
  have H8 := H7.fr' hf8
  refine WL.yes rfl rfl rfl (by kernel_rfl) rfl (op_eqlN (b := 2) rfl rfl ?_)
  refine WL.op rfl rfl (op_pickT rfl (by kernel_rfl) rfl ?_)
  refine WL.op rfl rfl (op_assign rfl ?_)
  refine WL.nil ?_
  refine WQ.next ?_
  refine WC.ret ?_
  refine WQ.out (.tmp rfl .nil) ?_
  exact ⟨by kernel_rfl, H8.fr⟩
set_option maxRecDepth 100000 in
theorem back_ok (op d a b : UInt8) (imm : UInt32) (op' d' a' b' : UInt8) (imm' : UInt32) (p q : UInt32) (w : World) :
    Calls Try.prog 3 #[(.agg #[(vU8 op), (vU8 d), (vU8 a), (vU8 b), (vU32 imm)]), (.agg #[(vU8 op'), (vU8 d'), (vU8 a'), (vU8 b'), (vU32 imm')]), (vU32 p), (vU32 q)] w (fun e w' => e = .returned (.bool true) ∧ Fr [] w w') := by
  refine enter (args := [(.agg #[(vU8 op), (vU8 d), (vU8 a), (vU8 b), (vU32 imm)]), (.agg #[(vU8 op'), (vU8 d'), (vU8 a'), (vU8 b'), (vU32 imm')]), (vU32 p), (vU32 q)]) Try.func3 rfl rfl ?_
  have H0 : Own [] w w [] := Own.start w []
  refine WC.seq ?_
  refine WC.region ?_
  refine WL.op rfl rfl (op_box H0 rfl rfl (fun b1 w1 H1 => ?_))
  refine WL.op rfl rfl (op_box H1 rfl rfl (fun b2 w2 H2 => ?_))
  refine WL.op rfl rfl (op_assign rfl ?_)
  refine WL.nil ?_
  refine WQ.next ?_
  refine WC.seq ?_
  refine WC.region ?_
  refine WL.op rfl rfl (op_loadS (vs := [_, _, _, _, _]) rfl (H2.cells (i := 0) rfl rfl) Try.underlying24 rfl Fa.I24 rfl ?_)
  refine WL.op rfl rfl (op_callF Fa.C13 rfl ((encode_ok op d a b imm _).mono (fun e w3 hq => ?_)))
  obtain ⟨rfl, hf3⟩ := hq
  refine ⟨_, rfl, ?_⟩
  have H3 := H2.fr' hf3
  refine WL.op rfl rfl (op_move rfl ?_)
  refine WL.op rfl rfl (op_extract rfl rfl ?_)
  refine WL.op rfl rfl (op_extract rfl rfl ?_)
  refine WL.op rfl rfl (op_assign rfl ?_)
  refine WL.op rfl rfl (op_assign rfl ?_)
  refine WL.nil ?_
  refine WQ.next ?_
  refine WC.seq ?_
  refine WC.region ?_
  refine WL.op rfl rfl (op_loadS (vs := [_, _, _, _, _]) rfl (H3.cells (i := 1) rfl rfl) Try.underlying24 rfl Fa.I24 rfl ?_)
  refine WL.op rfl rfl (op_callF Fa.C13 rfl ((encode_ok op' d' a' b' imm' _).mono (fun e w4 hq => ?_)))
  obtain ⟨rfl, hf4⟩ := hq
  refine ⟨_, rfl, ?_⟩
  have H4 := H3.fr' hf4
  refine WL.op rfl rfl (op_move rfl ?_)
  refine WL.op rfl rfl (op_extract rfl rfl ?_)
  refine WL.op rfl rfl (op_extract rfl rfl ?_)
  refine WL.op rfl rfl (op_assign rfl ?_)
  refine WL.op rfl rfl (op_assign rfl ?_)
  refine WL.nil ?_
  refine WQ.next ?_
  refine WC.seq ?_
  refine WC.seq ?_
  refine WC.region ?_
  refine WL.op rfl rfl (op_move rfl ?_)
  refine WL.op rfl rfl (op_eqlN (b := 0) rfl rfl ?_)
  refine WL.nil ?_
  refine WQ.next ?_
  refine WC.cond rfl (fun (hb5 : (decide ((encE op d a b imm) = 0)) = true) => ?_) (fun (hb5 : (decide ((encE op d a b imm) = 0)) = false) => ?_)
  ·
    have hc5 := of_decide_eq_true hb5
    refine WC.seq ?_
    refine WC.region ?_
    refine WL.op rfl rfl (op_move rfl ?_)
    refine WL.op rfl rfl (op_callF Fa.C14 rfl ((decode_ok (encS op d a b imm) _).mono (fun e w6 hq => ?_)))
    obtain ⟨rfl, hf6⟩ := hq
    refine ⟨_, rfl, ?_⟩
    have H6 := H4.fr' hf6
    refine WL.op rfl rfl (op_move rfl ?_)
    refine WL.op rfl rfl (op_extract rfl rfl ?_)
    refine WL.op rfl rfl (op_extract rfl rfl ?_)
    refine WL.op rfl rfl (op_alloc H6 Fa.I24 (fun b7 w7 H7 => ?_))
    refine WL.op rfl rfl (op_storeBW (i := 2) H7 rfl rfl rfl rfl rfl Fa.I24 (fun w8 H8 => ?_))
    refine WL.op rfl rfl (op_assign rfl ?_)
    refine WL.nil ?_
    refine WQ.next ?_
    refine WC.seq ?_
    refine WC.region ?_
    refine WL.op rfl rfl (op_move rfl ?_)
    refine WL.op rfl rfl (op_neqN (b := 0) rfl rfl ?_)
    refine WL.op rfl rfl (op_move rfl ?_)
    refine WL.yes rfl rfl rfl (back1_e hc5) rfl (op_loadS (vs := [_, _, _, _, _]) rfl (H8.cells (i := 2) rfl rfl) Try.underlying24 rfl Fa.I24 rfl ?_)
    refine WL.yes rfl rfl rfl (back1_e hc5) rfl (op_loadS (vs := [_, _, _, _, _]) rfl (H8.cells (i := 0) rfl rfl) Try.underlying24 rfl Fa.I24 rfl ?_)
    refine WL.yes rfl rfl rfl (back1_e hc5) rfl (op_neqS (xs := [_, _, _, _, _]) (ys := [_, _, _, _, _]) (b := (!((decide ((decOp (encS op d a b imm)) = op)) && ((decide ((decD (encS op d a b imm)) = d)) && ((decide ((decA (encS op d a b imm)) = a)) && ((decide ((decBr (encS op d a b imm)) = b)) && (decide ((decI (encS op d a b imm)) = imm)))))))) Fa.FL24 rfl rfl rfl (by simp [eqAll, veqU32, veqU8]) ?_)
    refine WL.op rfl rfl (op_pickF rfl (back1_e hc5) rfl ?_)
    refine WL.op rfl rfl (op_move rfl ?_)
    refine WL.yes rfl rfl rfl (back1_ne hc5) rfl (op_move rfl ?_)
    refine WL.yes rfl rfl rfl (back1_ne hc5) rfl (op_lenStr Try.underlying9 rfl ?_)
    refine WL.yes rfl rfl rfl (back1_ne hc5) rfl (op_neqN (b := 8) rfl rfl ?_)
    refine WL.op rfl rfl (op_pickF rfl (back1_ne hc5) rfl ?_)
    refine WL.nil ?_
    refine WQ.next ?_
    refine WC.no rfl (back1_len hc5) ?_
    refine WC.skip ?_
    refine WQ.next ?_
    refine WC.seq ?_
    refine WC.seq ?_
    refine WC.region ?_
    refine WL.op rfl rfl (op_move rfl ?_)
    refine WL.op rfl rfl (op_eqlN (b := 0) rfl rfl ?_)
    refine WL.op rfl rfl (op_move rfl ?_)
    refine WL.yes rfl rfl rfl hb5 rfl (op_move rfl ?_)
    refine WL.yes rfl rfl rfl hb5 rfl (op_eqlN (b := 0) rfl rfl ?_)
    refine WL.op rfl rfl (op_pickT rfl hb5 rfl ?_)
    refine WL.op rfl rfl (op_move rfl ?_)
    refine WL.split (t := 55) rfl (fun (hb9 : (decide ((encE op' d' a' b' imm') = 0)) = true) => ?_) (fun (hb9 : (decide ((encE op' d' a' b' imm') = 0)) = false) => ?_)
    ·
      have hc9 := of_decide_eq_true hb9
      refine WL.yes rfl rfl rfl hb9 rfl (op_move rfl ?_)
      refine WL.yes rfl rfl rfl hb9 rfl (op_move rfl ?_)
      refine WL.yes rfl rfl rfl hb9 rfl (op_eqlStr rfl rfl ?_)
      refine WL.yes rfl rfl rfl hb9 rfl (op_loadS (vs := [_, _, _, _, _]) rfl (H8.cells (i := 0) rfl rfl) Try.underlying24 rfl Fa.I24 rfl ?_)
      refine WL.yes rfl rfl rfl hb9 rfl (op_loadS (vs := [_, _, _, _, _]) rfl (H8.cells (i := 1) rfl rfl) Try.underlying24 rfl Fa.I24 rfl ?_)
      refine WL.yes rfl rfl rfl hb9 rfl (op_eqlS (xs := [_, _, _, _, _]) (ys := [_, _, _, _, _]) (b := ((decide (op = op')) && ((decide (d = d')) && ((decide (a = a')) && ((decide (b = b')) && (decide (imm = imm'))))))) Fa.FL24 rfl rfl rfl (by simp [eqAll, veqU32, veqU8]) ?_)
      refine WL.yes rfl rfl rfl hb9 rfl (op_neqB Try.underlying4 rfl rfl ?_)
      refine WL.op rfl rfl (op_pickT rfl hb9 rfl ?_)
      refine WL.nil ?_
      refine WQ.next ?_
      refine WC.no rfl (enc_injN hc5 hc9) ?_
      refine WC.skip ?_
      refine WQ.next ?_
      refine WC.seq ?_
      refine WC.region ?_
      refine WL.op rfl rfl (op_move rfl ?_)
      refine WL.op rfl rfl (op_convU32U8 (hs := Try.underlying22) (hd := Try.underlying5) rfl ?_)
      refine WL.op rfl rfl (op_move rfl ?_)
      refine WL.op rfl rfl (op_shrU32 (s := 8) rfl rfl ?_)
      refine WL.op rfl rfl (op_convU32U8 (hs := Try.underlying22) (hd := Try.underlying5) rfl ?_)
      refine WL.op rfl rfl (op_move rfl ?_)
      refine WL.op rfl rfl (op_shrU32 (s := 16) rfl rfl ?_)
      refine WL.op rfl rfl (op_convU32U8 (hs := Try.underlying22) (hd := Try.underlying5) rfl ?_)
      refine WL.op rfl rfl (op_move rfl ?_)
      refine WL.op rfl rfl (op_shrU32 (s := 24) rfl rfl ?_)
      refine WL.op rfl rfl (op_convU32U8 (hs := Try.underlying22) (hd := Try.underlying5) rfl ?_)
      refine WL.op rfl rfl (op_move rfl ?_)
      refine WL.op rfl rfl (op_convU32U8 (hs := Try.underlying22) (hd := Try.underlying5) rfl ?_)
      refine WL.op rfl rfl (op_move rfl ?_)
      refine WL.op rfl rfl (op_shrU32 (s := 8) rfl rfl ?_)
      refine WL.op rfl rfl (op_convU32U8 (hs := Try.underlying22) (hd := Try.underlying5) rfl ?_)
      refine WL.op rfl rfl (op_move rfl ?_)
      refine WL.op rfl rfl (op_shrU32 (s := 16) rfl rfl ?_)
      refine WL.op rfl rfl (op_convU32U8 (hs := Try.underlying22) (hd := Try.underlying5) rfl ?_)
      refine WL.op rfl rfl (op_move rfl ?_)
      refine WL.op rfl rfl (op_shrU32 (s := 24) rfl rfl ?_)
      refine WL.op rfl rfl (op_convU32U8 (hs := Try.underlying22) (hd := Try.underlying5) rfl ?_)
      refine WL.op rfl rfl (op_buildSlice (cs := [_, _, _, _, _, _, _, _]) H8 Try.underlying31 Fa.I5 rfl rfl rfl rfl (by decide) (by decide) (fun b10 w10 H10 => ?_))
      refine WL.op rfl rfl (op_bytesStr (l := [(UInt8.ofNat p.toNat), (UInt8.ofNat (shrU32 p 8).toNat), (UInt8.ofNat (shrU32 p 16).toNat), (UInt8.ofNat (shrU32 p 24).toNat), (UInt8.ofNat q.toNat), (UInt8.ofNat (shrU32 q 8).toNat), (UInt8.ofNat (shrU32 q 16).toNat), (UInt8.ofNat (shrU32 q 24).toNat)]) Try.underlying31 Try.underlying5 Try.underlying9 rfl (H10.arrR (i := 3) rfl) rfl ?_)
      refine WL.op rfl rfl (op_assign rfl ?_)
      refine WL.nil ?_
      refine WQ.next ?_
      refine WC.seq ?_
      refine WC.region ?_
      refine WL.op rfl rfl (op_move rfl ?_)
      refine WL.op rfl rfl (op_callF Fa.C14 rfl ((decode_ok ([(UInt8.ofNat p.toNat), (UInt8.ofNat (shrU32 p 8).toNat), (UInt8.ofNat (shrU32 p 16).toNat), (UInt8.ofNat (shrU32 p 24).toNat), (UInt8.ofNat q.toNat), (UInt8.ofNat (shrU32 q 8).toNat), (UInt8.ofNat (shrU32 q 16).toNat), (UInt8.ofNat (shrU32 q 24).toNat)]) _).mono (fun e w11 hq => ?_)))
      obtain ⟨rfl, hf11⟩ := hq
      refine ⟨_, rfl, ?_⟩
      have H11 := H10.fr' hf11
      refine WL.op rfl rfl (op_move rfl ?_)
      refine WL.op rfl rfl (op_extract rfl rfl ?_)
      refine WL.op rfl rfl (op_extract rfl rfl ?_)
      refine WL.op rfl rfl (op_alloc H11 Fa.I24 (fun b12 w12 H12 => ?_))
      refine WL.op rfl rfl (op_storeBW (i := 4) H12 rfl rfl rfl rfl rfl Fa.I24 (fun w13 H13 => ?_))
      refine WL.op rfl rfl (op_assign rfl ?_)
      refine WL.nil ?_
      refine WQ.next ?_
      refine WC.seq ?_
      refine WC.seq ?_
      refine WC.region ?_
      refine WL.op rfl rfl (op_move rfl ?_)
      refine WL.op rfl rfl (op_neqN (b := 0) rfl rfl ?_)
      refine WL.nil ?_
      refine WQ.next ?_
      refine WC.cond rfl (fun (hb14 : (decide ((decE ([(UInt8.ofNat p.toNat), (UInt8.ofNat (shrU32 p 8).toNat), (UInt8.ofNat (shrU32 p 16).toNat), (UInt8.ofNat (shrU32 p 24).toNat), (UInt8.ofNat q.toNat), (UInt8.ofNat (shrU32 q 8).toNat), (UInt8.ofNat (shrU32 q 16).toNat), (UInt8.ofNat (shrU32 q 24).toNat)])) ≠ 0)) = true) => ?_) (fun (hb14 : (decide ((decE ([(UInt8.ofNat p.toNat), (UInt8.ofNat (shrU32 p 8).toNat), (UInt8.ofNat (shrU32 p 16).toNat), (UInt8.ofNat (shrU32 p 24).toNat), (UInt8.ofNat q.toNat), (UInt8.ofNat (shrU32 q 8).toNat), (UInt8.ofNat (shrU32 q 16).toNat), (UInt8.ofNat (shrU32 q 24).toNat)])) ≠ 0)) = false) => ?_)
      ·
        have hc14 := of_decide_eq_true hb14
        refine WC.seq ?_
        refine WC.region ?_
        refine WL.op rfl rfl (op_move rfl ?_)
        refine WL.op rfl rfl (op_eqlN (b := 7) rfl rfl ?_)
        refine WL.op rfl rfl (op_move rfl ?_)
        refine WL.yes rfl rfl rfl (decide_eq_true (decBad hc14).1) rfl (op_loadS (vs := [_, _, _, _, _]) rfl (H13.cells (i := 4) rfl rfl) Try.underlying24 rfl Fa.I24 rfl ?_)
        refine WL.yes rfl rfl rfl (decide_eq_true (decBad hc14).1) rfl (op_build (cs := [_, _, _, _, _]) Fa.I24 Fa.PL24 rfl rfl ?_)
        refine WL.yes rfl rfl rfl (decide_eq_true (decBad hc14).1) rfl (op_eqlS (xs := [_, _, _, _, _]) (ys := [_, _, _, _, _]) (b := ((decide ((decOp ([(UInt8.ofNat p.toNat), (UInt8.ofNat (shrU32 p 8).toNat), (UInt8.ofNat (shrU32 p 16).toNat), (UInt8.ofNat (shrU32 p 24).toNat), (UInt8.ofNat q.toNat), (UInt8.ofNat (shrU32 q 8).toNat), (UInt8.ofNat (shrU32 q 16).toNat), (UInt8.ofNat (shrU32 q 24).toNat)])) = (0 : UInt8))) && ((decide ((decD ([(UInt8.ofNat p.toNat), (UInt8.ofNat (shrU32 p 8).toNat), (UInt8.ofNat (shrU32 p 16).toNat), (UInt8.ofNat (shrU32 p 24).toNat), (UInt8.ofNat q.toNat), (UInt8.ofNat (shrU32 q 8).toNat), (UInt8.ofNat (shrU32 q 16).toNat), (UInt8.ofNat (shrU32 q 24).toNat)])) = (0 : UInt8))) && ((decide ((decA ([(UInt8.ofNat p.toNat), (UInt8.ofNat (shrU32 p 8).toNat), (UInt8.ofNat (shrU32 p 16).toNat), (UInt8.ofNat (shrU32 p 24).toNat), (UInt8.ofNat q.toNat), (UInt8.ofNat (shrU32 q 8).toNat), (UInt8.ofNat (shrU32 q 16).toNat), (UInt8.ofNat (shrU32 q 24).toNat)])) = (0 : UInt8))) && ((decide ((decBr ([(UInt8.ofNat p.toNat), (UInt8.ofNat (shrU32 p 8).toNat), (UInt8.ofNat (shrU32 p 16).toNat), (UInt8.ofNat (shrU32 p 24).toNat), (UInt8.ofNat q.toNat), (UInt8.ofNat (shrU32 q 8).toNat), (UInt8.ofNat (shrU32 q 16).toNat), (UInt8.ofNat (shrU32 q 24).toNat)])) = (0 : UInt8))) && (decide ((decI ([(UInt8.ofNat p.toNat), (UInt8.ofNat (shrU32 p 8).toNat), (UInt8.ofNat (shrU32 p 16).toNat), (UInt8.ofNat (shrU32 p 24).toNat), (UInt8.ofNat q.toNat), (UInt8.ofNat (shrU32 q 8).toNat), (UInt8.ofNat (shrU32 q 16).toNat), (UInt8.ofNat (shrU32 q 24).toNat)])) = (0 : UInt32)))))))) Fa.FL24 rfl rfl rfl (by simp [eqAll, veqU32, veqU8]) ?_)
        refine WL.op rfl rfl (op_pickT rfl (decide_eq_true (decBad hc14).1) rfl ?_)
        refine WL.op rfl rfl (op_move rfl ?_)
        refine WL.yes rfl rfl rfl (decBad_eq hc14) rfl (op_callF Fa.C15 rfl ((alive04_ok _).mono (fun e w15 hq => ?_)))
        obtain ⟨rfl, hf15⟩ := hq
        refine ⟨_, rfl, ?_⟩
        have H15 := H13.fr' hf15
        refine WL.op rfl rfl (op_pickT rfl (decBad_eq hc14) rfl ?_)
        refine WL.op rfl rfl (op_assign rfl ?_)
        refine WL.nil ?_
        refine WQ.next ?_
        refine WC.ret ?_
        refine WQ.thenRet ?_
        refine WQ.out (.tmp rfl .nil) ?_
        exact ⟨rfl, H15.fr⟩
      ·
        have hc14 := of_decide_eq_false hb14
        refine WC.skip ?_
        refine WQ.next ?_
        refine WC.seq ?_
        refine WC.region ?_
        refine WL.op rfl rfl (op_loadS (vs := [_, _, _, _, _]) rfl (H13.cells (i := 4) rfl rfl) Try.underlying24 rfl Fa.I24 rfl ?_)
        refine WL.op rfl rfl (op_callF Fa.C13 rfl ((encode_ok (decOp ([(UInt8.ofNat p.toNat), (UInt8.ofNat (shrU32 p 8).toNat), (UInt8.ofNat (shrU32 p 16).toNat), (UInt8.ofNat (shrU32 p 24).toNat), (UInt8.ofNat q.toNat), (UInt8.ofNat (shrU32 q 8).toNat), (UInt8.ofNat (shrU32 q 16).toNat), (UInt8.ofNat (shrU32 q 24).toNat)])) (decD ([(UInt8.ofNat p.toNat), (UInt8.ofNat (shrU32 p 8).toNat), (UInt8.ofNat (shrU32 p 16).toNat), (UInt8.ofNat (shrU32 p 24).toNat), (UInt8.ofNat q.toNat), (UInt8.ofNat (shrU32 q 8).toNat), (UInt8.ofNat (shrU32 q 16).toNat), (UInt8.ofNat (shrU32 q 24).toNat)])) (decA ([(UInt8.ofNat p.toNat), (UInt8.ofNat (shrU32 p 8).toNat), (UInt8.ofNat (shrU32 p 16).toNat), (UInt8.ofNat (shrU32 p 24).toNat), (UInt8.ofNat q.toNat), (UInt8.ofNat (shrU32 q 8).toNat), (UInt8.ofNat (shrU32 q 16).toNat), (UInt8.ofNat (shrU32 q 24).toNat)])) (decBr ([(UInt8.ofNat p.toNat), (UInt8.ofNat (shrU32 p 8).toNat), (UInt8.ofNat (shrU32 p 16).toNat), (UInt8.ofNat (shrU32 p 24).toNat), (UInt8.ofNat q.toNat), (UInt8.ofNat (shrU32 q 8).toNat), (UInt8.ofNat (shrU32 q 16).toNat), (UInt8.ofNat (shrU32 q 24).toNat)])) (decI ([(UInt8.ofNat p.toNat), (UInt8.ofNat (shrU32 p 8).toNat), (UInt8.ofNat (shrU32 p 16).toNat), (UInt8.ofNat (shrU32 p 24).toNat), (UInt8.ofNat q.toNat), (UInt8.ofNat (shrU32 q 8).toNat), (UInt8.ofNat (shrU32 q 16).toNat), (UInt8.ofNat (shrU32 q 24).toNat)])) _).mono (fun e w16 hq => ?_)))
        obtain ⟨rfl, hf16⟩ := hq
        refine ⟨_, rfl, ?_⟩
        have H16 := H13.fr' hf16
        refine WL.op rfl rfl (op_move rfl ?_)
        refine WL.op rfl rfl (op_extract rfl rfl ?_)
        refine WL.op rfl rfl (op_extract rfl rfl ?_)
        refine WL.op rfl rfl (op_assign rfl ?_)
        refine WL.op rfl rfl (op_assign rfl ?_)
        refine WL.nil ?_
        refine WQ.next ?_
        refine WC.seq ?_
        refine WC.region ?_
        refine WL.op rfl rfl (op_move rfl ?_)
        refine WL.op rfl rfl (op_eqlN (b := 0) rfl rfl ?_)
        refine WL.op rfl rfl (op_move rfl ?_)
        refine WL.yes rfl rfl rfl (decide_eq_true (back2 (Decidable.not_not.mp hc14)).1) rfl (op_move rfl ?_)
        refine WL.yes rfl rfl rfl (decide_eq_true (back2 (Decidable.not_not.mp hc14)).1) rfl (op_move rfl ?_)
        refine WL.yes rfl rfl rfl (decide_eq_true (back2 (Decidable.not_not.mp hc14)).1) rfl (op_eqlStr rfl rfl ?_)
        refine WL.op rfl rfl (op_pickT rfl (decide_eq_true (back2 (Decidable.not_not.mp hc14)).1) rfl ?_)
        refine WL.op rfl rfl (op_move rfl ?_)
        refine WL.yes rfl rfl rfl (decide_eq_true (back2 (Decidable.not_not.mp hc14)).2) rfl (op_callF Fa.C15 rfl ((alive04_ok _).mono (fun e w17 hq => ?_)))
        obtain ⟨rfl, hf17⟩ := hq
        refine ⟨_, rfl, ?_⟩
        have H17 := H16.fr' hf17
        refine WL.op rfl rfl (op_pickT rfl (decide_eq_true (back2 (Decidable.not_not.mp hc14)).2) rfl ?_)
        refine WL.op rfl rfl (op_assign rfl ?_)
        refine WL.nil ?_
        refine WQ.next ?_
        refine WC.ret ?_
        refine WQ.out (.tmp rfl .nil) ?_
        exact ⟨rfl, H17.fr⟩
    ·
      have hc9 := of_decide_eq_false hb9
      refine WL.no rfl rfl rfl hb9 rfl ?_
      refine WL.no rfl rfl rfl hb9 rfl ?_
      refine WL.no rfl rfl rfl hb9 rfl ?_
      refine WL.no rfl rfl rfl hb9 rfl ?_
      refine WL.no rfl rfl rfl hb9 rfl ?_
      refine WL.no rfl rfl rfl hb9 rfl ?_
      refine WL.no rfl rfl rfl hb9 rfl ?_
      refine WL.op rfl rfl (op_pickF rfl hb9 rfl ?_)
      refine WL.nil ?_
      refine WQ.next ?_
      refine WC.no rfl rfl ?_
      refine WC.skip ?_
      refine WQ.next ?_
      refine WC.seq ?_
      refine WC.region ?_
      refine WL.op rfl rfl (op_move rfl ?_)
      refine WL.op rfl rfl (op_convU32U8 (hs := Try.underlying22) (hd := Try.underlying5) rfl ?_)
      refine WL.op rfl rfl (op_move rfl ?_)
      refine WL.op rfl rfl (op_shrU32 (s := 8) rfl rfl ?_)
      refine WL.op rfl rfl (op_convU32U8 (hs := Try.underlying22) (hd := Try.underlying5) rfl ?_)
      refine WL.op rfl rfl (op_move rfl ?_)
      refine WL.op rfl rfl (op_shrU32 (s := 16) rfl rfl ?_)
      refine WL.op rfl rfl (op_convU32U8 (hs := Try.underlying22) (hd := Try.underlying5) rfl ?_)
      refine WL.op rfl rfl (op_move rfl ?_)
      refine WL.op rfl rfl (op_shrU32 (s := 24) rfl rfl ?_)
      refine WL.op rfl rfl (op_convU32U8 (hs := Try.underlying22) (hd := Try.underlying5) rfl ?_)
      refine WL.op rfl rfl (op_move rfl ?_)
      refine WL.op rfl rfl (op_convU32U8 (hs := Try.underlying22) (hd := Try.underlying5) rfl ?_)
      refine WL.op rfl rfl (op_move rfl ?_)
      refine WL.op rfl rfl (op_shrU32 (s := 8) rfl rfl ?_)
      refine WL.op rfl rfl (op_convU32U8 (hs := Try.underlying22) (hd := Try.underlying5) rfl ?_)
      refine WL.op rfl rfl (op_move rfl ?_)
      refine WL.op rfl rfl (op_shrU32 (s := 16) rfl rfl ?_)
      refine WL.op rfl rfl (op_convU32U8 (hs := Try.underlying22) (hd := Try.underlying5) rfl ?_)
      refine WL.op rfl rfl (op_move rfl ?_)
      refine WL.op rfl rfl (op_shrU32 (s := 24) rfl rfl ?_)
      refine WL.op rfl rfl (op_convU32U8 (hs := Try.underlying22) (hd := Try.underlying5) rfl ?_)
      refine WL.op rfl rfl (op_buildSlice (cs := [_, _, _, _, _, _, _, _]) H8 Try.underlying31 Fa.I5 rfl rfl rfl rfl (by decide) (by decide) (fun b18 w18 H18 => ?_))
      refine WL.op rfl rfl (op_bytesStr (l := [(UInt8.ofNat p.toNat), (UInt8.ofNat (shrU32 p 8).toNat), (UInt8.ofNat (shrU32 p 16).toNat), (UInt8.ofNat (shrU32 p 24).toNat), (UInt8.ofNat q.toNat), (UInt8.ofNat (shrU32 q 8).toNat), (UInt8.ofNat (shrU32 q 16).toNat), (UInt8.ofNat (shrU32 q 24).toNat)]) Try.underlying31 Try.underlying5 Try.underlying9 rfl (H18.arrR (i := 3) rfl) rfl ?_)
      refine WL.op rfl rfl (op_assign rfl ?_)
      refine WL.nil ?_
      refine WQ.next ?_
      refine WC.seq ?_
      refine WC.region ?_
      refine WL.op rfl rfl (op_move rfl ?_)
      refine WL.op rfl rfl (op_callF Fa.C14 rfl ((decode_ok ([(UInt8.ofNat p.toNat), (UInt8.ofNat (shrU32 p 8).toNat), (UInt8.ofNat (shrU32 p 16).toNat), (UInt8.ofNat (shrU32 p 24).toNat), (UInt8.ofNat q.toNat), (UInt8.ofNat (shrU32 q 8).toNat), (UInt8.ofNat (shrU32 q 16).toNat), (UInt8.ofNat (shrU32 q 24).toNat)]) _).mono (fun e w19 hq => ?_)))
      obtain ⟨rfl, hf19⟩ := hq
      refine ⟨_, rfl, ?_⟩
      have H19 := H18.fr' hf19
      refine WL.op rfl rfl (op_move rfl ?_)
      refine WL.op rfl rfl (op_extract rfl rfl ?_)
      refine WL.op rfl rfl (op_extract rfl rfl ?_)
      refine WL.op rfl rfl (op_alloc H19 Fa.I24 (fun b20 w20 H20 => ?_))
      refine WL.op rfl rfl (op_storeBW (i := 4) H20 rfl rfl rfl rfl rfl Fa.I24 (fun w21 H21 => ?_))
      refine WL.op rfl rfl (op_assign rfl ?_)
      refine WL.nil ?_
      refine WQ.next ?_
      refine WC.seq ?_
      refine WC.seq ?_
      refine WC.region ?_
      refine WL.op rfl rfl (op_move rfl ?_)
      refine WL.op rfl rfl (op_neqN (b := 0) rfl rfl ?_)
      refine WL.nil ?_
      refine WQ.next ?_
      refine WC.cond rfl (fun (hb22 : (decide ((decE ([(UInt8.ofNat p.toNat), (UInt8.ofNat (shrU32 p 8).toNat), (UInt8.ofNat (shrU32 p 16).toNat), (UInt8.ofNat (shrU32 p 24).toNat), (UInt8.ofNat q.toNat), (UInt8.ofNat (shrU32 q 8).toNat), (UInt8.ofNat (shrU32 q 16).toNat), (UInt8.ofNat (shrU32 q 24).toNat)])) ≠ 0)) = true) => ?_) (fun (hb22 : (decide ((decE ([(UInt8.ofNat p.toNat), (UInt8.ofNat (shrU32 p 8).toNat), (UInt8.ofNat (shrU32 p 16).toNat), (UInt8.ofNat (shrU32 p 24).toNat), (UInt8.ofNat q.toNat), (UInt8.ofNat (shrU32 q 8).toNat), (UInt8.ofNat (shrU32 q 16).toNat), (UInt8.ofNat (shrU32 q 24).toNat)])) ≠ 0)) = false) => ?_)
      ·
        have hc22 := of_decide_eq_true hb22
        refine WC.seq ?_
        refine WC.region ?_
        refine WL.op rfl rfl (op_move rfl ?_)
        refine WL.op rfl rfl (op_eqlN (b := 7) rfl rfl ?_)
        refine WL.op rfl rfl (op_move rfl ?_)
        refine WL.yes rfl rfl rfl (decide_eq_true (decBad hc22).1) rfl (op_loadS (vs := [_, _, _, _, _]) rfl (H21.cells (i := 4) rfl rfl) Try.underlying24 rfl Fa.I24 rfl ?_)
        refine WL.yes rfl rfl rfl (decide_eq_true (decBad hc22).1) rfl (op_build (cs := [_, _, _, _, _]) Fa.I24 Fa.PL24 rfl rfl ?_)
        refine WL.yes rfl rfl rfl (decide_eq_true (decBad hc22).1) rfl (op_eqlS (xs := [_, _, _, _, _]) (ys := [_, _, _, _, _]) (b := ((decide ((decOp ([(UInt8.ofNat p.toNat), (UInt8.ofNat (shrU32 p 8).toNat), (UInt8.ofNat (shrU32 p 16).toNat), (UInt8.ofNat (shrU32 p 24).toNat), (UInt8.ofNat q.toNat), (UInt8.ofNat (shrU32 q 8).toNat), (UInt8.ofNat (shrU32 q 16).toNat), (UInt8.ofNat (shrU32 q 24).toNat)])) = (0 : UInt8))) && ((decide ((decD ([(UInt8.ofNat p.toNat), (UInt8.ofNat (shrU32 p 8).toNat), (UInt8.ofNat (shrU32 p 16).toNat), (UInt8.ofNat (shrU32 p 24).toNat), (UInt8.ofNat q.toNat), (UInt8.ofNat (shrU32 q 8).toNat), (UInt8.ofNat (shrU32 q 16).toNat), (UInt8.ofNat (shrU32 q 24).toNat)])) = (0 : UInt8))) && ((decide ((decA ([(UInt8.ofNat p.toNat), (UInt8.ofNat (shrU32 p 8).toNat), (UInt8.ofNat (shrU32 p 16).toNat), (UInt8.ofNat (shrU32 p 24).toNat), (UInt8.ofNat q.toNat), (UInt8.ofNat (shrU32 q 8).toNat), (UInt8.ofNat (shrU32 q 16).toNat), (UInt8.ofNat (shrU32 q 24).toNat)])) = (0 : UInt8))) && ((decide ((decBr ([(UInt8.ofNat p.toNat), (UInt8.ofNat (shrU32 p 8).toNat), (UInt8.ofNat (shrU32 p 16).toNat), (UInt8.ofNat (shrU32 p 24).toNat), (UInt8.ofNat q.toNat), (UInt8.ofNat (shrU32 q 8).toNat), (UInt8.ofNat (shrU32 q 16).toNat), (UInt8.ofNat (shrU32 q 24).toNat)])) = (0 : UInt8))) && (decide ((decI ([(UInt8.ofNat p.toNat), (UInt8.ofNat (shrU32 p 8).toNat), (UInt8.ofNat (shrU32 p 16).toNat), (UInt8.ofNat (shrU32 p 24).toNat), (UInt8.ofNat q.toNat), (UInt8.ofNat (shrU32 q 8).toNat), (UInt8.ofNat (shrU32 q 16).toNat), (UInt8.ofNat (shrU32 q 24).toNat)])) = (0 : UInt32)))))))) Fa.FL24 rfl rfl rfl (by simp [eqAll, veqU32, veqU8]) ?_)
        refine WL.op rfl rfl (op_pickT rfl (decide_eq_true (decBad hc22).1) rfl ?_)
        refine WL.op rfl rfl (op_move rfl ?_)
        refine WL.yes rfl rfl rfl (decBad_eq hc22) rfl (op_callF Fa.C15 rfl ((alive04_ok _).mono (fun e w23 hq => ?_)))
        obtain ⟨rfl, hf23⟩ := hq
        refine ⟨_, rfl, ?_⟩
        have H23 := H21.fr' hf23
        refine WL.op rfl rfl (op_pickT rfl (decBad_eq hc22) rfl ?_)
        refine WL.op rfl rfl (op_assign rfl ?_)
        refine WL.nil ?_
        refine WQ.next ?_
        refine WC.ret ?_
        refine WQ.thenRet ?_
        refine WQ.out (.tmp rfl .nil) ?_
        exact ⟨rfl, H23.fr⟩
      ·
        have hc22 := of_decide_eq_false hb22
        refine WC.skip ?_
        refine WQ.next ?_
        refine WC.seq ?_
        refine WC.region ?_
        refine WL.op rfl rfl (op_loadS (vs := [_, _, _, _, _]) rfl (H21.cells (i := 4) rfl rfl) Try.underlying24 rfl Fa.I24 rfl ?_)
        refine WL.op rfl rfl (op_callF Fa.C13 rfl ((encode_ok (decOp ([(UInt8.ofNat p.toNat), (UInt8.ofNat (shrU32 p 8).toNat), (UInt8.ofNat (shrU32 p 16).toNat), (UInt8.ofNat (shrU32 p 24).toNat), (UInt8.ofNat q.toNat), (UInt8.ofNat (shrU32 q 8).toNat), (UInt8.ofNat (shrU32 q 16).toNat), (UInt8.ofNat (shrU32 q 24).toNat)])) (decD ([(UInt8.ofNat p.toNat), (UInt8.ofNat (shrU32 p 8).toNat), (UInt8.ofNat (shrU32 p 16).toNat), (UInt8.ofNat (shrU32 p 24).toNat), (UInt8.ofNat q.toNat), (UInt8.ofNat (shrU32 q 8).toNat), (UInt8.ofNat (shrU32 q 16).toNat), (UInt8.ofNat (shrU32 q 24).toNat)])) (decA ([(UInt8.ofNat p.toNat), (UInt8.ofNat (shrU32 p 8).toNat), (UInt8.ofNat (shrU32 p 16).toNat), (UInt8.ofNat (shrU32 p 24).toNat), (UInt8.ofNat q.toNat), (UInt8.ofNat (shrU32 q 8).toNat), (UInt8.ofNat (shrU32 q 16).toNat), (UInt8.ofNat (shrU32 q 24).toNat)])) (decBr ([(UInt8.ofNat p.toNat), (UInt8.ofNat (shrU32 p 8).toNat), (UInt8.ofNat (shrU32 p 16).toNat), (UInt8.ofNat (shrU32 p 24).toNat), (UInt8.ofNat q.toNat), (UInt8.ofNat (shrU32 q 8).toNat), (UInt8.ofNat (shrU32 q 16).toNat), (UInt8.ofNat (shrU32 q 24).toNat)])) (decI ([(UInt8.ofNat p.toNat), (UInt8.ofNat (shrU32 p 8).toNat), (UInt8.ofNat (shrU32 p 16).toNat), (UInt8.ofNat (shrU32 p 24).toNat), (UInt8.ofNat q.toNat), (UInt8.ofNat (shrU32 q 8).toNat), (UInt8.ofNat (shrU32 q 16).toNat), (UInt8.ofNat (shrU32 q 24).toNat)])) _).mono (fun e w24 hq => ?_)))
        obtain ⟨rfl, hf24⟩ := hq
        refine ⟨_, rfl, ?_⟩
        have H24 := H21.fr' hf24
        refine WL.op rfl rfl (op_move rfl ?_)
        refine WL.op rfl rfl (op_extract rfl rfl ?_)
        refine WL.op rfl rfl (op_extract rfl rfl ?_)
        refine WL.op rfl rfl (op_assign rfl ?_)
        refine WL.op rfl rfl (op_assign rfl ?_)
        refine WL.nil ?_
        refine WQ.next ?_
        refine WC.seq ?_
        refine WC.region ?_
        refine WL.op rfl rfl (op_move rfl ?_)
        refine WL.op rfl rfl (op_eqlN (b := 0) rfl rfl ?_)
        refine WL.op rfl rfl (op_move rfl ?_)
        refine WL.yes rfl rfl rfl (decide_eq_true (back2 (Decidable.not_not.mp hc22)).1) rfl (op_move rfl ?_)
        refine WL.yes rfl rfl rfl (decide_eq_true (back2 (Decidable.not_not.mp hc22)).1) rfl (op_move rfl ?_)
        refine WL.yes rfl rfl rfl (decide_eq_true (back2 (Decidable.not_not.mp hc22)).1) rfl (op_eqlStr rfl rfl ?_)
        refine WL.op rfl rfl (op_pickT rfl (decide_eq_true (back2 (Decidable.not_not.mp hc22)).1) rfl ?_)
        refine WL.op rfl rfl (op_move rfl ?_)
        refine WL.yes rfl rfl rfl (decide_eq_true (back2 (Decidable.not_not.mp hc22)).2) rfl (op_callF Fa.C15 rfl ((alive04_ok _).mono (fun e w25 hq => ?_)))
        obtain ⟨rfl, hf25⟩ := hq
        refine ⟨_, rfl, ?_⟩
        have H25 := H24.fr' hf25
        refine WL.op rfl rfl (op_pickT rfl (decide_eq_true (back2 (Decidable.not_not.mp hc22)).2) rfl ?_)
        refine WL.op rfl rfl (op_assign rfl ?_)
        refine WL.nil ?_
        refine WQ.next ?_
        refine WC.ret ?_
        refine WQ.out (.tmp rfl .nil) ?_
        exact ⟨rfl, H25.fr⟩
  ·
    have hc5 := of_decide_eq_false hb5
    refine WC.skip ?_
    refine WQ.next ?_
    refine WC.seq ?_
    refine WC.seq ?_
    refine WC.region ?_
    refine WL.op rfl rfl (op_move rfl ?_)
    refine WL.op rfl rfl (op_eqlN (b := 0) rfl rfl ?_)
    refine WL.op rfl rfl (op_move rfl ?_)
    refine WL.no rfl rfl rfl hb5 rfl ?_
    refine WL.no rfl rfl rfl hb5 rfl ?_
    refine WL.op rfl rfl (op_pickF rfl hb5 rfl ?_)
    refine WL.op rfl rfl (op_move rfl ?_)
    refine WL.no rfl rfl rfl rfl rfl ?_
    refine WL.no rfl rfl rfl rfl rfl ?_
    refine WL.no rfl rfl rfl rfl rfl ?_
    refine WL.no rfl rfl rfl rfl rfl ?_
    refine WL.no rfl rfl rfl rfl rfl ?_
    refine WL.no rfl rfl rfl rfl rfl ?_
    refine WL.no rfl rfl rfl rfl rfl ?_
    refine WL.op rfl rfl (op_pickF rfl rfl rfl ?_)
    refine WL.nil ?_
    refine WQ.next ?_
    refine WC.no rfl rfl ?_
    refine WC.skip ?_
    refine WQ.next ?_
    refine WC.seq ?_
    refine WC.region ?_
    refine WL.op rfl rfl (op_move rfl ?_)
    refine WL.op rfl rfl (op_convU32U8 (hs := Try.underlying22) (hd := Try.underlying5) rfl ?_)
    refine WL.op rfl rfl (op_move rfl ?_)
    refine WL.op rfl rfl (op_shrU32 (s := 8) rfl rfl ?_)
    refine WL.op rfl rfl (op_convU32U8 (hs := Try.underlying22) (hd := Try.underlying5) rfl ?_)
    refine WL.op rfl rfl (op_move rfl ?_)
    refine WL.op rfl rfl (op_shrU32 (s := 16) rfl rfl ?_)
    refine WL.op rfl rfl (op_convU32U8 (hs := Try.underlying22) (hd := Try.underlying5) rfl ?_)
    refine WL.op rfl rfl (op_move rfl ?_)
    refine WL.op rfl rfl (op_shrU32 (s := 24) rfl rfl ?_)
    refine WL.op rfl rfl (op_convU32U8 (hs := Try.underlying22) (hd := Try.underlying5) rfl ?_)
    refine WL.op rfl rfl (op_move rfl ?_)
    refine WL.op rfl rfl (op_convU32U8 (hs := Try.underlying22) (hd := Try.underlying5) rfl ?_)
    refine WL.op rfl rfl (op_move rfl ?_)
    refine WL.op rfl rfl (op_shrU32 (s := 8) rfl rfl ?_)
    refine WL.op rfl rfl (op_convU32U8 (hs := Try.underlying22) (hd := Try.underlying5) rfl ?_)
    refine WL.op rfl rfl (op_move rfl ?_)
    refine WL.op rfl rfl (op_shrU32 (s := 16) rfl rfl ?_)
    refine WL.op rfl rfl (op_convU32U8 (hs := Try.underlying22) (hd := Try.underlying5) rfl ?_)
    refine WL.op rfl rfl (op_move rfl ?_)
    refine WL.op rfl rfl (op_shrU32 (s := 24) rfl rfl ?_)
    refine WL.op rfl rfl (op_convU32U8 (hs := Try.underlying22) (hd := Try.underlying5) rfl ?_)
    refine WL.op rfl rfl (op_buildSlice (cs := [_, _, _, _, _, _, _, _]) H4 Try.underlying31 Fa.I5 rfl rfl rfl rfl (by decide) (by decide) (fun b26 w26 H26 => ?_))
    refine WL.op rfl rfl (op_bytesStr (l := [(UInt8.ofNat p.toNat), (UInt8.ofNat (shrU32 p 8).toNat), (UInt8.ofNat (shrU32 p 16).toNat), (UInt8.ofNat (shrU32 p 24).toNat), (UInt8.ofNat q.toNat), (UInt8.ofNat (shrU32 q 8).toNat), (UInt8.ofNat (shrU32 q 16).toNat), (UInt8.ofNat (shrU32 q 24).toNat)]) Try.underlying31 Try.underlying5 Try.underlying9 rfl (H26.arrR (i := 2) rfl) rfl ?_)
    refine WL.op rfl rfl (op_assign rfl ?_)
    refine WL.nil ?_
    refine WQ.next ?_
    refine WC.seq ?_
    refine WC.region ?_
    refine WL.op rfl rfl (op_move rfl ?_)
    refine WL.op rfl rfl (op_callF Fa.C14 rfl ((decode_ok ([(UInt8.ofNat p.toNat), (UInt8.ofNat (shrU32 p 8).toNat), (UInt8.ofNat (shrU32 p 16).toNat), (UInt8.ofNat (shrU32 p 24).toNat), (UInt8.ofNat q.toNat), (UInt8.ofNat (shrU32 q 8).toNat), (UInt8.ofNat (shrU32 q 16).toNat), (UInt8.ofNat (shrU32 q 24).toNat)]) _).mono (fun e w27 hq => ?_)))
    obtain ⟨rfl, hf27⟩ := hq
    refine ⟨_, rfl, ?_⟩
    have H27 := H26.fr' hf27
    refine WL.op rfl rfl (op_move rfl ?_)
    refine WL.op rfl rfl (op_extract rfl rfl ?_)
    refine WL.op rfl rfl (op_extract rfl rfl ?_)
    refine WL.op rfl rfl (op_alloc H27 Fa.I24 (fun b28 w28 H28 => ?_))
    refine WL.op rfl rfl (op_storeBW (i := 3) H28 rfl rfl rfl rfl rfl Fa.I24 (fun w29 H29 => ?_))
    refine WL.op rfl rfl (op_assign rfl ?_)
    refine WL.nil ?_
    refine WQ.next ?_
    refine WC.seq ?_
    refine WC.seq ?_
    refine WC.region ?_
    refine WL.op rfl rfl (op_move rfl ?_)
    refine WL.op rfl rfl (op_neqN (b := 0) rfl rfl ?_)
    refine WL.nil ?_
    refine WQ.next ?_
    refine WC.cond rfl (fun (hb30 : (decide ((decE ([(UInt8.ofNat p.toNat), (UInt8.ofNat (shrU32 p 8).toNat), (UInt8.ofNat (shrU32 p 16).toNat), (UInt8.ofNat (shrU32 p 24).toNat), (UInt8.ofNat q.toNat), (UInt8.ofNat (shrU32 q 8).toNat), (UInt8.ofNat (shrU32 q 16).toNat), (UInt8.ofNat (shrU32 q 24).toNat)])) ≠ 0)) = true) => ?_) (fun (hb30 : (decide ((decE ([(UInt8.ofNat p.toNat), (UInt8.ofNat (shrU32 p 8).toNat), (UInt8.ofNat (shrU32 p 16).toNat), (UInt8.ofNat (shrU32 p 24).toNat), (UInt8.ofNat q.toNat), (UInt8.ofNat (shrU32 q 8).toNat), (UInt8.ofNat (shrU32 q 16).toNat), (UInt8.ofNat (shrU32 q 24).toNat)])) ≠ 0)) = false) => ?_)
    ·
      have hc30 := of_decide_eq_true hb30
      refine WC.seq ?_
      refine WC.region ?_
      refine WL.op rfl rfl (op_move rfl ?_)
      refine WL.op rfl rfl (op_eqlN (b := 7) rfl rfl ?_)
      refine WL.op rfl rfl (op_move rfl ?_)
      refine WL.yes rfl rfl rfl (decide_eq_true (decBad hc30).1) rfl (op_loadS (vs := [_, _, _, _, _]) rfl (H29.cells (i := 3) rfl rfl) Try.underlying24 rfl Fa.I24 rfl ?_)
      refine WL.yes rfl rfl rfl (decide_eq_true (decBad hc30).1) rfl (op_build (cs := [_, _, _, _, _]) Fa.I24 Fa.PL24 rfl rfl ?_)
      refine WL.yes rfl rfl rfl (decide_eq_true (decBad hc30).1) rfl (op_eqlS (xs := [_, _, _, _, _]) (ys := [_, _, _, _, _]) (b := ((decide ((decOp ([(UInt8.ofNat p.toNat), (UInt8.ofNat (shrU32 p 8).toNat), (UInt8.ofNat (shrU32 p 16).toNat), (UInt8.ofNat (shrU32 p 24).toNat), (UInt8.ofNat q.toNat), (UInt8.ofNat (shrU32 q 8).toNat), (UInt8.ofNat (shrU32 q 16).toNat), (UInt8.ofNat (shrU32 q 24).toNat)])) = (0 : UInt8))) && ((decide ((decD ([(UInt8.ofNat p.toNat), (UInt8.ofNat (shrU32 p 8).toNat), (UInt8.ofNat (shrU32 p 16).toNat), (UInt8.ofNat (shrU32 p 24).toNat), (UInt8.ofNat q.toNat), (UInt8.ofNat (shrU32 q 8).toNat), (UInt8.ofNat (shrU32 q 16).toNat), (UInt8.ofNat (shrU32 q 24).toNat)])) = (0 : UInt8))) && ((decide ((decA ([(UInt8.ofNat p.toNat), (UInt8.ofNat (shrU32 p 8).toNat), (UInt8.ofNat (shrU32 p 16).toNat), (UInt8.ofNat (shrU32 p 24).toNat), (UInt8.ofNat q.toNat), (UInt8.ofNat (shrU32 q 8).toNat), (UInt8.ofNat (shrU32 q 16).toNat), (UInt8.ofNat (shrU32 q 24).toNat)])) = (0 : UInt8))) && ((decide ((decBr ([(UInt8.ofNat p.toNat), (UInt8.ofNat (shrU32 p 8).toNat), (UInt8.ofNat (shrU32 p 16).toNat), (UInt8.ofNat (shrU32 p 24).toNat), (UInt8.ofNat q.toNat), (UInt8.ofNat (shrU32 q 8).toNat), (UInt8.ofNat (shrU32 q 16).toNat), (UInt8.ofNat (shrU32 q 24).toNat)])) = (0 : UInt8))) && (decide ((decI ([(UInt8.ofNat p.toNat), (UInt8.ofNat (shrU32 p 8).toNat), (UInt8.ofNat (shrU32 p 16).toNat), (UInt8.ofNat (shrU32 p 24).toNat), (UInt8.ofNat q.toNat), (UInt8.ofNat (shrU32 q 8).toNat), (UInt8.ofNat (shrU32 q 16).toNat), (UInt8.ofNat (shrU32 q 24).toNat)])) = (0 : UInt32)))))))) Fa.FL24 rfl rfl rfl (by simp [eqAll, veqU32, veqU8]) ?_)
      refine WL.op rfl rfl (op_pickT rfl (decide_eq_true (decBad hc30).1) rfl ?_)
      refine WL.op rfl rfl (op_move rfl ?_)
      refine WL.yes rfl rfl rfl (decBad_eq hc30) rfl (op_callF Fa.C15 rfl ((alive04_ok _).mono (fun e w31 hq => ?_)))
      obtain ⟨rfl, hf31⟩ := hq
      refine ⟨_, rfl, ?_⟩
      have H31 := H29.fr' hf31
      refine WL.op rfl rfl (op_pickT rfl (decBad_eq hc30) rfl ?_)
      refine WL.op rfl rfl (op_assign rfl ?_)
      refine WL.nil ?_
      refine WQ.next ?_
      refine WC.ret ?_
      refine WQ.thenRet ?_
      refine WQ.out (.tmp rfl .nil) ?_
      exact ⟨rfl, H31.fr⟩
    ·
      have hc30 := of_decide_eq_false hb30
      refine WC.skip ?_
      refine WQ.next ?_
      refine WC.seq ?_
      refine WC.region ?_
      refine WL.op rfl rfl (op_loadS (vs := [_, _, _, _, _]) rfl (H29.cells (i := 3) rfl rfl) Try.underlying24 rfl Fa.I24 rfl ?_)
      refine WL.op rfl rfl (op_callF Fa.C13 rfl ((encode_ok (decOp ([(UInt8.ofNat p.toNat), (UInt8.ofNat (shrU32 p 8).toNat), (UInt8.ofNat (shrU32 p 16).toNat), (UInt8.ofNat (shrU32 p 24).toNat), (UInt8.ofNat q.toNat), (UInt8.ofNat (shrU32 q 8).toNat), (UInt8.ofNat (shrU32 q 16).toNat), (UInt8.ofNat (shrU32 q 24).toNat)])) (decD ([(UInt8.ofNat p.toNat), (UInt8.ofNat (shrU32 p 8).toNat), (UInt8.ofNat (shrU32 p 16).toNat), (UInt8.ofNat (shrU32 p 24).toNat), (UInt8.ofNat q.toNat), (UInt8.ofNat (shrU32 q 8).toNat), (UInt8.ofNat (shrU32 q 16).toNat), (UInt8.ofNat (shrU32 q 24).toNat)])) (decA ([(UInt8.ofNat p.toNat), (UInt8.ofNat (shrU32 p 8).toNat), (UInt8.ofNat (shrU32 p 16).toNat), (UInt8.ofNat (shrU32 p 24).toNat), (UInt8.ofNat q.toNat), (UInt8.ofNat (shrU32 q 8).toNat), (UInt8.ofNat (shrU32 q 16).toNat), (UInt8.ofNat (shrU32 q 24).toNat)])) (decBr ([(UInt8.ofNat p.toNat), (UInt8.ofNat (shrU32 p 8).toNat), (UInt8.ofNat (shrU32 p 16).toNat), (UInt8.ofNat (shrU32 p 24).toNat), (UInt8.ofNat q.toNat), (UInt8.ofNat (shrU32 q 8).toNat), (UInt8.ofNat (shrU32 q 16).toNat), (UInt8.ofNat (shrU32 q 24).toNat)])) (decI ([(UInt8.ofNat p.toNat), (UInt8.ofNat (shrU32 p 8).toNat), (UInt8.ofNat (shrU32 p 16).toNat), (UInt8.ofNat (shrU32 p 24).toNat), (UInt8.ofNat q.toNat), (UInt8.ofNat (shrU32 q 8).toNat), (UInt8.ofNat (shrU32 q 16).toNat), (UInt8.ofNat (shrU32 q 24).toNat)])) _).mono (fun e w32 hq => ?_)))
      obtain ⟨rfl, hf32⟩ := hq
      refine ⟨_, rfl, ?_⟩
      have H32 := H29.fr' hf32
      refine WL.op rfl rfl (op_move rfl ?_)
      refine WL.op rfl rfl (op_extract rfl rfl ?_)
      refine WL.op rfl rfl (op_extract rfl rfl ?_)
      refine WL.op rfl rfl (op_assign rfl ?_)
      refine WL.op rfl rfl (op_assign rfl ?_)
      refine WL.nil ?_
      refine WQ.next ?_
      refine WC.seq ?_
      refine WC.region ?_
      refine WL.op rfl rfl (op_move rfl ?_)
      refine WL.op rfl rfl (op_eqlN (b := 0) rfl rfl ?_)
      refine WL.op rfl rfl (op_move rfl ?_)
      refine WL.yes rfl rfl rfl (decide_eq_true (back2 (Decidable.not_not.mp hc30)).1) rfl (op_move rfl ?_)
      refine WL.yes rfl rfl rfl (decide_eq_true (back2 (Decidable.not_not.mp hc30)).1) rfl (op_move rfl ?_)
      refine WL.yes rfl rfl rfl (decide_eq_true (back2 (Decidable.not_not.mp hc30)).1) rfl (op_eqlStr rfl rfl ?_)
      refine WL.op rfl rfl (op_pickT rfl (decide_eq_true (back2 (Decidable.not_not.mp hc30)).1) rfl ?_)
      refine WL.op rfl rfl (op_move rfl ?_)
      refine WL.yes rfl rfl rfl (decide_eq_true (back2 (Decidable.not_not.mp hc30)).2) rfl (op_callF Fa.C15 rfl ((alive04_ok _).mono (fun e w33 hq => ?_)))
      obtain ⟨rfl, hf33⟩ := hq
      refine ⟨_, rfl, ?_⟩
      have H33 := H32.fr' hf33
      refine WL.op rfl rfl (op_pickT rfl (decide_eq_true (back2 (Decidable.not_not.mp hc30)).2) rfl ?_)
      refine WL.op rfl rfl (op_assign rfl ?_)
      refine WL.nil ?_
      refine WQ.next ?_
      refine WC.ret ?_
      refine WQ.out (.tmp rfl .nil) ?_
      exact ⟨rfl, H33.fr⟩
end Go.Proofs.Ytfdlkkhhakjgeaa
