import Derived.Test.YtfdlkkhhakjgeaaWRef4
import Derived.Test.YtfdlkkhhakjgeaaWInsnBack
namespace Go.Proofs.Ytfdlkkhhakjgeaa
open Go.Owl Go.Spec
set_option maxRecDepth 100000 in
theorem tells_ok (op d a b : UInt8) (imm : UInt32) (s : List UInt8) (w : World) :
    Calls Try.prog 4 #[(.agg #[(vU8 op), (vU8 d), (vU8 a), (vU8 b), (vU32 imm)]), (str s)] w (fun e w' => e = .returned (.bool true) ∧ Fr [] w w') := by
  refine enter (args := [(.agg #[(vU8 op), (vU8 d), (vU8 a), (vU8 b), (vU32 imm)]), (str s)]) Try.func4 rfl rfl ?_
  have H0 := Own.start w []
  refine WC.seq ?_
  refine WC.region ?_
  refine WL.op rfl rfl (op_box H0 rfl rfl (fun b1 w1 H1 => ?_))
  refine WL.op rfl rfl (op_assign rfl ?_)
  refine WL.nil ?_
  refine WQ.next ?_
  refine WC.seq ?_
  refine WC.seq ?_
  refine WC.region ?_
  refine WL.op rfl rfl (op_move rfl ?_)
  refine WL.op rfl rfl (op_lenStr Try.underlying9 rfl ?_)
  refine WL.op rfl rfl (op_gtrN (b := 100) rfl rfl ?_)
  refine WL.nil ?_
  refine WQ.next ?_
  refine WC.cond rfl (fun (hb2 : (decide (s.length > 100)) = true) => ?_) (fun (hb2 : (decide (s.length > 100)) = false) => ?_)
  ·
    have hc2 := of_decide_eq_true hb2
    refine WC.seq ?_
    refine WC.region ?_
    refine WL.op rfl rfl (op_callF Fa.C15 rfl ((alive04_ok _).mono (fun e w3 hq => ?_)))
    obtain ⟨rfl, hf3⟩ := hq
    refine ⟨_, rfl, ?_⟩
    have H3 := H1.fr' hf3
    refine WL.op rfl rfl (op_assign rfl ?_)
    refine WL.nil ?_
    refine WQ.next ?_
    refine WC.ret ?_
    refine WQ.thenRet ?_
    refine WQ.out (.tmp rfl .nil) ?_
    exact ⟨rfl, H3.fr⟩
  ·
    have hc2 := of_decide_eq_false hb2
    refine WC.skip ?_
    refine WQ.next ?_
    refine WC.seq ?_
    refine WC.region ?_
    refine WL.op rfl rfl (op_loadS (vs := [_, _, _, _, _]) rfl (H1.cells (i := 0) rfl rfl) Try.underlying24 rfl Fa.I24 rfl ?_)
    refine WL.op rfl rfl (op_callF Fa.C13 rfl ((encode_ok op d a b imm _).mono (fun e w4 hq => ?_)))
    obtain ⟨rfl, hf4⟩ := hq
    refine ⟨_, rfl, ?_⟩
    have H4 := H1.fr' hf4
    refine WL.op rfl rfl (op_move rfl ?_)
    refine WL.op rfl rfl (op_extract rfl rfl ?_)
    refine WL.op rfl rfl (op_extract rfl rfl ?_)
    refine WL.op rfl rfl (op_assign rfl ?_)
    refine WL.op rfl rfl (op_assign rfl ?_)
    refine WL.nil ?_
    refine WQ.next ?_
    refine WC.seq ?_
    refine WC.region ?_
    refine WL.op rfl rfl (op_loadS (vs := [_, _, _, _, _]) rfl (H4.cells (i := 0) rfl rfl) Try.underlying24 rfl Fa.I24 rfl ?_)
    refine WL.op rfl rfl (op_callF Fa.C16 rfl ((rEncode_ok op d a b imm _).mono (fun e w5 hq => ?_)))
    obtain ⟨rfl, hf5⟩ := hq
    refine ⟨_, rfl, ?_⟩
    have H5 := H4.fr' hf5
    refine WL.op rfl rfl (op_move rfl ?_)
    refine WL.op rfl rfl (op_extract rfl rfl ?_)
    refine WL.op rfl rfl (op_extract rfl rfl ?_)
    refine WL.op rfl rfl (op_assign rfl ?_)
    refine WL.op rfl rfl (op_assign rfl ?_)
    refine WL.nil ?_
    refine WQ.next ?_
    refine WC.seq ?_
    refine WC.region ?_
    refine WL.op rfl rfl (op_move rfl ?_)
    refine WL.op rfl rfl (op_callF Fa.C14 rfl ((decode_ok s _).mono (fun e w6 hq => ?_)))
    obtain ⟨rfl, hf6⟩ := hq
    refine ⟨_, rfl, ?_⟩
    have H6 := H5.fr' hf6
    refine WL.op rfl rfl (op_move rfl ?_)
    refine WL.op rfl rfl (op_extract rfl rfl ?_)
    refine WL.op rfl rfl (op_extract rfl rfl ?_)
    refine WL.op rfl rfl (op_alloc H6 Fa.I24 (fun b7 w7 H7 => ?_))
    refine WL.op rfl rfl (op_storeBW (i := 1) H7 rfl rfl rfl rfl rfl Fa.I24 (fun w8 H8 => ?_))
    refine WL.op rfl rfl (op_assign rfl ?_)
    refine WL.nil ?_
    refine WQ.next ?_
    refine WC.seq ?_
    refine WC.region ?_
    refine WL.op rfl rfl (op_move rfl ?_)
    refine WL.op rfl rfl (op_callF Fa.C17 rfl ((rDecode_ok s _).mono (fun e w9 hq => ?_)))
    obtain ⟨rfl, hf9⟩ := hq
    refine ⟨_, rfl, ?_⟩
    have H9 := H8.fr' hf9
    refine WL.op rfl rfl (op_move rfl ?_)
    refine WL.op rfl rfl (op_extract rfl rfl ?_)
    refine WL.op rfl rfl (op_extract rfl rfl ?_)
    refine WL.op rfl rfl (op_alloc H9 Fa.I24 (fun b10 w10 H10 => ?_))
    refine WL.op rfl rfl (op_storeBW (i := 2) H10 rfl rfl rfl rfl rfl Fa.I24 (fun w11 H11 => ?_))
    refine WL.op rfl rfl (op_assign rfl ?_)
    refine WL.nil ?_
    refine WQ.next ?_
    refine WC.seq ?_
    refine WC.seq ?_
    refine WC.region ?_
    refine WL.op rfl rfl (op_move rfl ?_)
    refine WL.op rfl rfl (op_move rfl ?_)
    refine WL.op rfl rfl (op_neqStr rfl rfl ?_)
    refine WL.op rfl rfl (op_move rfl ?_)
    refine WL.yes rfl rfl rfl (by simp) rfl (op_move rfl ?_)
    refine WL.yes rfl rfl rfl (by simp) rfl (op_move rfl ?_)
    refine WL.yes rfl rfl rfl (by simp) rfl (op_neqN rfl rfl ?_)
    refine WL.op rfl rfl (op_pickF rfl (by simp) rfl ?_)
    refine WL.op rfl rfl (op_move rfl ?_)
    refine WL.yes rfl rfl rfl (by simp) rfl (op_loadS (vs := [_, _, _, _, _]) rfl (H11.cells (i := 0) rfl rfl) Try.underlying24 rfl Fa.I24 rfl ?_)
    refine WL.yes rfl rfl rfl (by simp) rfl (op_callF Fa.C18 rfl ((check_ok op d a b imm _).mono (fun e w12 hq => ?_)))
    obtain ⟨rfl, hf12⟩ := hq
    refine ⟨_, rfl, ?_⟩
    have H12 := H11.fr' hf12
    refine WL.yes rfl rfl rfl (by simp) rfl (op_move rfl ?_)
    refine WL.yes rfl rfl rfl (by simp) rfl (op_neqN rfl rfl ?_)
    refine WL.op rfl rfl (op_pickF rfl (by simp) rfl ?_)
    refine WL.op rfl rfl (op_move rfl ?_)
    refine WL.yes rfl rfl rfl (by simp) rfl (op_loadS (vs := [_, _, _, _, _]) rfl (H12.cells (i := 1) rfl rfl) Try.underlying24 rfl Fa.I24 rfl ?_)
    refine WL.yes rfl rfl rfl (by simp) rfl (op_loadS (vs := [_, _, _, _, _]) rfl (H12.cells (i := 2) rfl rfl) Try.underlying24 rfl Fa.I24 rfl ?_)
    refine WL.yes rfl rfl rfl (by simp) rfl (op_neqS (xs := [_, _, _, _, _]) (ys := [_, _, _, _, _]) (b := (!((decide ((decOp s) = (decOp s))) && ((decide ((decD s) = (decD s))) && ((decide ((decA s) = (decA s))) && ((decide ((decBr s) = (decBr s))) && (decide ((decI s) = (decI s))))))))) Fa.FL24 rfl rfl rfl (by simp [eqAll, veqU32, veqU8]) ?_)
    refine WL.op rfl rfl (op_pickF rfl (by simp) rfl ?_)
    refine WL.op rfl rfl (op_move rfl ?_)
    refine WL.yes rfl rfl rfl (by simp) rfl (op_move rfl ?_)
    refine WL.yes rfl rfl rfl (by simp) rfl (op_move rfl ?_)
    refine WL.yes rfl rfl rfl (by simp) rfl (op_neqN rfl rfl ?_)
    refine WL.op rfl rfl (op_pickF rfl (by simp) rfl ?_)
    refine WL.nil ?_
    refine WQ.next ?_
    refine WC.no rfl (by simp) ?_
    refine WC.skip ?_
    refine WQ.next ?_
    refine WC.seq ?_
    refine WC.region ?_
    refine WL.op rfl rfl (op_fieldAddr rfl Fa.F24_0 ?_)
    refine WL.op rfl rfl (op_load rfl (H12.cell (i := 0) rfl rfl) Try.underlying5 rfl ?_)
    refine WL.op rfl rfl (op_callF Fa.C19 rfl ((uses_ok op _).mono (fun e w13 hq => ?_)))
    obtain ⟨rfl, hf13⟩ := hq
    refine ⟨_, rfl, ?_⟩
    have H13 := H12.fr' hf13
    refine WL.op rfl rfl (op_move rfl ?_)
    refine WL.op rfl rfl (op_extract rfl rfl ?_)
    refine WL.op rfl rfl (op_extract rfl rfl ?_)
    refine WL.op rfl rfl (op_extract rfl rfl ?_)
    refine WL.op rfl rfl (op_extract rfl rfl ?_)
    refine WL.op rfl rfl (op_extract rfl rfl ?_)
    refine WL.op rfl rfl (op_assign rfl ?_)
    refine WL.op rfl rfl (op_assign rfl ?_)
    refine WL.op rfl rfl (op_assign rfl ?_)
    refine WL.op rfl rfl (op_assign rfl ?_)
    refine WL.op rfl rfl (op_assign rfl ?_)
    refine WL.nil ?_
    refine WQ.next ?_
    refine WC.seq ?_
    refine WC.region ?_
    refine WL.op rfl rfl (op_fieldAddr rfl Fa.F24_0 ?_)
    refine WL.op rfl rfl (op_load rfl (H13.cell (i := 0) rfl rfl) Try.underlying5 rfl ?_)
    refine WL.op rfl rfl (op_callF Fa.C20 rfl ((rUses_ok op _).mono (fun e w14 hq => ?_)))
    obtain ⟨rfl, hf14⟩ := hq
    refine ⟨_, rfl, ?_⟩
    have H14 := H13.fr' hf14
    refine WL.op rfl rfl (op_move rfl ?_)
    refine WL.op rfl rfl (op_extract rfl rfl ?_)
    refine WL.op rfl rfl (op_extract rfl rfl ?_)
    refine WL.op rfl rfl (op_alloc H14 Fa.I38 (fun b15 w15 H15 => ?_))
    refine WL.op rfl rfl (op_storeBW (i := 3) H15 rfl rfl rfl rfl rfl Fa.I38 (fun w16 H16 => ?_))
    refine WL.op rfl rfl (op_assign rfl ?_)
    refine WL.nil ?_
    refine WQ.next ?_
    refine WC.seq ?_
    refine WC.seq ?_
    refine WC.region ?_
    refine WL.op rfl rfl (op_move rfl ?_)
    refine WL.op rfl rfl (op_not rfl ?_)
    refine WL.nil ?_
    refine WQ.next ?_
    refine WC.cond rfl (fun (hb17 : (!(ruOk op)) = true) => ?_) (fun (hb17 : (!(ruOk op)) = false) => ?_)
    ·
      have hn17 := (Bool.not_eq_true' _).mp hb17
      refine WC.seq ?_
      refine WC.region ?_
      refine WL.op rfl rfl (op_move rfl ?_)
      refine WL.op rfl rfl (op_eqlN (b := 2) rfl rfl ?_)
      refine WL.op rfl rfl (op_move rfl ?_)
      refine WL.yes rfl rfl rfl (decide_eq_true (useE_no op hn17)) rfl (op_move rfl ?_)
      refine WL.yes rfl rfl rfl (decide_eq_true (useE_no op hn17)) rfl (op_not rfl ?_)
      refine WL.op rfl rfl (op_pickT rfl (decide_eq_true (useE_no op hn17)) rfl ?_)
      refine WL.op rfl rfl (op_move rfl ?_)
      refine WL.yes rfl rfl rfl (by rw [(ub_not op hn17).1]; rfl) rfl (op_move rfl ?_)
      refine WL.yes rfl rfl rfl (by rw [(ub_not op hn17).1]; rfl) rfl (op_not rfl ?_)
      refine WL.op rfl rfl (op_pickT rfl (by rw [(ub_not op hn17).1]; rfl) rfl ?_)
      refine WL.op rfl rfl (op_move rfl ?_)
      refine WL.yes rfl rfl rfl (by rw [(ub_not op hn17).2.1]; rfl) rfl (op_move rfl ?_)
      refine WL.yes rfl rfl rfl (by rw [(ub_not op hn17).2.1]; rfl) rfl (op_not rfl ?_)
      refine WL.op rfl rfl (op_pickT rfl (by rw [(ub_not op hn17).2.1]; rfl) rfl ?_)
      refine WL.op rfl rfl (op_move rfl ?_)
      refine WL.yes rfl rfl rfl (by rw [(ub_not op hn17).2.2.1]; rfl) rfl (op_move rfl ?_)
      refine WL.yes rfl rfl rfl (by rw [(ub_not op hn17).2.2.1]; rfl) rfl (op_not rfl ?_)
      refine WL.op rfl rfl (op_pickT rfl (by rw [(ub_not op hn17).2.2.1]; rfl) rfl ?_)
      refine WL.op rfl rfl (op_move rfl ?_)
      refine WL.yes rfl rfl rfl (by rw [(ub_not op hn17).2.2.2]; rfl) rfl (op_callF Fa.C15 rfl ((alive04_ok _).mono (fun e w18 hq => ?_)))
      obtain ⟨rfl, hf18⟩ := hq
      refine ⟨_, rfl, ?_⟩
      have H18 := H16.fr' hf18
      refine WL.op rfl rfl (op_pickT rfl (by rw [(ub_not op hn17).2.2.2]; rfl) rfl ?_)
      refine WL.op rfl rfl (op_assign rfl ?_)
      refine WL.nil ?_
      refine WQ.next ?_
      refine WC.ret ?_
      refine WQ.thenRet ?_
      refine WQ.out (.tmp rfl .nil) ?_
      exact ⟨rfl, H18.fr⟩
    ·
      have hn17 := (Bool.not_eq_false' _).mp hb17
      refine WC.skip ?_
      refine WQ.next ?_
      refine WC.seq ?_
      refine WC.region ?_
      refine WL.op rfl rfl (op_move rfl ?_)
      refine WL.op rfl rfl (op_eqlN (b := 0) rfl rfl ?_)
      refine WL.op rfl rfl (op_move rfl ?_)
      refine WL.yes rfl rfl rfl (decide_eq_true (useE_yes op hn17)) rfl (op_move rfl ?_)
      refine WL.yes rfl rfl rfl (decide_eq_true (useE_yes op hn17)) rfl (op_fieldAddr rfl Fa.F38_0 ?_)
      refine WL.yes rfl rfl rfl (decide_eq_true (useE_yes op hn17)) rfl (op_load rfl (H16.cell (i := 3) rfl rfl) Try.underlying4 rfl ?_)
      refine WL.yes rfl rfl rfl (decide_eq_true (useE_yes op hn17)) rfl (op_eqlB Try.underlying4 rfl rfl ?_)
      refine WL.op rfl rfl (op_pickT rfl (decide_eq_true (useE_yes op hn17)) rfl ?_)
      refine WL.op rfl rfl (op_move rfl ?_)
      refine WL.yes rfl rfl rfl (by rw [(ru_bits op hn17).1]; simp) rfl (op_move rfl ?_)
      refine WL.yes rfl rfl rfl (by rw [(ru_bits op hn17).1]; simp) rfl (op_fieldAddr rfl Fa.F38_1 ?_)
      refine WL.yes rfl rfl rfl (by rw [(ru_bits op hn17).1]; simp) rfl (op_load rfl (H16.cell (i := 3) rfl rfl) Try.underlying4 rfl ?_)
      refine WL.yes rfl rfl rfl (by rw [(ru_bits op hn17).1]; simp) rfl (op_eqlB Try.underlying4 rfl rfl ?_)
      refine WL.op rfl rfl (op_pickT rfl (by rw [(ru_bits op hn17).1]; simp) rfl ?_)
      refine WL.op rfl rfl (op_move rfl ?_)
      refine WL.yes rfl rfl rfl (by rw [(ru_bits op hn17).2.1]; simp) rfl (op_move rfl ?_)
      refine WL.yes rfl rfl rfl (by rw [(ru_bits op hn17).2.1]; simp) rfl (op_fieldAddr rfl Fa.F38_2 ?_)
      refine WL.yes rfl rfl rfl (by rw [(ru_bits op hn17).2.1]; simp) rfl (op_load rfl (H16.cell (i := 3) rfl rfl) Try.underlying4 rfl ?_)
      refine WL.yes rfl rfl rfl (by rw [(ru_bits op hn17).2.1]; simp) rfl (op_eqlB Try.underlying4 rfl rfl ?_)
      refine WL.op rfl rfl (op_pickT rfl (by rw [(ru_bits op hn17).2.1]; simp) rfl ?_)
      refine WL.op rfl rfl (op_move rfl ?_)
      refine WL.yes rfl rfl rfl (by rw [(ru_bits op hn17).2.2.1]; simp) rfl (op_move rfl ?_)
      refine WL.yes rfl rfl rfl (by rw [(ru_bits op hn17).2.2.1]; simp) rfl (op_fieldAddr rfl Fa.F38_3 ?_)
      refine WL.yes rfl rfl rfl (by rw [(ru_bits op hn17).2.2.1]; simp) rfl (op_load rfl (H16.cell (i := 3) rfl rfl) Try.underlying4 rfl ?_)
      refine WL.yes rfl rfl rfl (by rw [(ru_bits op hn17).2.2.1]; simp) rfl (op_eqlB Try.underlying4 rfl rfl ?_)
      refine WL.op rfl rfl (op_pickT rfl (by rw [(ru_bits op hn17).2.2.1]; simp) rfl ?_)
      refine WL.op rfl rfl (op_move rfl ?_)
      refine WL.yes rfl rfl rfl (by rw [(ru_bits op hn17).2.2.2]; simp) rfl (op_callF Fa.C15 rfl ((alive04_ok _).mono (fun e w19 hq => ?_)))
      obtain ⟨rfl, hf19⟩ := hq
      refine ⟨_, rfl, ?_⟩
      have H19 := H16.fr' hf19
      refine WL.op rfl rfl (op_pickT rfl (by rw [(ru_bits op hn17).2.2.2]; simp) rfl ?_)
      refine WL.op rfl rfl (op_assign rfl ?_)
      refine WL.nil ?_
      refine WQ.next ?_
      refine WC.ret ?_
      refine WQ.out (.tmp rfl .nil) ?_
      exact ⟨rfl, H19.fr⟩
end Go.Proofs.Ytfdlkkhhakjgeaa
