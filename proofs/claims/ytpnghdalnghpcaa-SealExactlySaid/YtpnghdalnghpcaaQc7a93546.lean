/- General lemmas and walks: WSeal5. No condition but what each theorem names. -/
import Derived.Test.YtpnghdalnghpcaaQa06c13cf
import Derived.Test.YtpnghdalnghpcaaQef19e45e
/-! from WSeal5 -/
namespace Go.Proofs.Ytpnghdalnghpcaa
open Go.Owl Go.Spec
set_option maxHeartbeats 2000000 in
set_option maxRecDepth 100000 in
theorem sealExactly_ok (key : List UInt8) (pg : UInt32) (ev pv sv : Value) (xs : List Xt) (ps : List UInt16) (con : Bool) (en : UInt32) (sg : List Sg) (s : List UInt8) (w : World) (hE : Arr w ev 2 xs.length (List.flatMap xtc xs)) (hP : Arr w pv 1 ps.length (List.map vU16 ps)) (hS : Arr w sv 3 sg.length (List.flatMap sgc sg)) (hn : xs.length < 2 ^ 47) (hm : ps.length < 2 ^ 47) (hk : sg.length < 2 ^ 47) (hB : ∀ x ∈ sg, x.b.length ≤ 140737488351232) (hk0 : key.length ≤ 140737488351232) (hs : s.length ≤ 140737488351232) :
    Calls Try.prog 14 #[(str key), (.agg #[(vU32 pg), ev, pv, (.bool con), (vU32 en), sv]), (str s)] w (fun e w' => e = .returned (.bool true) ∧ Fr [] w w') := by
  refine enter (args := [(str key), (.agg #[(vU32 pg), ev, pv, (.bool con), (vU32 en), sv]), (str s)]) Try.func14 rfl rfl ?_
  have H0 : Own [] w w [] := Own.start w []
  refine WC.seq ?_
  refine WC.region ?_
  refine WL.op rfl rfl (op_box H0 rfl rfl (fun b1 w1 H1 => ?_))
  refine WL.op rfl rfl (op_assign rfl ?_)
  refine WL.nil ?_
  refine WQ.next ?_
  refine WC.seq ?_
  refine WC.seq ?_
  refine WC.region ?_
  refine WL.op rfl rfl (op_loadS (vs := [_, _, _, _, _, _]) rfl (H1.cells (i := 0) rfl rfl) Try.underlying59 rfl Fa.I59 rfl ?_)
  refine WL.op rfl rfl (op_callF Fa.C37 rfl ((large16_ok pg _ _ _ xs ps con en sg _ (H1.arr hE) (H1.arr hP) (H1.arr hS) hn hm hk hB).mono (fun e w2 hq => ?_)))
  obtain ⟨rfl, hf2⟩ := hq
  refine ⟨_, rfl, ?_⟩
  have H2 := H1.fr' hf2
  refine WL.op rfl rfl (op_move rfl ?_)
  refine WL.split (t := 21) rfl (fun (hb3 : (large16 xs ps sg) = true) => ?_) (fun (hb3 : (large16 xs ps sg) = false) => ?_)
  ·
    refine WL.no rfl rfl rfl hb3 rfl ?_
    refine WL.no rfl rfl rfl hb3 rfl ?_
    refine WL.no rfl rfl rfl hb3 rfl ?_
    refine WL.no rfl rfl rfl hb3 rfl ?_
    refine WL.no rfl rfl rfl hb3 rfl ?_
    refine WL.no rfl rfl rfl hb3 rfl ?_
    refine WL.op rfl rfl (op_pickT rfl hb3 rfl ?_)
    refine WL.nil ?_
    refine WQ.next ?_
    refine WC.yes rfl rfl ?_
    refine WC.seq ?_
    refine WC.region ?_
    refine WL.op rfl rfl (op_callF Fa.C66 rfl ((alive17_ok _).mono (fun e w4 hq => ?_)))
    obtain ⟨rfl, hf4⟩ := hq
    refine ⟨_, rfl, ?_⟩
    have H4 := H2.fr' hf4
    refine WL.op rfl rfl (op_assign rfl ?_)
    refine WL.nil ?_
    refine WQ.next ?_
    refine WC.ret ?_
    refine WQ.thenRet ?_
    refine WQ.out (.tmp rfl .nil) ?_
    exact ⟨rfl, H4.fr⟩
  ·
    have hl1 := large16_no hb3
    have hb1 : ∀ x ∈ sg, x.b.length ≤ 2 ^ 30 := fun x hx => Nat.le_trans (hl1.2.2.2 x hx) (by decide)
    refine WL.yes rfl rfl rfl hb3 rfl (op_move rfl ?_)
    refine WL.yes rfl rfl rfl hb3 rfl (op_lenStr Try.underlying9 rfl ?_)
    refine WL.yes rfl rfl rfl hb3 rfl (op_move rfl ?_)
    refine WL.yes rfl rfl rfl hb3 rfl (op_lenStr Try.underlying9 rfl ?_)
    refine WL.yes rfl rfl rfl hb3 rfl (op_addN rfl rfl (by omega) ?_)
    refine WL.yes rfl rfl rfl hb3 rfl (op_gtrN (b := 65536) rfl rfl ?_)
    refine WL.op rfl rfl (op_pickF rfl hb3 rfl ?_)
    refine WL.nil ?_
    refine WQ.next ?_
    refine WC.cond rfl (fun (hb5 : (decide ((key.length + s.length) > 65536)) = true) => ?_) (fun (hb5 : (decide ((key.length + s.length) > 65536)) = false) => ?_)
    ·
      have hc5 := of_decide_eq_true hb5
      refine WC.seq ?_
      refine WC.region ?_
      refine WL.op rfl rfl (op_callF Fa.C66 rfl ((alive17_ok _).mono (fun e w6 hq => ?_)))
      obtain ⟨rfl, hf6⟩ := hq
      refine ⟨_, rfl, ?_⟩
      have H6 := H2.fr' hf6
      refine WL.op rfl rfl (op_assign rfl ?_)
      refine WL.nil ?_
      refine WQ.next ?_
      refine WC.ret ?_
      refine WQ.thenRet ?_
      refine WQ.out (.tmp rfl .nil) ?_
      exact ⟨rfl, H6.fr⟩
    ·
      have hc5 := of_decide_eq_false hb5
      refine WC.skip ?_
      refine WQ.next ?_
      refine WC.seq ?_
      refine WC.region ?_
      refine WL.op rfl rfl (op_move rfl ?_)
      refine WL.op rfl rfl (op_loadS (vs := [_, _, _, _, _, _]) rfl (H2.cells (i := 0) rfl rfl) Try.underlying59 rfl Fa.I59 rfl ?_)
      refine WL.op rfl rfl (op_callF Fa.C39 rfl ((copy16_ok pg _ _ _ xs ps con en sg _ (H2.arr hE) (H2.arr hP) (H2.arr hS) (by omega) (by omega) (by omega)).mono (fun e w7 hq => ?_)))
      obtain ⟨v7, u7, q7, rfl, hq7⟩ := hq
      refine ⟨_, rfl, ?_⟩
      have H7 : Own [] w w7 [.blk b1 [(vU32 pg), ev, pv, (.bool con), (vU32 en), sv] 59, .row v7 130 2 xs.length (List.flatMap xtc xs), .row u7 92 1 ps.length (List.map vU16 ps), .row q7 111 3 sg.length (List.flatMap sgc sg)] := H2.splice [] [] [.row v7 130 2 xs.length (List.flatMap xtc xs), .row u7 92 1 ps.length (List.map vU16 ps), .row q7 111 3 sg.length (List.flatMap sgc sg)] rfl rfl hq7 (Fits.solid True.intro (Fits.solid True.intro (Fits.solid True.intro Fits.nil)))
      refine WL.op rfl rfl (op_callF Fa.C67 rfl ((seal_ok key pg _ _ _ xs ps con en sg _ (H7.arrR (i := 1) rfl) (H7.arrR (i := 2) rfl) (H7.arrR (i := 3) rfl) (by omega) (by first | omega | exact hob.1) (by first | omega | exact hob.2.1) (by first | omega | exact hob.2.2.1) (by first | with_reducible exact hb1 | with_reducible exact hob.2.2.2.1) (by first | exact Nat.lt_trans (imB_38 hl1) (by decide) | with_reducible exact hob.2.2.2.2)).mono (fun e w8 hq => ?_)))
      obtain ⟨rfl, hf8⟩ := hq
      refine ⟨_, rfl, ?_⟩
      have H8 := H7.fr' hf8
      refine WL.op rfl rfl (op_move rfl ?_)
      refine WL.op rfl rfl (op_extract rfl rfl ?_)
      refine WL.op rfl rfl (op_extract rfl rfl ?_)
      refine WL.op rfl rfl (op_assign rfl ?_)
      refine WL.op rfl rfl (op_assign rfl ?_)
      refine WL.nil ?_
      refine WQ.next ?_
      refine WC.cut (α := Unit) (fun _ => [(0, (str key)), (2, (str s)), (4, (ptr b1 0))]) (fun _ w' => Own [] w w' [.blk b1 [(vU32 pg), ev, pv, (.bool con), (vU32 en), sv] 59, .row v7 130 2 xs.length (List.flatMap xtc xs), .row u7 92 1 ps.length (List.map vU16 ps), .row q7 111 3 sg.length (List.flatMap sgc sg)]) ?_ ?_
      ·
        refine WC.seq ?_
        refine WC.region ?_
        refine WL.op rfl rfl (op_move rfl ?_)
        refine WL.op rfl rfl (op_eqlN (b := 0) rfl rfl ?_)
        refine WL.nil ?_
        refine WQ.next ?_
        refine WC.cond rfl (fun (hb9 : (decide ((imE pg xs ps en sg) = 0)) = true) => ?_) (fun (hb9 : (decide ((imE pg xs ps en sg) = 0)) = false) => ?_)
        ·
          have hc9 := of_decide_eq_true hb9
          have hI : imE pg xs ps en sg = 0 := hc9
          refine WC.seq ?_
          refine WC.region ?_
          refine WL.op rfl rfl (op_move rfl ?_)
          refine WL.op rfl rfl (op_move rfl ?_)
          refine WL.op rfl rfl (op_callF Fa.C68 rfl ((sopen_ok key (slS key pg xs ps con en sg) _ (by omega) (by first | omega | exact slS_38 hl1)).mono (fun e w10 hq => ?_)))
          obtain ⟨v10, u10, q10, rfl, hq10⟩ := hq
          refine ⟨_, rfl, ?_⟩
          have H10 : Own [] w w10 [.blk b1 [(vU32 pg), ev, pv, (.bool con), (vU32 en), sv] 59, .row v7 130 2 xs.length (List.flatMap xtc xs), .row u7 92 1 ps.length (List.map vU16 ps), .row q7 111 3 sg.length (List.flatMap sgc sg), .row v10 130 2 (opI key (slS key pg xs ps con en sg)).xs.length (List.flatMap xtc (opI key (slS key pg xs ps con en sg)).xs), .row u10 92 1 (opI key (slS key pg xs ps con en sg)).ps.length (List.map vU16 (opI key (slS key pg xs ps con en sg)).ps), .row q10 111 3 (opI key (slS key pg xs ps con en sg)).sg.length (List.flatMap sgc (opI key (slS key pg xs ps con en sg)).sg)] := H8.splice [] [] [.row v10 130 2 (opI key (slS key pg xs ps con en sg)).xs.length (List.flatMap xtc (opI key (slS key pg xs ps con en sg)).xs), .row u10 92 1 (opI key (slS key pg xs ps con en sg)).ps.length (List.map vU16 (opI key (slS key pg xs ps con en sg)).ps), .row q10 111 3 (opI key (slS key pg xs ps con en sg)).sg.length (List.flatMap sgc (opI key (slS key pg xs ps con en sg)).sg)] rfl rfl hq10 (Fits.solid True.intro (Fits.solid True.intro (Fits.solid True.intro Fits.nil)))
          refine WL.op rfl rfl (op_move rfl ?_)
          refine WL.op rfl rfl (op_extract rfl rfl ?_)
          refine WL.op rfl rfl (op_extract rfl rfl ?_)
          refine WL.op rfl rfl (op_alloc H10 Fa.I59 (fun b11 w11 H11 => ?_))
          refine WL.op rfl rfl (op_storeBW (i := 7) H11 rfl rfl rfl rfl (one_cons rfl (one_cons (Arr.one (H11.arrR (i := 4) rfl)) (one_cons (Arr.one (H11.arrR (i := 5) rfl)) (one_cons rfl (one_cons rfl (one_cons (Arr.one (H11.arrR (i := 6) rfl)) one_nil)))))) Fa.I59 (fun w12 H12 => ?_))
          refine WL.op rfl rfl (op_assign rfl ?_)
          refine WL.nil ?_
          refine WQ.next ?_
          refine WC.seq ?_
          refine WC.region ?_
          refine WL.op rfl rfl (op_loadS (vs := [_, _, _, _, _, _]) rfl (H12.cells (i := 0) rfl rfl) Try.underlying59 rfl Fa.I59 rfl ?_)
          refine WL.op rfl rfl (op_callF Fa.C39 rfl ((copy16_ok pg _ _ _ xs ps con en sg _ (H12.arr hE) (H12.arr hP) (H12.arr hS) (by omega) (by omega) (by omega)).mono (fun e w13 hq => ?_)))
          obtain ⟨v13, u13, q13, rfl, hq13⟩ := hq
          refine ⟨_, rfl, ?_⟩
          have H13 : Own [] w w13 [.blk b1 [(vU32 pg), ev, pv, (.bool con), (vU32 en), sv] 59, .row v7 130 2 xs.length (List.flatMap xtc xs), .row u7 92 1 ps.length (List.map vU16 ps), .row q7 111 3 sg.length (List.flatMap sgc sg), .row v10 130 2 (opI key (slS key pg xs ps con en sg)).xs.length (List.flatMap xtc (opI key (slS key pg xs ps con en sg)).xs), .row u10 92 1 (opI key (slS key pg xs ps con en sg)).ps.length (List.map vU16 (opI key (slS key pg xs ps con en sg)).ps), .row q10 111 3 (opI key (slS key pg xs ps con en sg)).sg.length (List.flatMap sgc (opI key (slS key pg xs ps con en sg)).sg), .blk b11 [(vU32 (opI key (slS key pg xs ps con en sg)).pg), v10, u10, (.bool (opI key (slS key pg xs ps con en sg)).c), (vU32 (opI key (slS key pg xs ps con en sg)).en), q10] 59, .row v13 130 2 xs.length (List.flatMap xtc xs), .row u13 92 1 ps.length (List.map vU16 ps), .row q13 111 3 sg.length (List.flatMap sgc sg)] := H12.splice [] [] [.row v13 130 2 xs.length (List.flatMap xtc xs), .row u13 92 1 ps.length (List.map vU16 ps), .row q13 111 3 sg.length (List.flatMap sgc sg)] rfl rfl hq13 (Fits.solid True.intro (Fits.solid True.intro (Fits.solid True.intro Fits.nil)))
          refine WL.op rfl rfl (op_callF Fa.C41 rfl ((iput_ok pg _ _ _ xs ps con en sg _ (H13.arrR (i := 8) rfl) (H13.arrR (i := 9) rfl) (H13.arrR (i := 10) rfl) (by omega) (by omega) (by omega) hb1).mono (fun e w14 hq => ?_)))
          obtain ⟨rfl, hf14⟩ := hq
          refine ⟨_, rfl, ?_⟩
          have H14 := H13.fr' hf14
          refine WL.op rfl rfl (op_move rfl ?_)
          refine WL.op rfl rfl (op_extract rfl rfl ?_)
          refine WL.op rfl rfl (op_extract rfl rfl ?_)
          refine WL.op rfl rfl (op_assign rfl ?_)
          refine WL.op rfl rfl (op_assign rfl ?_)
          refine WL.nil ?_
          refine WQ.next ?_
          refine WC.seq ?_
          refine WC.region ?_
          refine WL.op rfl rfl (op_move rfl ?_)
          refine WL.op rfl rfl (op_neqN (b := 0) rfl rfl ?_)
          refine WL.op rfl rfl (op_move rfl ?_)
          refine WL.yes rfl rfl rfl (decide_eq_false (fun h => h ((seal_open hI hl1.2.2.2).1))) rfl (op_loadS (vs := [_, _, _, _, _, _]) rfl (H14.cells (i := 0) rfl rfl) Try.underlying59 rfl Fa.I59 rfl ?_)
          refine WL.yes rfl rfl rfl (decide_eq_false (fun h => h ((seal_open hI hl1.2.2.2).1))) rfl (op_loadS (vs := [_, _, _, _, _, _]) rfl (H14.cells (i := 7) rfl rfl) Try.underlying59 rfl Fa.I59 rfl ?_)
          refine WL.yes rfl rfl rfl (decide_eq_false (fun h => h ((seal_open hI hl1.2.2.2).1))) rfl (op_callF Fa.C44 rfl ((isame_ok pg con _ _ _ xs ps en sg ((opI key (slS key pg xs ps con en sg)).pg) ((opI key (slS key pg xs ps con en sg)).c) _ _ _ ((opI key (slS key pg xs ps con en sg)).xs) ((opI key (slS key pg xs ps con en sg)).ps) ((opI key (slS key pg xs ps con en sg)).en) ((opI key (slS key pg xs ps con en sg)).sg) _ (H14.arr hE) (H14.arr hP) (H14.arr hS) (H14.arrR (i := 4) rfl) (H14.arrR (i := 5) rfl) (H14.arrR (i := 6) rfl) (by omega) (by omega) (by omega)).mono (fun e w15 hq => ?_)))
          obtain ⟨rfl, hf15⟩ := hq
          refine ⟨_, rfl, ?_⟩
          have H15 := H14.fr' hf15
          refine WL.yes rfl rfl rfl (decide_eq_false (fun h => h ((seal_open hI hl1.2.2.2).1))) rfl (op_not rfl ?_)
          refine WL.op rfl rfl (op_pickF rfl (decide_eq_false (fun h => h ((seal_open hI hl1.2.2.2).1))) rfl ?_)
          refine WL.op rfl rfl (op_move rfl ?_)
          refine WL.yes rfl rfl rfl (congrArg Bool.not (same_open hI hl1.2.2.2)) rfl (op_move rfl ?_)
          refine WL.yes rfl rfl rfl (congrArg Bool.not (same_open hI hl1.2.2.2)) rfl (op_neqN (b := 0) rfl rfl ?_)
          refine WL.op rfl rfl (op_pickF rfl (congrArg Bool.not (same_open hI hl1.2.2.2)) rfl ?_)
          refine WL.op rfl rfl (op_move rfl ?_)
          refine WL.yes rfl rfl rfl (decide_eq_false (fun h => h (hI))) rfl (op_move rfl ?_)
          refine WL.yes rfl rfl rfl (decide_eq_false (fun h => h (hI))) rfl (op_move rfl ?_)
          refine WL.yes rfl rfl rfl (decide_eq_false (fun h => h (hI))) rfl (op_move rfl ?_)
          refine WL.yes rfl rfl rfl (decide_eq_false (fun h => h (hI))) rfl (op_move rfl ?_)
          refine WL.yes rfl rfl rfl (decide_eq_false (fun h => h (hI))) rfl (op_callF Fa.C65 rfl ((msum_ok key (imB pg xs ps con en sg) _ (by omega) (by have := imB_38 (pg := pg) (c := con) (en := en) hl1; omega)).mono (fun e w16 hq => ?_)))
          obtain ⟨rfl, hf16⟩ := hq
          refine ⟨_, rfl, ?_⟩
          have H16 := H15.fr' hf16
          refine WL.yes rfl rfl rfl (decide_eq_false (fun h => h (hI))) rfl (op_addStr rfl rfl (by rw [mac_length]; have := imB_38 (pg := pg) (c := con) (en := en) hl1; omega) ?_)
          refine WL.yes rfl rfl rfl (decide_eq_false (fun h => h (hI))) rfl (op_neqStr rfl rfl ?_)
          refine WL.op rfl rfl (op_pickF rfl (decide_eq_false (fun h => h (hI))) rfl ?_)
          refine WL.nil ?_
          refine WQ.next ?_
          refine WC.no rfl (decide_eq_false (fun h => h (if_pos hI))) ?_
          refine WC.skip ?_
          exact WQ.here () (H16.take 4) ⟨rfl, rfl, rfl, trivial⟩
        ·
          have hc9 := of_decide_eq_false hb9
          refine WC.skip ?_
          exact WQ.here () H8 ⟨rfl, rfl, rfl, trivial⟩
      ·
        rintro ⟨⟩ w17 H17
        show WC _ _ _ _ _ [(0, (str key)), (2, (str s)), (4, (ptr b1 0))] _
        refine WC.seq ?_
        refine WC.region ?_
        refine WL.op rfl rfl (op_move rfl ?_)
        refine WL.op rfl rfl (op_move rfl ?_)
        refine WL.op rfl rfl (op_callF Fa.C68 rfl ((sopen_ok key s _ (by omega) (by first | omega | exact slS_38 hl1)).mono (fun e w18 hq => ?_)))
        obtain ⟨v18, u18, q18, rfl, hq18⟩ := hq
        refine ⟨_, rfl, ?_⟩
        have H18 : Own [] w w18 [.blk b1 [(vU32 pg), ev, pv, (.bool con), (vU32 en), sv] 59, .row v7 130 2 xs.length (List.flatMap xtc xs), .row u7 92 1 ps.length (List.map vU16 ps), .row q7 111 3 sg.length (List.flatMap sgc sg), .row v18 130 2 (opI key s).xs.length (List.flatMap xtc (opI key s).xs), .row u18 92 1 (opI key s).ps.length (List.map vU16 (opI key s).ps), .row q18 111 3 (opI key s).sg.length (List.flatMap sgc (opI key s).sg)] := H17.splice [] [] [.row v18 130 2 (opI key s).xs.length (List.flatMap xtc (opI key s).xs), .row u18 92 1 (opI key s).ps.length (List.map vU16 (opI key s).ps), .row q18 111 3 (opI key s).sg.length (List.flatMap sgc (opI key s).sg)] rfl rfl hq18 (Fits.solid True.intro (Fits.solid True.intro (Fits.solid True.intro Fits.nil)))
        refine WL.op rfl rfl (op_move rfl ?_)
        refine WL.op rfl rfl (op_extract rfl rfl ?_)
        refine WL.op rfl rfl (op_extract rfl rfl ?_)
        refine WL.op rfl rfl (op_alloc H18 Fa.I59 (fun b19 w19 H19 => ?_))
        refine WL.op rfl rfl (op_storeBW (i := 7) H19 rfl rfl rfl rfl (one_cons rfl (one_cons (Arr.one (H19.arrR (i := 4) rfl)) (one_cons (Arr.one (H19.arrR (i := 5) rfl)) (one_cons rfl (one_cons rfl (one_cons (Arr.one (H19.arrR (i := 6) rfl)) one_nil)))))) Fa.I59 (fun w20 H20 => ?_))
        refine WL.op rfl rfl (op_assign rfl ?_)
        refine WL.nil ?_
        refine WQ.next ?_
        refine WC.seq ?_
        refine WC.seq ?_
        refine WC.region ?_
        refine WL.op rfl rfl (op_move rfl ?_)
        refine WL.op rfl rfl (op_eqlN (b := 0) rfl rfl ?_)
        refine WL.nil ?_
        refine WQ.next ?_
        refine WC.cond rfl (fun (hb21 : (decide ((opC key s) = 0)) = true) => ?_) (fun (hb21 : (decide ((opC key s) = 0)) = false) => ?_)
        ·
          have hc21 := of_decide_eq_true hb21
          have hO : opC key s = 0 := hc21
          have hos := open_seal hO
          have hob := op_bounds hO (by omega)
          refine WC.seq ?_
          refine WC.region ?_
          refine WL.op rfl rfl (op_move rfl ?_)
          refine WL.op rfl rfl (op_loadS (vs := [_, _, _, _, _, _]) rfl (H20.cells (i := 7) rfl rfl) Try.underlying59 rfl Fa.I59 rfl ?_)
          refine WL.op rfl rfl (op_callF Fa.C67 rfl ((seal_ok key ((opI key s).pg) _ _ _ ((opI key s).xs) ((opI key s).ps) ((opI key s).c) ((opI key s).en) ((opI key s).sg) _ (H20.arrR (i := 4) rfl) (H20.arrR (i := 5) rfl) (H20.arrR (i := 6) rfl) (by omega) (by first | omega | exact hob.1) (by first | omega | exact hob.2.1) (by first | omega | exact hob.2.2.1) (by first | with_reducible exact hb1 | with_reducible exact hob.2.2.2.1) (by first | exact Nat.lt_trans (imB_38 hl1) (by decide) | with_reducible exact hob.2.2.2.2)).mono (fun e w22 hq => ?_)))
          obtain ⟨rfl, hf22⟩ := hq
          refine ⟨_, rfl, ?_⟩
          have H22 := H20.fr' hf22
          refine WL.op rfl rfl (op_move rfl ?_)
          refine WL.op rfl rfl (op_extract rfl rfl ?_)
          refine WL.op rfl rfl (op_extract rfl rfl ?_)
          refine WL.op rfl rfl (op_assign rfl ?_)
          refine WL.op rfl rfl (op_assign rfl ?_)
          refine WL.nil ?_
          refine WQ.next ?_
          refine WC.seq ?_
          refine WC.region ?_
          refine WL.op rfl rfl (op_move rfl ?_)
          refine WL.op rfl rfl (op_eqlN (b := 0) rfl rfl ?_)
          refine WL.op rfl rfl (op_move rfl ?_)
          refine WL.yes rfl rfl rfl (decide_eq_true (hos.1)) rfl (op_move rfl ?_)
          refine WL.yes rfl rfl rfl (decide_eq_true (hos.1)) rfl (op_move rfl ?_)
          refine WL.yes rfl rfl rfl (decide_eq_true (hos.1)) rfl (op_eqlStr rfl rfl ?_)
          refine WL.op rfl rfl (op_pickT rfl (decide_eq_true (hos.1)) rfl ?_)
          refine WL.op rfl rfl (op_move rfl ?_)
          refine WL.yes rfl rfl rfl (decide_eq_true (hos.2.1)) rfl (op_callF Fa.C66 rfl ((alive17_ok _).mono (fun e w23 hq => ?_)))
          obtain ⟨rfl, hf23⟩ := hq
          refine ⟨_, rfl, ?_⟩
          have H23 := H22.fr' hf23
          refine WL.op rfl rfl (op_pickT rfl (decide_eq_true (hos.2.1)) rfl ?_)
          refine WL.op rfl rfl (op_assign rfl ?_)
          refine WL.nil ?_
          refine WQ.next ?_
          refine WC.ret ?_
          refine WQ.thenRet ?_
          refine WQ.out (.tmp rfl .nil) ?_
          exact ⟨rfl, H23.fr⟩
        ·
          have hc21 := of_decide_eq_false hb21
          have hno := open_no hc21
          refine WC.skip ?_
          refine WQ.next ?_
          refine WC.seq ?_
          refine WC.seq ?_
          refine WC.region ?_
          refine WL.op rfl rfl (op_fieldAddr rfl Fa.F59_2 ?_)
          refine WL.op rfl rfl (op_load rfl (H20.cell (i := 7) rfl rfl) Try.underlying57 rfl ?_)
          refine WL.op rfl rfl (op_lenA Try.underlying57 rfl (H20.arrR (i := 6) rfl) ?_)
          refine WL.op rfl rfl (op_neqN (b := 0) rfl rfl ?_)
          refine WL.op rfl rfl (op_move rfl ?_)
          refine WL.yes rfl rfl rfl (decide_eq_false (fun h => h (by rw [hno.1]; rfl))) rfl (op_move rfl ?_)
          refine WL.yes rfl rfl rfl (decide_eq_false (fun h => h (by rw [hno.1]; rfl))) rfl (op_neqN (b := 7) rfl rfl ?_)
          refine WL.yes rfl rfl rfl (decide_eq_false (fun h => h (by rw [hno.1]; rfl))) rfl (op_move rfl ?_)
          refine WL.split (t := 103) rfl (fun (hb24 : (decide ((opC key s) ≠ 7)) = true) => ?_) (fun (hb24 : (decide ((opC key s) ≠ 7)) = false) => ?_)
          ·
            have hc24 := of_decide_eq_true hb24
            refine WL.yes rfl rfl rfl hb24 rfl (op_move rfl ?_)
            refine WL.yes rfl rfl rfl hb24 rfl (op_neqN (b := 170) rfl rfl ?_)
            refine WL.yes rfl rfl rfl (decide_eq_false (fun h => h (by rw [hno.1]; rfl))) rfl (op_pickT rfl hb24 rfl ?_)
            refine WL.op rfl rfl (op_pickF rfl (decide_eq_false (fun h => h (by rw [hno.1]; rfl))) rfl ?_)
            refine WL.nil ?_
            refine WQ.next ?_
            refine WC.no rfl (decide_eq_false (fun h => h (hno.2.1.resolve_left hc24))) ?_
            refine WC.skip ?_
            refine WQ.next ?_
            refine WC.seq ?_
            refine WC.seq ?_
            refine WC.region ?_
            refine WL.op rfl rfl (op_move rfl ?_)
            refine WL.op rfl rfl (op_lenStr Try.underlying9 rfl ?_)
            refine WL.op rfl rfl (op_geqN (b := 32) rfl rfl ?_)
            refine WL.op rfl rfl (op_move rfl ?_)
            refine WL.split (t := 111) rfl (fun (hb25 : (decide (s.length ≥ 32)) = true) => ?_) (fun (hb25 : (decide (s.length ≥ 32)) = false) => ?_)
            ·
              have hc25 := of_decide_eq_true hb25
              refine WL.yes rfl rfl rfl hb25 rfl (op_move rfl ?_)
              refine WL.yes rfl rfl rfl hb25 rfl (op_eqlN (b := 7) rfl rfl ?_)
              refine WL.op rfl rfl (op_pickT rfl hb25 rfl ?_)
              refine WL.nil ?_
              refine WQ.next ?_
              refine WC.cond rfl (fun (hb26 : (decide ((opC key s) = 7)) = true) => ?_) (fun (hb26 : (decide ((opC key s) = 7)) = false) => ?_)
              ·
                have hc26 := of_decide_eq_true hb26
                refine WC.seq ?_
                refine WC.region ?_
                refine WL.op rfl rfl (op_move rfl ?_)
                refine WL.op rfl rfl (op_move rfl ?_)
                refine WL.op rfl rfl (op_lenStr Try.underlying9 rfl ?_)
                refine WL.op rfl rfl (op_subN (b := 32) rfl rfl (by omega) (by omega) ?_)
                refine WL.op rfl rfl (op_sliceStrHi Try.underlying9 rfl rfl (by omega) ?_)
                refine WL.op rfl rfl (op_callF Fa.C49 rfl ((iget_ok (s.take (s.length - 32)) _ (by rw [List.length_take]; omega)).mono (fun e w27 hq => ?_)))
                obtain ⟨v27, u27, q27, rfl, hq27⟩ := hq
                refine ⟨_, rfl, ?_⟩
                have H27 : Own [] w w27 [.blk b1 [(vU32 pg), ev, pv, (.bool con), (vU32 en), sv] 59, .row v7 130 2 xs.length (List.flatMap xtc xs), .row u7 92 1 ps.length (List.map vU16 ps), .row q7 111 3 sg.length (List.flatMap sgc sg), .row v18 130 2 (opI key s).xs.length (List.flatMap xtc (opI key s).xs), .row u18 92 1 (opI key s).ps.length (List.map vU16 (opI key s).ps), .row q18 111 3 (opI key s).sg.length (List.flatMap sgc (opI key s).sg), .blk b19 [(vU32 (opI key s).pg), v18, u18, (.bool (opI key s).c), (vU32 (opI key s).en), q18] 59, .row v27 130 2 (imG (s.take (s.length - 32))).xs.length (List.flatMap xtc (imG (s.take (s.length - 32))).xs), .row u27 92 1 (imG (s.take (s.length - 32))).ps.length (List.map vU16 (imG (s.take (s.length - 32))).ps), .row q27 111 3 (imG (s.take (s.length - 32))).sg.length (List.flatMap sgc (imG (s.take (s.length - 32))).sg)] := H20.splice [] [] [.row v27 130 2 (imG (s.take (s.length - 32))).xs.length (List.flatMap xtc (imG (s.take (s.length - 32))).xs), .row u27 92 1 (imG (s.take (s.length - 32))).ps.length (List.map vU16 (imG (s.take (s.length - 32))).ps), .row q27 111 3 (imG (s.take (s.length - 32))).sg.length (List.flatMap sgc (imG (s.take (s.length - 32))).sg)] rfl rfl hq27 (Fits.solid True.intro (Fits.solid True.intro (Fits.solid True.intro Fits.nil)))
                refine WL.op rfl rfl (op_move rfl ?_)
                refine WL.op rfl rfl (op_extract rfl rfl ?_)
                refine WL.op rfl rfl (op_extract rfl rfl ?_)
                refine WL.op rfl rfl (op_alloc H27 Fa.I59 (fun b28 w28 H28 => ?_))
                refine WL.op rfl rfl (op_storeBW (i := 11) H28 rfl rfl rfl rfl (one_cons rfl (one_cons (Arr.one (H28.arrR (i := 8) rfl)) (one_cons (Arr.one (H28.arrR (i := 9) rfl)) (one_cons rfl (one_cons rfl (one_cons (Arr.one (H28.arrR (i := 10) rfl)) one_nil)))))) Fa.I59 (fun w29 H29 => ?_))
                refine WL.op rfl rfl (op_assign rfl ?_)
                refine WL.nil ?_
                refine WQ.next ?_
                refine WC.seq ?_
                refine WC.region ?_
                refine WL.op rfl rfl (op_move rfl ?_)
                refine WL.op rfl rfl (op_eqlN (b := 7) rfl rfl ?_)
                refine WL.op rfl rfl (op_move rfl ?_)
                refine WL.yes rfl rfl rfl (decide_eq_true (hno.2.2 hc25 hc26)) rfl (op_callF Fa.C66 rfl ((alive17_ok _).mono (fun e w30 hq => ?_)))
                obtain ⟨rfl, hf30⟩ := hq
                refine ⟨_, rfl, ?_⟩
                have H30 := H29.fr' hf30
                refine WL.op rfl rfl (op_pickT rfl (decide_eq_true (hno.2.2 hc25 hc26)) rfl ?_)
                refine WL.op rfl rfl (op_assign rfl ?_)
                refine WL.nil ?_
                refine WQ.next ?_
                refine WC.ret ?_
                refine WQ.thenRet ?_
                refine WQ.out (.tmp rfl .nil) ?_
                exact ⟨rfl, H30.fr⟩
              ·
                have hc26 := of_decide_eq_false hb26
                refine WC.skip ?_
                refine WQ.next ?_
                refine WC.seq ?_
                refine WC.region ?_
                refine WL.op rfl rfl (op_callF Fa.C66 rfl ((alive17_ok _).mono (fun e w31 hq => ?_)))
                obtain ⟨rfl, hf31⟩ := hq
                refine ⟨_, rfl, ?_⟩
                have H31 := H20.fr' hf31
                refine WL.op rfl rfl (op_assign rfl ?_)
                refine WL.nil ?_
                refine WQ.next ?_
                refine WC.ret ?_
                refine WQ.out (.tmp rfl .nil) ?_
                exact ⟨rfl, H31.fr⟩
            ·
              have hc25 := of_decide_eq_false hb25
              refine WL.no rfl rfl rfl hb25 rfl ?_
              refine WL.no rfl rfl rfl hb25 rfl ?_
              refine WL.op rfl rfl (op_pickF rfl hb25 rfl ?_)
              refine WL.nil ?_
              refine WQ.next ?_
              refine WC.no rfl rfl ?_
              refine WC.skip ?_
              refine WQ.next ?_
              refine WC.seq ?_
              refine WC.region ?_
              refine WL.op rfl rfl (op_callF Fa.C66 rfl ((alive17_ok _).mono (fun e w32 hq => ?_)))
              obtain ⟨rfl, hf32⟩ := hq
              refine ⟨_, rfl, ?_⟩
              have H32 := H20.fr' hf32
              refine WL.op rfl rfl (op_assign rfl ?_)
              refine WL.nil ?_
              refine WQ.next ?_
              refine WC.ret ?_
              refine WQ.out (.tmp rfl .nil) ?_
              exact ⟨rfl, H32.fr⟩
          ·
            have hc24 := of_decide_eq_false hb24
            refine WL.no rfl rfl rfl hb24 rfl ?_
            refine WL.no rfl rfl rfl hb24 rfl ?_
            refine WL.yes rfl rfl rfl (decide_eq_false (fun h => h (by rw [hno.1]; rfl))) rfl (op_pickF rfl hb24 rfl ?_)
            refine WL.op rfl rfl (op_pickF rfl (decide_eq_false (fun h => h (by rw [hno.1]; rfl))) rfl ?_)
            refine WL.nil ?_
            refine WQ.next ?_
            refine WC.no rfl rfl ?_
            refine WC.skip ?_
            refine WQ.next ?_
            refine WC.seq ?_
            refine WC.seq ?_
            refine WC.region ?_
            refine WL.op rfl rfl (op_move rfl ?_)
            refine WL.op rfl rfl (op_lenStr Try.underlying9 rfl ?_)
            refine WL.op rfl rfl (op_geqN (b := 32) rfl rfl ?_)
            refine WL.op rfl rfl (op_move rfl ?_)
            refine WL.split (t := 111) rfl (fun (hb33 : (decide (s.length ≥ 32)) = true) => ?_) (fun (hb33 : (decide (s.length ≥ 32)) = false) => ?_)
            ·
              have hc33 := of_decide_eq_true hb33
              refine WL.yes rfl rfl rfl hb33 rfl (op_move rfl ?_)
              refine WL.yes rfl rfl rfl hb33 rfl (op_eqlN (b := 7) rfl rfl ?_)
              refine WL.op rfl rfl (op_pickT rfl hb33 rfl ?_)
              refine WL.nil ?_
              refine WQ.next ?_
              refine WC.cond rfl (fun (hb34 : (decide ((opC key s) = 7)) = true) => ?_) (fun (hb34 : (decide ((opC key s) = 7)) = false) => ?_)
              ·
                have hc34 := of_decide_eq_true hb34
                refine WC.seq ?_
                refine WC.region ?_
                refine WL.op rfl rfl (op_move rfl ?_)
                refine WL.op rfl rfl (op_move rfl ?_)
                refine WL.op rfl rfl (op_lenStr Try.underlying9 rfl ?_)
                refine WL.op rfl rfl (op_subN (b := 32) rfl rfl (by omega) (by omega) ?_)
                refine WL.op rfl rfl (op_sliceStrHi Try.underlying9 rfl rfl (by omega) ?_)
                refine WL.op rfl rfl (op_callF Fa.C49 rfl ((iget_ok (s.take (s.length - 32)) _ (by rw [List.length_take]; omega)).mono (fun e w35 hq => ?_)))
                obtain ⟨v35, u35, q35, rfl, hq35⟩ := hq
                refine ⟨_, rfl, ?_⟩
                have H35 : Own [] w w35 [.blk b1 [(vU32 pg), ev, pv, (.bool con), (vU32 en), sv] 59, .row v7 130 2 xs.length (List.flatMap xtc xs), .row u7 92 1 ps.length (List.map vU16 ps), .row q7 111 3 sg.length (List.flatMap sgc sg), .row v18 130 2 (opI key s).xs.length (List.flatMap xtc (opI key s).xs), .row u18 92 1 (opI key s).ps.length (List.map vU16 (opI key s).ps), .row q18 111 3 (opI key s).sg.length (List.flatMap sgc (opI key s).sg), .blk b19 [(vU32 (opI key s).pg), v18, u18, (.bool (opI key s).c), (vU32 (opI key s).en), q18] 59, .row v35 130 2 (imG (s.take (s.length - 32))).xs.length (List.flatMap xtc (imG (s.take (s.length - 32))).xs), .row u35 92 1 (imG (s.take (s.length - 32))).ps.length (List.map vU16 (imG (s.take (s.length - 32))).ps), .row q35 111 3 (imG (s.take (s.length - 32))).sg.length (List.flatMap sgc (imG (s.take (s.length - 32))).sg)] := H20.splice [] [] [.row v35 130 2 (imG (s.take (s.length - 32))).xs.length (List.flatMap xtc (imG (s.take (s.length - 32))).xs), .row u35 92 1 (imG (s.take (s.length - 32))).ps.length (List.map vU16 (imG (s.take (s.length - 32))).ps), .row q35 111 3 (imG (s.take (s.length - 32))).sg.length (List.flatMap sgc (imG (s.take (s.length - 32))).sg)] rfl rfl hq35 (Fits.solid True.intro (Fits.solid True.intro (Fits.solid True.intro Fits.nil)))
                refine WL.op rfl rfl (op_move rfl ?_)
                refine WL.op rfl rfl (op_extract rfl rfl ?_)
                refine WL.op rfl rfl (op_extract rfl rfl ?_)
                refine WL.op rfl rfl (op_alloc H35 Fa.I59 (fun b36 w36 H36 => ?_))
                refine WL.op rfl rfl (op_storeBW (i := 11) H36 rfl rfl rfl rfl (one_cons rfl (one_cons (Arr.one (H36.arrR (i := 8) rfl)) (one_cons (Arr.one (H36.arrR (i := 9) rfl)) (one_cons rfl (one_cons rfl (one_cons (Arr.one (H36.arrR (i := 10) rfl)) one_nil)))))) Fa.I59 (fun w37 H37 => ?_))
                refine WL.op rfl rfl (op_assign rfl ?_)
                refine WL.nil ?_
                refine WQ.next ?_
                refine WC.seq ?_
                refine WC.region ?_
                refine WL.op rfl rfl (op_move rfl ?_)
                refine WL.op rfl rfl (op_eqlN (b := 7) rfl rfl ?_)
                refine WL.op rfl rfl (op_move rfl ?_)
                refine WL.yes rfl rfl rfl (decide_eq_true (hno.2.2 hc33 hc34)) rfl (op_callF Fa.C66 rfl ((alive17_ok _).mono (fun e w38 hq => ?_)))
                obtain ⟨rfl, hf38⟩ := hq
                refine ⟨_, rfl, ?_⟩
                have H38 := H37.fr' hf38
                refine WL.op rfl rfl (op_pickT rfl (decide_eq_true (hno.2.2 hc33 hc34)) rfl ?_)
                refine WL.op rfl rfl (op_assign rfl ?_)
                refine WL.nil ?_
                refine WQ.next ?_
                refine WC.ret ?_
                refine WQ.thenRet ?_
                refine WQ.out (.tmp rfl .nil) ?_
                exact ⟨rfl, H38.fr⟩
              ·
                have hc34 := of_decide_eq_false hb34
                refine WC.skip ?_
                refine WQ.next ?_
                refine WC.seq ?_
                refine WC.region ?_
                refine WL.op rfl rfl (op_callF Fa.C66 rfl ((alive17_ok _).mono (fun e w39 hq => ?_)))
                obtain ⟨rfl, hf39⟩ := hq
                refine ⟨_, rfl, ?_⟩
                have H39 := H20.fr' hf39
                refine WL.op rfl rfl (op_assign rfl ?_)
                refine WL.nil ?_
                refine WQ.next ?_
                refine WC.ret ?_
                refine WQ.out (.tmp rfl .nil) ?_
                exact ⟨rfl, H39.fr⟩
            ·
              have hc33 := of_decide_eq_false hb33
              refine WL.no rfl rfl rfl hb33 rfl ?_
              refine WL.no rfl rfl rfl hb33 rfl ?_
              refine WL.op rfl rfl (op_pickF rfl hb33 rfl ?_)
              refine WL.nil ?_
              refine WQ.next ?_
              refine WC.no rfl rfl ?_
              refine WC.skip ?_
              refine WQ.next ?_
              refine WC.seq ?_
              refine WC.region ?_
              refine WL.op rfl rfl (op_callF Fa.C66 rfl ((alive17_ok _).mono (fun e w40 hq => ?_)))
              obtain ⟨rfl, hf40⟩ := hq
              refine ⟨_, rfl, ?_⟩
              have H40 := H20.fr' hf40
              refine WL.op rfl rfl (op_assign rfl ?_)
              refine WL.nil ?_
              refine WQ.next ?_
              refine WC.ret ?_
              refine WQ.out (.tmp rfl .nil) ?_
              exact ⟨rfl, H40.fr⟩
end Go.Proofs.Ytpnghdalnghpcaa
