/- General lemmas and walks: EDem6, EDem7, EDem8, EDem9, EDem10. No condition but what each theorem names. -/
import Derived.Test.YtnngbnenekjffaaQ2f19302f
import Derived.Test.YtnngbnenekjffaaQ2f1b771b
import Derived.Test.YtnngbnenekjffaaQe586c449
/-! from EDem6 -/
namespace Go.Proofs.Ytnngbnenekjffaa
open Go.Owl Go.Spec
set_option maxHeartbeats 1000000 in
set_option maxRecDepth 100000 in
theorem dnotes_ok (m : Mf) (ev pv : Value) (w : World) (hE : Arr w ev 2 m.xs.length (List.flatMap xtc m.xs)) (hP : Arr w pv 1 m.ps.length (List.map vU16 m.ps)) (hn : m.xs.length < 2 ^ 42) (hm : m.ps.length < 2 ^ 42) :
    Calls Try.prog 22 #[(.agg #[(vU32 m.pg), ev, pv, (.bool m.con)])] w (fun e w' => ∃ v, e = .returned v ∧ Own [] w w' [.row v 36 3 (notesM m).length (List.flatMap ntc (notesM m))]) := by
  refine enter (args := [(.agg #[(vU32 m.pg), ev, pv, (.bool m.con)])]) Try.func22 rfl rfl ?_
  have H0 : Own [] w w [] := Own.start w []
  refine WC.seq ?_
  refine WC.region ?_
  refine WL.op rfl rfl (op_box H0 rfl rfl (fun b1 w1 H1 => ?_))
  refine WL.op rfl rfl (op_assign rfl ?_)
  have H2 := H1.nilRow 36 3
  refine WL.nil ?_
  refine WQ.next ?_
  refine WC.seq ?_
  refine WC.seq ?_
  refine WC.region ?_
  refine WL.op rfl rfl (op_loadS (vs := [_, _, _, _]) rfl (H2.cells (i := 0) rfl rfl) Try.underlying30 rfl Fa.I30 rfl ?_)
  refine WL.op rfl rfl (op_callF Fa.C15 rfl ((dcheck_ok m.pg _ _ m.xs m.ps m.con _ (H2.arr hE) (H2.arr hP) (by omega) (by omega)).mono (fun e w3 hq => ?_)))
  obtain ⟨rfl, hf3⟩ := hq
  refine ⟨_, rfl, ?_⟩
  have H3 := H2.fr' hf3
  refine WL.op rfl rfl (op_neqN (b := 0) rfl rfl ?_)
  refine WL.nil ?_
  refine WQ.next ?_
  refine WC.cond rfl (fun (hb4 : (decide ((mfE m.pg m.xs m.ps) ≠ 0)) = true) => ?_) (fun (hb4 : (decide ((mfE m.pg m.xs m.ps) ≠ 0)) = false) => ?_)
  ·
    have hc4 := of_decide_eq_true hb4
    refine WC.seq ?_
    refine WC.region ?_
    refine WL.op rfl rfl (op_assign rfl ?_)
    refine WL.nil ?_
    refine WQ.next ?_
    refine WC.ret ?_
    refine WQ.thenRet ?_
    refine WQ.out (.tmp rfl .nil) ?_
    rw [notes_not (mfE_not hb4).1]
    exact ⟨_, rfl, (H3.nilRow 36 3).sel [2] rfl rfl⟩
  ·
    have hc4 := of_decide_eq_false hb4
    refine WC.skip ?_
    refine WQ.next ?_
    refine WC.cut (α := Value) (fun v => [(0, (.agg #[(vU32 m.pg), ev, pv, (.bool m.con)])), (1, (ptr b1 0)), (2, v)]) (fun v w' => Own [] w w' [.blk b1 [(vU32 m.pg), ev, pv, (.bool m.con)] 30, .row v 36 3 (nA m).length (List.flatMap ntc (nA m))]) ?_ ?_
    ·
      refine WC.seq ?_
      refine WC.region ?_
      refine WL.op rfl rfl (op_fieldAddr rfl Fa.F30_0 ?_)
      refine WL.op rfl rfl (op_load rfl (H3.cell (i := 0) rfl rfl) Try.underlying26 rfl ?_)
      refine WL.op rfl rfl (op_gtrU32 (b := 0) rfl rfl ?_)
      refine WL.nil ?_
      refine WQ.next ?_
      refine WC.cond rfl (fun (hb5 : (decide (m.pg > (0 : UInt32))) = true) => ?_) (fun (hb5 : (decide (m.pg > (0 : UInt32))) = false) => ?_)
      ·
        have hc5 := of_decide_eq_true hb5
        refine WC.region ?_
        refine WL.op rfl rfl (op_move rfl ?_)
        refine WL.op rfl rfl (op_fieldAddr rfl Fa.F30_0 ?_)
        refine WL.op rfl rfl (op_load rfl (H3.cell (i := 0) rfl rfl) Try.underlying26 rfl ?_)
        refine WL.op rfl rfl (op_build (cs := [_, _, _]) Fa.I36 Fa.PL36 rfl rfl ?_)
        refine WL.op rfl rfl (op_buildSlice (cs := [_, _, _]) H3 Try.underlying22 Fa.I36 rfl rfl rfl rfl (by decide) (by decide) (fun b6 w6 H6 => ?_))
        refine WL.op rfl rfl (op_appendF (f := ntc) (l := []) (l' := [(Nt.mk 1 m.pg 0)]) (i := 1) H6 Try.underlying22 Fa.I36 rfl rfl rfl rfl (Src.ofArr Try.underlying22 (H6.arrR (i := 2) rfl)) (one_flat (fun _ => by simp [ntc, Value.oneCell'])) (by omega) (by omega) (fun v7 w7 H7 => ?_))
        refine WL.op rfl rfl (op_assign rfl ?_)
        refine WL.nil ?_
        exact WQ.here v7 (Own.rowEqF (i := 1) (f := ntc) (show Own [] w w7 [.blk b1 [(vU32 m.pg), ev, pv, (.bool m.con)] 30, .row v7 36 3 (0 + 1) (List.flatMap ntc ([] ++ [(Nt.mk 1 m.pg 0)]))] from (H7.take 2)) rfl (by rw [nA_yes hb5]; try rfl) (by rw [nA_yes hb5]; try rfl)) ⟨rfl, rfl, rfl, trivial⟩
      ·
        have hc5 := of_decide_eq_false hb5
        refine WC.skip ?_
        exact WQ.here (.slice none 0 0) (Own.rowEqF (i := 1) (f := ntc) (show Own [] w w3 [.blk b1 [(vU32 m.pg), ev, pv, (.bool m.con)] 30, .row (.slice none 0 0) 36 3 0 (List.flatMap ntc [])] from H3) rfl (by rw [nA_no hb5]; try rfl) (by rw [nA_no hb5]; try rfl)) ⟨rfl, rfl, rfl, trivial⟩
    ·
      rintro v w8 H8
      show WC _ _ _ _ _ [(0, (.agg #[(vU32 m.pg), ev, pv, (.bool m.con)])), (1, (ptr b1 0)), (2, v)] _
      refine WC.seq ?_
      refine WC.seq ?_
      refine WC.region ?_
      refine WL.op rfl rfl (op_fieldAddr rfl Fa.F30_1 ?_)
      refine WL.op rfl rfl (op_load rfl (H8.cell (i := 0) rfl rfl) Try.underlying27 rfl ?_)
      refine WL.op rfl rfl (op_lenA Try.underlying27 rfl (H8.arr hE) ?_)
      refine WL.op rfl rfl (op_move rfl ?_)
      refine WL.nil ?_
      refine WQ.next ?_
      refine WC.block ?_
      refine WC.loop (α := Nat × Value) (fun (k, v) => [(0, (.agg #[(vU32 m.pg), ev, pv, (.bool m.con)])), (1, (ptr b1 0)), (2, v), (20, ev), (21, (vN m.xs.length)), (22, (vN k))]) (fun (k, v) w' => (k ≤ m.xs.length) ∧ Own [] w w' [.blk b1 [(vU32 m.pg), ev, pv, (.bool m.con)] 30, .row v 36 3 (nX m k).length (List.flatMap ntc (nX m k))]) (fun (k, v) => m.xs.length - k) (0, v) ⟨Nat.zero_le _, H8⟩ ⟨rfl, rfl, rfl, rfl, rfl, rfl, trivial⟩ ?_
      rintro ⟨k, v⟩ w9 ⟨hk1, H9⟩
      show WC _ _ _ _ _ [(0, (.agg #[(vU32 m.pg), ev, pv, (.bool m.con)])), (1, (ptr b1 0)), (2, v), (20, ev), (21, (vN m.xs.length)), (22, (vN k))] _
      have hnl := nX_len (m := m) k
      refine WC.seq ?_
      refine WC.region ?_
      refine WL.op rfl rfl (op_lssN rfl rfl ?_)
      refine WL.nil ?_
      refine WQ.next ?_
      refine WC.seq ?_
      refine WC.cond rfl (fun (hb10 : (decide (k < m.xs.length)) = true) => ?_) (fun (hb10 : (decide (k < m.xs.length)) = false) => ?_)
      ·
        have hc10 := of_decide_eq_true hb10
        refine WC.skip ?_
        refine WQ.next ?_
        refine WC.seq ?_
        refine WC.block ?_
        refine WC.seq ?_
        refine WC.region ?_
        refine WL.op rfl rfl (op_indexAddr Try.underlying27 Fa.I50 rfl (H9.arr hE) rfl (by omega) ?_)
        refine WL.op rfl rfl (op_loadSP (vs := xtc (m.xs.getD k Xt.zero)) rfl (Arr.atsF (H9.arr hE) (fun _ => rfl) (by decide) Xt.zero (by omega)) Try.underlying50 rfl Fa.I50 rfl ?_)
        refine WL.op rfl rfl (op_alloc H9 Fa.I50 (fun b11 w11 H11 => ?_))
        refine WL.op rfl rfl (op_storeBW (i := 2) H11 rfl rfl rfl rfl rfl Fa.I50 (fun w12 H12 => ?_))
        refine WL.nil ?_
        refine WQ.next ?_
        refine WC.region ?_
        refine WL.op rfl rfl (op_move rfl ?_)
        refine WL.op rfl rfl (op_fieldAddr rfl Fa.F50_0 ?_)
        refine WL.op rfl rfl (op_load rfl (H12.cell (i := 2) rfl rfl) Try.underlying26 rfl ?_)
        refine WL.op rfl rfl (op_fieldAddr rfl Fa.F50_1 ?_)
        refine WL.op rfl rfl (op_load rfl (H12.cell (i := 2) rfl rfl) Try.underlying26 rfl ?_)
        refine WL.op rfl rfl (op_build (cs := [_, _, _]) Fa.I36 Fa.PL36 rfl rfl ?_)
        refine WL.op rfl rfl (op_buildSlice (cs := [_, _, _]) H12 Try.underlying22 Fa.I36 rfl rfl rfl rfl (by decide) (by decide) (fun b13 w13 H13 => ?_))
        refine WL.op rfl rfl (op_appendF (f := ntc) (l := (nX m k)) (l' := [(Nt.mk 2 ((m.xs.getD k Xt.zero).id) ((m.xs.getD k Xt.zero).bl))]) (i := 1) H13 Try.underlying22 Fa.I36 rfl rfl rfl rfl (Src.ofArr Try.underlying22 (H13.arrR (i := 3) rfl)) (one_flat (fun _ => by simp [ntc, Value.oneCell'])) (by omega) (by omega) (fun v14 w14 H14 => ?_))
        refine WL.op rfl rfl (op_assign rfl ?_)
        refine WL.nil ?_
        refine WQ.inNormal ?_
        refine WQ.next ?_
        refine WC.region ?_
        refine WL.op rfl rfl (op_addN (b := 1) rfl rfl (by omega) ?_)
        refine WL.op rfl rfl (op_move rfl ?_)
        refine WL.nil ?_
        exact WQ.round (k + 1, v14) ⟨(by omega), (Own.rowEqF (i := 1) (f := ntc) (show Own [] w w14 [.blk b1 [(vU32 m.pg), ev, pv, (.bool m.con)] 30, .row v14 36 3 ((nX m k).length + 1) (List.flatMap ntc ((nX m k) ++ [(Nt.mk 2 ((m.xs.getD k Xt.zero).id) ((m.xs.getD k Xt.zero).bl))]))] from (H14.take 2)) rfl rfl (by rw [nX, List.length_append]; rfl))⟩ ⟨rfl, rfl, rfl, rfl, rfl, rfl, trivial⟩ (by show m.xs.length - (k + 1) < m.xs.length - k; omega)
      ·
        have hc10 := of_decide_eq_false hb10
        refine WC.exit ?_
        refine WQ.thenExit ?_
        refine WQ.thenExit ?_
        refine WQ.inHere ?_
        refine WQ.next ?_
        refine WC.seq ?_
        refine WC.seq ?_
        refine WC.region ?_
        refine WL.op rfl rfl (op_fieldAddr rfl Fa.F30_2 ?_)
        refine WL.op rfl rfl (op_load rfl (H9.cell (i := 0) rfl rfl) Try.underlying28 rfl ?_)
        refine WL.op rfl rfl (op_lenA Try.underlying28 rfl (H9.arr hP) ?_)
        refine WL.op rfl rfl (op_move rfl ?_)
        refine WL.nil ?_
        refine WQ.next ?_
        refine WC.block ?_
        refine WC.loop (α := Nat × Value) (fun (k, v) => [(0, (.agg #[(vU32 m.pg), ev, pv, (.bool m.con)])), (1, (ptr b1 0)), (2, v), (36, pv), (37, (vN m.ps.length)), (38, (vN k))]) (fun (k, v) w' => (k ≤ m.ps.length) ∧ Own [] w w' [.blk b1 [(vU32 m.pg), ev, pv, (.bool m.con)] 30, .row v 36 3 (nP m k).length (List.flatMap ntc (nP m k))]) (fun (k, v) => m.ps.length - k) (0, v) ⟨Nat.zero_le _, (by have hke : k = m.xs.length := (by omega); have h := (show Own [] w w9 [.blk b1 [(vU32 m.pg), ev, pv, (.bool m.con)] 30, .row v 36 3 (nX m k).length (List.flatMap ntc (nX m k))] from H9); rw [hke] at h; exact h)⟩ ⟨rfl, rfl, rfl, rfl, rfl, rfl, trivial⟩ ?_
        rintro ⟨k, v⟩ w15 ⟨hk2, H15⟩
        show WC _ _ _ _ _ [(0, (.agg #[(vU32 m.pg), ev, pv, (.bool m.con)])), (1, (ptr b1 0)), (2, v), (36, pv), (37, (vN m.ps.length)), (38, (vN k))] _
        have hnl2 := nP_len (m := m) k
        refine WC.seq ?_
        refine WC.region ?_
        refine WL.op rfl rfl (op_lssN rfl rfl ?_)
        refine WL.nil ?_
        refine WQ.next ?_
        refine WC.seq ?_
        refine WC.cond rfl (fun (hb16 : (decide (k < m.ps.length)) = true) => ?_) (fun (hb16 : (decide (k < m.ps.length)) = false) => ?_)
        ·
          have hc16 := of_decide_eq_true hb16
          refine WC.skip ?_
          refine WQ.next ?_
          refine WC.seq ?_
          refine WC.block ?_
          refine WC.seq ?_
          refine WC.region ?_
          refine WL.op rfl rfl (op_indexAddr1 Try.underlying28 Fa.I51 rfl (H15.arr hP) rfl (by omega) ?_)
          refine WL.op rfl rfl (op_load rfl ((H15.arr hP).at (get_map vU16 0 (Arr.ltM (H15.arr hP) (by omega)))) Try.underlying51 rfl ?_)
          refine WL.op rfl rfl (op_assign rfl ?_)
          refine WL.nil ?_
          refine WQ.next ?_
          refine WC.region ?_
          refine WL.op rfl rfl (op_move rfl ?_)
          refine WL.op rfl rfl (op_move rfl ?_)
          refine WL.op rfl rfl (op_convU16U32 (hs := Try.underlying51) (hd := Try.underlying26) rfl ?_)
          refine WL.op rfl rfl (op_build (cs := [_, _, _]) Fa.I36 Fa.PL36 rfl rfl ?_)
          refine WL.op rfl rfl (op_buildSlice (cs := [_, _, _]) H15 Try.underlying22 Fa.I36 rfl rfl rfl rfl (by decide) (by decide) (fun b17 w17 H17 => ?_))
          refine WL.op rfl rfl (op_appendF (f := ntc) (l := (nP m k)) (l' := [(Nt.mk 3 (UInt32.ofNat (m.ps.getD k 0).toNat) 0)]) (i := 1) H17 Try.underlying22 Fa.I36 rfl rfl rfl rfl (Src.ofArr Try.underlying22 (H17.arrR (i := 2) rfl)) (one_flat (fun _ => by simp [ntc, Value.oneCell'])) (by omega) (by omega) (fun v18 w18 H18 => ?_))
          refine WL.op rfl rfl (op_assign rfl ?_)
          refine WL.nil ?_
          refine WQ.inNormal ?_
          refine WQ.next ?_
          refine WC.region ?_
          refine WL.op rfl rfl (op_addN (b := 1) rfl rfl (by omega) ?_)
          refine WL.op rfl rfl (op_move rfl ?_)
          refine WL.nil ?_
          exact WQ.round (k + 1, v18) ⟨(by omega), (Own.rowEqF (i := 1) (f := ntc) (show Own [] w w18 [.blk b1 [(vU32 m.pg), ev, pv, (.bool m.con)] 30, .row v18 36 3 ((nP m k).length + 1) (List.flatMap ntc ((nP m k) ++ [(Nt.mk 3 (UInt32.ofNat (m.ps.getD k 0).toNat) 0)]))] from (H18.take 2)) rfl rfl (by rw [nP, List.length_append]; rfl))⟩ ⟨rfl, rfl, rfl, rfl, rfl, rfl, trivial⟩ (by show m.ps.length - (k + 1) < m.ps.length - k; omega)
        ·
          have hc16 := of_decide_eq_false hb16
          refine WC.exit ?_
          refine WQ.thenExit ?_
          refine WQ.thenExit ?_
          refine WQ.inHere ?_
          refine WQ.next ?_
          refine WC.seq ?_
          refine WC.seq ?_
          refine WC.region ?_
          refine WL.op rfl rfl (op_fieldAddr rfl Fa.F30_3 ?_)
          refine WL.op rfl rfl (op_load rfl (H15.cell (i := 0) rfl rfl) Try.underlying4 rfl ?_)
          refine WL.nil ?_
          refine WQ.next ?_
          refine WC.cond rfl (fun (hb19 : m.con = true) => ?_) (fun (hb19 : m.con = false) => ?_)
          ·
            refine WC.region ?_
            refine WL.op rfl rfl (op_move rfl ?_)
            refine WL.op rfl rfl (op_build (cs := [_, _, _]) Fa.I36 Fa.PL36 rfl rfl ?_)
            refine WL.op rfl rfl (op_buildSlice (cs := [_, _, _]) H15 Try.underlying22 Fa.I36 rfl rfl rfl rfl (by decide) (by decide) (fun b20 w20 H20 => ?_))
            refine WL.op rfl rfl (op_appendF (f := ntc) (l := (nP m k)) (l' := [(Nt.mk 4 0 0)]) (i := 1) H20 Try.underlying22 Fa.I36 rfl rfl rfl rfl (Src.ofArr Try.underlying22 (H20.arrR (i := 2) rfl)) (one_flat (fun _ => by simp [ntc, Value.oneCell'])) (by omega) (by omega) (fun v21 w21 H21 => ?_))
            refine WL.op rfl rfl (op_assign rfl ?_)
            refine WL.nil ?_
            refine WQ.next ?_
            refine WC.seq ?_
            refine WC.region ?_
            refine WL.op rfl rfl (op_move rfl ?_)
            refine WL.op rfl rfl (op_assign rfl ?_)
            refine WL.nil ?_
            refine WQ.next ?_
            refine WC.ret ?_
            refine WQ.out (.tmp rfl .nil) ?_
            have h := (show Own [] w w21 [.blk b1 [(vU32 m.pg), ev, pv, (.bool m.con)] 30, .row v21 36 3 ((nP m k).length + 1) (List.flatMap ntc ((nP m k) ++ [(Nt.mk 4 0 0)])), .row (.slice (some ⟨b20, 0, none⟩) 1 1) 36 3 1 (List.flatMap ntc [(Nt.mk 4 0 0)])] from H21)
            have hke : k = m.ps.length := by omega
            subst hke
            rw [(notes_yes (mfE_may hb4) hb19)]
            exact ⟨_, rfl, (Own.rowEqF (i := 1) (f := ntc) (m' := (nP m m.ps.length ++ [Nt.mk 4 0 0]).length) h rfl rfl (by simp)).sel [1] rfl rfl⟩
          ·
            refine WC.skip ?_
            refine WQ.next ?_
            refine WC.seq ?_
            refine WC.region ?_
            refine WL.op rfl rfl (op_move rfl ?_)
            refine WL.op rfl rfl (op_assign rfl ?_)
            refine WL.nil ?_
            refine WQ.next ?_
            refine WC.ret ?_
            refine WQ.out (.tmp rfl .nil) ?_
            have h := (show Own [] w w15 [.blk b1 [(vU32 m.pg), ev, pv, (.bool m.con)] 30, .row v 36 3 (nP m k).length (List.flatMap ntc (nP m k))] from H15)
            have hke : k = m.ps.length := by omega
            subst hke
            rw [(notes_no (mfE_may hb4) hb19)]
            exact ⟨_, rfl, (Own.rowEqF (i := 1) (f := ntc) (m' := (nP m m.ps.length).length) h rfl rfl (by simp)).sel [1] rfl rfl⟩
set_option maxRecDepth 100000 in
theorem copy11_ok (pg : UInt32) (ev pv : Value) (xs : List Xt) (ps : List UInt16) (con : Bool) (w : World) (hE : Arr w ev 2 xs.length (List.flatMap xtc xs)) (hP : Arr w pv 1 ps.length (List.map vU16 ps)) (hn : xs.length < 2 ^ 40) (hm : ps.length < 2 ^ 40) :
    Calls Try.prog 16 #[(.agg #[(vU32 pg), ev, pv, (.bool con)])] w (fun e w' => ∃ v u, e = .returned (.agg #[vU32 pg, v, u, .bool con]) ∧ Own [] w w' [.row v 50 2 xs.length (List.flatMap xtc xs), .row u 51 1 ps.length (List.map vU16 ps)]) := by
  refine enter (args := [(.agg #[(vU32 pg), ev, pv, (.bool con)])]) Try.func16 rfl rfl ?_
  have H0 : Own [] w w [] := Own.start w []
  refine WC.seq ?_
  refine WC.region ?_
  refine WL.op rfl rfl (op_box H0 rfl rfl (fun b1 w1 H1 => ?_))
  refine WL.op rfl rfl (op_alloc H1 Fa.I30 (fun b2 w2 H2 => ?_))
  refine WL.nil ?_
  refine WQ.next ?_
  refine WC.seq ?_
  refine WC.region ?_
  refine WL.op rfl rfl (op_fieldAddr rfl Fa.F30_1 ?_)
  refine WL.op rfl rfl (op_load rfl (H2.cell (i := 0) rfl rfl) Try.underlying27 rfl ?_)
  have H4 := H2.nilRow 50 2
  refine WL.op rfl rfl (op_appendF (f := xtc) (l := []) (l' := xs) (i := 2) H4 Try.underlying27 Fa.I50 rfl rfl rfl rfl (Src.ofArr Try.underlying27 (H4.arr hE)) (one_flat (fun _ => by simp [xtc, Value.oneCell'])) (by omega) (by omega) (fun v3 w3 H3 => ?_))
  refine WL.op rfl rfl (op_fieldAddr rfl Fa.F30_1 ?_)
  refine WL.op rfl rfl (op_storeB (i := 0) H3 rfl rfl rfl rfl (Arr.one (H3.arrR (i := 2) rfl)) Fa.I27 (fun w5 H5 => ?_))
  refine WL.nil ?_
  refine WQ.next ?_
  refine WC.seq ?_
  refine WC.region ?_
  refine WL.op rfl rfl (op_fieldAddr rfl Fa.F30_2 ?_)
  refine WL.op rfl rfl (op_load rfl (H5.cell (i := 0) rfl rfl) Try.underlying28 rfl ?_)
  have H7 := H5.nilRow 51 1
  refine WL.op rfl rfl (op_appendM (f := vU16) (l := []) (l' := ps) (i := 3) H7 Try.underlying28 Fa.I51 rfl rfl rfl rfl (Src.ofArr Try.underlying28 (H7.arr hP)) (one_mapM (fun _ => rfl)) (by omega) (by omega) (fun v6 w6 H6 => ?_))
  refine WL.op rfl rfl (op_fieldAddr rfl Fa.F30_2 ?_)
  refine WL.op rfl rfl (op_storeB (i := 0) H6 rfl rfl rfl rfl (Arr.one (H6.arrR (i := 3) rfl)) Fa.I28 (fun w8 H8 => ?_))
  refine WL.nil ?_
  refine WQ.next ?_
  refine WC.seq ?_
  refine WC.region ?_
  refine WL.op rfl rfl (op_loadS (vs := [_, _, _, _]) rfl (H8.cells (i := 0) rfl rfl) Try.underlying30 rfl Fa.I30 rfl ?_)
  refine WL.op rfl rfl (op_storeBW (i := 1) H8 rfl rfl rfl rfl (one_cons rfl (one_cons (Arr.one (H8.arrR (i := 2) rfl)) (one_cons (Arr.one (H8.arrR (i := 3) rfl)) (one_cons rfl one_nil)))) Fa.I30 (fun w9 H9 => ?_))
  refine WL.nil ?_
  refine WQ.next ?_
  refine WC.ret ?_
  refine WQ.out (.cell rfl (run_loadVarS (vs := [_, _, _, _]) (H9.cells (i := 1) rfl rfl) Try.underlying30 rfl Fa.I30 rfl) .nil) ?_
  exact ⟨_, _, rfl, (by have h := (show Own [] w w9 [.blk b1 [(vU32 pg), v3, v6, (.bool con)] 30, .blk b2 [(vU32 pg), v3, v6, (.bool con)] 30, .row v3 50 2 (0 + xs.length) (List.flatMap xtc ([] ++ xs)), .row v6 51 1 (0 + ps.length) (List.map vU16 ([] ++ ps))] from H9); have h2 := Own.sel h [2, 3] rfl rfl; simp only [Nat.zero_add, List.nil_append] at h2; exact h2)⟩
set_option maxRecDepth 100000 in
theorem rmay11_ok (pg : UInt32) (ev pv : Value) (xs : List Xt) (ps : List UInt16) (con : Bool) (w : World) (hE : Arr w ev 2 xs.length (List.flatMap xtc xs)) (hP : Arr w pv 1 ps.length (List.map vU16 ps)) (hn : xs.length < 2 ^ 47) (hm : ps.length < 2 ^ 47) :
    Calls Try.prog 17 #[(.agg #[(vU32 pg), ev, pv, (.bool con)])] w (fun e w' => e = .returned (.bool (mfMay pg xs ps)) ∧ Fr [] w w') := by
  refine enter (args := [(.agg #[(vU32 pg), ev, pv, (.bool con)])]) Try.func17 rfl rfl ?_
  have H0 : Own [] w w [] := Own.start w []
  refine WC.seq ?_
  refine WC.region ?_
  refine WL.op rfl rfl (op_box H0 rfl rfl (fun b1 w1 H1 => ?_))
  refine WL.op rfl rfl (op_assign rfl ?_)
  refine WL.nil ?_
  refine WQ.next ?_
  refine WC.seq ?_
  refine WC.seq ?_
  refine WC.region ?_
  refine WL.op rfl rfl (op_assign rfl ?_)
  refine WL.nil ?_
  refine WQ.next ?_
  refine WC.block ?_
  refine WC.loop (α := Nat) (fun k => [(1, (ptr b1 0)), (3, (vN k))]) (fun k w' => (k ≤ xs.length ∧ (∀ j, j < k → xtBad (xs.getD j Xt.zero) = false ∧ (0 < j → ¬ (xs.getD (j - 1) Xt.zero).id ≥ (xs.getD j Xt.zero).id))) ∧ Own [] w w' [.blk b1 [(vU32 pg), ev, pv, (.bool con)] 30]) (fun k => xs.length - k) 0 ⟨⟨Nat.zero_le _, fun j h => by omega⟩, H1⟩ ⟨rfl, rfl, trivial⟩ ?_
  rintro k w2 ⟨⟨hk1, hok⟩, H2⟩
  show WC _ _ _ _ _ [(1, (ptr b1 0)), (3, (vN k))] _
  refine WC.seq ?_
  refine WC.seq ?_
  refine WC.region ?_
  refine WL.op rfl rfl (op_move rfl ?_)
  refine WL.op rfl rfl (op_fieldAddr rfl Fa.F30_1 ?_)
  refine WL.op rfl rfl (op_load rfl (H2.cell (i := 0) rfl rfl) Try.underlying27 rfl ?_)
  refine WL.op rfl rfl (op_lenA Try.underlying27 rfl (H2.arr hE) ?_)
  refine WL.op rfl rfl (op_lssN rfl rfl ?_)
  refine WL.nil ?_
  refine WQ.next ?_
  refine WC.cond rfl (fun (hb3 : (decide (k < xs.length)) = true) => ?_) (fun (hb3 : (decide (k < xs.length)) = false) => ?_)
  ·
    have hc3 := of_decide_eq_true hb3
    refine WC.skip ?_
    refine WQ.next ?_
    refine WC.seq ?_
    refine WC.block ?_
    refine WC.seq ?_
    refine WC.region ?_
    refine WL.op rfl rfl (op_fieldAddr rfl Fa.F30_1 ?_)
    refine WL.op rfl rfl (op_load rfl (H2.cell (i := 0) rfl rfl) Try.underlying27 rfl ?_)
    refine WL.op rfl rfl (op_move rfl ?_)
    refine WL.op rfl rfl (op_indexAddr Try.underlying27 Fa.I50 rfl (H2.arr hE) rfl (by omega) ?_)
    refine WL.op rfl rfl (op_loadSP (vs := xtc (xs.getD k Xt.zero)) rfl (Arr.atsF (H2.arr hE) (fun _ => rfl) (by decide) Xt.zero (by omega)) Try.underlying50 rfl Fa.I50 rfl ?_)
    refine WL.op rfl rfl (op_alloc H2 Fa.I50 (fun b4 w4 H4 => ?_))
    refine WL.op rfl rfl (op_storeBW (i := 1) H4 rfl rfl rfl rfl rfl Fa.I50 (fun w5 H5 => ?_))
    refine WL.nil ?_
    refine WQ.next ?_
    refine WC.seq ?_
    refine bsplit (fun (hb6 : (decide ((xs.getD k Xt.zero).id ≥ (16 : UInt32))) = true) => ?_) (fun (hb6 : (decide ((xs.getD k Xt.zero).id ≥ (16 : UInt32))) = false) => ?_)
    ·
      have hc6 := of_decide_eq_true hb6
      refine WC.draw 29 Fa.M H5 (HW.op rfl (fun w1 H1 => op_fieldAddr rfl Fa.F50_0 ⟨rfl, Fr.refl _ _⟩) (HW.op rfl (fun w1 H1 => op_load rfl (H1.cell (i := 1) rfl rfl) Try.underlying26 rfl ⟨rfl, Fr.refl _ _⟩) (HW.op rfl (fun w1 H1 => op_geqU32 (b := 16) rfl rfl ⟨rfl, Fr.refl _ _⟩) (HW.op rfl (fun w1 H1 => op_move rfl ⟨rfl, Fr.refl _ _⟩) (HW.no rfl rfl rfl hb6 (HW.no rfl rfl rfl hb6 (HW.no rfl rfl rfl hb6 (HW.op rfl (fun w1 H1 => op_pickT rfl hb6 rfl ⟨rfl, Fr.refl _ _⟩) (HW.op rfl (fun w1 H1 => op_move rfl ⟨rfl, Fr.refl _ _⟩) (HW.no rfl rfl rfl rfl (HW.no rfl rfl rfl rfl (HW.no rfl rfl rfl rfl (HW.op rfl (fun w1 H1 => op_pickT rfl rfl rfl ⟨rfl, Fr.refl _ _⟩) (HW.op rfl (fun w1 H1 => op_move rfl ⟨rfl, Fr.refl _ _⟩) (HW.no rfl rfl rfl rfl (HW.no rfl rfl rfl rfl (HW.no rfl rfl rfl rfl (HW.non rfl rfl rfl (HW.non rfl rfl rfl (HW.non rfl rfl rfl (HW.non rfl rfl rfl (HW.non rfl rfl rfl (HW.non rfl rfl rfl (HW.non rfl rfl rfl (HW.non rfl rfl rfl (HW.non rfl rfl rfl (HW.non rfl rfl rfl (HW.no rfl rfl rfl rfl (HW.op rfl (fun w1 H1 => op_pickT rfl rfl rfl ⟨rfl, Fr.refl _ _⟩)  HW.nil))))))))))))))))))))))))))))) (by kernel_rfl) ?_
      intro β7 w7 H7
      refine WL.nil ?_
      refine WQ.next ?_
      refine WC.yes rfl rfl ?_
      refine WC.seq ?_
      refine WC.region ?_
      refine WL.op rfl rfl (op_assign rfl ?_)
      refine WL.nil ?_
      refine WQ.next ?_
      refine WC.ret ?_
      refine WQ.inRet ?_
      refine WQ.thenRet ?_
      refine WQ.thenRet ?_
      refine WQ.inRet ?_
      refine WQ.thenRet ?_
      refine WQ.out (.tmp rfl .nil) ?_
      exact ⟨by rw [mfMay_x (k := k) (by omega) (by (rw [xtBad, hb6]) <;> rfl)]; rfl, H7.fr⟩
    ·
      have hc6 := of_decide_eq_false hb6
      refine bsplit (fun (hb8 : (decide ((xs.getD k Xt.zero).bl < (1 : UInt32))) = true) => ?_) (fun (hb8 : (decide ((xs.getD k Xt.zero).bl < (1 : UInt32))) = false) => ?_)
      ·
        have hc8 := of_decide_eq_true hb8
        refine WC.draw 29 Fa.M H5 (HW.op rfl (fun w1 H1 => op_fieldAddr rfl Fa.F50_0 ⟨rfl, Fr.refl _ _⟩) (HW.op rfl (fun w1 H1 => op_load rfl (H1.cell (i := 1) rfl rfl) Try.underlying26 rfl ⟨rfl, Fr.refl _ _⟩) (HW.op rfl (fun w1 H1 => op_geqU32 (b := 16) rfl rfl ⟨rfl, Fr.refl _ _⟩) (HW.op rfl (fun w1 H1 => op_move rfl ⟨rfl, Fr.refl _ _⟩) (HW.yes rfl rfl rfl hb6 (fun w1 H1 => op_fieldAddr rfl Fa.F50_1 ⟨rfl, Fr.refl _ _⟩) (HW.yes rfl rfl rfl hb6 (fun w1 H1 => op_load rfl (H1.cell (i := 1) rfl rfl) Try.underlying26 rfl ⟨rfl, Fr.refl _ _⟩) (HW.yes rfl rfl rfl hb6 (fun w1 H1 => op_lssU32 (b := 1) rfl rfl ⟨rfl, Fr.refl _ _⟩) (HW.op rfl (fun w1 H1 => op_pickF rfl hb6 rfl ⟨rfl, Fr.refl _ _⟩) (HW.op rfl (fun w1 H1 => op_move rfl ⟨rfl, Fr.refl _ _⟩) (HW.no rfl rfl rfl hb8 (HW.no rfl rfl rfl hb8 (HW.no rfl rfl rfl hb8 (HW.op rfl (fun w1 H1 => op_pickT rfl hb8 rfl ⟨rfl, Fr.refl _ _⟩) (HW.op rfl (fun w1 H1 => op_move rfl ⟨rfl, Fr.refl _ _⟩) (HW.no rfl rfl rfl rfl (HW.no rfl rfl rfl rfl (HW.no rfl rfl rfl rfl (HW.non rfl rfl rfl (HW.non rfl rfl rfl (HW.non rfl rfl rfl (HW.non rfl rfl rfl (HW.non rfl rfl rfl (HW.non rfl rfl rfl (HW.non rfl rfl rfl (HW.non rfl rfl rfl (HW.non rfl rfl rfl (HW.non rfl rfl rfl (HW.no rfl rfl rfl rfl (HW.op rfl (fun w1 H1 => op_pickT rfl rfl rfl ⟨rfl, Fr.refl _ _⟩)  HW.nil))))))))))))))))))))))))))))) (by kernel_rfl) ?_
        intro β9 w9 H9
        refine WL.nil ?_
        refine WQ.next ?_
        refine WC.yes rfl rfl ?_
        refine WC.seq ?_
        refine WC.region ?_
        refine WL.op rfl rfl (op_assign rfl ?_)
        refine WL.nil ?_
        refine WQ.next ?_
        refine WC.ret ?_
        refine WQ.inRet ?_
        refine WQ.thenRet ?_
        refine WQ.thenRet ?_
        refine WQ.inRet ?_
        refine WQ.thenRet ?_
        refine WQ.out (.tmp rfl .nil) ?_
        exact ⟨by rw [mfMay_x (k := k) (by omega) (by (rw [xtBad, hb6, hb8]) <;> rfl)]; rfl, H9.fr⟩
      ·
        have hc8 := of_decide_eq_false hb8
        refine bsplit (fun (hb10 : (decide ((xs.getD k Xt.zero).bl > (1024 : UInt32))) = true) => ?_) (fun (hb10 : (decide ((xs.getD k Xt.zero).bl > (1024 : UInt32))) = false) => ?_)
        ·
          have hc10 := of_decide_eq_true hb10
          refine WC.draw 29 Fa.M H5 (HW.op rfl (fun w1 H1 => op_fieldAddr rfl Fa.F50_0 ⟨rfl, Fr.refl _ _⟩) (HW.op rfl (fun w1 H1 => op_load rfl (H1.cell (i := 1) rfl rfl) Try.underlying26 rfl ⟨rfl, Fr.refl _ _⟩) (HW.op rfl (fun w1 H1 => op_geqU32 (b := 16) rfl rfl ⟨rfl, Fr.refl _ _⟩) (HW.op rfl (fun w1 H1 => op_move rfl ⟨rfl, Fr.refl _ _⟩) (HW.yes rfl rfl rfl hb6 (fun w1 H1 => op_fieldAddr rfl Fa.F50_1 ⟨rfl, Fr.refl _ _⟩) (HW.yes rfl rfl rfl hb6 (fun w1 H1 => op_load rfl (H1.cell (i := 1) rfl rfl) Try.underlying26 rfl ⟨rfl, Fr.refl _ _⟩) (HW.yes rfl rfl rfl hb6 (fun w1 H1 => op_lssU32 (b := 1) rfl rfl ⟨rfl, Fr.refl _ _⟩) (HW.op rfl (fun w1 H1 => op_pickF rfl hb6 rfl ⟨rfl, Fr.refl _ _⟩) (HW.op rfl (fun w1 H1 => op_move rfl ⟨rfl, Fr.refl _ _⟩) (HW.yes rfl rfl rfl hb8 (fun w1 H1 => op_fieldAddr rfl Fa.F50_1 ⟨rfl, Fr.refl _ _⟩) (HW.yes rfl rfl rfl hb8 (fun w1 H1 => op_load rfl (H1.cell (i := 1) rfl rfl) Try.underlying26 rfl ⟨rfl, Fr.refl _ _⟩) (HW.yes rfl rfl rfl hb8 (fun w1 H1 => op_gtrU32 (b := 1024) rfl rfl ⟨rfl, Fr.refl _ _⟩) (HW.op rfl (fun w1 H1 => op_pickF rfl hb8 rfl ⟨rfl, Fr.refl _ _⟩) (HW.op rfl (fun w1 H1 => op_move rfl ⟨rfl, Fr.refl _ _⟩) (HW.no rfl rfl rfl hb10 (HW.no rfl rfl rfl hb10 (HW.no rfl rfl rfl hb10 (HW.non rfl rfl rfl (HW.non rfl rfl rfl (HW.non rfl rfl rfl (HW.non rfl rfl rfl (HW.non rfl rfl rfl (HW.non rfl rfl rfl (HW.non rfl rfl rfl (HW.non rfl rfl rfl (HW.non rfl rfl rfl (HW.non rfl rfl rfl (HW.no rfl rfl rfl hb10 (HW.op rfl (fun w1 H1 => op_pickT rfl hb10 rfl ⟨rfl, Fr.refl _ _⟩)  HW.nil))))))))))))))))))))))))))))) (by kernel_rfl) ?_
          intro β11 w11 H11
          refine WL.nil ?_
          refine WQ.next ?_
          refine WC.yes rfl rfl ?_
          refine WC.seq ?_
          refine WC.region ?_
          refine WL.op rfl rfl (op_assign rfl ?_)
          refine WL.nil ?_
          refine WQ.next ?_
          refine WC.ret ?_
          refine WQ.inRet ?_
          refine WQ.thenRet ?_
          refine WQ.thenRet ?_
          refine WQ.inRet ?_
          refine WQ.thenRet ?_
          refine WQ.out (.tmp rfl .nil) ?_
          exact ⟨by rw [mfMay_x (k := k) (by omega) (by (rw [xtBad, hb6, hb8, hb10]) <;> rfl)]; rfl, H11.fr⟩
        ·
          have hc10 := of_decide_eq_false hb10
          refine bsplit (fun (hb12 : (decide (k > 0)) = true) => ?_) (fun (hb12 : (decide (k > 0)) = false) => ?_)
          ·
            have hc12 := of_decide_eq_true hb12
            refine WC.draw 29 Fa.M H5 (HW.op rfl (fun w1 H1 => op_fieldAddr rfl Fa.F50_0 ⟨rfl, Fr.refl _ _⟩) (HW.op rfl (fun w1 H1 => op_load rfl (H1.cell (i := 1) rfl rfl) Try.underlying26 rfl ⟨rfl, Fr.refl _ _⟩) (HW.op rfl (fun w1 H1 => op_geqU32 (b := 16) rfl rfl ⟨rfl, Fr.refl _ _⟩) (HW.op rfl (fun w1 H1 => op_move rfl ⟨rfl, Fr.refl _ _⟩) (HW.yes rfl rfl rfl hb6 (fun w1 H1 => op_fieldAddr rfl Fa.F50_1 ⟨rfl, Fr.refl _ _⟩) (HW.yes rfl rfl rfl hb6 (fun w1 H1 => op_load rfl (H1.cell (i := 1) rfl rfl) Try.underlying26 rfl ⟨rfl, Fr.refl _ _⟩) (HW.yes rfl rfl rfl hb6 (fun w1 H1 => op_lssU32 (b := 1) rfl rfl ⟨rfl, Fr.refl _ _⟩) (HW.op rfl (fun w1 H1 => op_pickF rfl hb6 rfl ⟨rfl, Fr.refl _ _⟩) (HW.op rfl (fun w1 H1 => op_move rfl ⟨rfl, Fr.refl _ _⟩) (HW.yes rfl rfl rfl hb8 (fun w1 H1 => op_fieldAddr rfl Fa.F50_1 ⟨rfl, Fr.refl _ _⟩) (HW.yes rfl rfl rfl hb8 (fun w1 H1 => op_load rfl (H1.cell (i := 1) rfl rfl) Try.underlying26 rfl ⟨rfl, Fr.refl _ _⟩) (HW.yes rfl rfl rfl hb8 (fun w1 H1 => op_gtrU32 (b := 1024) rfl rfl ⟨rfl, Fr.refl _ _⟩) (HW.op rfl (fun w1 H1 => op_pickF rfl hb8 rfl ⟨rfl, Fr.refl _ _⟩) (HW.op rfl (fun w1 H1 => op_move rfl ⟨rfl, Fr.refl _ _⟩) (HW.yes rfl rfl rfl hb10 (fun w1 H1 => op_move rfl ⟨rfl, Fr.refl _ _⟩) (HW.yes rfl rfl rfl hb10 (fun w1 H1 => op_gtrN (b := 0) rfl rfl ⟨rfl, Fr.refl _ _⟩) (HW.yes rfl rfl rfl hb10 (fun w1 H1 => op_move rfl ⟨rfl, Fr.refl _ _⟩) (HW.yes rfl rfl rfl hb12 (fun w1 H1 => op_fieldAddr rfl Fa.F30_1 ⟨rfl, Fr.refl _ _⟩) (HW.yes rfl rfl rfl hb12 (fun w1 H1 => op_load rfl (H1.cell (i := 0) rfl rfl) Try.underlying27 rfl ⟨rfl, Fr.refl _ _⟩) (HW.yes rfl rfl rfl hb12 (fun w1 H1 => op_move rfl ⟨rfl, Fr.refl _ _⟩) (HW.yes rfl rfl rfl hb12 (fun w1 H1 => op_subN (b := 1) rfl rfl (by omega) (by omega) ⟨rfl, Fr.refl _ _⟩) (HW.yes rfl rfl rfl hb12 (fun w1 H1 => op_indexAddr Try.underlying27 Fa.I50 rfl (H1.arr hE) rfl (by omega) ⟨rfl, Fr.refl _ _⟩) (HW.yes rfl rfl rfl hb12 (fun w1 H1 => op_fieldAddrS rfl Fa.F50_0 ⟨rfl, Fr.refl _ _⟩) (HW.yes rfl rfl rfl hb12 (fun w1 H1 => op_load rfl (Arr.atF (k := 0) (H1.arr hE) (fun _ => rfl) (by decide) Xt.zero (by omega) rfl) Try.underlying26 rfl ⟨rfl, Fr.refl _ _⟩) (HW.yes rfl rfl rfl hb12 (fun w1 H1 => op_fieldAddr rfl Fa.F50_0 ⟨rfl, Fr.refl _ _⟩) (HW.yes rfl rfl rfl hb12 (fun w1 H1 => op_load rfl (H1.cell (i := 1) rfl rfl) Try.underlying26 rfl ⟨rfl, Fr.refl _ _⟩) (HW.yes rfl rfl rfl hb12 (fun w1 H1 => op_geqU32 rfl rfl ⟨rfl, Fr.refl _ _⟩) (HW.yes rfl rfl rfl hb10 (fun w1 H1 => op_pickT rfl hb12 rfl ⟨rfl, Fr.refl _ _⟩) (HW.op rfl (fun w1 H1 => op_pickF rfl hb10 rfl ⟨rfl, Fr.refl _ _⟩)  HW.nil))))))))))))))))))))))))))))) (by kernel_rfl) ?_
            intro β13 w13 H13
            refine WL.nil ?_
            refine WQ.next ?_
            refine WC.cond rfl (fun (hb14 : (decide ((xs.getD (k - 1) Xt.zero).id ≥ (xs.getD k Xt.zero).id)) = true) => ?_) (fun (hb14 : (decide ((xs.getD (k - 1) Xt.zero).id ≥ (xs.getD k Xt.zero).id)) = false) => ?_)
            ·
              have hc14 := of_decide_eq_true hb14
              refine WC.seq ?_
              refine WC.region ?_
              refine WL.op rfl rfl (op_assign rfl ?_)
              refine WL.nil ?_
              refine WQ.next ?_
              refine WC.ret ?_
              refine WQ.inRet ?_
              refine WQ.thenRet ?_
              refine WQ.thenRet ?_
              refine WQ.inRet ?_
              refine WQ.thenRet ?_
              refine WQ.out (.tmp rfl .nil) ?_
              exact ⟨by rw [mfMay_r (k := k) (by omega) (by omega) hc14]; rfl, H13.fr⟩
            ·
              have hc14 := of_decide_eq_false hb14
              refine WC.skip ?_
              refine WQ.inNormal ?_
              refine WQ.next ?_
              refine WC.region ?_
              refine WL.op rfl rfl (op_move rfl ?_)
              refine WL.op rfl rfl (op_addN (b := 1) rfl rfl (by omega) ?_)
              refine WL.op rfl rfl (op_assign rfl ?_)
              refine WL.nil ?_
              exact WQ.round (k + 1) ⟨⟨by omega, allPrev hok ⟨by (rw [xtBad, hb6, hb8, hb10]) <;> rfl, fun h0 => by first | exact hc14 | (exact absurd h0 hc14)⟩⟩, (H13.take 1)⟩ ⟨rfl, rfl, trivial⟩ (by omega)
          ·
            have hc12 := of_decide_eq_false hb12
            refine WC.draw 29 Fa.M H5 (HW.op rfl (fun w1 H1 => op_fieldAddr rfl Fa.F50_0 ⟨rfl, Fr.refl _ _⟩) (HW.op rfl (fun w1 H1 => op_load rfl (H1.cell (i := 1) rfl rfl) Try.underlying26 rfl ⟨rfl, Fr.refl _ _⟩) (HW.op rfl (fun w1 H1 => op_geqU32 (b := 16) rfl rfl ⟨rfl, Fr.refl _ _⟩) (HW.op rfl (fun w1 H1 => op_move rfl ⟨rfl, Fr.refl _ _⟩) (HW.yes rfl rfl rfl hb6 (fun w1 H1 => op_fieldAddr rfl Fa.F50_1 ⟨rfl, Fr.refl _ _⟩) (HW.yes rfl rfl rfl hb6 (fun w1 H1 => op_load rfl (H1.cell (i := 1) rfl rfl) Try.underlying26 rfl ⟨rfl, Fr.refl _ _⟩) (HW.yes rfl rfl rfl hb6 (fun w1 H1 => op_lssU32 (b := 1) rfl rfl ⟨rfl, Fr.refl _ _⟩) (HW.op rfl (fun w1 H1 => op_pickF rfl hb6 rfl ⟨rfl, Fr.refl _ _⟩) (HW.op rfl (fun w1 H1 => op_move rfl ⟨rfl, Fr.refl _ _⟩) (HW.yes rfl rfl rfl hb8 (fun w1 H1 => op_fieldAddr rfl Fa.F50_1 ⟨rfl, Fr.refl _ _⟩) (HW.yes rfl rfl rfl hb8 (fun w1 H1 => op_load rfl (H1.cell (i := 1) rfl rfl) Try.underlying26 rfl ⟨rfl, Fr.refl _ _⟩) (HW.yes rfl rfl rfl hb8 (fun w1 H1 => op_gtrU32 (b := 1024) rfl rfl ⟨rfl, Fr.refl _ _⟩) (HW.op rfl (fun w1 H1 => op_pickF rfl hb8 rfl ⟨rfl, Fr.refl _ _⟩) (HW.op rfl (fun w1 H1 => op_move rfl ⟨rfl, Fr.refl _ _⟩) (HW.yes rfl rfl rfl hb10 (fun w1 H1 => op_move rfl ⟨rfl, Fr.refl _ _⟩) (HW.yes rfl rfl rfl hb10 (fun w1 H1 => op_gtrN (b := 0) rfl rfl ⟨rfl, Fr.refl _ _⟩) (HW.yes rfl rfl rfl hb10 (fun w1 H1 => op_move rfl ⟨rfl, Fr.refl _ _⟩) (HW.no rfl rfl rfl hb12 (HW.no rfl rfl rfl hb12 (HW.no rfl rfl rfl hb12 (HW.no rfl rfl rfl hb12 (HW.no rfl rfl rfl hb12 (HW.no rfl rfl rfl hb12 (HW.no rfl rfl rfl hb12 (HW.no rfl rfl rfl hb12 (HW.no rfl rfl rfl hb12 (HW.no rfl rfl rfl hb12 (HW.yes rfl rfl rfl hb10 (fun w1 H1 => op_pickF rfl hb12 rfl ⟨rfl, Fr.refl _ _⟩) (HW.op rfl (fun w1 H1 => op_pickF rfl hb10 rfl ⟨rfl, Fr.refl _ _⟩)  HW.nil))))))))))))))))))))))))))))) (by kernel_rfl) ?_
            intro β15 w15 H15
            refine WL.nil ?_
            refine WQ.next ?_
            refine WC.no rfl rfl ?_
            refine WC.skip ?_
            refine WQ.inNormal ?_
            refine WQ.next ?_
            refine WC.region ?_
            refine WL.op rfl rfl (op_move rfl ?_)
            refine WL.op rfl rfl (op_addN (b := 1) rfl rfl (by omega) ?_)
            refine WL.op rfl rfl (op_assign rfl ?_)
            refine WL.nil ?_
            exact WQ.round (k + 1) ⟨⟨by omega, allPrev hok ⟨by (rw [xtBad, hb6, hb8, hb10]) <;> rfl, fun h0 => by first | exact hc12 | (exact absurd h0 hc12)⟩⟩, (H15.take 1)⟩ ⟨rfl, rfl, trivial⟩ (by omega)
  ·
    have hc3 := of_decide_eq_false hb3
    refine WC.exit ?_
    refine WQ.thenExit ?_
    refine WQ.thenExit ?_
    refine WQ.inHere ?_
    refine WQ.next ?_
    refine WC.seq ?_
    refine WC.seq ?_
    refine WC.region ?_
    refine WL.op rfl rfl (op_assign rfl ?_)
    refine WL.nil ?_
    refine WQ.next ?_
    refine WC.block ?_
    refine WC.loop (α := Nat) (fun i => [(1, (ptr b1 0)), (5, (vN i))]) (fun i w' => (i ≤ ps.length ∧ (∀ j, j < i → ps.getD j 0 ≠ 0 ∧ (0 < j → ¬ ps.getD (j - 1) 0 ≥ ps.getD j 0))) ∧ Own [] w w' [.blk b1 [(vU32 pg), ev, pv, (.bool con)] 30]) (fun i => ps.length - i) 0 ⟨⟨Nat.zero_le _, fun j h => by omega⟩, H2⟩ ⟨rfl, rfl, trivial⟩ ?_
    rintro i w16 ⟨⟨hi1, hoi⟩, H16⟩
    show WC _ _ _ _ _ [(1, (ptr b1 0)), (5, (vN i))] _
    refine WC.seq ?_
    refine WC.seq ?_
    refine WC.region ?_
    refine WL.op rfl rfl (op_move rfl ?_)
    refine WL.op rfl rfl (op_fieldAddr rfl Fa.F30_2 ?_)
    refine WL.op rfl rfl (op_load rfl (H16.cell (i := 0) rfl rfl) Try.underlying28 rfl ?_)
    refine WL.op rfl rfl (op_lenA Try.underlying28 rfl (H16.arr hP) ?_)
    refine WL.op rfl rfl (op_lssN rfl rfl ?_)
    refine WL.nil ?_
    refine WQ.next ?_
    refine WC.cond rfl (fun (hb17 : (decide (i < ps.length)) = true) => ?_) (fun (hb17 : (decide (i < ps.length)) = false) => ?_)
    ·
      have hc17 := of_decide_eq_true hb17
      refine WC.skip ?_
      refine WQ.next ?_
      refine WC.seq ?_
      refine WC.block ?_
      refine WC.seq ?_
      refine bsplit (fun (hb18 : (decide ((ps.getD i 0) = (0 : UInt16))) = true) => ?_) (fun (hb18 : (decide ((ps.getD i 0) = (0 : UInt16))) = false) => ?_)
      ·
        have hc18 := of_decide_eq_true hb18
        refine WC.draw 24 Fa.M H16 (HW.op rfl (fun w1 H1 => op_fieldAddr rfl Fa.F30_2 ⟨rfl, Fr.refl _ _⟩) (HW.op rfl (fun w1 H1 => op_load rfl (H1.cell (i := 0) rfl rfl) Try.underlying28 rfl ⟨rfl, Fr.refl _ _⟩) (HW.op rfl (fun w1 H1 => op_move rfl ⟨rfl, Fr.refl _ _⟩) (HW.op rfl (fun w1 H1 => op_indexAddr1 Try.underlying28 Fa.I51 rfl (H1.arr hP) rfl (by omega) ⟨rfl, Fr.refl _ _⟩) (HW.op rfl (fun w1 H1 => op_load rfl ((H1.arr hP).at (get_map vU16 0 (Arr.ltM (H1.arr hP) (by omega)))) Try.underlying51 rfl ⟨rfl, Fr.refl _ _⟩) (HW.op rfl (fun w1 H1 => op_eqlU16 (b := 0) rfl rfl ⟨rfl, Fr.refl _ _⟩) (HW.op rfl (fun w1 H1 => op_move rfl ⟨rfl, Fr.refl _ _⟩) (HW.no rfl rfl rfl hb18 (HW.no rfl rfl rfl hb18 (HW.no rfl rfl rfl hb18 (HW.non rfl rfl rfl (HW.non rfl rfl rfl (HW.non rfl rfl rfl (HW.non rfl rfl rfl (HW.non rfl rfl rfl (HW.non rfl rfl rfl (HW.non rfl rfl rfl (HW.non rfl rfl rfl (HW.non rfl rfl rfl (HW.non rfl rfl rfl (HW.non rfl rfl rfl (HW.non rfl rfl rfl (HW.no rfl rfl rfl hb18 (HW.op rfl (fun w1 H1 => op_pickT rfl hb18 rfl ⟨rfl, Fr.refl _ _⟩)  HW.nil)))))))))))))))))))))))) (by kernel_rfl) ?_
        intro β19 w19 H19
        refine WL.nil ?_
        refine WQ.next ?_
        refine WC.yes rfl rfl ?_
        refine WC.seq ?_
        refine WC.region ?_
        refine WL.op rfl rfl (op_assign rfl ?_)
        refine WL.nil ?_
        refine WQ.next ?_
        refine WC.ret ?_
        refine WQ.inRet ?_
        refine WQ.thenRet ?_
        refine WQ.thenRet ?_
        refine WQ.inRet ?_
        refine WQ.thenRet ?_
        refine WQ.out (.tmp rfl .nil) ?_
        exact ⟨by rw [mfMay_p (k := i) (by omega) hc18]; rfl, H19.fr⟩
      ·
        have hc18 := of_decide_eq_false hb18
        refine bsplit (fun (hb20 : (decide (i > 0)) = true) => ?_) (fun (hb20 : (decide (i > 0)) = false) => ?_)
        ·
          have hc20 := of_decide_eq_true hb20
          refine WC.draw 24 Fa.M H16 (HW.op rfl (fun w1 H1 => op_fieldAddr rfl Fa.F30_2 ⟨rfl, Fr.refl _ _⟩) (HW.op rfl (fun w1 H1 => op_load rfl (H1.cell (i := 0) rfl rfl) Try.underlying28 rfl ⟨rfl, Fr.refl _ _⟩) (HW.op rfl (fun w1 H1 => op_move rfl ⟨rfl, Fr.refl _ _⟩) (HW.op rfl (fun w1 H1 => op_indexAddr1 Try.underlying28 Fa.I51 rfl (H1.arr hP) rfl (by omega) ⟨rfl, Fr.refl _ _⟩) (HW.op rfl (fun w1 H1 => op_load rfl ((H1.arr hP).at (get_map vU16 0 (Arr.ltM (H1.arr hP) (by omega)))) Try.underlying51 rfl ⟨rfl, Fr.refl _ _⟩) (HW.op rfl (fun w1 H1 => op_eqlU16 (b := 0) rfl rfl ⟨rfl, Fr.refl _ _⟩) (HW.op rfl (fun w1 H1 => op_move rfl ⟨rfl, Fr.refl _ _⟩) (HW.yes rfl rfl rfl hb18 (fun w1 H1 => op_move rfl ⟨rfl, Fr.refl _ _⟩) (HW.yes rfl rfl rfl hb18 (fun w1 H1 => op_gtrN (b := 0) rfl rfl ⟨rfl, Fr.refl _ _⟩) (HW.yes rfl rfl rfl hb18 (fun w1 H1 => op_move rfl ⟨rfl, Fr.refl _ _⟩) (HW.yes rfl rfl rfl hb20 (fun w1 H1 => op_fieldAddr rfl Fa.F30_2 ⟨rfl, Fr.refl _ _⟩) (HW.yes rfl rfl rfl hb20 (fun w1 H1 => op_load rfl (H1.cell (i := 0) rfl rfl) Try.underlying28 rfl ⟨rfl, Fr.refl _ _⟩) (HW.yes rfl rfl rfl hb20 (fun w1 H1 => op_move rfl ⟨rfl, Fr.refl _ _⟩) (HW.yes rfl rfl rfl hb20 (fun w1 H1 => op_subN (b := 1) rfl rfl (by omega) (by omega) ⟨rfl, Fr.refl _ _⟩) (HW.yes rfl rfl rfl hb20 (fun w1 H1 => op_indexAddr1 Try.underlying28 Fa.I51 rfl (H1.arr hP) rfl (by omega) ⟨rfl, Fr.refl _ _⟩) (HW.yes rfl rfl rfl hb20 (fun w1 H1 => op_load rfl ((H1.arr hP).at (get_map vU16 0 (Arr.ltM (H1.arr hP) (by omega)))) Try.underlying51 rfl ⟨rfl, Fr.refl _ _⟩) (HW.yes rfl rfl rfl hb20 (fun w1 H1 => op_fieldAddr rfl Fa.F30_2 ⟨rfl, Fr.refl _ _⟩) (HW.yes rfl rfl rfl hb20 (fun w1 H1 => op_load rfl (H1.cell (i := 0) rfl rfl) Try.underlying28 rfl ⟨rfl, Fr.refl _ _⟩) (HW.yes rfl rfl rfl hb20 (fun w1 H1 => op_move rfl ⟨rfl, Fr.refl _ _⟩) (HW.yes rfl rfl rfl hb20 (fun w1 H1 => op_indexAddr1 Try.underlying28 Fa.I51 rfl (H1.arr hP) rfl (by omega) ⟨rfl, Fr.refl _ _⟩) (HW.yes rfl rfl rfl hb20 (fun w1 H1 => op_load rfl ((H1.arr hP).at (get_map vU16 0 (Arr.ltM (H1.arr hP) (by omega)))) Try.underlying51 rfl ⟨rfl, Fr.refl _ _⟩) (HW.yes rfl rfl rfl hb20 (fun w1 H1 => op_geqU16 rfl rfl ⟨rfl, Fr.refl _ _⟩) (HW.yes rfl rfl rfl hb18 (fun w1 H1 => op_pickT rfl hb20 rfl ⟨rfl, Fr.refl _ _⟩) (HW.op rfl (fun w1 H1 => op_pickF rfl hb18 rfl ⟨rfl, Fr.refl _ _⟩)  HW.nil)))))))))))))))))))))))) (by kernel_rfl) ?_
          intro β21 w21 H21
          refine WL.nil ?_
          refine WQ.next ?_
          refine WC.cond rfl (fun (hb22 : (decide ((ps.getD (i - 1) 0) ≥ (ps.getD i 0))) = true) => ?_) (fun (hb22 : (decide ((ps.getD (i - 1) 0) ≥ (ps.getD i 0))) = false) => ?_)
          ·
            have hc22 := of_decide_eq_true hb22
            refine WC.seq ?_
            refine WC.region ?_
            refine WL.op rfl rfl (op_assign rfl ?_)
            refine WL.nil ?_
            refine WQ.next ?_
            refine WC.ret ?_
            refine WQ.inRet ?_
            refine WQ.thenRet ?_
            refine WQ.thenRet ?_
            refine WQ.inRet ?_
            refine WQ.thenRet ?_
            refine WQ.out (.tmp rfl .nil) ?_
            exact ⟨by rw [mfMay_q (k := i) (by omega) (by omega) hc22]; rfl, H21.fr⟩
          ·
            have hc22 := of_decide_eq_false hb22
            refine WC.skip ?_
            refine WQ.inNormal ?_
            refine WQ.next ?_
            refine WC.region ?_
            refine WL.op rfl rfl (op_move rfl ?_)
            refine WL.op rfl rfl (op_addN (b := 1) rfl rfl (by omega) ?_)
            refine WL.op rfl rfl (op_assign rfl ?_)
            refine WL.nil ?_
            exact WQ.round (i + 1) ⟨⟨by omega, allPrev hoi ⟨of_decide_eq_false hb18, fun h0 => by first | exact hc22 | (exact absurd h0 hc22)⟩⟩, H21⟩ ⟨rfl, rfl, trivial⟩ (by omega)
        ·
          have hc20 := of_decide_eq_false hb20
          refine WC.draw 24 Fa.M H16 (HW.op rfl (fun w1 H1 => op_fieldAddr rfl Fa.F30_2 ⟨rfl, Fr.refl _ _⟩) (HW.op rfl (fun w1 H1 => op_load rfl (H1.cell (i := 0) rfl rfl) Try.underlying28 rfl ⟨rfl, Fr.refl _ _⟩) (HW.op rfl (fun w1 H1 => op_move rfl ⟨rfl, Fr.refl _ _⟩) (HW.op rfl (fun w1 H1 => op_indexAddr1 Try.underlying28 Fa.I51 rfl (H1.arr hP) rfl (by omega) ⟨rfl, Fr.refl _ _⟩) (HW.op rfl (fun w1 H1 => op_load rfl ((H1.arr hP).at (get_map vU16 0 (Arr.ltM (H1.arr hP) (by omega)))) Try.underlying51 rfl ⟨rfl, Fr.refl _ _⟩) (HW.op rfl (fun w1 H1 => op_eqlU16 (b := 0) rfl rfl ⟨rfl, Fr.refl _ _⟩) (HW.op rfl (fun w1 H1 => op_move rfl ⟨rfl, Fr.refl _ _⟩) (HW.yes rfl rfl rfl hb18 (fun w1 H1 => op_move rfl ⟨rfl, Fr.refl _ _⟩) (HW.yes rfl rfl rfl hb18 (fun w1 H1 => op_gtrN (b := 0) rfl rfl ⟨rfl, Fr.refl _ _⟩) (HW.yes rfl rfl rfl hb18 (fun w1 H1 => op_move rfl ⟨rfl, Fr.refl _ _⟩) (HW.no rfl rfl rfl hb20 (HW.no rfl rfl rfl hb20 (HW.no rfl rfl rfl hb20 (HW.no rfl rfl rfl hb20 (HW.no rfl rfl rfl hb20 (HW.no rfl rfl rfl hb20 (HW.no rfl rfl rfl hb20 (HW.no rfl rfl rfl hb20 (HW.no rfl rfl rfl hb20 (HW.no rfl rfl rfl hb20 (HW.no rfl rfl rfl hb20 (HW.no rfl rfl rfl hb20 (HW.yes rfl rfl rfl hb18 (fun w1 H1 => op_pickF rfl hb20 rfl ⟨rfl, Fr.refl _ _⟩) (HW.op rfl (fun w1 H1 => op_pickF rfl hb18 rfl ⟨rfl, Fr.refl _ _⟩)  HW.nil)))))))))))))))))))))))) (by kernel_rfl) ?_
          intro β23 w23 H23
          refine WL.nil ?_
          refine WQ.next ?_
          refine WC.no rfl rfl ?_
          refine WC.skip ?_
          refine WQ.inNormal ?_
          refine WQ.next ?_
          refine WC.region ?_
          refine WL.op rfl rfl (op_move rfl ?_)
          refine WL.op rfl rfl (op_addN (b := 1) rfl rfl (by omega) ?_)
          refine WL.op rfl rfl (op_assign rfl ?_)
          refine WL.nil ?_
          exact WQ.round (i + 1) ⟨⟨by omega, allPrev hoi ⟨of_decide_eq_false hb18, fun h0 => by first | exact hc20 | (exact absurd h0 hc20)⟩⟩, H23⟩ ⟨rfl, rfl, trivial⟩ (by omega)
    ·
      have hc17 := of_decide_eq_false hb17
      refine WC.exit ?_
      refine WQ.thenExit ?_
      refine WQ.thenExit ?_
      refine WQ.inHere ?_
      refine WQ.next ?_
      refine WC.seq ?_
      refine WC.region ?_
      refine WL.op rfl rfl (op_fieldAddr rfl Fa.F30_0 ?_)
      refine WL.op rfl rfl (op_load rfl (H16.cell (i := 0) rfl rfl) Try.underlying26 rfl ?_)
      refine WL.op rfl rfl (op_leqU32 (b := 1024) rfl rfl ?_)
      refine WL.op rfl rfl (op_move rfl ?_)
      refine WL.split (t := 81) rfl (fun (hb24 : (decide (pg ≤ (1024 : UInt32))) = true) => ?_) (fun (hb24 : (decide (pg ≤ (1024 : UInt32))) = false) => ?_)
      ·
        have hc24 := of_decide_eq_true hb24
        refine WL.yes rfl rfl rfl hb24 rfl (op_fieldAddr rfl Fa.F30_2 ?_)
        refine WL.yes rfl rfl rfl hb24 rfl (op_load rfl (H16.cell (i := 0) rfl rfl) Try.underlying28 rfl ?_)
        refine WL.yes rfl rfl rfl hb24 rfl (op_lenA Try.underlying28 rfl (H16.arr hP) ?_)
        refine WL.yes rfl rfl rfl hb24 rfl (op_leqN (b := 16) rfl rfl ?_)
        refine WL.op rfl rfl (op_pickT rfl hb24 rfl ?_)
        refine WL.op rfl rfl (op_assign rfl ?_)
        refine WL.nil ?_
        refine WQ.next ?_
        refine WC.ret ?_
        refine WQ.out (.tmp rfl .nil) ?_
        exact ⟨by (rw [mfMay_end (fun j hj => hok j (by omega)) (fun j hj => hoi j (by omega)), hb24]) <;> rfl, H16.fr⟩
      ·
        have hc24 := of_decide_eq_false hb24
        refine WL.no rfl rfl rfl hb24 rfl ?_
        refine WL.no rfl rfl rfl hb24 rfl ?_
        refine WL.no rfl rfl rfl hb24 rfl ?_
        refine WL.no rfl rfl rfl hb24 rfl ?_
        refine WL.op rfl rfl (op_pickF rfl hb24 rfl ?_)
        refine WL.op rfl rfl (op_assign rfl ?_)
        refine WL.nil ?_
        refine WQ.next ?_
        refine WC.ret ?_
        refine WQ.out (.tmp rfl .nil) ?_
        exact ⟨by (rw [mfMay_end (fun j hj => hok j (by omega)) (fun j hj => hoi j (by omega)), hb24]) <;> rfl, H16.fr⟩
set_option maxHeartbeats 1000000 in
set_option maxRecDepth 100000 in
theorem rnotes_ok (m : Mf) (ev pv : Value) (w : World) (hE : Arr w ev 2 m.xs.length (List.flatMap xtc m.xs)) (hP : Arr w pv 1 m.ps.length (List.map vU16 m.ps)) (hn : m.xs.length < 2 ^ 42) (hm : m.ps.length < 2 ^ 42) :
    Calls Try.prog 23 #[(.agg #[(vU32 m.pg), ev, pv, (.bool m.con)])] w (fun e w' => ∃ v, e = .returned v ∧ Own [] w w' [.row v 36 3 (notesM m).length (List.flatMap ntc (notesM m))]) := by
  refine enter (args := [(.agg #[(vU32 m.pg), ev, pv, (.bool m.con)])]) Try.func23 rfl rfl ?_
  have H0 : Own [] w w [] := Own.start w []
  refine WC.seq ?_
  refine WC.region ?_
  refine WL.op rfl rfl (op_box H0 rfl rfl (fun b1 w1 H1 => ?_))
  refine WL.op rfl rfl (op_assign rfl ?_)
  refine WL.nil ?_
  refine WQ.next ?_
  refine WC.seq ?_
  refine WC.region ?_
  refine WL.op rfl rfl (op_assign rfl ?_)
  have H2 := H1.nilRow 36 3
  refine WL.nil ?_
  refine WQ.next ?_
  refine WC.seq ?_
  refine WC.seq ?_
  refine WC.region ?_
  refine WL.op rfl rfl (op_loadS (vs := [_, _, _, _]) rfl (H2.cells (i := 0) rfl rfl) Try.underlying30 rfl Fa.I30 rfl ?_)
  refine WL.op rfl rfl (op_callF Fa.C17 rfl ((rmay11_ok m.pg _ _ m.xs m.ps m.con _ (H2.arr hE) (H2.arr hP) (by omega) (by omega)).mono (fun e w3 hq => ?_)))
  obtain ⟨rfl, hf3⟩ := hq
  refine ⟨_, rfl, ?_⟩
  have H3 := H2.fr' hf3
  refine WL.op rfl rfl (op_not rfl ?_)
  refine WL.nil ?_
  refine WQ.next ?_
  refine WC.cond rfl (fun (hb4 : (!(Mf.may m)) = true) => ?_) (fun (hb4 : (!(Mf.may m)) = false) => ?_)
  ·
    have hn4 := (Bool.not_eq_true' _).mp hb4
    refine WC.seq ?_
    refine WC.region ?_
    refine WL.op rfl rfl (op_assign rfl ?_)
    refine WL.nil ?_
    refine WQ.next ?_
    refine WC.ret ?_
    refine WQ.thenRet ?_
    refine WQ.out (.tmp rfl .nil) ?_
    rw [notes_not hn4]
    exact ⟨_, rfl, (H3.nilRow 36 3).sel [2] rfl rfl⟩
  ·
    have hn4 := (Bool.not_eq_false' _).mp hb4
    refine WC.skip ?_
    refine WQ.next ?_
    refine WC.cut (α := Value) (fun v => [(0, (.agg #[(vU32 m.pg), ev, pv, (.bool m.con)])), (1, (ptr b1 0)), (3, v)]) (fun v w' => Own [] w w' [.blk b1 [(vU32 m.pg), ev, pv, (.bool m.con)] 30, .row v 36 3 (nA m).length (List.flatMap ntc (nA m))]) ?_ ?_
    ·
      refine WC.seq ?_
      refine WC.region ?_
      refine WL.op rfl rfl (op_fieldAddr rfl Fa.F30_0 ?_)
      refine WL.op rfl rfl (op_load rfl (H3.cell (i := 0) rfl rfl) Try.underlying26 rfl ?_)
      refine WL.op rfl rfl (op_gtrU32 (b := 0) rfl rfl ?_)
      refine WL.nil ?_
      refine WQ.next ?_
      refine WC.cond rfl (fun (hb5 : (decide (m.pg > (0 : UInt32))) = true) => ?_) (fun (hb5 : (decide (m.pg > (0 : UInt32))) = false) => ?_)
      ·
        have hc5 := of_decide_eq_true hb5
        refine WC.region ?_
        refine WL.op rfl rfl (op_move rfl ?_)
        refine WL.op rfl rfl (op_fieldAddr rfl Fa.F30_0 ?_)
        refine WL.op rfl rfl (op_load rfl (H3.cell (i := 0) rfl rfl) Try.underlying26 rfl ?_)
        refine WL.op rfl rfl (op_build (cs := [_, _, _]) Fa.I36 Fa.PL36 rfl rfl ?_)
        refine WL.op rfl rfl (op_buildSlice (cs := [_, _, _]) H3 Try.underlying22 Fa.I36 rfl rfl rfl rfl (by decide) (by decide) (fun b6 w6 H6 => ?_))
        refine WL.op rfl rfl (op_appendF (f := ntc) (l := []) (l' := [(Nt.mk 1 m.pg 0)]) (i := 1) H6 Try.underlying22 Fa.I36 rfl rfl rfl rfl (Src.ofArr Try.underlying22 (H6.arrR (i := 2) rfl)) (one_flat (fun _ => by simp [ntc, Value.oneCell'])) (by omega) (by omega) (fun v7 w7 H7 => ?_))
        refine WL.op rfl rfl (op_assign rfl ?_)
        refine WL.nil ?_
        exact WQ.here v7 (Own.rowEqF (i := 1) (f := ntc) (show Own [] w w7 [.blk b1 [(vU32 m.pg), ev, pv, (.bool m.con)] 30, .row v7 36 3 (0 + 1) (List.flatMap ntc ([] ++ [(Nt.mk 1 m.pg 0)]))] from (H7.take 2)) rfl (by rw [nA_yes hb5]; try rfl) (by rw [nA_yes hb5]; try rfl)) ⟨rfl, rfl, rfl, trivial⟩
      ·
        have hc5 := of_decide_eq_false hb5
        refine WC.skip ?_
        exact WQ.here (.slice none 0 0) (Own.rowEqF (i := 1) (f := ntc) (show Own [] w w3 [.blk b1 [(vU32 m.pg), ev, pv, (.bool m.con)] 30, .row (.slice none 0 0) 36 3 0 (List.flatMap ntc [])] from H3) rfl (by rw [nA_no hb5]; try rfl) (by rw [nA_no hb5]; try rfl)) ⟨rfl, rfl, rfl, trivial⟩
    ·
      rintro v w8 H8
      show WC _ _ _ _ _ [(0, (.agg #[(vU32 m.pg), ev, pv, (.bool m.con)])), (1, (ptr b1 0)), (3, v)] _
      refine WC.seq ?_
      refine WC.seq ?_
      refine WC.region ?_
      refine WL.op rfl rfl (op_assign rfl ?_)
      refine WL.nil ?_
      refine WQ.next ?_
      refine WC.block ?_
      refine WC.loop (α := Nat × Value) (fun (k, v) => [(0, (.agg #[(vU32 m.pg), ev, pv, (.bool m.con)])), (1, (ptr b1 0)), (3, v), (4, (vN k))]) (fun (k, v) w' => (k ≤ m.xs.length) ∧ Own [] w w' [.blk b1 [(vU32 m.pg), ev, pv, (.bool m.con)] 30, .row v 36 3 (nX m k).length (List.flatMap ntc (nX m k))]) (fun (k, v) => m.xs.length - k) (0, v) ⟨Nat.zero_le _, H8⟩ ⟨rfl, rfl, rfl, rfl, trivial⟩ ?_
      rintro ⟨k, v⟩ w9 ⟨hk1, H9⟩
      show WC _ _ _ _ _ [(0, (.agg #[(vU32 m.pg), ev, pv, (.bool m.con)])), (1, (ptr b1 0)), (3, v), (4, (vN k))] _
      have hnl := nX_len (m := m) k
      refine WC.seq ?_
      refine WC.seq ?_
      refine WC.region ?_
      refine WL.op rfl rfl (op_move rfl ?_)
      refine WL.op rfl rfl (op_fieldAddr rfl Fa.F30_1 ?_)
      refine WL.op rfl rfl (op_load rfl (H9.cell (i := 0) rfl rfl) Try.underlying27 rfl ?_)
      refine WL.op rfl rfl (op_lenA Try.underlying27 rfl (H9.arr hE) ?_)
      refine WL.op rfl rfl (op_lssN rfl rfl ?_)
      refine WL.nil ?_
      refine WQ.next ?_
      refine WC.cond rfl (fun (hb10 : (decide (k < m.xs.length)) = true) => ?_) (fun (hb10 : (decide (k < m.xs.length)) = false) => ?_)
      ·
        have hc10 := of_decide_eq_true hb10
        refine WC.skip ?_
        refine WQ.next ?_
        refine WC.seq ?_
        refine WC.block ?_
        refine WC.draw 15 Fa.M H9 (HW.op rfl (fun w1 H1 => op_move rfl ⟨rfl, Fr.refl _ _⟩) (HW.op rfl (fun w1 H1 => op_fieldAddr rfl Fa.F30_1 ⟨rfl, Fr.refl _ _⟩) (HW.op rfl (fun w1 H1 => op_load rfl (H1.cell (i := 0) rfl rfl) Try.underlying27 rfl ⟨rfl, Fr.refl _ _⟩) (HW.op rfl (fun w1 H1 => op_move rfl ⟨rfl, Fr.refl _ _⟩) (HW.op rfl (fun w1 H1 => op_indexAddr Try.underlying27 Fa.I50 rfl (H1.arr hE) rfl (by omega) ⟨rfl, Fr.refl _ _⟩) (HW.op rfl (fun w1 H1 => op_fieldAddrS rfl Fa.F50_0 ⟨rfl, Fr.refl _ _⟩) (HW.op rfl (fun w1 H1 => op_load rfl (Arr.atF (k := 0) (H1.arr hE) (fun _ => rfl) (by decide) Xt.zero (by omega) rfl) Try.underlying26 rfl ⟨rfl, Fr.refl _ _⟩) (HW.op rfl (fun w1 H1 => op_fieldAddr rfl Fa.F30_1 ⟨rfl, Fr.refl _ _⟩) (HW.op rfl (fun w1 H1 => op_load rfl (H1.cell (i := 0) rfl rfl) Try.underlying27 rfl ⟨rfl, Fr.refl _ _⟩) (HW.op rfl (fun w1 H1 => op_move rfl ⟨rfl, Fr.refl _ _⟩) (HW.op rfl (fun w1 H1 => op_indexAddr Try.underlying27 Fa.I50 rfl (H1.arr hE) rfl (by omega) ⟨rfl, Fr.refl _ _⟩) (HW.op rfl (fun w1 H1 => op_fieldAddrS rfl Fa.F50_1 ⟨rfl, Fr.refl _ _⟩) (HW.op rfl (fun w1 H1 => op_load rfl (Arr.atF (k := 1) (H1.arr hE) (fun _ => rfl) (by decide) Xt.zero (by omega) rfl) Try.underlying26 rfl ⟨rfl, Fr.refl _ _⟩) (HW.op rfl (fun w1 H1 => op_build (cs := [_, _, _]) Fa.I36 Fa.PL36 rfl rfl ⟨rfl, Fr.refl _ _⟩) (HW.flt (mk := fun bq => .slice (some ⟨bq.1, 0, none⟩) 1 1) (ent := fun bq => .row (.slice (some ⟨bq.1, 0, none⟩) 1 1) _ _ _ _) rfl (fun w1 _ => op_buildSlice (cs := [_, _, _]) (Own.start w1 []) Try.underlying22 Fa.I36 rfl rfl rfl rfl (by decide) (by decide) (fun bq w2 H2 => ⟨(bq, undef), rfl, H2, True.intro⟩))  HW.nil))))))))))))))) (by kernel_rfl) ?_
        intro β11 w11 H11
        refine WL.op rfl rfl (op_appendF (f := ntc) (l := (nX m k)) (l' := [(Nt.mk 2 ((m.xs.getD k Xt.zero).id) ((m.xs.getD k Xt.zero).bl))]) (i := 1) H11 Try.underlying22 Fa.I36 rfl rfl rfl rfl (Src.ofArr Try.underlying22 (H11.arrR (i := 2) rfl)) (one_flat (fun _ => by simp [ntc, Value.oneCell'])) (by omega) (by omega) (fun v12 w12 H12 => ?_))
        refine WL.op rfl rfl (op_assign rfl ?_)
        refine WL.nil ?_
        refine WQ.inNormal ?_
        refine WQ.next ?_
        refine WC.region ?_
        refine WL.op rfl rfl (op_move rfl ?_)
        refine WL.op rfl rfl (op_addN (b := 1) rfl rfl (by omega) ?_)
        refine WL.op rfl rfl (op_assign rfl ?_)
        refine WL.nil ?_
        exact WQ.round (k + 1, v12) ⟨(by omega), (Own.rowEqF (i := 1) (f := ntc) (show Own [] w w12 [.blk b1 [(vU32 m.pg), ev, pv, (.bool m.con)] 30, .row v12 36 3 ((nX m k).length + 1) (List.flatMap ntc ((nX m k) ++ [(Nt.mk 2 ((m.xs.getD k Xt.zero).id) ((m.xs.getD k Xt.zero).bl))]))] from (H12.take 2)) rfl rfl (by rw [nX, List.length_append]; rfl))⟩ ⟨rfl, rfl, rfl, rfl, trivial⟩ (by show m.xs.length - (k + 1) < m.xs.length - k; omega)
      ·
        have hc10 := of_decide_eq_false hb10
        refine WC.exit ?_
        refine WQ.thenExit ?_
        refine WQ.thenExit ?_
        refine WQ.inHere ?_
        refine WQ.next ?_
        refine WC.seq ?_
        refine WC.seq ?_
        refine WC.region ?_
        refine WL.op rfl rfl (op_assign rfl ?_)
        refine WL.nil ?_
        refine WQ.next ?_
        refine WC.block ?_
        refine WC.loop (α := Nat × Value) (fun (k, v) => [(0, (.agg #[(vU32 m.pg), ev, pv, (.bool m.con)])), (1, (ptr b1 0)), (3, v), (5, (vN k))]) (fun (k, v) w' => (k ≤ m.ps.length) ∧ Own [] w w' [.blk b1 [(vU32 m.pg), ev, pv, (.bool m.con)] 30, .row v 36 3 (nP m k).length (List.flatMap ntc (nP m k))]) (fun (k, v) => m.ps.length - k) (0, v) ⟨Nat.zero_le _, (by have hke : k = m.xs.length := (by omega); have h := (show Own [] w w9 [.blk b1 [(vU32 m.pg), ev, pv, (.bool m.con)] 30, .row v 36 3 (nX m k).length (List.flatMap ntc (nX m k))] from H9); rw [hke] at h; exact h)⟩ ⟨rfl, rfl, rfl, rfl, trivial⟩ ?_
        rintro ⟨k, v⟩ w13 ⟨hk2, H13⟩
        show WC _ _ _ _ _ [(0, (.agg #[(vU32 m.pg), ev, pv, (.bool m.con)])), (1, (ptr b1 0)), (3, v), (5, (vN k))] _
        have hnl2 := nP_len (m := m) k
        refine WC.seq ?_
        refine WC.seq ?_
        refine WC.region ?_
        refine WL.op rfl rfl (op_move rfl ?_)
        refine WL.op rfl rfl (op_fieldAddr rfl Fa.F30_2 ?_)
        refine WL.op rfl rfl (op_load rfl (H13.cell (i := 0) rfl rfl) Try.underlying28 rfl ?_)
        refine WL.op rfl rfl (op_lenA Try.underlying28 rfl (H13.arr hP) ?_)
        refine WL.op rfl rfl (op_lssN rfl rfl ?_)
        refine WL.nil ?_
        refine WQ.next ?_
        refine WC.cond rfl (fun (hb14 : (decide (k < m.ps.length)) = true) => ?_) (fun (hb14 : (decide (k < m.ps.length)) = false) => ?_)
        ·
          have hc14 := of_decide_eq_true hb14
          refine WC.skip ?_
          refine WQ.next ?_
          refine WC.seq ?_
          refine WC.block ?_
          refine WC.region ?_
          refine WL.op rfl rfl (op_move rfl ?_)
          refine WL.op rfl rfl (op_fieldAddr rfl Fa.F30_2 ?_)
          refine WL.op rfl rfl (op_load rfl (H13.cell (i := 0) rfl rfl) Try.underlying28 rfl ?_)
          refine WL.op rfl rfl (op_move rfl ?_)
          refine WL.op rfl rfl (op_indexAddr1 Try.underlying28 Fa.I51 rfl (H13.arr hP) rfl (by omega) ?_)
          refine WL.op rfl rfl (op_load rfl ((H13.arr hP).at (get_map vU16 0 (Arr.ltM (H13.arr hP) (by omega)))) Try.underlying51 rfl ?_)
          refine WL.op rfl rfl (op_convU16U32 (hs := Try.underlying51) (hd := Try.underlying26) rfl ?_)
          refine WL.op rfl rfl (op_build (cs := [_, _, _]) Fa.I36 Fa.PL36 rfl rfl ?_)
          refine WL.op rfl rfl (op_buildSlice (cs := [_, _, _]) H13 Try.underlying22 Fa.I36 rfl rfl rfl rfl (by decide) (by decide) (fun b15 w15 H15 => ?_))
          refine WL.op rfl rfl (op_appendF (f := ntc) (l := (nP m k)) (l' := [(Nt.mk 3 (UInt32.ofNat (m.ps.getD k 0).toNat) 0)]) (i := 1) H15 Try.underlying22 Fa.I36 rfl rfl rfl rfl (Src.ofArr Try.underlying22 (H15.arrR (i := 2) rfl)) (one_flat (fun _ => by simp [ntc, Value.oneCell'])) (by omega) (by omega) (fun v16 w16 H16 => ?_))
          refine WL.op rfl rfl (op_assign rfl ?_)
          refine WL.nil ?_
          refine WQ.inNormal ?_
          refine WQ.next ?_
          refine WC.region ?_
          refine WL.op rfl rfl (op_move rfl ?_)
          refine WL.op rfl rfl (op_addN (b := 1) rfl rfl (by omega) ?_)
          refine WL.op rfl rfl (op_assign rfl ?_)
          refine WL.nil ?_
          exact WQ.round (k + 1, v16) ⟨(by omega), (Own.rowEqF (i := 1) (f := ntc) (show Own [] w w16 [.blk b1 [(vU32 m.pg), ev, pv, (.bool m.con)] 30, .row v16 36 3 ((nP m k).length + 1) (List.flatMap ntc ((nP m k) ++ [(Nt.mk 3 (UInt32.ofNat (m.ps.getD k 0).toNat) 0)]))] from (H16.take 2)) rfl rfl (by rw [nP, List.length_append]; rfl))⟩ ⟨rfl, rfl, rfl, rfl, trivial⟩ (by show m.ps.length - (k + 1) < m.ps.length - k; omega)
        ·
          have hc14 := of_decide_eq_false hb14
          refine WC.exit ?_
          refine WQ.thenExit ?_
          refine WQ.thenExit ?_
          refine WQ.inHere ?_
          refine WQ.next ?_
          refine WC.seq ?_
          refine WC.seq ?_
          refine WC.region ?_
          refine WL.op rfl rfl (op_fieldAddr rfl Fa.F30_3 ?_)
          refine WL.op rfl rfl (op_load rfl (H13.cell (i := 0) rfl rfl) Try.underlying4 rfl ?_)
          refine WL.nil ?_
          refine WQ.next ?_
          refine WC.cond rfl (fun (hb17 : m.con = true) => ?_) (fun (hb17 : m.con = false) => ?_)
          ·
            refine WC.region ?_
            refine WL.op rfl rfl (op_move rfl ?_)
            refine WL.op rfl rfl (op_build (cs := [_, _, _]) Fa.I36 Fa.PL36 rfl rfl ?_)
            refine WL.op rfl rfl (op_buildSlice (cs := [_, _, _]) H13 Try.underlying22 Fa.I36 rfl rfl rfl rfl (by decide) (by decide) (fun b18 w18 H18 => ?_))
            refine WL.op rfl rfl (op_appendF (f := ntc) (l := (nP m k)) (l' := [(Nt.mk 4 0 0)]) (i := 1) H18 Try.underlying22 Fa.I36 rfl rfl rfl rfl (Src.ofArr Try.underlying22 (H18.arrR (i := 2) rfl)) (one_flat (fun _ => by simp [ntc, Value.oneCell'])) (by omega) (by omega) (fun v19 w19 H19 => ?_))
            refine WL.op rfl rfl (op_assign rfl ?_)
            refine WL.nil ?_
            refine WQ.next ?_
            refine WC.seq ?_
            refine WC.region ?_
            refine WL.op rfl rfl (op_move rfl ?_)
            refine WL.op rfl rfl (op_assign rfl ?_)
            refine WL.nil ?_
            refine WQ.next ?_
            refine WC.ret ?_
            refine WQ.out (.tmp rfl .nil) ?_
            have h := (show Own [] w w19 [.blk b1 [(vU32 m.pg), ev, pv, (.bool m.con)] 30, .row v19 36 3 ((nP m k).length + 1) (List.flatMap ntc ((nP m k) ++ [(Nt.mk 4 0 0)])), .row (.slice (some ⟨b18, 0, none⟩) 1 1) 36 3 1 (List.flatMap ntc [(Nt.mk 4 0 0)])] from H19)
            have hke : k = m.ps.length := by omega
            subst hke
            rw [(notes_yes (by simpa using hb4) hb17)]
            exact ⟨_, rfl, (Own.rowEqF (i := 1) (f := ntc) (m' := (nP m m.ps.length ++ [Nt.mk 4 0 0]).length) h rfl rfl (by simp)).sel [1] rfl rfl⟩
          ·
            refine WC.skip ?_
            refine WQ.next ?_
            refine WC.seq ?_
            refine WC.region ?_
            refine WL.op rfl rfl (op_move rfl ?_)
            refine WL.op rfl rfl (op_assign rfl ?_)
            refine WL.nil ?_
            refine WQ.next ?_
            refine WC.ret ?_
            refine WQ.out (.tmp rfl .nil) ?_
            have h := (show Own [] w w13 [.blk b1 [(vU32 m.pg), ev, pv, (.bool m.con)] 30, .row v 36 3 (nP m k).length (List.flatMap ntc (nP m k))] from H13)
            have hke : k = m.ps.length := by omega
            subst hke
            rw [(notes_no (by simpa using hb4) hb17)]
            exact ⟨_, rfl, (Own.rowEqF (i := 1) (f := ntc) (m' := (nP m m.ps.length).length) h rfl rfl (by simp)).sel [1] rfl rfl⟩
end Go.Proofs.Ytnngbnenekjffaa
/-! from EDem7 -/
namespace Go.Proofs.Ytnngbnenekjffaa
open Go.Owl Go.Spec
set_option maxRecDepth 100000 in
theorem cov1_ok (x : Xt) (n : Nt) (q : Nat) (w : World) (hQ : cellsAt w q [(vU8 n.kind), (vU32 n.n), (vU32 n.m)]) :
    Calls Try.prog 47 #[(.agg #[(vU32 x.id), (vU32 x.bl)]), (ptr q 0)] w (fun e w' => e = .returned (.bool (covX n x)) ∧ Fr [] w w') := by
  refine enter (args := [(.agg #[(vU32 x.id), (vU32 x.bl)]), (ptr q 0)]) Try.func47 rfl rfl ?_
  have H0 : Own [] w w [Ent.bo q [(vU8 n.kind), (vU32 n.n), (vU32 n.m)]] := ((Own.start w []).oldB hQ)
  refine WC.seq ?_
  refine WC.region ?_
  refine WL.op rfl rfl (op_box H0 rfl rfl (fun b1 w1 H1 => ?_))
  refine WL.op rfl rfl (op_assign rfl ?_)
  refine WL.nil ?_
  refine WQ.next ?_
  refine WC.seq ?_
  refine WC.region ?_
  refine WL.op rfl rfl (op_fieldAddr rfl Fa.F50_0 ?_)
  refine WL.op rfl rfl (op_load rfl (H1.cell (i := 1) rfl rfl) Try.underlying26 rfl ?_)
  refine WL.op rfl rfl (op_fieldAddr rfl Fa.F36_1 ?_)
  refine WL.op rfl rfl (op_load rfl (H1.cellO (i := 0) rfl rfl) Try.underlying26 rfl ?_)
  refine WL.op rfl rfl (op_eqlU32 rfl rfl ?_)
  refine WL.op rfl rfl (op_move rfl ?_)
  refine WL.split (t := 9) rfl (fun (hb2 : (decide (x.id = n.n)) = true) => ?_) (fun (hb2 : (decide (x.id = n.n)) = false) => ?_)
  ·
    have hc2 := of_decide_eq_true hb2
    refine WL.yes rfl rfl rfl hb2 rfl (op_fieldAddr rfl Fa.F50_1 ?_)
    refine WL.yes rfl rfl rfl hb2 rfl (op_load rfl (H1.cell (i := 1) rfl rfl) Try.underlying26 rfl ?_)
    refine WL.yes rfl rfl rfl hb2 rfl (op_fieldAddr rfl Fa.F36_2 ?_)
    refine WL.yes rfl rfl rfl hb2 rfl (op_load rfl (H1.cellO (i := 0) rfl rfl) Try.underlying26 rfl ?_)
    refine WL.yes rfl rfl rfl hb2 rfl (op_geqU32 rfl rfl ?_)
    refine WL.op rfl rfl (op_pickT rfl hb2 rfl ?_)
    refine WL.op rfl rfl (op_assign rfl ?_)
    refine WL.nil ?_
    refine WQ.next ?_
    refine WC.ret ?_
    refine WQ.out (.tmp rfl .nil) ?_
    exact ⟨by (rw [covX, hb2]) <;> rfl, H1.fr⟩
  ·
    have hc2 := of_decide_eq_false hb2
    refine WL.no rfl rfl rfl hb2 rfl ?_
    refine WL.no rfl rfl rfl hb2 rfl ?_
    refine WL.no rfl rfl rfl hb2 rfl ?_
    refine WL.no rfl rfl rfl hb2 rfl ?_
    refine WL.no rfl rfl rfl hb2 rfl ?_
    refine WL.op rfl rfl (op_pickF rfl hb2 rfl ?_)
    refine WL.op rfl rfl (op_assign rfl ?_)
    refine WL.nil ?_
    refine WQ.next ?_
    refine WC.ret ?_
    refine WQ.out (.tmp rfl .nil) ?_
    exact ⟨by (rw [covX, hb2]) <;> rfl, H1.fr⟩
set_option maxRecDepth 100000 in
theorem idxX2_ok (lv : Value) (l : List Xt) (n : Nt) (q : Nat) (w : World) (hA : Arr w lv 2 l.length (List.flatMap xtc l)) (hQ : cellsAt w q [(vU8 n.kind), (vU32 n.n), (vU32 n.m)]) (hn : l.length < 2 ^ 47) :
    Calls Try.prog 48 #[lv, (.func (.func 47) #[] #[(ptr q 0)])] w (fun e w' => e = .returned (vI (fidx (covX n) l)) ∧ Fr [] w w') := by
  refine enter (args := [lv, (.func (.func 47) #[] #[(ptr q 0)])]) Try.func48 rfl rfl ?_
  have H0 : Own [] w w [Ent.bo q [(vU8 n.kind), (vU32 n.n), (vU32 n.m)]] := ((Own.start w []).oldB hQ)
  refine WC.seq ?_
  refine WC.region ?_
  refine WL.op rfl rfl (op_assign rfl ?_)
  refine WL.nil ?_
  refine WQ.next ?_
  refine WC.seq ?_
  refine WC.seq ?_
  refine WC.region ?_
  refine WL.op rfl rfl (op_move rfl ?_)
  refine WL.op rfl rfl (op_lenA Try.underlying27 rfl (H0.arr hA) ?_)
  refine WL.op rfl rfl (op_move rfl ?_)
  refine WL.nil ?_
  refine WQ.next ?_
  refine WC.block ?_
  refine WC.loop (α := Nat) (fun k => [(0, lv), (1, (.func (.func 47) #[] #[(ptr q 0)])), (7, (vN l.length)), (8, (vN k))]) (fun k w' => (k ≤ l.length ∧ (∀ j, j < k → (covX n) (l.getD j Xt.zero) = false)) ∧ Own [] w w' [Ent.bo q [(vU8 n.kind), (vU32 n.n), (vU32 n.m)]]) (fun k => l.length - k) 0 ⟨⟨Nat.zero_le _, fun j h => by omega⟩, H0⟩ ⟨rfl, rfl, rfl, rfl, trivial⟩ ?_
  rintro k w1 ⟨⟨hk1, hok⟩, H1⟩
  show WC _ _ _ _ _ [(0, lv), (1, (.func (.func 47) #[] #[(ptr q 0)])), (7, (vN l.length)), (8, (vN k))] _
  refine WC.seq ?_
  refine WC.region ?_
  refine WL.op rfl rfl (op_lssN rfl rfl ?_)
  refine WL.nil ?_
  refine WQ.next ?_
  refine WC.seq ?_
  refine WC.cond rfl (fun (hb2 : (decide (k < l.length)) = true) => ?_) (fun (hb2 : (decide (k < l.length)) = false) => ?_)
  ·
    have hc2 := of_decide_eq_true hb2
    refine WC.skip ?_
    refine WQ.next ?_
    refine WC.seq ?_
    refine WC.block ?_
    refine WC.seq ?_
    refine WC.region ?_
    refine WL.op rfl rfl (op_move rfl ?_)
    refine WL.op rfl rfl (op_assign rfl ?_)
    refine WL.nil ?_
    refine WQ.next ?_
    refine WC.seq ?_
    refine WC.region ?_
    refine WL.op rfl rfl (op_move rfl ?_)
    refine WL.op rfl rfl (op_move rfl ?_)
    refine WL.op rfl rfl (op_move rfl ?_)
    refine WL.op rfl rfl (op_indexAddr Try.underlying27 Fa.I50 rfl (H1.arr hA) rfl (by omega) ?_)
    refine WL.op rfl rfl (op_loadSP (vs := xtc (l.getD k Xt.zero)) rfl (Arr.atsF (H1.arr hA) (fun _ => rfl) (by decide) Xt.zero (by omega)) Try.underlying50 rfl Fa.I50 rfl ?_)
    refine WL.op rfl rfl (op_call (f := 47) rfl Fa.C47 rfl ((cov1_ok (l.getD k Xt.zero) n q _ (H1.cellsAtO (i := 0) rfl)).mono (fun e w3 hq => ?_)))
    obtain ⟨rfl, hf3⟩ := hq
    refine ⟨_, rfl, ?_⟩
    have H3 := H1.fr' hf3
    refine WL.nil ?_
    refine WQ.next ?_
    refine WC.cond rfl (fun (hb4 : (covX n (l.getD k Xt.zero)) = true) => ?_) (fun (hb4 : (covX n (l.getD k Xt.zero)) = false) => ?_)
    ·
      refine WC.seq ?_
      refine WC.region ?_
      refine WL.op rfl rfl (op_move rfl ?_)
      refine WL.op rfl rfl (op_assign rfl ?_)
      refine WL.nil ?_
      refine WQ.next ?_
      refine WC.ret ?_
      refine WQ.inRet ?_
      refine WQ.thenRet ?_
      refine WQ.thenRet ?_
      refine WQ.inRet ?_
      refine WQ.thenRet ?_
      refine WQ.out (.tmp rfl .nil) ?_
      exact ⟨by rw [fidx_yes (d := Xt.zero) (by omega) hok hb4]; rfl, H3.fr⟩
    ·
      refine WC.skip ?_
      refine WQ.inNormal ?_
      refine WQ.next ?_
      refine WC.region ?_
      refine WL.op rfl rfl (op_addN (b := 1) rfl rfl (by omega) ?_)
      refine WL.op rfl rfl (op_move rfl ?_)
      refine WL.nil ?_
      exact WQ.round (k + 1) ⟨⟨by omega, allPrev hok hb4⟩, H3⟩ ⟨rfl, rfl, rfl, rfl, trivial⟩ (by omega)
  ·
    have hc2 := of_decide_eq_false hb2
    refine WC.exit ?_
    refine WQ.thenExit ?_
    refine WQ.thenExit ?_
    refine WQ.inHere ?_
    refine WQ.next ?_
    refine WC.seq ?_
    refine WC.region ?_
    refine WL.op rfl rfl (op_assign rfl ?_)
    refine WL.nil ?_
    refine WQ.next ?_
    refine WC.ret ?_
    refine WQ.out (.tmp rfl .nil) ?_
    exact ⟨by rw [fidx_no (d := Xt.zero) (fun j hj => hok j (by omega))]; rfl, H1.fr⟩
set_option maxRecDepth 100000 in
theorem conX2_ok (lv : Value) (l : List Xt) (n : Nt) (q : Nat) (w : World) (hA : Arr w lv 2 l.length (List.flatMap xtc l)) (hQ : cellsAt w q [(vU8 n.kind), (vU32 n.n), (vU32 n.m)]) (hn : l.length < 2 ^ 47) :
    Calls Try.prog 32 #[lv, (.func (.func 47) #[] #[(ptr q 0)])] w (fun e w' => e = .returned (.bool (l.any (covX n))) ∧ Fr [] w w') := by
  refine enter (args := [lv, (.func (.func 47) #[] #[(ptr q 0)])]) Try.func32 rfl rfl ?_
  have H0 : Own [] w w [Ent.bo q [(vU8 n.kind), (vU32 n.n), (vU32 n.m)]] := ((Own.start w []).oldB hQ)
  refine WC.seq ?_
  refine WC.region ?_
  refine WL.op rfl rfl (op_assign rfl ?_)
  refine WL.nil ?_
  refine WQ.next ?_
  refine WC.seq ?_
  refine WC.region ?_
  refine WL.op rfl rfl (op_move rfl ?_)
  refine WL.op rfl rfl (op_move rfl ?_)
  refine WL.op rfl rfl (op_callF Fa.C48 rfl ((idxX2_ok _ l n q _ (H0.arr hA) (H0.cellsAtO (i := 0) rfl) (by omega)).mono (fun e w1 hq => ?_)))
  obtain ⟨rfl, hf1⟩ := hq
  refine ⟨_, rfl, ?_⟩
  have H1 := H0.fr' hf1
  refine WL.op rfl rfl (op_geqI (b := (0 : Int)) rfl rfl ?_)
  refine WL.op rfl rfl (op_assign rfl ?_)
  refine WL.nil ?_
  refine WQ.next ?_
  refine WC.ret ?_
  refine WQ.out (.tmp rfl .nil) ?_
  exact ⟨by rw [← fidx_any]; rfl, H1.fr⟩
set_option maxRecDepth 100000 in
theorem dcovers_ok (m : Mf) (ev pv : Value) (x : Nt) (w : World) (hE : Arr w ev 2 m.xs.length (List.flatMap xtc m.xs)) (hP : Arr w pv 1 m.ps.length (List.map vU16 m.ps)) (hn : m.xs.length < 2 ^ 45) (hm : m.ps.length < 2 ^ 45) :
    Calls Try.prog 31 #[(.agg #[(vU32 m.pg), ev, pv, (.bool m.con)]), (.agg #[(vU8 x.kind), (vU32 x.n), (vU32 x.m)])] w (fun e w' => e = .returned (.bool (covN m x)) ∧ Fr [] w w') := by
  refine enter (args := [(.agg #[(vU32 m.pg), ev, pv, (.bool m.con)]), (.agg #[(vU8 x.kind), (vU32 x.n), (vU32 x.m)])]) Try.func31 rfl rfl ?_
  have H0 : Own [] w w [] := Own.start w []
  refine WC.seq ?_
  refine WC.region ?_
  refine WL.op rfl rfl (op_box H0 rfl rfl (fun b1 w1 H1 => ?_))
  refine WL.op rfl rfl (op_box H1 rfl rfl (fun b2 w2 H2 => ?_))
  refine WL.op rfl rfl (op_assign rfl ?_)
  refine WL.nil ?_
  refine WQ.next ?_
  refine WC.seq ?_
  refine WC.seq ?_
  refine WC.region ?_
  refine WL.op rfl rfl (op_fieldAddr rfl Fa.F36_0 ?_)
  refine WL.op rfl rfl (op_load rfl (H2.cell (i := 1) rfl rfl) Try.underlying5 rfl ?_)
  refine WL.nil ?_
  refine WQ.next ?_
  refine WC.block ?_
  refine WC.seq ?_
  refine WC.region ?_
  refine WL.op rfl rfl (op_eqlU8 (b := 1) rfl rfl ?_)
  refine WL.op rfl rfl (op_assign rfl ?_)
  refine WL.nil ?_
  refine WQ.next ?_
  refine WC.cond rfl (fun (hb3 : (decide (x.kind = (1 : UInt8))) = true) => ?_) (fun (hb3 : (decide (x.kind = (1 : UInt8))) = false) => ?_)
  ·
    have hc3 := of_decide_eq_true hb3
    refine WC.seq ?_
    refine WC.region ?_
    refine WL.op rfl rfl (op_fieldAddr rfl Fa.F30_0 ?_)
    refine WL.op rfl rfl (op_load rfl (H2.cell (i := 0) rfl rfl) Try.underlying26 rfl ?_)
    refine WL.op rfl rfl (op_fieldAddr rfl Fa.F36_1 ?_)
    refine WL.op rfl rfl (op_load rfl (H2.cell (i := 1) rfl rfl) Try.underlying26 rfl ?_)
    refine WL.op rfl rfl (op_geqU32 rfl rfl ?_)
    refine WL.op rfl rfl (op_assign rfl ?_)
    refine WL.nil ?_
    refine WQ.next ?_
    refine WC.ret ?_
    refine WQ.inRet ?_
    refine WQ.thenRet ?_
    refine WQ.out (.tmp rfl .nil) ?_
    exact ⟨by (rw [covN, hb3]) <;> rfl, H2.fr⟩
  ·
    have hc3 := of_decide_eq_false hb3
    refine WC.seq ?_
    refine WC.region ?_
    refine WL.op rfl rfl (op_eqlU8 (b := 2) rfl rfl ?_)
    refine WL.op rfl rfl (op_assign rfl ?_)
    refine WL.nil ?_
    refine WQ.next ?_
    refine WC.cond rfl (fun (hb4 : (decide (x.kind = (2 : UInt8))) = true) => ?_) (fun (hb4 : (decide (x.kind = (2 : UInt8))) = false) => ?_)
    ·
      have hc4 := of_decide_eq_true hb4
      refine WC.seq ?_
      refine WC.region ?_
      refine WL.op rfl rfl (op_fieldAddr rfl Fa.F30_1 ?_)
      refine WL.op rfl rfl (op_load rfl (H2.cell (i := 0) rfl rfl) Try.underlying27 rfl ?_)
      refine WL.op rfl rfl (op_makeFunc rfl rfl ?_)
      refine WL.op rfl rfl (op_callF Fa.C32 rfl ((conX2_ok _ m.xs x b2 _ (H2.arr hE) (H2.cellsAt (i := 1) rfl) (by omega)).mono (fun e w5 hq => ?_)))
      obtain ⟨rfl, hf5⟩ := hq
      refine ⟨_, rfl, ?_⟩
      have H5 := H2.fr' hf5
      refine WL.op rfl rfl (op_assign rfl ?_)
      refine WL.nil ?_
      refine WQ.next ?_
      refine WC.ret ?_
      refine WQ.inRet ?_
      refine WQ.thenRet ?_
      refine WQ.out (.tmp rfl .nil) ?_
      exact ⟨by rw [covN_x hb3 hb4]; rfl, H5.fr⟩
    ·
      have hc4 := of_decide_eq_false hb4
      refine WC.seq ?_
      refine WC.region ?_
      refine WL.op rfl rfl (op_eqlU8 (b := 3) rfl rfl ?_)
      refine WL.op rfl rfl (op_assign rfl ?_)
      refine WL.nil ?_
      refine WQ.next ?_
      refine WC.cond rfl (fun (hb6 : (decide (x.kind = (3 : UInt8))) = true) => ?_) (fun (hb6 : (decide (x.kind = (3 : UInt8))) = false) => ?_)
      ·
        have hc6 := of_decide_eq_true hb6
        refine WC.seq ?_
        refine WC.region ?_
        refine WL.op rfl rfl (op_fieldAddr rfl Fa.F30_2 ?_)
        refine WL.op rfl rfl (op_load rfl (H2.cell (i := 0) rfl rfl) Try.underlying28 rfl ?_)
        refine WL.op rfl rfl (op_fieldAddr rfl Fa.F36_1 ?_)
        refine WL.op rfl rfl (op_load rfl (H2.cell (i := 1) rfl rfl) Try.underlying26 rfl ?_)
        refine WL.op rfl rfl (op_convU32U16 (hs := Try.underlying26) (hd := Try.underlying51) rfl ?_)
        refine WL.op rfl rfl (op_callF Fa.C38 rfl ((con16_ok _ m.ps (UInt16.ofNat x.n.toNat) _ (H2.arr hP) (by omega)).mono (fun e w7 hq => ?_)))
        obtain ⟨rfl, hf7⟩ := hq
        refine ⟨_, rfl, ?_⟩
        have H7 := H2.fr' hf7
        refine WL.op rfl rfl (op_assign rfl ?_)
        refine WL.nil ?_
        refine WQ.next ?_
        refine WC.ret ?_
        refine WQ.inRet ?_
        refine WQ.thenRet ?_
        refine WQ.out (.tmp rfl .nil) ?_
        exact ⟨by (rw [covN, hb3, hb4, hb6]) <;> rfl, H7.fr⟩
      ·
        have hc6 := of_decide_eq_false hb6
        refine WC.skip ?_
        refine WQ.inNormal ?_
        refine WQ.next ?_
        refine WC.seq ?_
        refine WC.region ?_
        refine WL.op rfl rfl (op_fieldAddr rfl Fa.F30_3 ?_)
        refine WL.op rfl rfl (op_load rfl (H2.cell (i := 0) rfl rfl) Try.underlying4 rfl ?_)
        refine WL.op rfl rfl (op_assign rfl ?_)
        refine WL.nil ?_
        refine WQ.next ?_
        refine WC.ret ?_
        refine WQ.out (.tmp rfl .nil) ?_
        exact ⟨by (rw [covN, hb3, hb4, hb6]) <;> rfl, H2.fr⟩
set_option maxRecDepth 100000 in
theorem cov2_ok (m : Mf) (ev pv : Value) (x : Nt) (q : Nat) (w : World) (hQ : cellsAt w q [(vU32 m.pg), ev, pv, (.bool m.con)]) (hE : Arr w ev 2 m.xs.length (List.flatMap xtc m.xs)) (hP : Arr w pv 1 m.ps.length (List.map vU16 m.ps)) (hn : m.xs.length < 2 ^ 45) (hm : m.ps.length < 2 ^ 45) :
    Calls Try.prog 30 #[(.agg #[(vU8 x.kind), (vU32 x.n), (vU32 x.m)]), (ptr q 0)] w (fun e w' => e = .returned (.bool (!covN m x)) ∧ Fr [] w w') := by
  refine enter (args := [(.agg #[(vU8 x.kind), (vU32 x.n), (vU32 x.m)]), (ptr q 0)]) Try.func30 rfl rfl ?_
  have H0 : Own [] w w [Ent.bo q [(vU32 m.pg), ev, pv, (.bool m.con)]] := ((Own.start w []).oldB hQ)
  refine WC.seq ?_
  refine WC.region ?_
  refine WL.op rfl rfl (op_box H0 rfl rfl (fun b1 w1 H1 => ?_))
  refine WL.op rfl rfl (op_assign rfl ?_)
  refine WL.nil ?_
  refine WQ.next ?_
  refine WC.seq ?_
  refine WC.region ?_
  refine WL.op rfl rfl (op_loadS (vs := [_, _, _, _]) rfl (H1.cellsO (i := 0) rfl rfl) Try.underlying30 rfl Fa.I30 rfl ?_)
  refine WL.op rfl rfl (op_loadS (vs := [_, _, _]) rfl (H1.cells (i := 1) rfl rfl) Try.underlying36 rfl Fa.I36 rfl ?_)
  refine WL.op rfl rfl (op_callF Fa.C31 rfl ((dcovers_ok m _ _ x _ (H1.arr hE) (H1.arr hP) (by omega) (by omega)).mono (fun e w2 hq => ?_)))
  obtain ⟨rfl, hf2⟩ := hq
  refine ⟨_, rfl, ?_⟩
  have H2 := H1.fr' hf2
  refine WL.op rfl rfl (op_not rfl ?_)
  refine WL.op rfl rfl (op_assign rfl ?_)
  refine WL.nil ?_
  refine WQ.next ?_
  refine WC.ret ?_
  refine WQ.out (.tmp rfl .nil) ?_
  exact ⟨rfl, H2.fr⟩
set_option maxRecDepth 100000 in
theorem idxN2_ok (lv : Value) (l : List Nt) (m : Mf) (ev pv : Value) (q : Nat) (w : World) (hA : Arr w lv 3 l.length (List.flatMap ntc l)) (hQ : cellsAt w q [(vU32 m.pg), ev, pv, (.bool m.con)]) (hE : Arr w ev 2 m.xs.length (List.flatMap xtc m.xs)) (hP : Arr w pv 1 m.ps.length (List.map vU16 m.ps)) (hn : m.xs.length < 2 ^ 45) (hm : m.ps.length < 2 ^ 45) (hl : l.length < 2 ^ 47) :
    Calls Try.prog 46 #[lv, (.func (.func 30) #[] #[(ptr q 0)])] w (fun e w' => e = .returned (vI (fidx (fun n => !covN m n) l)) ∧ Fr [] w w') := by
  refine enter (args := [lv, (.func (.func 30) #[] #[(ptr q 0)])]) Try.func46 rfl rfl ?_
  have H0 : Own [] w w [Ent.bo q [(vU32 m.pg), ev, pv, (.bool m.con)]] := ((Own.start w []).oldB hQ)
  refine WC.seq ?_
  refine WC.region ?_
  refine WL.op rfl rfl (op_assign rfl ?_)
  refine WL.nil ?_
  refine WQ.next ?_
  refine WC.seq ?_
  refine WC.seq ?_
  refine WC.region ?_
  refine WL.op rfl rfl (op_move rfl ?_)
  refine WL.op rfl rfl (op_lenA Try.underlying22 rfl (H0.arr hA) ?_)
  refine WL.op rfl rfl (op_move rfl ?_)
  refine WL.nil ?_
  refine WQ.next ?_
  refine WC.block ?_
  refine WC.loop (α := Nat) (fun k => [(0, lv), (1, (.func (.func 30) #[] #[(ptr q 0)])), (7, (vN l.length)), (8, (vN k))]) (fun k w' => (k ≤ l.length ∧ (∀ j, j < k → (fun n => !covN m n) (l.getD j Nt.zero) = false)) ∧ Own [] w w' [Ent.bo q [(vU32 m.pg), ev, pv, (.bool m.con)]]) (fun k => l.length - k) 0 ⟨⟨Nat.zero_le _, fun j h => by omega⟩, H0⟩ ⟨rfl, rfl, rfl, rfl, trivial⟩ ?_
  rintro k w1 ⟨⟨hk1, hok⟩, H1⟩
  show WC _ _ _ _ _ [(0, lv), (1, (.func (.func 30) #[] #[(ptr q 0)])), (7, (vN l.length)), (8, (vN k))] _
  refine WC.seq ?_
  refine WC.region ?_
  refine WL.op rfl rfl (op_lssN rfl rfl ?_)
  refine WL.nil ?_
  refine WQ.next ?_
  refine WC.seq ?_
  refine WC.cond rfl (fun (hb2 : (decide (k < l.length)) = true) => ?_) (fun (hb2 : (decide (k < l.length)) = false) => ?_)
  ·
    have hc2 := of_decide_eq_true hb2
    refine WC.skip ?_
    refine WQ.next ?_
    refine WC.seq ?_
    refine WC.block ?_
    refine WC.seq ?_
    refine WC.region ?_
    refine WL.op rfl rfl (op_move rfl ?_)
    refine WL.op rfl rfl (op_assign rfl ?_)
    refine WL.nil ?_
    refine WQ.next ?_
    refine WC.seq ?_
    refine WC.region ?_
    refine WL.op rfl rfl (op_move rfl ?_)
    refine WL.op rfl rfl (op_move rfl ?_)
    refine WL.op rfl rfl (op_move rfl ?_)
    refine WL.op rfl rfl (op_indexAddr Try.underlying22 Fa.I36 rfl (H1.arr hA) rfl (by omega) ?_)
    refine WL.op rfl rfl (op_loadSP (vs := ntc (l.getD k Nt.zero)) rfl (Arr.atsF (H1.arr hA) (fun _ => rfl) (by decide) Nt.zero (by omega)) Try.underlying36 rfl Fa.I36 rfl ?_)
    refine WL.op rfl rfl (op_call (f := 30) rfl Fa.C30 rfl ((cov2_ok m _ _ (l.getD k Nt.zero) q _ (H1.cellsAtO (i := 0) rfl) (H1.arr hE) (H1.arr hP) (by omega) (by omega)).mono (fun e w3 hq => ?_)))
    obtain ⟨rfl, hf3⟩ := hq
    refine ⟨_, rfl, ?_⟩
    have H3 := H1.fr' hf3
    refine WL.nil ?_
    refine WQ.next ?_
    refine WC.cond rfl (fun (hb4 : (!covN m (l.getD k Nt.zero)) = true) => ?_) (fun (hb4 : (!covN m (l.getD k Nt.zero)) = false) => ?_)
    ·
      have hn4 := (Bool.not_eq_true' _).mp hb4
      refine WC.seq ?_
      refine WC.region ?_
      refine WL.op rfl rfl (op_move rfl ?_)
      refine WL.op rfl rfl (op_assign rfl ?_)
      refine WL.nil ?_
      refine WQ.next ?_
      refine WC.ret ?_
      refine WQ.inRet ?_
      refine WQ.thenRet ?_
      refine WQ.thenRet ?_
      refine WQ.inRet ?_
      refine WQ.thenRet ?_
      refine WQ.out (.tmp rfl .nil) ?_
      exact ⟨by rw [fidx_yes (d := Nt.zero) (by omega) hok hb4]; rfl, H3.fr⟩
    ·
      have hn4 := (Bool.not_eq_false' _).mp hb4
      refine WC.skip ?_
      refine WQ.inNormal ?_
      refine WQ.next ?_
      refine WC.region ?_
      refine WL.op rfl rfl (op_addN (b := 1) rfl rfl (by omega) ?_)
      refine WL.op rfl rfl (op_move rfl ?_)
      refine WL.nil ?_
      exact WQ.round (k + 1) ⟨⟨by omega, allPrev hok hb4⟩, H3⟩ ⟨rfl, rfl, rfl, rfl, trivial⟩ (by omega)
  ·
    have hc2 := of_decide_eq_false hb2
    refine WC.exit ?_
    refine WQ.thenExit ?_
    refine WQ.thenExit ?_
    refine WQ.inHere ?_
    refine WQ.next ?_
    refine WC.seq ?_
    refine WC.region ?_
    refine WL.op rfl rfl (op_assign rfl ?_)
    refine WL.nil ?_
    refine WQ.next ?_
    refine WC.ret ?_
    refine WQ.out (.tmp rfl .nil) ?_
    exact ⟨by rw [fidx_no (d := Nt.zero) (fun j hj => hok j (by omega))]; rfl, H1.fr⟩
set_option maxRecDepth 100000 in
theorem conN2_ok (lv : Value) (l : List Nt) (m : Mf) (ev pv : Value) (q : Nat) (w : World) (hA : Arr w lv 3 l.length (List.flatMap ntc l)) (hQ : cellsAt w q [(vU32 m.pg), ev, pv, (.bool m.con)]) (hE : Arr w ev 2 m.xs.length (List.flatMap xtc m.xs)) (hP : Arr w pv 1 m.ps.length (List.map vU16 m.ps)) (hn : m.xs.length < 2 ^ 45) (hm : m.ps.length < 2 ^ 45) (hl : l.length < 2 ^ 47) :
    Calls Try.prog 29 #[lv, (.func (.func 30) #[] #[(ptr q 0)])] w (fun e w' => e = .returned (.bool (l.any fun n => !covN m n)) ∧ Fr [] w w') := by
  refine enter (args := [lv, (.func (.func 30) #[] #[(ptr q 0)])]) Try.func29 rfl rfl ?_
  have H0 : Own [] w w [Ent.bo q [(vU32 m.pg), ev, pv, (.bool m.con)]] := ((Own.start w []).oldB hQ)
  refine WC.seq ?_
  refine WC.region ?_
  refine WL.op rfl rfl (op_assign rfl ?_)
  refine WL.nil ?_
  refine WQ.next ?_
  refine WC.seq ?_
  refine WC.region ?_
  refine WL.op rfl rfl (op_move rfl ?_)
  refine WL.op rfl rfl (op_move rfl ?_)
  refine WL.op rfl rfl (op_callF Fa.C46 rfl ((idxN2_ok _ l m _ _ q _ (H0.arr hA) (H0.cellsAtO (i := 0) rfl) (H0.arr hE) (H0.arr hP) (by omega) (by omega) (by omega)).mono (fun e w1 hq => ?_)))
  obtain ⟨rfl, hf1⟩ := hq
  refine ⟨_, rfl, ?_⟩
  have H1 := H0.fr' hf1
  refine WL.op rfl rfl (op_geqI (b := (0 : Int)) rfl rfl ?_)
  refine WL.op rfl rfl (op_assign rfl ?_)
  refine WL.nil ?_
  refine WQ.next ?_
  refine WC.ret ?_
  refine WQ.out (.tmp rfl .nil) ?_
  exact ⟨by rw [← fidx_any]; rfl, H1.fr⟩
end Go.Proofs.Ytnngbnenekjffaa
/-! from EDem8 -/
namespace Go.Proofs.Ytnngbnenekjffaa
open Go.Owl Go.Spec
set_option maxRecDepth 100000 in
theorem dnote_ok (m : Mf) (ev pv : Value) (x : Nt) (w : World) (hE : Arr w ev 2 m.xs.length (List.flatMap xtc m.xs)) (hP : Arr w pv 1 m.ps.length (List.map vU16 m.ps)) (hn : m.xs.length < 2 ^ 45) (hm : m.ps.length < 2 ^ 45) :
    Calls Try.prog 18 #[(.agg #[(vU32 m.pg), ev, pv, (.bool m.con)]), (.agg #[(vU8 x.kind), (vU32 x.n), (vU32 x.m)])] w (fun e w' => e = .returned (.bool (rNote m x)) ∧ Fr [] w w') := by
  refine enter (args := [(.agg #[(vU32 m.pg), ev, pv, (.bool m.con)]), (.agg #[(vU8 x.kind), (vU32 x.n), (vU32 x.m)])]) Try.func18 rfl rfl ?_
  have H0 : Own [] w w [] := Own.start w []
  refine WC.seq ?_
  refine WC.region ?_
  refine WL.op rfl rfl (op_box H0 rfl rfl (fun b1 w1 H1 => ?_))
  refine WL.op rfl rfl (op_box H1 rfl rfl (fun b2 w2 H2 => ?_))
  refine WL.op rfl rfl (op_assign rfl ?_)
  refine WL.nil ?_
  refine WQ.next ?_
  refine WC.seq ?_
  refine WC.region ?_
  refine WL.op rfl rfl (op_loadS (vs := [_, _, _, _]) rfl (H2.cells (i := 0) rfl rfl) Try.underlying30 rfl Fa.I30 rfl ?_)
  refine WL.op rfl rfl (op_callF Fa.C15 rfl ((dcheck_ok m.pg _ _ m.xs m.ps m.con _ (H2.arr hE) (H2.arr hP) (by omega) (by omega)).mono (fun e w3 hq => ?_)))
  obtain ⟨rfl, hf3⟩ := hq
  refine ⟨_, rfl, ?_⟩
  have H3 := H2.fr' hf3
  refine WL.op rfl rfl (op_eqlN (b := 0) rfl rfl ?_)
  refine WL.op rfl rfl (op_move rfl ?_)
  refine WL.split (t := 8) rfl (fun (hb4 : (decide ((mfE m.pg m.xs m.ps) = 0)) = true) => ?_) (fun (hb4 : (decide ((mfE m.pg m.xs m.ps) = 0)) = false) => ?_)
  ·
    have hc4 := of_decide_eq_true hb4
    refine WL.yes rfl rfl rfl hb4 rfl (op_loadS (vs := [_, _, _]) rfl (H3.cells (i := 1) rfl rfl) Try.underlying36 rfl Fa.I36 rfl ?_)
    refine WL.yes rfl rfl rfl hb4 rfl (op_callF Fa.C24 rfl ((onote_ok x _).mono (fun e w5 hq => ?_)))
    obtain ⟨rfl, hf5⟩ := hq
    refine ⟨_, rfl, ?_⟩
    have H5 := H3.fr' hf5
    refine WL.yes rfl rfl rfl hb4 rfl (op_eqlN (b := 0) rfl rfl ?_)
    refine WL.op rfl rfl (op_pickT rfl hb4 rfl ?_)
    refine WL.op rfl rfl (op_move rfl ?_)
    refine WL.split (t := 13) rfl (fun (hb6 : (decide ((noteE x) = 0)) = true) => ?_) (fun (hb6 : (decide ((noteE x) = 0)) = false) => ?_)
    ·
      have hc6 := of_decide_eq_true hb6
      refine WL.yes rfl rfl rfl hb6 rfl (op_loadS (vs := [_, _, _, _]) rfl (H5.cells (i := 0) rfl rfl) Try.underlying30 rfl Fa.I30 rfl ?_)
      refine WL.yes rfl rfl rfl hb6 rfl (op_loadS (vs := [_, _, _]) rfl (H5.cells (i := 1) rfl rfl) Try.underlying36 rfl Fa.I36 rfl ?_)
      refine WL.yes rfl rfl rfl hb6 rfl (op_callF Fa.C31 rfl ((dcovers_ok m _ _ x _ (H5.arr hE) (H5.arr hP) (by omega) (by omega)).mono (fun e w7 hq => ?_)))
      obtain ⟨rfl, hf7⟩ := hq
      refine ⟨_, rfl, ?_⟩
      have H7 := H5.fr' hf7
      refine WL.op rfl rfl (op_pickT rfl hb6 rfl ?_)
      refine WL.op rfl rfl (op_assign rfl ?_)
      refine WL.nil ?_
      refine WQ.next ?_
      refine WC.ret ?_
      refine WQ.out (.tmp rfl .nil) ?_
      exact ⟨by (rw [rNote, ← mfE_dec, ← noteE_dec, hb4, hb6]) <;> rfl, H7.fr⟩
    ·
      have hc6 := of_decide_eq_false hb6
      refine WL.no rfl rfl rfl hb6 rfl ?_
      refine WL.no rfl rfl rfl hb6 rfl ?_
      refine WL.no rfl rfl rfl hb6 rfl ?_
      refine WL.op rfl rfl (op_pickF rfl hb6 rfl ?_)
      refine WL.op rfl rfl (op_assign rfl ?_)
      refine WL.nil ?_
      refine WQ.next ?_
      refine WC.ret ?_
      refine WQ.out (.tmp rfl .nil) ?_
      exact ⟨by (rw [rNote, ← mfE_dec, ← noteE_dec, hb4, hb6]) <;> rfl, H5.fr⟩
  ·
    have hc4 := of_decide_eq_false hb4
    refine WL.no rfl rfl rfl hb4 rfl ?_
    refine WL.no rfl rfl rfl hb4 rfl ?_
    refine WL.no rfl rfl rfl hb4 rfl ?_
    refine WL.op rfl rfl (op_pickF rfl hb4 rfl ?_)
    refine WL.op rfl rfl (op_move rfl ?_)
    refine WL.no rfl rfl rfl rfl rfl ?_
    refine WL.no rfl rfl rfl rfl rfl ?_
    refine WL.no rfl rfl rfl rfl rfl ?_
    refine WL.op rfl rfl (op_pickF rfl rfl rfl ?_)
    refine WL.op rfl rfl (op_assign rfl ?_)
    refine WL.nil ?_
    refine WQ.next ?_
    refine WC.ret ?_
    refine WQ.out (.tmp rfl .nil) ?_
    exact ⟨by (rw [rNote, ← mfE_dec, ← noteE_dec, hb4]) <;> rfl, H3.fr⟩
set_option maxRecDepth 100000 in
theorem rnote11_ok (m : Mf) (ev pv : Value) (x : Nt) (w : World) (hE : Arr w ev 2 m.xs.length (List.flatMap xtc m.xs)) (hP : Arr w pv 1 m.ps.length (List.map vU16 m.ps)) (hn : m.xs.length < 2 ^ 42) (hm : m.ps.length < 2 ^ 42) :
    Calls Try.prog 19 #[(.agg #[(vU32 m.pg), ev, pv, (.bool m.con)]), (.agg #[(vU8 x.kind), (vU32 x.n), (vU32 x.m)])] w (fun e w' => e = .returned (.bool (rNote m x)) ∧ Fr [] w w') := by
  refine enter (args := [(.agg #[(vU32 m.pg), ev, pv, (.bool m.con)]), (.agg #[(vU8 x.kind), (vU32 x.n), (vU32 x.m)])]) Try.func19 rfl rfl ?_
  have H0 : Own [] w w [Ent.ar ev 2 m.xs.length (List.flatMap xtc m.xs), Ent.ar pv 1 m.ps.length (List.map vU16 m.ps)] := (((Own.start w []).oldA hE).oldA hP)
  refine WC.seq ?_
  refine WC.region ?_
  refine WL.op rfl rfl (op_box H0 rfl rfl (fun b1 w1 H1 => ?_))
  refine WL.op rfl rfl (op_box H1 rfl rfl (fun b2 w2 H2 => ?_))
  refine WL.op rfl rfl (op_assign rfl ?_)
  refine WL.nil ?_
  refine WQ.next ?_
  refine WC.seq ?_
  refine WC.seq ?_
  refine WC.region ?_
  refine WL.op rfl rfl (op_loadS (vs := [_, _, _, _]) rfl (H2.cells (i := 2) rfl rfl) Try.underlying30 rfl Fa.I30 rfl ?_)
  refine WL.op rfl rfl (op_callF Fa.C17 rfl ((rmay11_ok m.pg _ _ m.xs m.ps m.con _ (H2.arrO (i := 0) rfl) (H2.arrO (i := 1) rfl) (by omega) (by omega)).mono (fun e w3 hq => ?_)))
  obtain ⟨rfl, hf3⟩ := hq
  refine ⟨_, rfl, ?_⟩
  have H3 := H2.fr' hf3
  refine WL.op rfl rfl (op_not rfl ?_)
  refine WL.op rfl rfl (op_move rfl ?_)
  refine WL.split (t := 9) rfl (fun (hb4 : (!(Mf.may m)) = true) => ?_) (fun (hb4 : (!(Mf.may m)) = false) => ?_)
  ·
    have hn4 := (Bool.not_eq_true' _).mp hb4
    refine WL.no rfl rfl rfl hb4 rfl ?_
    refine WL.no rfl rfl rfl hb4 rfl ?_
    refine WL.no rfl rfl rfl hb4 rfl ?_
    refine WL.op rfl rfl (op_pickT rfl hb4 rfl ?_)
    refine WL.nil ?_
    refine WQ.next ?_
    refine WC.yes rfl rfl ?_
    refine WC.seq ?_
    refine WC.region ?_
    refine WL.op rfl rfl (op_assign rfl ?_)
    refine WL.nil ?_
    refine WQ.next ?_
    refine WC.ret ?_
    refine WQ.thenRet ?_
    refine WQ.out (.tmp rfl .nil) ?_
    exact ⟨by (rw [rNote, hn4]) <;> rfl, H3.fr⟩
  ·
    have hn4 := (Bool.not_eq_false' _).mp hb4
    refine WL.yes rfl rfl rfl hb4 rfl (op_loadS (vs := [_, _, _]) rfl (H3.cells (i := 3) rfl rfl) Try.underlying36 rfl Fa.I36 rfl ?_)
    refine WL.yes rfl rfl rfl hb4 rfl (op_callF Fa.C27 rfl ((rnote_ok x _).mono (fun e w5 hq => ?_)))
    obtain ⟨rfl, hf5⟩ := hq
    refine ⟨_, rfl, ?_⟩
    have H5 := H3.fr' hf5
    refine WL.yes rfl rfl rfl hb4 rfl (op_not rfl ?_)
    refine WL.op rfl rfl (op_pickF rfl hb4 rfl ?_)
    refine WL.nil ?_
    refine WQ.next ?_
    refine WC.cond rfl (fun (hb6 : (!(noteB x)) = true) => ?_) (fun (hb6 : (!(noteB x)) = false) => ?_)
    ·
      have hn6 := (Bool.not_eq_true' _).mp hb6
      refine WC.seq ?_
      refine WC.region ?_
      refine WL.op rfl rfl (op_assign rfl ?_)
      refine WL.nil ?_
      refine WQ.next ?_
      refine WC.ret ?_
      refine WQ.thenRet ?_
      refine WQ.out (.tmp rfl .nil) ?_
      exact ⟨by (rw [rNote, hn4, hn6]) <;> first | rfl | simp, H5.fr⟩
    ·
      have hn6 := (Bool.not_eq_false' _).mp hb6
      refine WC.skip ?_
      refine WQ.next ?_
      refine WC.seq ?_
      refine WC.region ?_
      refine WL.op rfl rfl (op_loadS (vs := [_, _, _, _]) rfl (H5.cells (i := 2) rfl rfl) Try.underlying30 rfl Fa.I30 rfl ?_)
      refine WL.op rfl rfl (op_loadS (vs := [_, _, _]) rfl (H5.cells (i := 3) rfl rfl) Try.underlying36 rfl Fa.I36 rfl ?_)
      refine WL.op rfl rfl (op_callF Fa.C28 rfl ((add_ok m ev pv x _ (H5.part [0, 1] rfl rfl) (by omega) (by omega)).mono (fun e w7 hq => ?_)))
      obtain ⟨v7, u7, rfl, ha7, hb7, hq7⟩ := hq
      refine ⟨_, rfl, ?_⟩
      have H7 : Own [] w w7 [Ent.ar ev 2 m.xs.length (List.flatMap xtc m.xs), Ent.ar pv 1 m.ps.length (List.map vU16 m.ps), .blk b1 [(vU32 m.pg), ev, pv, (.bool m.con)] 30, .blk b2 [(vU8 x.kind), (vU32 x.n), (vU32 x.m)] 36, Ent.ar v7 2 ((addM m x).xs).length (List.flatMap xtc (addM m x).xs), Ent.ar u7 1 ((addM m x).ps).length (List.map vU16 (addM m x).ps)] := H5.splice [0, 1] [Ent.ar ev 2 m.xs.length (List.flatMap xtc m.xs), Ent.ar pv 1 m.ps.length (List.map vU16 m.ps)] [Ent.ar v7 2 ((addM m x).xs).length (List.flatMap xtc (addM m x).xs), Ent.ar u7 1 ((addM m x).ps).length (List.map vU16 (addM m x).ps)] rfl rfl hq7 (Fits.same (j := 0) rfl (Fits.same (j := 1) rfl (Fits.fit 0 rfl rfl ha7 (Fits.fit 1 rfl rfl hb7 Fits.nil))))
      refine WL.op rfl rfl (op_alloc H7 Fa.I30 (fun b8 w8 H8 => ?_))
      refine WL.op rfl rfl (op_storeBW (i := 6) H8 rfl rfl rfl rfl (one_cons rfl (one_cons (Arr.one (H8.arrO (i := 4) rfl)) (one_cons (Arr.one (H8.arrO (i := 5) rfl)) (one_cons rfl one_nil)))) Fa.I30 (fun w9 H9 => ?_))
      refine WL.nil ?_
      refine WQ.next ?_
      refine WC.seq ?_
      refine WC.region ?_
      refine WL.op rfl rfl (op_loadS (vs := [_, _, _, _]) rfl (H9.cells (i := 6) rfl rfl) Try.underlying30 rfl Fa.I30 rfl ?_)
      refine WL.op rfl rfl (op_loadS (vs := [_, _, _, _]) rfl (H9.cells (i := 2) rfl rfl) Try.underlying30 rfl Fa.I30 rfl ?_)
      refine WL.op rfl rfl (op_callF Fa.C13 rfl (((same_of (a := (addM m x)) (b := m) (rmsame_ok ((addM m x).pg) ((addM m x).con) _ _ ((addM m x).xs) ((addM m x).ps) m.pg m.con _ _ m.xs m.ps _ (H9.arrO (i := 4) rfl) (H9.arrO (i := 5) rfl) (H9.arrO (i := 0) rfl) (H9.arrO (i := 1) rfl) (Nat.lt_of_le_of_lt addM_len.1 (by omega)) (Nat.lt_of_le_of_lt addM_len.2 (by omega))))).mono (fun e w10 hq => ?_)))
      obtain ⟨rfl, hf10⟩ := hq
      refine ⟨_, rfl, ?_⟩
      have H10 := H9.fr' hf10
      refine WL.op rfl rfl (op_assign rfl ?_)
      refine WL.nil ?_
      refine WQ.next ?_
      refine WC.ret ?_
      refine WQ.out (.tmp rfl .nil) ?_
      exact ⟨by rw [← rNote_add hn4 hn6]; rfl, H10.fr⟩
set_option maxRecDepth 100000 in
theorem dcov_ok (m m' : Mf) (ev pv ev' pv' : Value) (w : World) (hE : Arr w ev 2 m.xs.length (List.flatMap xtc m.xs)) (hP : Arr w pv 1 m.ps.length (List.map vU16 m.ps)) (hF : Arr w ev' 2 m'.xs.length (List.flatMap xtc m'.xs)) (hQ : Arr w pv' 1 m'.ps.length (List.map vU16 m'.ps)) (hn : m.xs.length < 2 ^ 42) (hm : m.ps.length < 2 ^ 42) (hn' : m'.xs.length < 2 ^ 42) (hm' : m'.ps.length < 2 ^ 42) :
    Calls Try.prog 14 #[(.agg #[(vU32 m.pg), ev, pv, (.bool m.con)]), (.agg #[(vU32 m'.pg), ev', pv', (.bool m'.con)])] w (fun e w' => e = .returned (.bool (covM m m')) ∧ Fr [] w w') := by
  refine enter (args := [(.agg #[(vU32 m.pg), ev, pv, (.bool m.con)]), (.agg #[(vU32 m'.pg), ev', pv', (.bool m'.con)])]) Try.func14 rfl rfl ?_
  have H0 : Own [] w w [] := Own.start w []
  refine WC.seq ?_
  refine WC.region ?_
  refine WL.op rfl rfl (op_box H0 rfl rfl (fun b1 w1 H1 => ?_))
  refine WL.op rfl rfl (op_box H1 rfl rfl (fun b2 w2 H2 => ?_))
  refine WL.op rfl rfl (op_assign rfl ?_)
  refine WL.nil ?_
  refine WQ.next ?_
  refine WC.seq ?_
  refine WC.region ?_
  refine WL.op rfl rfl (op_loadS (vs := [_, _, _, _]) rfl (H2.cells (i := 0) rfl rfl) Try.underlying30 rfl Fa.I30 rfl ?_)
  refine WL.op rfl rfl (op_callF Fa.C15 rfl ((dcheck_ok m.pg _ _ m.xs m.ps m.con _ (H2.arr hE) (H2.arr hP) (by omega) (by omega)).mono (fun e w3 hq => ?_)))
  obtain ⟨rfl, hf3⟩ := hq
  refine ⟨_, rfl, ?_⟩
  have H3 := H2.fr' hf3
  refine WL.op rfl rfl (op_eqlN (b := 0) rfl rfl ?_)
  refine WL.op rfl rfl (op_move rfl ?_)
  refine WL.split (t := 8) rfl (fun (hb4 : (decide ((mfE m.pg m.xs m.ps) = 0)) = true) => ?_) (fun (hb4 : (decide ((mfE m.pg m.xs m.ps) = 0)) = false) => ?_)
  ·
    have hc4 := of_decide_eq_true hb4
    refine WL.yes rfl rfl rfl hb4 rfl (op_loadS (vs := [_, _, _, _]) rfl (H3.cells (i := 1) rfl rfl) Try.underlying30 rfl Fa.I30 rfl ?_)
    refine WL.yes rfl rfl rfl hb4 rfl (op_callF Fa.C15 rfl ((dcheck_ok m'.pg _ _ m'.xs m'.ps m'.con _ (H3.arr hF) (H3.arr hQ) (by omega) (by omega)).mono (fun e w5 hq => ?_)))
    obtain ⟨rfl, hf5⟩ := hq
    refine ⟨_, rfl, ?_⟩
    have H5 := H3.fr' hf5
    refine WL.yes rfl rfl rfl hb4 rfl (op_eqlN (b := 0) rfl rfl ?_)
    refine WL.op rfl rfl (op_pickT rfl hb4 rfl ?_)
    refine WL.op rfl rfl (op_move rfl ?_)
    refine WL.split (t := 13) rfl (fun (hb6 : (decide ((mfE m'.pg m'.xs m'.ps) = 0)) = true) => ?_) (fun (hb6 : (decide ((mfE m'.pg m'.xs m'.ps) = 0)) = false) => ?_)
    ·
      have hc6 := of_decide_eq_true hb6
      refine WL.yes rfl rfl rfl hb6 rfl (op_loadS (vs := [_, _, _, _]) rfl (H5.cells (i := 1) rfl rfl) Try.underlying30 rfl Fa.I30 rfl ?_)
      refine WL.yes rfl rfl rfl hb6 rfl (op_callF Fa.C22 rfl ((dnotes_ok m' _ _ _ (H5.arr hF) (H5.arr hQ) (by omega) (by omega)).mono (fun e w7 hq => ?_)))
      obtain ⟨v7, rfl, hq7⟩ := hq
      refine ⟨_, rfl, ?_⟩
      have H7 : Own [] w w7 [.blk b1 [(vU32 m.pg), ev, pv, (.bool m.con)] 30, .blk b2 [(vU32 m'.pg), ev', pv', (.bool m'.con)] 30, .row v7 36 3 (notesM m').length (List.flatMap ntc (notesM m'))] := H5.splice [] [] [.row v7 36 3 (notesM m').length (List.flatMap ntc (notesM m'))] rfl rfl hq7 (Fits.solid True.intro Fits.nil)
      refine WL.yes rfl rfl rfl hb6 rfl (op_makeFunc rfl rfl ?_)
      refine WL.yes rfl rfl rfl hb6 rfl (op_callF Fa.C29 rfl ((conN2_ok _ (notesM m') m _ _ b1 _ (H7.arrR (i := 2) rfl) (H7.cellsAt (i := 0) rfl) (H7.arr hE) (H7.arr hP) (by omega) (by omega) (by have h := nP_len (m := m') m'.ps.length; have h2 := notesM_len (m := m'); omega)).mono (fun e w8 hq => ?_)))
      obtain ⟨rfl, hf8⟩ := hq
      refine ⟨_, rfl, ?_⟩
      have H8 := H7.fr' hf8
      refine WL.yes rfl rfl rfl hb6 rfl (op_not rfl ?_)
      refine WL.op rfl rfl (op_pickT rfl hb6 rfl ?_)
      refine WL.op rfl rfl (op_assign rfl ?_)
      refine WL.nil ?_
      refine WQ.next ?_
      refine WC.ret ?_
      refine WQ.out (.tmp rfl .nil) ?_
      exact ⟨by (rw [covM, ← mfE_dec (m := m), ← mfE_dec (m := m'), hb4, hb6]) <;> rfl, H8.fr⟩
    ·
      have hc6 := of_decide_eq_false hb6
      refine WL.no rfl rfl rfl hb6 rfl ?_
      refine WL.no rfl rfl rfl hb6 rfl ?_
      refine WL.no rfl rfl rfl hb6 rfl ?_
      refine WL.no rfl rfl rfl hb6 rfl ?_
      refine WL.no rfl rfl rfl hb6 rfl ?_
      refine WL.op rfl rfl (op_pickF rfl hb6 rfl ?_)
      refine WL.op rfl rfl (op_assign rfl ?_)
      refine WL.nil ?_
      refine WQ.next ?_
      refine WC.ret ?_
      refine WQ.out (.tmp rfl .nil) ?_
      exact ⟨by (rw [covM, ← mfE_dec (m := m), ← mfE_dec (m := m'), hb4, hb6]) <;> rfl, H5.fr⟩
  ·
    have hc4 := of_decide_eq_false hb4
    refine WL.no rfl rfl rfl hb4 rfl ?_
    refine WL.no rfl rfl rfl hb4 rfl ?_
    refine WL.no rfl rfl rfl hb4 rfl ?_
    refine WL.op rfl rfl (op_pickF rfl hb4 rfl ?_)
    refine WL.op rfl rfl (op_move rfl ?_)
    refine WL.no rfl rfl rfl rfl rfl ?_
    refine WL.no rfl rfl rfl rfl rfl ?_
    refine WL.no rfl rfl rfl rfl rfl ?_
    refine WL.no rfl rfl rfl rfl rfl ?_
    refine WL.no rfl rfl rfl rfl rfl ?_
    refine WL.op rfl rfl (op_pickF rfl rfl rfl ?_)
    refine WL.op rfl rfl (op_assign rfl ?_)
    refine WL.nil ?_
    refine WQ.next ?_
    refine WC.ret ?_
    refine WQ.out (.tmp rfl .nil) ?_
    exact ⟨by (rw [covM, ← mfE_dec (m := m), ← mfE_dec (m := m'), hb4]) <;> rfl, H3.fr⟩
set_option maxRecDepth 100000 in
theorem rcov_ok (m m' : Mf) (ev pv ev' pv' : Value) (w : World) (hE : Arr w ev 2 m.xs.length (List.flatMap xtc m.xs)) (hP : Arr w pv 1 m.ps.length (List.map vU16 m.ps)) (hF : Arr w ev' 2 m'.xs.length (List.flatMap xtc m'.xs)) (hQ : Arr w pv' 1 m'.ps.length (List.map vU16 m'.ps)) (hn : m.xs.length < 2 ^ 42) (hm : m.ps.length < 2 ^ 42) (hn' : m'.xs.length < 2 ^ 42) (hm' : m'.ps.length < 2 ^ 42) :
    Calls Try.prog 20 #[(.agg #[(vU32 m.pg), ev, pv, (.bool m.con)]), (.agg #[(vU32 m'.pg), ev', pv', (.bool m'.con)])] w (fun e w' => e = .returned (.bool (covM m m')) ∧ Fr [] w w') := by
  refine enter (args := [(.agg #[(vU32 m.pg), ev, pv, (.bool m.con)]), (.agg #[(vU32 m'.pg), ev', pv', (.bool m'.con)])]) Try.func20 rfl rfl ?_
  have H0 : Own [] w w [] := Own.start w []
  refine WC.seq ?_
  refine WC.region ?_
  refine WL.op rfl rfl (op_box H0 rfl rfl (fun b1 w1 H1 => ?_))
  refine WL.op rfl rfl (op_box H1 rfl rfl (fun b2 w2 H2 => ?_))
  refine WL.op rfl rfl (op_assign rfl ?_)
  refine WL.nil ?_
  refine WQ.next ?_
  refine WC.seq ?_
  refine WC.region ?_
  refine WL.op rfl rfl (op_loadS (vs := [_, _, _, _]) rfl (H2.cells (i := 1) rfl rfl) Try.underlying30 rfl Fa.I30 rfl ?_)
  refine WL.op rfl rfl (op_callF Fa.C23 rfl ((rnotes_ok m' _ _ _ (H2.arr hF) (H2.arr hQ) (by omega) (by omega)).mono (fun e w3 hq => ?_)))
  obtain ⟨v3, rfl, hq3⟩ := hq
  refine ⟨_, rfl, ?_⟩
  have H3 : Own [] w w3 [.blk b1 [(vU32 m.pg), ev, pv, (.bool m.con)] 30, .blk b2 [(vU32 m'.pg), ev', pv', (.bool m'.con)] 30, .row v3 36 3 (notesM m').length (List.flatMap ntc (notesM m'))] := H2.splice [] [] [.row v3 36 3 (notesM m').length (List.flatMap ntc (notesM m'))] rfl rfl hq3 (Fits.solid True.intro Fits.nil)
  refine WL.op rfl rfl (op_assign rfl ?_)
  refine WL.nil ?_
  refine WQ.next ?_
  refine WC.seq ?_
  refine WC.seq ?_
  refine WC.region ?_
  refine WL.op rfl rfl (op_assign rfl ?_)
  refine WL.nil ?_
  refine WQ.next ?_
  refine WC.block ?_
  refine WC.loop (α := Nat) (fun k => [(2, (ptr b1 0)), (3, (ptr b2 0)), (4, (.bool false)), (5, v3), (6, (vN k))]) (fun k w' => (k ≤ (notesM m').length ∧ (∀ j, j < k → rNote m ((notesM m').getD j Nt.zero) = true)) ∧ Own [] w w' [.blk b1 [(vU32 m.pg), ev, pv, (.bool m.con)] 30, .blk b2 [(vU32 m'.pg), ev', pv', (.bool m'.con)] 30, .row v3 36 3 (notesM m').length (List.flatMap ntc (notesM m'))]) (fun k => (notesM m').length - k) 0 ⟨⟨Nat.zero_le _, fun j h => by omega⟩, H3⟩ ⟨rfl, rfl, rfl, rfl, rfl, trivial⟩ ?_
  rintro k w4 ⟨⟨hk1, hok⟩, H4⟩
  show WC _ _ _ _ _ [(2, (ptr b1 0)), (3, (ptr b2 0)), (4, (.bool false)), (5, v3), (6, (vN k))] _
  have hnl := notesM_len (m := m')
  have hnp := nP_len (m := m') m'.ps.length
  refine WC.seq ?_
  refine WC.seq ?_
  refine WC.region ?_
  refine WL.op rfl rfl (op_move rfl ?_)
  refine WL.op rfl rfl (op_move rfl ?_)
  refine WL.op rfl rfl (op_lenA Try.underlying22 rfl (H4.arrR (i := 2) rfl) ?_)
  refine WL.op rfl rfl (op_lssN rfl rfl ?_)
  refine WL.nil ?_
  refine WQ.next ?_
  refine WC.cond rfl (fun (hb5 : (decide (k < (notesM m').length)) = true) => ?_) (fun (hb5 : (decide (k < (notesM m').length)) = false) => ?_)
  ·
    have hc5 := of_decide_eq_true hb5
    refine WC.skip ?_
    refine WQ.next ?_
    refine WC.seq ?_
    refine WC.block ?_
    refine WC.seq ?_
    refine WC.draw 7 Fa.M H4 (HW.op rfl (fun w1 H1 => op_loadS (vs := [_, _, _, _]) rfl (H1.cells (i := 0) rfl rfl) Try.underlying30 rfl Fa.I30 rfl ⟨rfl, Fr.refl _ _⟩) (HW.op rfl (fun w1 H1 => op_move rfl ⟨rfl, Fr.refl _ _⟩) (HW.op rfl (fun w1 H1 => op_move rfl ⟨rfl, Fr.refl _ _⟩) (HW.op rfl (fun w1 H1 => op_indexAddr Try.underlying22 Fa.I36 rfl (H1.arrR (i := 2) rfl) rfl (by omega) ⟨rfl, Fr.refl _ _⟩) (HW.op rfl (fun w1 H1 => op_loadSP (vs := ntc ((notesM m').getD k Nt.zero)) rfl (Arr.atsF (H1.arrR (i := 2) rfl) (fun _ => rfl) (by decide) Nt.zero (by omega)) Try.underlying36 rfl Fa.I36 rfl ⟨rfl, Fr.refl _ _⟩) (HW.op rfl (fun w1 H1 => op_callF Fa.C19 rfl ((rnote11_ok m _ _ ((notesM m').getD k Nt.zero) _ (H1.arr hE) (H1.arr hP) (by omega) (by omega)).mono (fun e w2 hq => ⟨_, hq.1, rfl, hq.2⟩))) (HW.op rfl (fun w1 H1 => op_not rfl ⟨rfl, Fr.refl _ _⟩)  HW.nil))))))) (by kernel_rfl) ?_
    intro β7 w7 H7
    refine WL.nil ?_
    refine WQ.next ?_
    refine WC.cond rfl (fun (hb8 : (!(rNote m ((notesM m').getD k Nt.zero))) = true) => ?_) (fun (hb8 : (!(rNote m ((notesM m').getD k Nt.zero))) = false) => ?_)
    ·
      have hn8 := (Bool.not_eq_true' _).mp hb8
      refine WC.seq ?_
      refine WC.region ?_
      refine WL.op rfl rfl (op_assign rfl ?_)
      refine WL.nil ?_
      refine WQ.next ?_
      refine WC.ret ?_
      refine WQ.inRet ?_
      refine WQ.thenRet ?_
      refine WQ.thenRet ?_
      refine WQ.inRet ?_
      refine WQ.thenRet ?_
      refine WQ.out (.tmp rfl .nil) ?_
      exact ⟨by rw [rcov_bad (k := k) (by omega) hn8]; rfl, H7.fr⟩
    ·
      have hn8 := (Bool.not_eq_false' _).mp hb8
      refine WC.skip ?_
      refine WQ.inNormal ?_
      refine WQ.next ?_
      refine WC.region ?_
      refine WL.op rfl rfl (op_move rfl ?_)
      refine WL.op rfl rfl (op_addN (b := 1) rfl rfl (by omega) ?_)
      refine WL.op rfl rfl (op_assign rfl ?_)
      refine WL.nil ?_
      exact WQ.round (k + 1) ⟨⟨by omega, allPrev hok hn8⟩, H7⟩ ⟨rfl, rfl, rfl, rfl, rfl, trivial⟩ (by omega)
  ·
    have hc5 := of_decide_eq_false hb5
    refine WC.exit ?_
    refine WQ.thenExit ?_
    refine WQ.thenExit ?_
    refine WQ.inHere ?_
    refine WQ.next ?_
    refine WC.seq ?_
    refine WC.region ?_
    refine WL.op rfl rfl (op_loadS (vs := [_, _, _, _]) rfl (H4.cells (i := 0) rfl rfl) Try.underlying30 rfl Fa.I30 rfl ?_)
    refine WL.op rfl rfl (op_callF Fa.C17 rfl ((rmay11_ok m.pg _ _ m.xs m.ps m.con _ (H4.arr hE) (H4.arr hP) (by omega) (by omega)).mono (fun e w9 hq => ?_)))
    obtain ⟨rfl, hf9⟩ := hq
    refine ⟨_, rfl, ?_⟩
    have H9 := H4.fr' hf9
    refine WL.op rfl rfl (op_move rfl ?_)
    refine WL.split (t := 24) rfl (fun (hb10 : (Mf.may m) = true) => ?_) (fun (hb10 : (Mf.may m) = false) => ?_)
    ·
      refine WL.yes rfl rfl rfl hb10 rfl (op_loadS (vs := [_, _, _, _]) rfl (H9.cells (i := 1) rfl rfl) Try.underlying30 rfl Fa.I30 rfl ?_)
      refine WL.yes rfl rfl rfl hb10 rfl (op_callF Fa.C17 rfl ((rmay11_ok m'.pg _ _ m'.xs m'.ps m'.con _ (H9.arr hF) (H9.arr hQ) (by omega) (by omega)).mono (fun e w11 hq => ?_)))
      obtain ⟨rfl, hf11⟩ := hq
      refine ⟨_, rfl, ?_⟩
      have H11 := H9.fr' hf11
      refine WL.op rfl rfl (op_pickT rfl hb10 rfl ?_)
      refine WL.op rfl rfl (op_assign rfl ?_)
      refine WL.nil ?_
      refine WQ.next ?_
      refine WC.ret ?_
      refine WQ.out (.tmp rfl .nil) ?_
      exact ⟨by (rw [rcov_end (fun j hj => hok j (by omega)), hb10]) <;> rfl, H11.fr⟩
    ·
      refine WL.no rfl rfl rfl hb10 rfl ?_
      refine WL.no rfl rfl rfl hb10 rfl ?_
      refine WL.op rfl rfl (op_pickF rfl hb10 rfl ?_)
      refine WL.op rfl rfl (op_assign rfl ?_)
      refine WL.nil ?_
      refine WQ.next ?_
      refine WC.ret ?_
      refine WQ.out (.tmp rfl .nil) ?_
      exact ⟨by (rw [rcov_end (fun j hj => hok j (by omega)), hb10]) <;> rfl, H9.fr⟩
set_option maxRecDepth 100000 in
theorem large11_ok (lv : Value) (ms : List Mm) (w : World) (hA : Arr w lv 4 ms.length (List.flatMap mmc ms)) (hI : MmD.list.ok w ms) (hl : ms.length ≤ 2 ^ 47) (hfx : ∀ x ∈ ms, x.xs.length ≤ 2 ^ 46) (hfp : ∀ x ∈ ms, x.ps.length ≤ 2 ^ 46) :
    Calls Try.prog 7 #[lv] w (fun e w' => e = .returned (.bool (large11 ms)) ∧ Fr [] w w') := by
  refine enter (args := [lv]) Try.func7 rfl rfl ?_
  have H0 : Own [] w w [] := Own.start w []
  refine WC.seq ?_
  refine WC.region ?_
  refine WL.op rfl rfl (op_assign rfl ?_)
  refine WL.nil ?_
  refine WQ.next ?_
  refine WC.seq ?_
  refine WC.region ?_
  refine WL.op rfl rfl (op_move rfl ?_)
  refine WL.op rfl rfl (op_lenA Try.underlying23 rfl (H0.arr hA) ?_)
  refine WL.op rfl rfl (op_assign rfl ?_)
  refine WL.nil ?_
  refine WQ.next ?_
  refine WC.seq ?_
  refine WC.seq ?_
  refine WC.region ?_
  refine WL.op rfl rfl (op_assign rfl ?_)
  refine WL.nil ?_
  refine WQ.next ?_
  refine WC.block ?_
  refine WC.loop (α := Nat) (fun k => [(0, lv), (3, (vN (largeN ms k))), (4, (vN k))]) (fun k w' => (k ≤ min ms.length 100) ∧ Own [] w w' []) (fun k => ms.length - k) 0 ⟨(Nat.zero_le _), H0⟩ ⟨rfl, rfl, rfl, trivial⟩ ?_
  rintro k w1 ⟨hk1, H1⟩
  show WC _ _ _ _ _ [(0, lv), (3, (vN (largeN ms k))), (4, (vN k))] _
  have hln := largeN_le hfx hfp k
  have hgx := get_prop (p := fun x : Mm => x.xs.length ≤ 2 ^ 46) (d := Mm.zero) hfx (Nat.zero_le _) k
  have hgp := get_prop (p := fun x : Mm => x.ps.length ≤ 2 ^ 46) (d := Mm.zero) hfp (Nat.zero_le _) k
  refine WC.seq ?_
  refine WC.seq ?_
  refine WC.region ?_
  refine WL.op rfl rfl (op_move rfl ?_)
  refine WL.op rfl rfl (op_move rfl ?_)
  refine WL.op rfl rfl (op_lenA Try.underlying23 rfl (H1.arr hA) ?_)
  refine WL.op rfl rfl (op_lssN rfl rfl ?_)
  refine WL.op rfl rfl (op_move rfl ?_)
  refine WL.split (t := 11) rfl (fun (hb2 : (decide (k < ms.length)) = true) => ?_) (fun (hb2 : (decide (k < ms.length)) = false) => ?_)
  ·
    have hc2 := of_decide_eq_true hb2
    refine WL.yes rfl rfl rfl hb2 rfl (op_move rfl ?_)
    refine WL.yes rfl rfl rfl hb2 rfl (op_lssN (b := 100) rfl rfl ?_)
    refine WL.op rfl rfl (op_pickT rfl hb2 rfl ?_)
    refine WL.nil ?_
    refine WQ.next ?_
    refine WC.cond rfl (fun (hb3 : (decide (k < 100)) = true) => ?_) (fun (hb3 : (decide (k < 100)) = false) => ?_)
    ·
      have hc3 := of_decide_eq_true hb3
      refine WC.skip ?_
      refine WQ.next ?_
      refine WC.seq ?_
      refine WC.block ?_
      refine WC.draw 16 Fa.M H1 (HW.op rfl (fun w1 H1 => op_move rfl ⟨rfl, Fr.refl _ _⟩) (HW.op rfl (fun w1 H1 => op_move rfl ⟨rfl, Fr.refl _ _⟩) (HW.op rfl (fun w1 H1 => op_move rfl ⟨rfl, Fr.refl _ _⟩) (HW.op rfl (fun w1 H1 => op_indexAddr Try.underlying23 Fa.I30 rfl (H1.arr hA) rfl (by omega) ⟨rfl, Fr.refl _ _⟩) (HW.op rfl (fun w1 H1 => op_fieldAddrS rfl Fa.F30_1 ⟨rfl, Fr.refl _ _⟩) (HW.op rfl (fun w1 H1 => op_load rfl (Arr.atF (k := 1) (H1.arr hA) (fun _ => rfl) (by decide) Mm.zero (by omega) rfl) Try.underlying27 rfl ⟨rfl, Fr.refl _ _⟩) (HW.op rfl (fun w1 H1 => op_lenA Try.underlying27 rfl ((MmD_xs (Deep.getD MmD (MmD.list.fr0 hI H1.fr) Mm.zero (MmD_zero _) k))) ⟨rfl, Fr.refl _ _⟩) (HW.op rfl (fun w1 H1 => op_addN rfl rfl (by omega) ⟨rfl, Fr.refl _ _⟩) (HW.op rfl (fun w1 H1 => op_move rfl ⟨rfl, Fr.refl _ _⟩) (HW.op rfl (fun w1 H1 => op_move rfl ⟨rfl, Fr.refl _ _⟩) (HW.op rfl (fun w1 H1 => op_indexAddr Try.underlying23 Fa.I30 rfl (H1.arr hA) rfl (by omega) ⟨rfl, Fr.refl _ _⟩) (HW.op rfl (fun w1 H1 => op_fieldAddrS rfl Fa.F30_2 ⟨rfl, Fr.refl _ _⟩) (HW.op rfl (fun w1 H1 => op_load rfl (Arr.atF (k := 2) (H1.arr hA) (fun _ => rfl) (by decide) Mm.zero (by omega) rfl) Try.underlying28 rfl ⟨rfl, Fr.refl _ _⟩) (HW.op rfl (fun w1 H1 => op_lenA Try.underlying28 rfl ((MmD_ps (Deep.getD MmD (MmD.list.fr0 hI H1.fr) Mm.zero (MmD_zero _) k))) ⟨rfl, Fr.refl _ _⟩) (HW.op rfl (fun w1 H1 => op_addN rfl rfl (by omega) ⟨rfl, Fr.refl _ _⟩) (HW.op rfl (fun w1 H1 => op_assign rfl ⟨rfl, Fr.refl _ _⟩)  HW.nil)))))))))))))))) (by kernel_rfl) ?_
      intro β4 w4 H4
      refine WL.nil ?_
      refine WQ.inNormal ?_
      refine WQ.next ?_
      refine WC.region ?_
      refine WL.op rfl rfl (op_move rfl ?_)
      refine WL.op rfl rfl (op_addN (b := 1) rfl rfl (by omega) ?_)
      refine WL.op rfl rfl (op_assign rfl ?_)
      refine WL.nil ?_
      exact WQ.round (k + 1) ⟨(by omega), H4⟩ ⟨rfl, rfl, rfl, trivial⟩ (by omega)
    ·
      have hc3 := of_decide_eq_false hb3
      refine WC.exit ?_
      refine WQ.thenExit ?_
      refine WQ.thenExit ?_
      refine WQ.inHere ?_
      refine WQ.next ?_
      refine WC.seq ?_
      refine WC.region ?_
      refine WL.op rfl rfl (op_move rfl ?_)
      refine WL.op rfl rfl (op_gtrN (b := 600) rfl rfl ?_)
      refine WL.op rfl rfl (op_assign rfl ?_)
      refine WL.nil ?_
      refine WQ.next ?_
      refine WC.ret ?_
      refine WQ.out (.tmp rfl .nil) ?_
      exact ⟨by rw [large11, show min ms.length 100 = k by omega]; rfl, H1.fr⟩
  ·
    have hc2 := of_decide_eq_false hb2
    refine WL.no rfl rfl rfl hb2 rfl ?_
    refine WL.no rfl rfl rfl hb2 rfl ?_
    refine WL.op rfl rfl (op_pickF rfl hb2 rfl ?_)
    refine WL.nil ?_
    refine WQ.next ?_
    refine WC.no rfl rfl ?_
    refine WC.exit ?_
    refine WQ.thenExit ?_
    refine WQ.thenExit ?_
    refine WQ.inHere ?_
    refine WQ.next ?_
    refine WC.seq ?_
    refine WC.region ?_
    refine WL.op rfl rfl (op_move rfl ?_)
    refine WL.op rfl rfl (op_gtrN (b := 600) rfl rfl ?_)
    refine WL.op rfl rfl (op_assign rfl ?_)
    refine WL.nil ?_
    refine WQ.next ?_
    refine WC.ret ?_
    refine WQ.out (.tmp rfl .nil) ?_
    exact ⟨by rw [large11, show min ms.length 100 = k by omega]; rfl, H1.fr⟩
end Go.Proofs.Ytnngbnenekjffaa
/-! from EDem9 -/
namespace Go.Proofs.Ytnngbnenekjffaa
open Go.Owl Go.Spec
set_option maxHeartbeats 1000000 in
set_option maxRecDepth 100000 in
theorem alive11_ok  (w : World) :
    Calls Try.prog 8 #[] w (fun e w' => e = .returned (.bool true) ∧ Fr [] w w') := by
  refine enter (args := []) Try.func8 rfl rfl ?_
  have H0 : Own [] w w [] := Own.start w []
  refine WC.seq ?_
  refine WC.region ?_
  refine WL.op rfl rfl (op_assign rfl ?_)
  refine WL.nil ?_
  refine WQ.next ?_
  refine WC.seq ?_
  refine WC.region ?_
  refine WL.op rfl rfl (op_build (cs := [_, _, _]) Fa.I36 Fa.PL36 rfl rfl ?_)
  refine WL.op rfl rfl (op_build (cs := [_, _, _]) Fa.I36 Fa.PL36 rfl rfl ?_)
  refine WL.op rfl rfl (op_build (cs := [_, _, _]) Fa.I36 Fa.PL36 rfl rfl ?_)
  refine WL.op rfl rfl (op_build (cs := [_, _, _]) Fa.I36 Fa.PL36 rfl rfl ?_)
  refine WL.op rfl rfl (op_buildSlice (cs := [_, _, _, _, _, _, _, _, _, _, _, _]) H0 Try.underlying22 Fa.I36 rfl rfl rfl rfl (by decide) (by decide) (fun b1 w1 H1 => ?_))
  refine WL.op rfl rfl (op_callF Fa.C9 rfl ((dof_ok _ ([(Nt.mk 2 2 3), (Nt.mk 3 9 0), (Nt.mk 2 2 5), (Nt.mk 3 7 0)]) _ (H1.arrR (i := 0) rfl) (by decide)).mono (fun e w2 hq => ?_)))
  obtain ⟨v2, u2, rfl, hq2⟩ := hq
  refine ⟨_, rfl, ?_⟩
  have H2 : Own [] w w2 [.row (.slice (some ⟨b1, 0, none⟩) 4 4) 36 3 4 (List.flatMap ntc [(Nt.mk 2 2 3), (Nt.mk 3 9 0), (Nt.mk 2 2 5), (Nt.mk 3 7 0)]), .row v2 50 2 ((ofM ([(Nt.mk 2 2 3), (Nt.mk 3 9 0), (Nt.mk 2 2 5), (Nt.mk 3 7 0)])).xs).length (List.flatMap xtc (ofM ([(Nt.mk 2 2 3), (Nt.mk 3 9 0), (Nt.mk 2 2 5), (Nt.mk 3 7 0)])).xs), .row u2 51 1 ((ofM ([(Nt.mk 2 2 3), (Nt.mk 3 9 0), (Nt.mk 2 2 5), (Nt.mk 3 7 0)])).ps).length (List.map vU16 (ofM ([(Nt.mk 2 2 3), (Nt.mk 3 9 0), (Nt.mk 2 2 5), (Nt.mk 3 7 0)])).ps)] := H1.splice [] [] [.row v2 50 2 ((ofM ([(Nt.mk 2 2 3), (Nt.mk 3 9 0), (Nt.mk 2 2 5), (Nt.mk 3 7 0)])).xs).length (List.flatMap xtc (ofM ([(Nt.mk 2 2 3), (Nt.mk 3 9 0), (Nt.mk 2 2 5), (Nt.mk 3 7 0)])).xs), .row u2 51 1 ((ofM ([(Nt.mk 2 2 3), (Nt.mk 3 9 0), (Nt.mk 2 2 5), (Nt.mk 3 7 0)])).ps).length (List.map vU16 (ofM ([(Nt.mk 2 2 3), (Nt.mk 3 9 0), (Nt.mk 2 2 5), (Nt.mk 3 7 0)])).ps)] rfl rfl hq2 (Fits.solid True.intro (Fits.solid True.intro Fits.nil))
  refine WL.op rfl rfl (op_move rfl ?_)
  refine WL.op rfl rfl (op_extract rfl rfl ?_)
  refine WL.op rfl rfl (op_extract rfl rfl ?_)
  refine WL.op rfl rfl (op_alloc H2 Fa.I30 (fun b3 w3 H3 => ?_))
  refine WL.op rfl rfl (op_storeBW (i := 3) H3 rfl rfl rfl rfl (one_cons rfl (one_cons (Arr.one (H3.arrR (i := 1) rfl)) (one_cons (Arr.one (H3.arrR (i := 2) rfl)) (one_cons rfl one_nil)))) Fa.I30 (fun w4 H4 => ?_))
  refine WL.op rfl rfl (op_assign rfl ?_)
  refine WL.nil ?_
  refine WQ.next ?_
  refine WC.seq ?_
  refine WC.region ?_
  refine WL.op rfl rfl (op_build (cs := [_, _, _]) Fa.I36 Fa.PL36 rfl rfl ?_)
  refine WL.op rfl rfl (op_buildSlice (cs := [_, _, _]) H4 Try.underlying22 Fa.I36 rfl rfl rfl rfl (by decide) (by decide) (fun b5 w5 H5 => ?_))
  refine WL.op rfl rfl (op_callF Fa.C9 rfl ((dof_ok _ ([(Nt.mk 0 0 0)]) _ (H5.arrR (i := 4) rfl) (by decide)).mono (fun e w6 hq => ?_)))
  obtain ⟨v6, u6, rfl, hq6⟩ := hq
  refine ⟨_, rfl, ?_⟩
  have H6 : Own [] w w6 [.row (.slice (some ⟨b1, 0, none⟩) 4 4) 36 3 4 (List.flatMap ntc [(Nt.mk 2 2 3), (Nt.mk 3 9 0), (Nt.mk 2 2 5), (Nt.mk 3 7 0)]), .row v2 50 2 ((ofM ([(Nt.mk 2 2 3), (Nt.mk 3 9 0), (Nt.mk 2 2 5), (Nt.mk 3 7 0)])).xs).length (List.flatMap xtc (ofM ([(Nt.mk 2 2 3), (Nt.mk 3 9 0), (Nt.mk 2 2 5), (Nt.mk 3 7 0)])).xs), .row u2 51 1 ((ofM ([(Nt.mk 2 2 3), (Nt.mk 3 9 0), (Nt.mk 2 2 5), (Nt.mk 3 7 0)])).ps).length (List.map vU16 (ofM ([(Nt.mk 2 2 3), (Nt.mk 3 9 0), (Nt.mk 2 2 5), (Nt.mk 3 7 0)])).ps), .blk b3 [(vU32 (ofM ([(Nt.mk 2 2 3), (Nt.mk 3 9 0), (Nt.mk 2 2 5), (Nt.mk 3 7 0)])).pg), v2, u2, (.bool (ofM ([(Nt.mk 2 2 3), (Nt.mk 3 9 0), (Nt.mk 2 2 5), (Nt.mk 3 7 0)])).con)] 30, .row (.slice (some ⟨b5, 0, none⟩) 1 1) 36 3 1 (List.flatMap ntc [(Nt.mk 0 0 0)]), .row v6 50 2 ((ofM ([(Nt.mk 0 0 0)])).xs).length (List.flatMap xtc (ofM ([(Nt.mk 0 0 0)])).xs), .row u6 51 1 ((ofM ([(Nt.mk 0 0 0)])).ps).length (List.map vU16 (ofM ([(Nt.mk 0 0 0)])).ps)] := H5.splice [] [] [.row v6 50 2 ((ofM ([(Nt.mk 0 0 0)])).xs).length (List.flatMap xtc (ofM ([(Nt.mk 0 0 0)])).xs), .row u6 51 1 ((ofM ([(Nt.mk 0 0 0)])).ps).length (List.map vU16 (ofM ([(Nt.mk 0 0 0)])).ps)] rfl rfl hq6 (Fits.solid True.intro (Fits.solid True.intro Fits.nil))
  refine WL.op rfl rfl (op_move rfl ?_)
  refine WL.op rfl rfl (op_extract rfl rfl ?_)
  refine WL.op rfl rfl (op_extract rfl rfl ?_)
  refine WL.op rfl rfl (op_alloc H6 Fa.I30 (fun b7 w7 H7 => ?_))
  refine WL.op rfl rfl (op_storeBW (i := 7) H7 rfl rfl rfl rfl (one_cons rfl (one_cons (Arr.one (H7.arrR (i := 5) rfl)) (one_cons (Arr.one (H7.arrR (i := 6) rfl)) (one_cons rfl one_nil)))) Fa.I30 (fun w8 H8 => ?_))
  refine WL.op rfl rfl (op_assign rfl ?_)
  refine WL.nil ?_
  refine WQ.next ?_
  refine WC.seq ?_
  refine WC.region ?_
  refine WL.op rfl rfl (op_move rfl ?_)
  refine WL.op rfl rfl (op_eqlN (b := 0) rfl rfl ?_)
  refine WL.op rfl rfl (op_move rfl ?_)
  refine WL.yes rfl rfl rfl al1 rfl (op_loadS (vs := [_, _, _, _]) rfl (H8.cells (i := 3) rfl rfl) Try.underlying30 rfl Fa.I30 rfl ?_)
  refine WL.yes rfl rfl rfl al1 rfl (op_build (cs := [_, _]) Fa.I50 Fa.PL50 rfl rfl ?_)
  refine WL.yes rfl rfl rfl al1 rfl (op_buildSlice (cs := [_, _]) H8 Try.underlying27 Fa.I50 rfl rfl rfl rfl (by decide) (by decide) (fun b9 w9 H9 => ?_))
  refine WL.yes rfl rfl rfl al1 rfl (op_buildSlice (cs := [_, _]) H9 Try.underlying28 Fa.I51 rfl rfl rfl rfl (by decide) (by decide) (fun b10 w10 H10 => ?_))
  refine WL.yes rfl rfl rfl al1 rfl (op_build (cs := [_, _, _, _]) Fa.I30 Fa.PL30 rfl rfl ?_)
  refine WL.yes rfl rfl rfl al1 rfl (op_callF Fa.C13 rfl (((same_of (a := (ofM ([(Nt.mk 2 2 3), (Nt.mk 3 9 0), (Nt.mk 2 2 5), (Nt.mk 3 7 0)]))) (b := (Mf.mk 0 ([(Xt.mk 2 5)]) ([7, 9]) false)) (rmsame_ok ((ofM ([(Nt.mk 2 2 3), (Nt.mk 3 9 0), (Nt.mk 2 2 5), (Nt.mk 3 7 0)])).pg) ((ofM ([(Nt.mk 2 2 3), (Nt.mk 3 9 0), (Nt.mk 2 2 5), (Nt.mk 3 7 0)])).con) _ _ ((ofM ([(Nt.mk 2 2 3), (Nt.mk 3 9 0), (Nt.mk 2 2 5), (Nt.mk 3 7 0)])).xs) ((ofM ([(Nt.mk 2 2 3), (Nt.mk 3 9 0), (Nt.mk 2 2 5), (Nt.mk 3 7 0)])).ps) 0 false _ _ ([(Xt.mk 2 5)]) ([7, 9]) _ (H10.arrR (i := 1) rfl) (H10.arrR (i := 2) rfl) (H10.arrR (i := 8) rfl) (H10.arrR (i := 9) rfl) (Nat.lt_trans al8 (by decide)) (Nat.lt_trans al9 (by decide))))).mono (fun e w11 hq => ?_)))
  obtain ⟨rfl, hf11⟩ := hq
  refine ⟨_, rfl, ?_⟩
  have H11 := H10.fr' hf11
  refine WL.op rfl rfl (op_pickT rfl al1 rfl ?_)
  refine WL.op rfl rfl (op_move rfl ?_)
  refine WL.yes rfl rfl rfl al2 rfl (op_move rfl ?_)
  refine WL.yes rfl rfl rfl al2 rfl (op_eqlN (b := 2) rfl rfl ?_)
  refine WL.op rfl rfl (op_pickT rfl al2 rfl ?_)
  refine WL.op rfl rfl (op_move rfl ?_)
  refine WL.yes rfl rfl rfl al3 rfl (op_loadS (vs := [_, _, _, _]) rfl (H11.cells (i := 3) rfl rfl) Try.underlying30 rfl Fa.I30 rfl ?_)
  refine WL.yes rfl rfl rfl al3 rfl (op_callF Fa.C15 rfl ((dcheck_ok ((ofM ([(Nt.mk 2 2 3), (Nt.mk 3 9 0), (Nt.mk 2 2 5), (Nt.mk 3 7 0)])).pg) _ _ ((ofM ([(Nt.mk 2 2 3), (Nt.mk 3 9 0), (Nt.mk 2 2 5), (Nt.mk 3 7 0)])).xs) ((ofM ([(Nt.mk 2 2 3), (Nt.mk 3 9 0), (Nt.mk 2 2 5), (Nt.mk 3 7 0)])).ps) ((ofM ([(Nt.mk 2 2 3), (Nt.mk 3 9 0), (Nt.mk 2 2 5), (Nt.mk 3 7 0)])).con) _ (H11.arrR (i := 1) rfl) (H11.arrR (i := 2) rfl) (Nat.lt_trans al8 (by decide)) (Nat.lt_trans al9 (by decide))).mono (fun e w12 hq => ?_)))
  obtain ⟨rfl, hf12⟩ := hq
  refine ⟨_, rfl, ?_⟩
  have H12 := H11.fr' hf12
  refine WL.yes rfl rfl rfl al3 rfl (op_eqlN (b := 0) rfl rfl ?_)
  refine WL.op rfl rfl (op_pickT rfl al3 rfl ?_)
  refine WL.op rfl rfl (op_move rfl ?_)
  refine WL.yes rfl rfl rfl al4 rfl (op_loadS (vs := [_, _, _, _]) rfl (H12.cells (i := 3) rfl rfl) Try.underlying30 rfl Fa.I30 rfl ?_)
  refine WL.yes rfl rfl rfl al4 rfl (op_build (cs := [_, _, _]) Fa.I36 Fa.PL36 rfl rfl ?_)
  refine WL.yes rfl rfl rfl al4 rfl (op_callF Fa.C18 rfl ((dnote_ok (ofM ([(Nt.mk 2 2 3), (Nt.mk 3 9 0), (Nt.mk 2 2 5), (Nt.mk 3 7 0)])) _ _ (Nt.mk 3 7 0) _ (H12.arrR (i := 1) rfl) (H12.arrR (i := 2) rfl) (Nat.lt_trans al8 (by decide)) (Nat.lt_trans al9 (by decide))).mono (fun e w13 hq => ?_)))
  obtain ⟨rfl, hf13⟩ := hq
  refine ⟨_, rfl, ?_⟩
  have H13 := H12.fr' hf13
  refine WL.op rfl rfl (op_pickT rfl al4 rfl ?_)
  refine WL.op rfl rfl (op_move rfl ?_)
  refine WL.yes rfl rfl rfl al5 rfl (op_loadS (vs := [_, _, _, _]) rfl (H13.cells (i := 3) rfl rfl) Try.underlying30 rfl Fa.I30 rfl ?_)
  refine WL.yes rfl rfl rfl al5 rfl (op_build (cs := [_, _, _]) Fa.I36 Fa.PL36 rfl rfl ?_)
  refine WL.yes rfl rfl rfl al5 rfl (op_callF Fa.C18 rfl ((dnote_ok (ofM ([(Nt.mk 2 2 3), (Nt.mk 3 9 0), (Nt.mk 2 2 5), (Nt.mk 3 7 0)])) _ _ (Nt.mk 4 0 0) _ (H13.arrR (i := 1) rfl) (H13.arrR (i := 2) rfl) (Nat.lt_trans al8 (by decide)) (Nat.lt_trans al9 (by decide))).mono (fun e w14 hq => ?_)))
  obtain ⟨rfl, hf14⟩ := hq
  refine ⟨_, rfl, ?_⟩
  have H14 := H13.fr' hf14
  refine WL.yes rfl rfl rfl al5 rfl (op_not rfl ?_)
  refine WL.op rfl rfl (op_pickT rfl al5 rfl ?_)
  refine WL.op rfl rfl (op_move rfl ?_)
  refine WL.yes rfl rfl rfl (congrArg Bool.not al6) rfl (op_loadS (vs := [_, _, _, _]) rfl (H14.cells (i := 3) rfl rfl) Try.underlying30 rfl Fa.I30 rfl ?_)
  refine WL.yes rfl rfl rfl (congrArg Bool.not al6) rfl (op_loadS (vs := [_, _, _, _]) rfl (H14.cells (i := 3) rfl rfl) Try.underlying30 rfl Fa.I30 rfl ?_)
  refine WL.yes rfl rfl rfl (congrArg Bool.not al6) rfl (op_callF Fa.C14 rfl ((dcov_ok (ofM ([(Nt.mk 2 2 3), (Nt.mk 3 9 0), (Nt.mk 2 2 5), (Nt.mk 3 7 0)])) (ofM ([(Nt.mk 2 2 3), (Nt.mk 3 9 0), (Nt.mk 2 2 5), (Nt.mk 3 7 0)])) _ _ _ _ _ (H14.arrR (i := 1) rfl) (H14.arrR (i := 2) rfl) (H14.arrR (i := 1) rfl) (H14.arrR (i := 2) rfl) al8 al9 al8 al9).mono (fun e w15 hq => ?_)))
  obtain ⟨rfl, hf15⟩ := hq
  refine ⟨_, rfl, ?_⟩
  have H15 := H14.fr' hf15
  refine WL.op rfl rfl (op_pickT rfl (congrArg Bool.not al6) rfl ?_)
  refine WL.op rfl rfl (op_assign rfl ?_)
  refine WL.nil ?_
  refine WQ.next ?_
  refine WC.ret ?_
  refine WQ.out (.tmp rfl .nil) ?_
  exact ⟨by rw [al7]; rfl, H15.fr⟩
end Go.Proofs.Ytnngbnenekjffaa
/-! from EDem10 -/
namespace Go.Proofs.Ytnngbnenekjffaa
open Go.Owl Go.Spec
set_option maxHeartbeats 2000000 in
set_option maxRecDepth 100000 in
theorem demandMay_ok (m n : Mf) (ev pv ev' pv' : Value) (x : Nt) (w : World) (hE : Arr w ev 2 m.xs.length (List.flatMap xtc m.xs)) (hP : Arr w pv 1 m.ps.length (List.map vU16 m.ps)) (hF : Arr w ev' 2 n.xs.length (List.flatMap xtc n.xs)) (hQ : Arr w pv' 1 n.ps.length (List.map vU16 n.ps)) (hn : m.xs.length ≤ 2 ^ 46) (hm : m.ps.length ≤ 2 ^ 46) (hn' : n.xs.length ≤ 2 ^ 46) (hm' : n.ps.length ≤ 2 ^ 46) :
    Calls Try.prog 5 #[(.agg #[(vU32 m.pg), ev, pv, (.bool m.con)]), (.agg #[(vU32 n.pg), ev', pv', (.bool n.con)]), (.agg #[(vU8 x.kind), (vU32 x.n), (vU32 x.m)])] w (fun e w' => e = .returned (.bool true) ∧ Fr [] w w') := by
  refine enter (args := [(.agg #[(vU32 m.pg), ev, pv, (.bool m.con)]), (.agg #[(vU32 n.pg), ev', pv', (.bool n.con)]), (.agg #[(vU8 x.kind), (vU32 x.n), (vU32 x.m)])]) Try.func5 rfl rfl ?_
  have H0 : Own [] w w [] := Own.start w []
  refine WC.seq ?_
  refine WC.region ?_
  refine WL.op rfl rfl (op_box H0 rfl rfl (fun b1 w1 H1 => ?_))
  refine WL.op rfl rfl (op_box H1 rfl rfl (fun b2 w2 H2 => ?_))
  refine WL.op rfl rfl (op_box H2 rfl rfl (fun b3 w3 H3 => ?_))
  refine WL.op rfl rfl (op_assign rfl ?_)
  refine WL.nil ?_
  refine WQ.next ?_
  refine WC.seq ?_
  refine WC.seq ?_
  refine WC.region ?_
  refine WL.op rfl rfl (op_loadS (vs := [_, _, _, _]) rfl (H3.cells (i := 0) rfl rfl) Try.underlying30 rfl Fa.I30 rfl ?_)
  refine WL.op rfl rfl (op_loadS (vs := [_, _, _, _]) rfl (H3.cells (i := 1) rfl rfl) Try.underlying30 rfl Fa.I30 rfl ?_)
  refine WL.op rfl rfl (op_buildSlice (cs := [_, _, _, _, _, _, _, _]) H3 Try.underlying23 Fa.I30 rfl rfl rfl rfl (by decide) (by decide) (fun b4 w4 H4 => ?_))
  refine WL.op rfl rfl (op_callF Fa.C7 rfl ((large11_ok _ ([(Mm.mk m.pg ev m.xs pv m.ps m.con), (Mm.mk n.pg ev' n.xs pv' n.ps n.con)]) _ (H4.arrR (i := 3) rfl) (MmL_cons (MmD_mk (x := (Mm.mk m.pg ev m.xs pv m.ps m.con)) (H4.arr hE) (H4.arr hP)) (MmL_cons (MmD_mk (x := (Mm.mk n.pg ev' n.xs pv' n.ps n.con)) (H4.arr hF) (H4.arr hQ)) MmL_nil)) (by show 2 ≤ 2 ^ 47; decide) (all2 (p := fun x : Mm => x.xs.length ≤ 2 ^ 46) (show m.xs.length ≤ 2 ^ 46 by omega) (show n.xs.length ≤ 2 ^ 46 by omega)) (all2 (p := fun x : Mm => x.ps.length ≤ 2 ^ 46) (show m.ps.length ≤ 2 ^ 46 by omega) (show n.ps.length ≤ 2 ^ 46 by omega))).mono (fun e w5 hq => ?_)))
  obtain ⟨rfl, hf5⟩ := hq
  refine ⟨_, rfl, ?_⟩
  have H5 := H4.fr' hf5
  refine WL.nil ?_
  refine WQ.next ?_
  refine WC.cond rfl (fun (hb6 : (large11 ([(Mm.mk m.pg ev m.xs pv m.ps m.con), (Mm.mk n.pg ev' n.xs pv' n.ps n.con)])) = true) => ?_) (fun (hb6 : (large11 ([(Mm.mk m.pg ev m.xs pv m.ps m.con), (Mm.mk n.pg ev' n.xs pv' n.ps n.con)])) = false) => ?_)
  ·
    refine WC.seq ?_
    refine WC.region ?_
    refine WL.op rfl rfl (op_callF Fa.C8 rfl ((alive11_ok _).mono (fun e w7 hq => ?_)))
    obtain ⟨rfl, hf7⟩ := hq
    refine ⟨_, rfl, ?_⟩
    have H7 := H5.fr' hf7
    refine WL.op rfl rfl (op_assign rfl ?_)
    refine WL.nil ?_
    refine WQ.next ?_
    refine WC.ret ?_
    refine WQ.thenRet ?_
    refine WQ.out (.tmp rfl .nil) ?_
    exact ⟨rfl, H7.fr⟩
  ·
    have h0 : m.xs.length ≤ 600 ∧ m.ps.length ≤ 600 := large_at (k := 0) hb6 (by show 0 < 2; decide) (by decide)
    have h1 : n.xs.length ≤ 600 ∧ n.ps.length ≤ 600 := large_at (k := 1) hb6 (by show 1 < 2; decide) (by decide)
    refine WC.skip ?_
    refine WQ.next ?_
    refine WC.seq ?_
    refine WC.region ?_
    refine WL.op rfl rfl (op_loadS (vs := [_, _, _, _]) rfl (H5.cells (i := 0) rfl rfl) Try.underlying30 rfl Fa.I30 rfl ?_)
    refine WL.op rfl rfl (op_callF Fa.C16 rfl ((copy11_ok m.pg _ _ m.xs m.ps m.con _ (H5.arr hE) (H5.arr hP) (by omega) (by omega)).mono (fun e w8 hq => ?_)))
    obtain ⟨v8, u8, rfl, hq8⟩ := hq
    refine ⟨_, rfl, ?_⟩
    have H8 : Own [] w w8 [.blk b1 [(vU32 m.pg), ev, pv, (.bool m.con)] 30, .blk b2 [(vU32 n.pg), ev', pv', (.bool n.con)] 30, .blk b3 [(vU8 x.kind), (vU32 x.n), (vU32 x.m)] 36, .row (.slice (some ⟨b4, 0, none⟩) 2 2) 30 4 2 (List.flatMap mmc [(Mm.mk m.pg ev m.xs pv m.ps m.con), (Mm.mk n.pg ev' n.xs pv' n.ps n.con)]), .row v8 50 2 m.xs.length (List.flatMap xtc m.xs), .row u8 51 1 m.ps.length (List.map vU16 m.ps)] := H5.splice [] [] [.row v8 50 2 m.xs.length (List.flatMap xtc m.xs), .row u8 51 1 m.ps.length (List.map vU16 m.ps)] rfl rfl hq8 (Fits.solid True.intro (Fits.solid True.intro Fits.nil))
    refine WL.op rfl rfl (op_alloc H8 Fa.I30 (fun b9 w9 H9 => ?_))
    refine WL.op rfl rfl (op_storeBW (i := 6) H9 rfl rfl rfl rfl (one_cons rfl (one_cons (Arr.one (H9.arrR (i := 4) rfl)) (one_cons (Arr.one (H9.arrR (i := 5) rfl)) (one_cons rfl one_nil)))) Fa.I30 (fun w10 H10 => ?_))
    refine WL.nil ?_
    refine WQ.next ?_
    refine WC.seq ?_
    refine WC.region ?_
    refine WL.op rfl rfl (op_loadS (vs := [_, _, _, _]) rfl (H10.cells (i := 6) rfl rfl) Try.underlying30 rfl Fa.I30 rfl ?_)
    refine WL.op rfl rfl (op_callF Fa.C15 rfl ((dcheck_ok m.pg _ _ m.xs m.ps m.con _ (H10.arrR (i := 4) rfl) (H10.arrR (i := 5) rfl) (by omega) (by omega)).mono (fun e w11 hq => ?_)))
    obtain ⟨rfl, hf11⟩ := hq
    refine ⟨_, rfl, ?_⟩
    have H11 := H10.fr' hf11
    refine WL.op rfl rfl (op_assign rfl ?_)
    refine WL.nil ?_
    refine WQ.next ?_
    refine WC.seq ?_
    refine WC.seq ?_
    refine bsplit (fun (hb13 : (decide ((mfE m.pg m.xs m.ps) ≠ 0)) = true) => ?_) (fun (hb13 : (decide ((mfE m.pg m.xs m.ps) ≠ 0)) = false) => ?_)
    ·
      have hc13 := of_decide_eq_true hb13
      refine WC.draw 46 Fa.M H11 (HW.op rfl (fun w1 H1 => op_move rfl ⟨rfl, Fr.refl _ _⟩) (HW.op rfl (fun w1 H1 => op_eqlN (b := 0) rfl rfl ⟨rfl, Fr.refl _ _⟩) (HW.op rfl (fun w1 H1 => op_loadS (vs := [_, _, _, _]) rfl (H1.cells (i := 0) rfl rfl) Try.underlying30 rfl Fa.I30 rfl ⟨rfl, Fr.refl _ _⟩) (HW.op rfl (fun w1 H1 => op_callF Fa.C17 rfl ((rmay11_ok m.pg _ _ m.xs m.ps m.con _ (H1.arr hE) (H1.arr hP) (by omega) (by omega)).mono (fun e w2 hq => ⟨_, hq.1, rfl, hq.2⟩))) (HW.op rfl (fun w1 H1 => op_neqB Try.underlying4 rfl rfl ⟨rfl, Fr.refl _ _⟩) (HW.op rfl (fun w1 H1 => op_move rfl ⟨rfl, Fr.refl _ _⟩) (HW.yes rfl rfl rfl (may_self (m := m)) (fun w1 H1 => op_move rfl ⟨rfl, Fr.refl _ _⟩) (HW.yes rfl rfl rfl (may_self (m := m)) (fun w1 H1 => op_neqN (b := 0) rfl rfl ⟨rfl, Fr.refl _ _⟩) (HW.yes rfl rfl rfl (may_self (m := m)) (fun w1 H1 => op_move rfl ⟨rfl, Fr.refl _ _⟩) (HW.yes rfl rfl rfl hb13 (fun w1 H1 => op_move rfl ⟨rfl, Fr.refl _ _⟩) (HW.yes rfl rfl rfl hb13 (fun w1 H1 => op_neqN (b := 2) rfl rfl ⟨rfl, Fr.refl _ _⟩) (HW.yes rfl rfl rfl (may_self (m := m)) (fun w1 H1 => op_pickT rfl hb13 rfl ⟨rfl, Fr.refl _ _⟩) (HW.op rfl (fun w1 H1 => op_pickF rfl (may_self (m := m)) rfl ⟨rfl, Fr.refl _ _⟩) (HW.op rfl (fun w1 H1 => op_move rfl ⟨rfl, Fr.refl _ _⟩) (HW.yes rfl rfl rfl (mfE_2 (m := m) hb13) (fun w1 H1 => op_loadS (vs := [_, _, _, _]) rfl (H1.cells (i := 6) rfl rfl) Try.underlying30 rfl Fa.I30 rfl ⟨rfl, Fr.refl _ _⟩) (HW.yes rfl rfl rfl (mfE_2 (m := m) hb13) (fun w1 H1 => op_loadS (vs := [_, _, _]) rfl (H1.cells (i := 2) rfl rfl) Try.underlying36 rfl Fa.I36 rfl ⟨rfl, Fr.refl _ _⟩) (HW.yes rfl rfl rfl (mfE_2 (m := m) hb13) (fun w1 H1 => op_callF Fa.C18 rfl ((dnote_ok m _ _ x _ (H1.arrR (i := 4) rfl) (H1.arrR (i := 5) rfl) (by omega) (by omega)).mono (fun e w2 hq => ⟨_, hq.1, rfl, hq.2⟩))) (HW.yes rfl rfl rfl (mfE_2 (m := m) hb13) (fun w1 H1 => op_loadS (vs := [_, _, _, _]) rfl (H1.cells (i := 0) rfl rfl) Try.underlying30 rfl Fa.I30 rfl ⟨rfl, Fr.refl _ _⟩) (HW.yes rfl rfl rfl (mfE_2 (m := m) hb13) (fun w1 H1 => op_loadS (vs := [_, _, _]) rfl (H1.cells (i := 2) rfl rfl) Try.underlying36 rfl Fa.I36 rfl ⟨rfl, Fr.refl _ _⟩) (HW.yes rfl rfl rfl (mfE_2 (m := m) hb13) (fun w1 H1 => op_callF Fa.C19 rfl ((rnote11_ok m _ _ x _ (H1.arr hE) (H1.arr hP) (by omega) (by omega)).mono (fun e w2 hq => ⟨_, hq.1, rfl, hq.2⟩))) (HW.yes rfl rfl rfl (mfE_2 (m := m) hb13) (fun w1 H1 => op_neqB Try.underlying4 rfl rfl ⟨rfl, Fr.refl _ _⟩) (HW.op rfl (fun w1 H1 => op_pickF rfl (mfE_2 (m := m) hb13) rfl ⟨rfl, Fr.refl _ _⟩) (HW.op rfl (fun w1 H1 => op_move rfl ⟨rfl, Fr.refl _ _⟩) (HW.yes rfl rfl rfl (not_self _) (fun w1 H1 => op_loadS (vs := [_, _, _, _]) rfl (H1.cells (i := 6) rfl rfl) Try.underlying30 rfl Fa.I30 rfl ⟨rfl, Fr.refl _ _⟩) (HW.yes rfl rfl rfl (not_self _) (fun w1 H1 => op_loadS (vs := [_, _, _, _]) rfl (H1.cells (i := 1) rfl rfl) Try.underlying30 rfl Fa.I30 rfl ⟨rfl, Fr.refl _ _⟩) (HW.yes rfl rfl rfl (not_self _) (fun w1 H1 => op_callF Fa.C14 rfl ((dcov_ok m n _ _ _ _ _ (H1.arrR (i := 4) rfl) (H1.arrR (i := 5) rfl) (H1.arr hF) (H1.arr hQ) (by omega) (by omega) (by omega) (by omega)).mono (fun e w2 hq => ⟨_, hq.1, rfl, hq.2⟩))) (HW.yes rfl rfl rfl (not_self _) (fun w1 H1 => op_loadS (vs := [_, _, _, _]) rfl (H1.cells (i := 0) rfl rfl) Try.underlying30 rfl Fa.I30 rfl ⟨rfl, Fr.refl _ _⟩) (HW.yes rfl rfl rfl (not_self _) (fun w1 H1 => op_loadS (vs := [_, _, _, _]) rfl (H1.cells (i := 1) rfl rfl) Try.underlying30 rfl Fa.I30 rfl ⟨rfl, Fr.refl _ _⟩) (HW.yes rfl rfl rfl (not_self _) (fun w1 H1 => op_callF Fa.C20 rfl ((rcov_ok m n _ _ _ _ _ (H1.arr hE) (H1.arr hP) (H1.arr hF) (H1.arr hQ) (by omega) (by omega) (by omega) (by omega)).mono (fun e w2 hq => ⟨_, hq.1, rfl, hq.2⟩))) (HW.yes rfl rfl rfl (not_self _) (fun w1 H1 => op_neqB Try.underlying4 rfl rfl ⟨rfl, Fr.refl _ _⟩) (HW.op rfl (fun w1 H1 => op_pickF rfl (not_self _) rfl ⟨rfl, Fr.refl _ _⟩) (HW.op rfl (fun w1 H1 => op_move rfl ⟨rfl, Fr.refl _ _⟩) (HW.yes rfl rfl rfl (not_self _) (fun w1 H1 => op_loadS (vs := [_, _, _, _]) rfl (H1.cells (i := 6) rfl rfl) Try.underlying30 rfl Fa.I30 rfl ⟨rfl, Fr.refl _ _⟩) (HW.yes rfl rfl rfl (not_self _) (fun w1 H1 => op_loadS (vs := [_, _, _, _]) rfl (H1.cells (i := 1) rfl rfl) Try.underlying30 rfl Fa.I30 rfl ⟨rfl, Fr.refl _ _⟩) (HW.yes rfl rfl rfl (not_self _) (fun w1 H1 => op_callF Fa.C21 rfl (((same_of (a := m) (b := n) (dsame_ok m.pg m.con _ _ m.xs m.ps n.pg n.con _ _ n.xs n.ps _ (H1.arrR (i := 4) rfl) (H1.arrR (i := 5) rfl) (H1.arr hF) (H1.arr hQ) (by omega) (by omega)))).mono (fun e w2 hq => ⟨_, hq.1, rfl, hq.2⟩))) (HW.yes rfl rfl rfl (not_self _) (fun w1 H1 => op_loadS (vs := [_, _, _, _]) rfl (H1.cells (i := 0) rfl rfl) Try.underlying30 rfl Fa.I30 rfl ⟨rfl, Fr.refl _ _⟩) (HW.yes rfl rfl rfl (not_self _) (fun w1 H1 => op_loadS (vs := [_, _, _, _]) rfl (H1.cells (i := 1) rfl rfl) Try.underlying30 rfl Fa.I30 rfl ⟨rfl, Fr.refl _ _⟩) (HW.yes rfl rfl rfl (not_self _) (fun w1 H1 => op_callF Fa.C13 rfl (((same_of (a := m) (b := n) (rmsame_ok m.pg m.con _ _ m.xs m.ps n.pg n.con _ _ n.xs n.ps _ (H1.arr hE) (H1.arr hP) (H1.arr hF) (H1.arr hQ) (by omega) (by omega)))).mono (fun e w2 hq => ⟨_, hq.1, rfl, hq.2⟩))) (HW.yes rfl rfl rfl (not_self _) (fun w1 H1 => op_neqB Try.underlying4 rfl rfl ⟨rfl, Fr.refl _ _⟩) (HW.op rfl (fun w1 H1 => op_pickF rfl (not_self _) rfl ⟨rfl, Fr.refl _ _⟩) (HW.op rfl (fun w1 H1 => op_move rfl ⟨rfl, Fr.refl _ _⟩) (HW.yes rfl rfl rfl (not_self _) (fun w1 H1 => op_loadS (vs := [_, _, _, _]) rfl (H1.cells (i := 6) rfl rfl) Try.underlying30 rfl Fa.I30 rfl ⟨rfl, Fr.refl _ _⟩) (HW.yes rfl rfl rfl (not_self _) (fun w1 H1 => op_loadS (vs := [_, _, _, _]) rfl (H1.cells (i := 0) rfl rfl) Try.underlying30 rfl Fa.I30 rfl ⟨rfl, Fr.refl _ _⟩) (HW.yes rfl rfl rfl (not_self _) (fun w1 H1 => op_callF Fa.C21 rfl (((same_of (a := m) (b := m) (dsame_ok m.pg m.con _ _ m.xs m.ps m.pg m.con _ _ m.xs m.ps _ (H1.arrR (i := 4) rfl) (H1.arrR (i := 5) rfl) (H1.arr hE) (H1.arr hP) (by omega) (by omega)))).mono (fun e w2 hq => ⟨_, hq.1, rfl, hq.2⟩))) (HW.yes rfl rfl rfl (not_self _) (fun w1 H1 => op_not rfl ⟨rfl, Fr.refl _ _⟩) (HW.op rfl (fun w1 H1 => op_pickF rfl (not_self _) rfl ⟨rfl, Fr.refl _ _⟩)  HW.nil)))))))))))))))))))))))))))))))))))))))))))))) (by kernel_rfl) ?_
      intro β22 w22 H22
      refine WL.nil ?_
      refine WQ.next ?_
      refine WC.no rfl (congrArg Bool.not (decide_eq_true rfl)) ?_
      refine WC.skip ?_
      refine WQ.next ?_
      refine WC.seq ?_
      refine WC.held 6 rfl Fa.M H22 (fun w' => ∃ L', Own [] w w' ([.blk b1 [(vU32 m.pg), ev, pv, (.bool m.con)] 30, .blk b2 [(vU32 n.pg), ev', pv', (.bool n.con)] 30, .blk b3 [(vU8 x.kind), (vU32 x.n), (vU32 x.m)] 36, .row (.slice (some ⟨b4, 0, none⟩) 2 2) 30 4 2 (List.flatMap mmc [(Mm.mk m.pg ev m.xs pv m.ps m.con), (Mm.mk n.pg ev' n.xs pv' n.ps n.con)]), .row v8 50 2 m.xs.length (List.flatMap xtc m.xs), .row u8 51 1 m.ps.length (List.map vU16 m.ps), .blk b9 [(vU32 m.pg), v8, u8, (.bool m.con)] 30] ++ L')) ?_
      intro w23 H23
      refine WH.take (i := 0) (v := (.agg #[(vU32 m.pg), v8, u8, (.bool m.con)])) rfl rfl (.inl rfl) rfl (by kernel_rfl) ⟨[], H23⟩ (fun wX hSX => hSX.elim fun LX HX => op_loadS (vs := [_, _, _, _]) rfl (HX.cells (i := 6) rfl rfl) Try.underlying30 rfl Fa.I30 rfl ⟨rfl, rfl⟩) ?_
      refine WH.take (i := 2) (v := (.agg #[(vU32 m.pg), ev, pv, (.bool m.con)])) rfl rfl (.inl rfl) rfl (by kernel_rfl) ⟨[], H23⟩ (fun wX hSX => hSX.elim fun LX HX => op_loadS (vs := [_, _, _, _]) rfl (HX.cells (i := 0) rfl rfl) Try.underlying30 rfl Fa.I30 rfl ⟨rfl, rfl⟩) ?_
      refine WH.named (fun W hW => ?_)
      have st7_2 : ∀ (v34021 : Value) (v34061 : Value) (wS : World), Own [] w wS [.blk b1 [(vU32 m.pg), ev, pv, (.bool m.con)] 30, .blk b2 [(vU32 n.pg), ev', pv', (.bool n.con)] 30, .blk b3 [(vU8 x.kind), (vU32 x.n), (vU32 x.m)] 36, .row (.slice (some ⟨b4, 0, none⟩) 2 2) 30 4 2 (List.flatMap mmc [(Mm.mk m.pg ev m.xs pv m.ps m.con), (Mm.mk n.pg ev' n.xs pv' n.ps n.con)]), .row v8 50 2 m.xs.length (List.flatMap xtc m.xs), .row u8 51 1 m.ps.length (List.map vU16 m.ps), .blk b9 [(vU32 m.pg), v8, u8, (.bool m.con)] 30, .row v34021 36 3 (notesM m).length (List.flatMap ntc (notesM m)), .row v34061 36 3 (notesM m).length (List.flatMap ntc (notesM m))] → W 0 #[true, true, true, true, true, true] [(0, (.agg #[(vU32 m.pg), ev, pv, (.bool m.con)])), (1, (.agg #[(vU32 n.pg), ev', pv', (.bool n.con)])), (2, (.agg #[(vU8 x.kind), (vU32 x.n), (vU32 x.m)])), (3, (ptr b1 0)), (4, (ptr b2 0)), (5, (ptr b3 0)), (6, (.bool false)), (7, (ptr b9 0)), (8, (vN (mfE m.pg m.xs m.ps))), (9, v34021), (10, v34061), (12, (.agg #[(vU32 m.pg), ev, pv, (.bool m.con)])), (13, (.agg #[(vU32 n.pg), ev', pv', (.bool n.con)])), (14, (.slice (some ⟨b4, 0, none⟩) 2 2)), (15, (.bool (large11 ([(Mm.mk m.pg ev m.xs pv m.ps m.con), (Mm.mk n.pg ev' n.xs pv' n.ps n.con)])))), (17, (.agg #[(vU32 m.pg), ev, pv, (.bool m.con)])), (18, (.agg #[(vU32 m.pg), v8, u8, (.bool m.con)])), (19, (.agg #[(vU32 m.pg), v8, u8, (.bool m.con)])), (20, (vN (mfE m.pg m.xs m.ps))), (21, (vN (mfE m.pg m.xs m.ps))), (22, (.bool (decide ((mfE m.pg m.xs m.ps) = 0)))), (23, (.agg #[(vU32 m.pg), ev, pv, (.bool m.con)])), (24, (.bool (Mf.may m))), (25, (.bool (!((decide ((mfE m.pg m.xs m.ps) = 0)) == (Mf.may m))))), (26, (.bool (!((decide ((mfE m.pg m.xs m.ps) = 0)) == (Mf.may m))))), (27, (vN (mfE m.pg m.xs m.ps))), (28, (.bool (decide ((mfE m.pg m.xs m.ps) ≠ 0)))), (29, (.bool (decide ((mfE m.pg m.xs m.ps) ≠ 0)))), (30, (vN (mfE m.pg m.xs m.ps))), (31, (.bool (decide ((mfE m.pg m.xs m.ps) ≠ 2)))), (32, (.bool (decide ((mfE m.pg m.xs m.ps) ≠ 2)))), (33, (.bool (decide ((mfE m.pg m.xs m.ps) ≠ 2)))), (34, (.bool (decide ((mfE m.pg m.xs m.ps) ≠ 2)))), (35, (.agg #[(vU32 m.pg), v8, u8, (.bool m.con)])), (36, (.agg #[(vU8 x.kind), (vU32 x.n), (vU32 x.m)])), (37, (.bool (rNote m x))), (38, (.agg #[(vU32 m.pg), ev, pv, (.bool m.con)])), (39, (.agg #[(vU8 x.kind), (vU32 x.n), (vU32 x.m)])), (40, (.bool (rNote m x))), (41, (.bool (!((rNote m x) == (rNote m x))))), (42, (.bool (!((rNote m x) == (rNote m x))))), (43, (.bool (!((rNote m x) == (rNote m x))))), (44, (.agg #[(vU32 m.pg), v8, u8, (.bool m.con)])), (45, (.agg #[(vU32 n.pg), ev', pv', (.bool n.con)])), (46, (.bool (covM m n))), (47, (.agg #[(vU32 m.pg), ev, pv, (.bool m.con)])), (48, (.agg #[(vU32 n.pg), ev', pv', (.bool n.con)])), (49, (.bool (covM m n))), (50, (.bool (!((covM m n) == (covM m n))))), (51, (.bool (!((covM m n) == (covM m n))))), (52, (.bool (!((covM m n) == (covM m n))))), (53, (.agg #[(vU32 m.pg), v8, u8, (.bool m.con)])), (54, (.agg #[(vU32 n.pg), ev', pv', (.bool n.con)])), (55, (.bool (decide (m = n)))), (56, (.agg #[(vU32 m.pg), ev, pv, (.bool m.con)])), (57, (.agg #[(vU32 n.pg), ev', pv', (.bool n.con)])), (58, (.bool (decide (m = n)))), (59, (.bool (!((decide (m = n)) == (decide (m = n)))))), (60, (.bool (!((decide (m = n)) == (decide (m = n)))))), (61, (.bool (!((decide (m = n)) == (decide (m = n)))))), (62, (.agg #[(vU32 m.pg), v8, u8, (.bool m.con)])), (63, (.agg #[(vU32 m.pg), ev, pv, (.bool m.con)])), (64, (.bool (decide (m = m)))), (65, (.bool (!(decide (m = m))))), (66, (.bool (!(decide (m = m))))), (67, (.agg #[(vU32 m.pg), v8, u8, (.bool m.con)])), (68, v34021), (69, (.agg #[(vU32 m.pg), ev, pv, (.bool m.con)])), (70, v34061)] wS := by
        intro v34021 v34061 wS HS
        rw [hW]
        refine WH.done (by kernel_rfl) ?_
        refine WQ.next ?_
        refine WC.seq ?_
        refine WC.seq ?_
        refine WC.region ?_
        refine WL.op rfl rfl (op_move rfl ?_)
        refine WL.op rfl rfl (op_lenA Try.underlying22 rfl (HS.arrR (i := 7) rfl) ?_)
        refine WL.op rfl rfl (op_move rfl ?_)
        refine WL.op rfl rfl (op_lenA Try.underlying22 rfl (HS.arrR (i := 8) rfl) ?_)
        refine WL.op rfl rfl (op_neqN rfl rfl ?_)
        refine WL.nil ?_
        refine WQ.next ?_
        refine WC.no rfl (decide_eq_false (fun h => h rfl)) ?_
        refine WC.skip ?_
        refine WQ.next ?_
        refine WC.seq ?_
        refine WC.seq ?_
        refine WC.region ?_
        refine WL.op rfl rfl (op_assign rfl ?_)
        refine WL.nil ?_
        refine WQ.next ?_
        refine WC.block ?_
        refine WC.loop (α := Nat) (fun k => [(3, (ptr b1 0)), (4, (ptr b2 0)), (5, (ptr b3 0)), (7, (ptr b9 0)), (9, v34021), (10, v34061), (11, (vN k))]) (fun k w' => (k ≤ (notesM m).length) ∧ Own [] w w' [.blk b1 [(vU32 m.pg), ev, pv, (.bool m.con)] 30, .blk b2 [(vU32 n.pg), ev', pv', (.bool n.con)] 30, .blk b3 [(vU8 x.kind), (vU32 x.n), (vU32 x.m)] 36, .row (.slice (some ⟨b4, 0, none⟩) 2 2) 30 4 2 (List.flatMap mmc [(Mm.mk m.pg ev m.xs pv m.ps m.con), (Mm.mk n.pg ev' n.xs pv' n.ps n.con)]), .row v8 50 2 m.xs.length (List.flatMap xtc m.xs), .row u8 51 1 m.ps.length (List.map vU16 m.ps), .blk b9 [(vU32 m.pg), v8, u8, (.bool m.con)] 30, .row v34021 36 3 (notesM m).length (List.flatMap ntc (notesM m)), .row v34061 36 3 (notesM m).length (List.flatMap ntc (notesM m))]) (fun k => (notesM m).length - k) 0 ⟨(Nat.zero_le _), HS⟩ ⟨rfl, rfl, rfl, rfl, rfl, rfl, rfl, trivial⟩ ?_
        rintro k w25 ⟨hinv, H25⟩
        show WC _ _ _ _ _ [(3, (ptr b1 0)), (4, (ptr b2 0)), (5, (ptr b3 0)), (7, (ptr b9 0)), (9, v34021), (10, v34061), (11, (vN k))] _
        have hnl := notesM_len (m := m)
        have hnp := nP_len (m := m) m.ps.length
        refine WC.seq ?_
        refine WC.seq ?_
        refine WC.region ?_
        refine WL.op rfl rfl (op_move rfl ?_)
        refine WL.op rfl rfl (op_move rfl ?_)
        refine WL.op rfl rfl (op_lenA Try.underlying22 rfl (H25.arrR (i := 7) rfl) ?_)
        refine WL.op rfl rfl (op_lssN rfl rfl ?_)
        refine WL.nil ?_
        refine WQ.next ?_
        refine WC.cond rfl (fun (hb26 : (decide (k < (notesM m).length)) = true) => ?_) (fun (hb26 : (decide (k < (notesM m).length)) = false) => ?_)
        ·
          have hc26 := of_decide_eq_true hb26
          refine WC.skip ?_
          refine WQ.next ?_
          refine WC.seq ?_
          refine WC.block ?_
          refine WC.seq ?_
          refine WC.draw 9 Fa.M H25 (HW.op rfl (fun w1 H1 => op_move rfl ⟨rfl, Fr.refl _ _⟩) (HW.op rfl (fun w1 H1 => op_move rfl ⟨rfl, Fr.refl _ _⟩) (HW.op rfl (fun w1 H1 => op_indexAddr Try.underlying22 Fa.I36 rfl (H1.arrR (i := 7) rfl) rfl (by omega) ⟨rfl, Fr.refl _ _⟩) (HW.op rfl (fun w1 H1 => op_loadSP (vs := ntc ((notesM m).getD k Nt.zero)) rfl (Arr.atsF (H1.arrR (i := 7) rfl) (fun _ => rfl) (by decide) Nt.zero (by omega)) Try.underlying36 rfl Fa.I36 rfl ⟨rfl, Fr.refl _ _⟩) (HW.op rfl (fun w1 H1 => op_move rfl ⟨rfl, Fr.refl _ _⟩) (HW.op rfl (fun w1 H1 => op_move rfl ⟨rfl, Fr.refl _ _⟩) (HW.op rfl (fun w1 H1 => op_indexAddr Try.underlying22 Fa.I36 rfl (H1.arrR (i := 8) rfl) rfl (by omega) ⟨rfl, Fr.refl _ _⟩) (HW.op rfl (fun w1 H1 => op_loadSP (vs := ntc ((notesM m).getD k Nt.zero)) rfl (Arr.atsF (H1.arrR (i := 8) rfl) (fun _ => rfl) (by decide) Nt.zero (by omega)) Try.underlying36 rfl Fa.I36 rfl ⟨rfl, Fr.refl _ _⟩) (HW.op rfl (fun w1 H1 => op_neqS (xs := [_, _, _]) (ys := [_, _, _]) (b := (!((decide (((notesM m).getD k Nt.zero).kind = ((notesM m).getD k Nt.zero).kind)) && ((decide (((notesM m).getD k Nt.zero).n = ((notesM m).getD k Nt.zero).n)) && (decide (((notesM m).getD k Nt.zero).m = ((notesM m).getD k Nt.zero).m)))))) Fa.FL36 rfl rfl rfl (by simp [eqAll, veqU32, veqU8]) ⟨rfl, Fr.refl _ _⟩)  HW.nil))))))))) (by kernel_rfl) ?_
          intro β27 w27 H27
          refine WL.nil ?_
          refine WQ.next ?_
          refine WC.no rfl (nt_self _) ?_
          refine WC.skip ?_
          refine WQ.inNormal ?_
          refine WQ.next ?_
          refine WC.region ?_
          refine WL.op rfl rfl (op_move rfl ?_)
          refine WL.op rfl rfl (op_addN (b := 1) rfl rfl (by omega) ?_)
          refine WL.op rfl rfl (op_assign rfl ?_)
          refine WL.nil ?_
          exact WQ.round (k + 1) ⟨(by omega), H27⟩ ⟨rfl, rfl, rfl, rfl, rfl, rfl, rfl, trivial⟩ (by omega)
        ·
          have hc26 := of_decide_eq_false hb26
          refine WC.exit ?_
          refine WQ.thenExit ?_
          refine WQ.thenExit ?_
          refine WQ.inHere ?_
          refine WQ.next ?_
          refine WC.seq ?_
          refine WC.region ?_
          refine WL.op rfl rfl (op_loadS (vs := [_, _, _, _]) rfl (H25.cells (i := 6) rfl rfl) Try.underlying30 rfl Fa.I30 rfl ?_)
          refine WL.op rfl rfl (op_loadS (vs := [_, _, _, _]) rfl (H25.cells (i := 0) rfl rfl) Try.underlying30 rfl Fa.I30 rfl ?_)
          refine WL.op rfl rfl (op_callF Fa.C13 rfl (((same_of (a := m) (b := m) (rmsame_ok m.pg m.con _ _ m.xs m.ps m.pg m.con _ _ m.xs m.ps _ (H25.arrR (i := 4) rfl) (H25.arrR (i := 5) rfl) (H25.arr hE) (H25.arr hP) (by omega) (by omega)))).mono (fun e w28 hq => ?_)))
          obtain ⟨rfl, hf28⟩ := hq
          refine ⟨_, rfl, ?_⟩
          have H28 := H25.fr' hf28
          refine WL.op rfl rfl (op_move rfl ?_)
          refine WL.yes rfl rfl rfl (decide_eq_true rfl) rfl (op_callF Fa.C8 rfl ((alive11_ok _).mono (fun e w29 hq => ?_)))
          obtain ⟨rfl, hf29⟩ := hq
          refine ⟨_, rfl, ?_⟩
          have H29 := H28.fr' hf29
          refine WL.op rfl rfl (op_pickT rfl (decide_eq_true rfl) rfl ?_)
          refine WL.op rfl rfl (op_assign rfl ?_)
          refine WL.nil ?_
          refine WQ.next ?_
          refine WC.ret ?_
          refine WQ.out (.tmp rfl .nil) ?_
          exact ⟨rfl, H29.fr⟩
      have st7_1 : ∀ (v34021 : Value) (wS : World), Own [] w wS [.blk b1 [(vU32 m.pg), ev, pv, (.bool m.con)] 30, .blk b2 [(vU32 n.pg), ev', pv', (.bool n.con)] 30, .blk b3 [(vU8 x.kind), (vU32 x.n), (vU32 x.m)] 36, .row (.slice (some ⟨b4, 0, none⟩) 2 2) 30 4 2 (List.flatMap mmc [(Mm.mk m.pg ev m.xs pv m.ps m.con), (Mm.mk n.pg ev' n.xs pv' n.ps n.con)]), .row v8 50 2 m.xs.length (List.flatMap xtc m.xs), .row u8 51 1 m.ps.length (List.map vU16 m.ps), .blk b9 [(vU32 m.pg), v8, u8, (.bool m.con)] 30, .row v34021 36 3 (notesM m).length (List.flatMap ntc (notesM m))] → W 3 #[true, true, true, false, false, false] [(0, (.agg #[(vU32 m.pg), ev, pv, (.bool m.con)])), (1, (.agg #[(vU32 n.pg), ev', pv', (.bool n.con)])), (2, (.agg #[(vU8 x.kind), (vU32 x.n), (vU32 x.m)])), (3, (ptr b1 0)), (4, (ptr b2 0)), (5, (ptr b3 0)), (6, (.bool false)), (7, (ptr b9 0)), (8, (vN (mfE m.pg m.xs m.ps))), (12, (.agg #[(vU32 m.pg), ev, pv, (.bool m.con)])), (13, (.agg #[(vU32 n.pg), ev', pv', (.bool n.con)])), (14, (.slice (some ⟨b4, 0, none⟩) 2 2)), (15, (.bool (large11 ([(Mm.mk m.pg ev m.xs pv m.ps m.con), (Mm.mk n.pg ev' n.xs pv' n.ps n.con)])))), (17, (.agg #[(vU32 m.pg), ev, pv, (.bool m.con)])), (18, (.agg #[(vU32 m.pg), v8, u8, (.bool m.con)])), (19, (.agg #[(vU32 m.pg), v8, u8, (.bool m.con)])), (20, (vN (mfE m.pg m.xs m.ps))), (21, (vN (mfE m.pg m.xs m.ps))), (22, (.bool (decide ((mfE m.pg m.xs m.ps) = 0)))), (23, (.agg #[(vU32 m.pg), ev, pv, (.bool m.con)])), (24, (.bool (Mf.may m))), (25, (.bool (!((decide ((mfE m.pg m.xs m.ps) = 0)) == (Mf.may m))))), (26, (.bool (!((decide ((mfE m.pg m.xs m.ps) = 0)) == (Mf.may m))))), (27, (vN (mfE m.pg m.xs m.ps))), (28, (.bool (decide ((mfE m.pg m.xs m.ps) ≠ 0)))), (29, (.bool (decide ((mfE m.pg m.xs m.ps) ≠ 0)))), (30, (vN (mfE m.pg m.xs m.ps))), (31, (.bool (decide ((mfE m.pg m.xs m.ps) ≠ 2)))), (32, (.bool (decide ((mfE m.pg m.xs m.ps) ≠ 2)))), (33, (.bool (decide ((mfE m.pg m.xs m.ps) ≠ 2)))), (34, (.bool (decide ((mfE m.pg m.xs m.ps) ≠ 2)))), (35, (.agg #[(vU32 m.pg), v8, u8, (.bool m.con)])), (36, (.agg #[(vU8 x.kind), (vU32 x.n), (vU32 x.m)])), (37, (.bool (rNote m x))), (38, (.agg #[(vU32 m.pg), ev, pv, (.bool m.con)])), (39, (.agg #[(vU8 x.kind), (vU32 x.n), (vU32 x.m)])), (40, (.bool (rNote m x))), (41, (.bool (!((rNote m x) == (rNote m x))))), (42, (.bool (!((rNote m x) == (rNote m x))))), (43, (.bool (!((rNote m x) == (rNote m x))))), (44, (.agg #[(vU32 m.pg), v8, u8, (.bool m.con)])), (45, (.agg #[(vU32 n.pg), ev', pv', (.bool n.con)])), (46, (.bool (covM m n))), (47, (.agg #[(vU32 m.pg), ev, pv, (.bool m.con)])), (48, (.agg #[(vU32 n.pg), ev', pv', (.bool n.con)])), (49, (.bool (covM m n))), (50, (.bool (!((covM m n) == (covM m n))))), (51, (.bool (!((covM m n) == (covM m n))))), (52, (.bool (!((covM m n) == (covM m n))))), (53, (.agg #[(vU32 m.pg), v8, u8, (.bool m.con)])), (54, (.agg #[(vU32 n.pg), ev', pv', (.bool n.con)])), (55, (.bool (decide (m = n)))), (56, (.agg #[(vU32 m.pg), ev, pv, (.bool m.con)])), (57, (.agg #[(vU32 n.pg), ev', pv', (.bool n.con)])), (58, (.bool (decide (m = n)))), (59, (.bool (!((decide (m = n)) == (decide (m = n)))))), (60, (.bool (!((decide (m = n)) == (decide (m = n)))))), (61, (.bool (!((decide (m = n)) == (decide (m = n)))))), (62, (.agg #[(vU32 m.pg), v8, u8, (.bool m.con)])), (63, (.agg #[(vU32 m.pg), ev, pv, (.bool m.con)])), (64, (.bool (decide (m = m)))), (65, (.bool (!(decide (m = m))))), (66, (.bool (!(decide (m = m))))), (67, (.agg #[(vU32 m.pg), v8, u8, (.bool m.con)])), (68, v34021), (69, (.agg #[(vU32 m.pg), ev, pv, (.bool m.con)]))] wS := by
        intro v34021 wS HS
        rw [hW]
        refine WH.all1 (i := 3) (by kernel_rfl) ?_
        ·
          refine WHS.op (i := 3) rfl (.inl rfl) rfl (op_callF Fa.C23 rfl ((rnotes_ok m _ _ _ (HS.arr hE) (HS.arr hP) (by omega) (by omega)).mono (fun e w34061 hq => ?_)))
          obtain ⟨v34061, rfl, hq34061⟩ := hq
          refine ⟨_, rfl, ?_⟩
          have H34061 : Own [] w w34061 [.blk b1 [(vU32 m.pg), ev, pv, (.bool m.con)] 30, .blk b2 [(vU32 n.pg), ev', pv', (.bool n.con)] 30, .blk b3 [(vU8 x.kind), (vU32 x.n), (vU32 x.m)] 36, .row (.slice (some ⟨b4, 0, none⟩) 2 2) 30 4 2 (List.flatMap mmc [(Mm.mk m.pg ev m.xs pv m.ps m.con), (Mm.mk n.pg ev' n.xs pv' n.ps n.con)]), .row v8 50 2 m.xs.length (List.flatMap xtc m.xs), .row u8 51 1 m.ps.length (List.map vU16 m.ps), .blk b9 [(vU32 m.pg), v8, u8, (.bool m.con)] 30, .row v34021 36 3 (notesM m).length (List.flatMap ntc (notesM m)), .row v34061 36 3 (notesM m).length (List.flatMap ntc (notesM m))] := HS.splice [] [] [.row v34061 36 3 (notesM m).length (List.flatMap ntc (notesM m))] rfl rfl hq34061 (Fits.solid True.intro Fits.nil)
          refine ⟨⟨[.row v34021 36 3 (notesM m).length (List.flatMap ntc (notesM m)), .row v34061 36 3 (notesM m).length (List.flatMap ntc (notesM m))], H34061⟩, ?_⟩
          refine WH.take (i := 4) (v := v34021) rfl rfl (.inl rfl) rfl (by kernel_rfl) ⟨[.row v34021 36 3 (notesM m).length (List.flatMap ntc (notesM m)), .row v34061 36 3 (notesM m).length (List.flatMap ntc (notesM m))], H34061⟩ (fun wX hSX => hSX.elim fun LX HX => op_assign rfl ⟨rfl, rfl⟩) ?_
          refine WH.take (i := 5) (v := v34061) rfl rfl (.inl rfl) rfl (by kernel_rfl) ⟨[.row v34021 36 3 (notesM m).length (List.flatMap ntc (notesM m)), .row v34061 36 3 (notesM m).length (List.flatMap ntc (notesM m))], H34061⟩ (fun wX hSX => hSX.elim fun LX HX => op_assign rfl ⟨rfl, rfl⟩) ?_
          have hq := st7_2 v34021 v34061 w34061 H34061
          rw [hW] at hq
          refine WH.cov ?_ hq
          exact by repeat (first | exact trivial | refine ⟨rfl, ?_⟩)
      have st7_0 : ∀ (wS : World), Own [] w wS [.blk b1 [(vU32 m.pg), ev, pv, (.bool m.con)] 30, .blk b2 [(vU32 n.pg), ev', pv', (.bool n.con)] 30, .blk b3 [(vU8 x.kind), (vU32 x.n), (vU32 x.m)] 36, .row (.slice (some ⟨b4, 0, none⟩) 2 2) 30 4 2 (List.flatMap mmc [(Mm.mk m.pg ev m.xs pv m.ps m.con), (Mm.mk n.pg ev' n.xs pv' n.ps n.con)]), .row v8 50 2 m.xs.length (List.flatMap xtc m.xs), .row u8 51 1 m.ps.length (List.map vU16 m.ps), .blk b9 [(vU32 m.pg), v8, u8, (.bool m.con)] 30] → W 4 #[true, false, true, false, false, false] [(0, (.agg #[(vU32 m.pg), ev, pv, (.bool m.con)])), (1, (.agg #[(vU32 n.pg), ev', pv', (.bool n.con)])), (2, (.agg #[(vU8 x.kind), (vU32 x.n), (vU32 x.m)])), (3, (ptr b1 0)), (4, (ptr b2 0)), (5, (ptr b3 0)), (6, (.bool false)), (7, (ptr b9 0)), (8, (vN (mfE m.pg m.xs m.ps))), (12, (.agg #[(vU32 m.pg), ev, pv, (.bool m.con)])), (13, (.agg #[(vU32 n.pg), ev', pv', (.bool n.con)])), (14, (.slice (some ⟨b4, 0, none⟩) 2 2)), (15, (.bool (large11 ([(Mm.mk m.pg ev m.xs pv m.ps m.con), (Mm.mk n.pg ev' n.xs pv' n.ps n.con)])))), (17, (.agg #[(vU32 m.pg), ev, pv, (.bool m.con)])), (18, (.agg #[(vU32 m.pg), v8, u8, (.bool m.con)])), (19, (.agg #[(vU32 m.pg), v8, u8, (.bool m.con)])), (20, (vN (mfE m.pg m.xs m.ps))), (21, (vN (mfE m.pg m.xs m.ps))), (22, (.bool (decide ((mfE m.pg m.xs m.ps) = 0)))), (23, (.agg #[(vU32 m.pg), ev, pv, (.bool m.con)])), (24, (.bool (Mf.may m))), (25, (.bool (!((decide ((mfE m.pg m.xs m.ps) = 0)) == (Mf.may m))))), (26, (.bool (!((decide ((mfE m.pg m.xs m.ps) = 0)) == (Mf.may m))))), (27, (vN (mfE m.pg m.xs m.ps))), (28, (.bool (decide ((mfE m.pg m.xs m.ps) ≠ 0)))), (29, (.bool (decide ((mfE m.pg m.xs m.ps) ≠ 0)))), (30, (vN (mfE m.pg m.xs m.ps))), (31, (.bool (decide ((mfE m.pg m.xs m.ps) ≠ 2)))), (32, (.bool (decide ((mfE m.pg m.xs m.ps) ≠ 2)))), (33, (.bool (decide ((mfE m.pg m.xs m.ps) ≠ 2)))), (34, (.bool (decide ((mfE m.pg m.xs m.ps) ≠ 2)))), (35, (.agg #[(vU32 m.pg), v8, u8, (.bool m.con)])), (36, (.agg #[(vU8 x.kind), (vU32 x.n), (vU32 x.m)])), (37, (.bool (rNote m x))), (38, (.agg #[(vU32 m.pg), ev, pv, (.bool m.con)])), (39, (.agg #[(vU8 x.kind), (vU32 x.n), (vU32 x.m)])), (40, (.bool (rNote m x))), (41, (.bool (!((rNote m x) == (rNote m x))))), (42, (.bool (!((rNote m x) == (rNote m x))))), (43, (.bool (!((rNote m x) == (rNote m x))))), (44, (.agg #[(vU32 m.pg), v8, u8, (.bool m.con)])), (45, (.agg #[(vU32 n.pg), ev', pv', (.bool n.con)])), (46, (.bool (covM m n))), (47, (.agg #[(vU32 m.pg), ev, pv, (.bool m.con)])), (48, (.agg #[(vU32 n.pg), ev', pv', (.bool n.con)])), (49, (.bool (covM m n))), (50, (.bool (!((covM m n) == (covM m n))))), (51, (.bool (!((covM m n) == (covM m n))))), (52, (.bool (!((covM m n) == (covM m n))))), (53, (.agg #[(vU32 m.pg), v8, u8, (.bool m.con)])), (54, (.agg #[(vU32 n.pg), ev', pv', (.bool n.con)])), (55, (.bool (decide (m = n)))), (56, (.agg #[(vU32 m.pg), ev, pv, (.bool m.con)])), (57, (.agg #[(vU32 n.pg), ev', pv', (.bool n.con)])), (58, (.bool (decide (m = n)))), (59, (.bool (!((decide (m = n)) == (decide (m = n)))))), (60, (.bool (!((decide (m = n)) == (decide (m = n)))))), (61, (.bool (!((decide (m = n)) == (decide (m = n)))))), (62, (.agg #[(vU32 m.pg), v8, u8, (.bool m.con)])), (63, (.agg #[(vU32 m.pg), ev, pv, (.bool m.con)])), (64, (.bool (decide (m = m)))), (65, (.bool (!(decide (m = m))))), (66, (.bool (!(decide (m = m))))), (67, (.agg #[(vU32 m.pg), v8, u8, (.bool m.con)])), (69, (.agg #[(vU32 m.pg), ev, pv, (.bool m.con)]))] wS := by
        intro wS HS
        rw [hW]
        refine WH.all1 (i := 1) (by kernel_rfl) ?_
        ·
          refine WHS.op (i := 1) rfl (.inl rfl) rfl (op_callF Fa.C22 rfl ((dnotes_ok m _ _ _ (HS.arrR (i := 4) rfl) (HS.arrR (i := 5) rfl) (by omega) (by omega)).mono (fun e w34021 hq => ?_)))
          obtain ⟨v34021, rfl, hq34021⟩ := hq
          refine ⟨_, rfl, ?_⟩
          have H34021 : Own [] w w34021 [.blk b1 [(vU32 m.pg), ev, pv, (.bool m.con)] 30, .blk b2 [(vU32 n.pg), ev', pv', (.bool n.con)] 30, .blk b3 [(vU8 x.kind), (vU32 x.n), (vU32 x.m)] 36, .row (.slice (some ⟨b4, 0, none⟩) 2 2) 30 4 2 (List.flatMap mmc [(Mm.mk m.pg ev m.xs pv m.ps m.con), (Mm.mk n.pg ev' n.xs pv' n.ps n.con)]), .row v8 50 2 m.xs.length (List.flatMap xtc m.xs), .row u8 51 1 m.ps.length (List.map vU16 m.ps), .blk b9 [(vU32 m.pg), v8, u8, (.bool m.con)] 30, .row v34021 36 3 (notesM m).length (List.flatMap ntc (notesM m))] := HS.splice [] [] [.row v34021 36 3 (notesM m).length (List.flatMap ntc (notesM m))] rfl rfl hq34021 (Fits.solid True.intro Fits.nil)
          refine ⟨⟨[.row v34021 36 3 (notesM m).length (List.flatMap ntc (notesM m))], H34021⟩, ?_⟩
          have hq := st7_1 v34021 w34021 H34021
          rw [hW] at hq
          refine WH.cov ?_ hq
          exact by repeat (first | exact trivial | refine ⟨rfl, ?_⟩)
      have hq := st7_0 w23 H23
      rw [hW] at hq ⊢
      refine WH.cov ?_ hq
      exact by repeat (first | exact trivial | refine ⟨rfl, ?_⟩)
    ·
      have hc13 := of_decide_eq_false hb13
      refine WC.draw 46 Fa.M H11 (HW.op rfl (fun w1 H1 => op_move rfl ⟨rfl, Fr.refl _ _⟩) (HW.op rfl (fun w1 H1 => op_eqlN (b := 0) rfl rfl ⟨rfl, Fr.refl _ _⟩) (HW.op rfl (fun w1 H1 => op_loadS (vs := [_, _, _, _]) rfl (H1.cells (i := 0) rfl rfl) Try.underlying30 rfl Fa.I30 rfl ⟨rfl, Fr.refl _ _⟩) (HW.op rfl (fun w1 H1 => op_callF Fa.C17 rfl ((rmay11_ok m.pg _ _ m.xs m.ps m.con _ (H1.arr hE) (H1.arr hP) (by omega) (by omega)).mono (fun e w2 hq => ⟨_, hq.1, rfl, hq.2⟩))) (HW.op rfl (fun w1 H1 => op_neqB Try.underlying4 rfl rfl ⟨rfl, Fr.refl _ _⟩) (HW.op rfl (fun w1 H1 => op_move rfl ⟨rfl, Fr.refl _ _⟩) (HW.yes rfl rfl rfl (may_self (m := m)) (fun w1 H1 => op_move rfl ⟨rfl, Fr.refl _ _⟩) (HW.yes rfl rfl rfl (may_self (m := m)) (fun w1 H1 => op_neqN (b := 0) rfl rfl ⟨rfl, Fr.refl _ _⟩) (HW.yes rfl rfl rfl (may_self (m := m)) (fun w1 H1 => op_move rfl ⟨rfl, Fr.refl _ _⟩) (HW.no rfl rfl rfl hb13 (HW.no rfl rfl rfl hb13 (HW.yes rfl rfl rfl (may_self (m := m)) (fun w1 H1 => op_pickF rfl hb13 rfl ⟨rfl, Fr.refl _ _⟩) (HW.op rfl (fun w1 H1 => op_pickF rfl (may_self (m := m)) rfl ⟨rfl, Fr.refl _ _⟩) (HW.op rfl (fun w1 H1 => op_move rfl ⟨rfl, Fr.refl _ _⟩) (HW.yes rfl rfl rfl rfl (fun w1 H1 => op_loadS (vs := [_, _, _, _]) rfl (H1.cells (i := 6) rfl rfl) Try.underlying30 rfl Fa.I30 rfl ⟨rfl, Fr.refl _ _⟩) (HW.yes rfl rfl rfl rfl (fun w1 H1 => op_loadS (vs := [_, _, _]) rfl (H1.cells (i := 2) rfl rfl) Try.underlying36 rfl Fa.I36 rfl ⟨rfl, Fr.refl _ _⟩) (HW.yes rfl rfl rfl rfl (fun w1 H1 => op_callF Fa.C18 rfl ((dnote_ok m _ _ x _ (H1.arrR (i := 4) rfl) (H1.arrR (i := 5) rfl) (by omega) (by omega)).mono (fun e w2 hq => ⟨_, hq.1, rfl, hq.2⟩))) (HW.yes rfl rfl rfl rfl (fun w1 H1 => op_loadS (vs := [_, _, _, _]) rfl (H1.cells (i := 0) rfl rfl) Try.underlying30 rfl Fa.I30 rfl ⟨rfl, Fr.refl _ _⟩) (HW.yes rfl rfl rfl rfl (fun w1 H1 => op_loadS (vs := [_, _, _]) rfl (H1.cells (i := 2) rfl rfl) Try.underlying36 rfl Fa.I36 rfl ⟨rfl, Fr.refl _ _⟩) (HW.yes rfl rfl rfl rfl (fun w1 H1 => op_callF Fa.C19 rfl ((rnote11_ok m _ _ x _ (H1.arr hE) (H1.arr hP) (by omega) (by omega)).mono (fun e w2 hq => ⟨_, hq.1, rfl, hq.2⟩))) (HW.yes rfl rfl rfl rfl (fun w1 H1 => op_neqB Try.underlying4 rfl rfl ⟨rfl, Fr.refl _ _⟩) (HW.op rfl (fun w1 H1 => op_pickF rfl rfl rfl ⟨rfl, Fr.refl _ _⟩) (HW.op rfl (fun w1 H1 => op_move rfl ⟨rfl, Fr.refl _ _⟩) (HW.yes rfl rfl rfl (not_self _) (fun w1 H1 => op_loadS (vs := [_, _, _, _]) rfl (H1.cells (i := 6) rfl rfl) Try.underlying30 rfl Fa.I30 rfl ⟨rfl, Fr.refl _ _⟩) (HW.yes rfl rfl rfl (not_self _) (fun w1 H1 => op_loadS (vs := [_, _, _, _]) rfl (H1.cells (i := 1) rfl rfl) Try.underlying30 rfl Fa.I30 rfl ⟨rfl, Fr.refl _ _⟩) (HW.yes rfl rfl rfl (not_self _) (fun w1 H1 => op_callF Fa.C14 rfl ((dcov_ok m n _ _ _ _ _ (H1.arrR (i := 4) rfl) (H1.arrR (i := 5) rfl) (H1.arr hF) (H1.arr hQ) (by omega) (by omega) (by omega) (by omega)).mono (fun e w2 hq => ⟨_, hq.1, rfl, hq.2⟩))) (HW.yes rfl rfl rfl (not_self _) (fun w1 H1 => op_loadS (vs := [_, _, _, _]) rfl (H1.cells (i := 0) rfl rfl) Try.underlying30 rfl Fa.I30 rfl ⟨rfl, Fr.refl _ _⟩) (HW.yes rfl rfl rfl (not_self _) (fun w1 H1 => op_loadS (vs := [_, _, _, _]) rfl (H1.cells (i := 1) rfl rfl) Try.underlying30 rfl Fa.I30 rfl ⟨rfl, Fr.refl _ _⟩) (HW.yes rfl rfl rfl (not_self _) (fun w1 H1 => op_callF Fa.C20 rfl ((rcov_ok m n _ _ _ _ _ (H1.arr hE) (H1.arr hP) (H1.arr hF) (H1.arr hQ) (by omega) (by omega) (by omega) (by omega)).mono (fun e w2 hq => ⟨_, hq.1, rfl, hq.2⟩))) (HW.yes rfl rfl rfl (not_self _) (fun w1 H1 => op_neqB Try.underlying4 rfl rfl ⟨rfl, Fr.refl _ _⟩) (HW.op rfl (fun w1 H1 => op_pickF rfl (not_self _) rfl ⟨rfl, Fr.refl _ _⟩) (HW.op rfl (fun w1 H1 => op_move rfl ⟨rfl, Fr.refl _ _⟩) (HW.yes rfl rfl rfl (not_self _) (fun w1 H1 => op_loadS (vs := [_, _, _, _]) rfl (H1.cells (i := 6) rfl rfl) Try.underlying30 rfl Fa.I30 rfl ⟨rfl, Fr.refl _ _⟩) (HW.yes rfl rfl rfl (not_self _) (fun w1 H1 => op_loadS (vs := [_, _, _, _]) rfl (H1.cells (i := 1) rfl rfl) Try.underlying30 rfl Fa.I30 rfl ⟨rfl, Fr.refl _ _⟩) (HW.yes rfl rfl rfl (not_self _) (fun w1 H1 => op_callF Fa.C21 rfl (((same_of (a := m) (b := n) (dsame_ok m.pg m.con _ _ m.xs m.ps n.pg n.con _ _ n.xs n.ps _ (H1.arrR (i := 4) rfl) (H1.arrR (i := 5) rfl) (H1.arr hF) (H1.arr hQ) (by omega) (by omega)))).mono (fun e w2 hq => ⟨_, hq.1, rfl, hq.2⟩))) (HW.yes rfl rfl rfl (not_self _) (fun w1 H1 => op_loadS (vs := [_, _, _, _]) rfl (H1.cells (i := 0) rfl rfl) Try.underlying30 rfl Fa.I30 rfl ⟨rfl, Fr.refl _ _⟩) (HW.yes rfl rfl rfl (not_self _) (fun w1 H1 => op_loadS (vs := [_, _, _, _]) rfl (H1.cells (i := 1) rfl rfl) Try.underlying30 rfl Fa.I30 rfl ⟨rfl, Fr.refl _ _⟩) (HW.yes rfl rfl rfl (not_self _) (fun w1 H1 => op_callF Fa.C13 rfl (((same_of (a := m) (b := n) (rmsame_ok m.pg m.con _ _ m.xs m.ps n.pg n.con _ _ n.xs n.ps _ (H1.arr hE) (H1.arr hP) (H1.arr hF) (H1.arr hQ) (by omega) (by omega)))).mono (fun e w2 hq => ⟨_, hq.1, rfl, hq.2⟩))) (HW.yes rfl rfl rfl (not_self _) (fun w1 H1 => op_neqB Try.underlying4 rfl rfl ⟨rfl, Fr.refl _ _⟩) (HW.op rfl (fun w1 H1 => op_pickF rfl (not_self _) rfl ⟨rfl, Fr.refl _ _⟩) (HW.op rfl (fun w1 H1 => op_move rfl ⟨rfl, Fr.refl _ _⟩) (HW.yes rfl rfl rfl (not_self _) (fun w1 H1 => op_loadS (vs := [_, _, _, _]) rfl (H1.cells (i := 6) rfl rfl) Try.underlying30 rfl Fa.I30 rfl ⟨rfl, Fr.refl _ _⟩) (HW.yes rfl rfl rfl (not_self _) (fun w1 H1 => op_loadS (vs := [_, _, _, _]) rfl (H1.cells (i := 0) rfl rfl) Try.underlying30 rfl Fa.I30 rfl ⟨rfl, Fr.refl _ _⟩) (HW.yes rfl rfl rfl (not_self _) (fun w1 H1 => op_callF Fa.C21 rfl (((same_of (a := m) (b := m) (dsame_ok m.pg m.con _ _ m.xs m.ps m.pg m.con _ _ m.xs m.ps _ (H1.arrR (i := 4) rfl) (H1.arrR (i := 5) rfl) (H1.arr hE) (H1.arr hP) (by omega) (by omega)))).mono (fun e w2 hq => ⟨_, hq.1, rfl, hq.2⟩))) (HW.yes rfl rfl rfl (not_self _) (fun w1 H1 => op_not rfl ⟨rfl, Fr.refl _ _⟩) (HW.op rfl (fun w1 H1 => op_pickF rfl (not_self _) rfl ⟨rfl, Fr.refl _ _⟩)  HW.nil)))))))))))))))))))))))))))))))))))))))))))))) (by kernel_rfl) ?_
      intro β38 w38 H38
      refine WL.nil ?_
      refine WQ.next ?_
      refine WC.no rfl (congrArg Bool.not (decide_eq_true rfl)) ?_
      refine WC.skip ?_
      refine WQ.next ?_
      refine WC.seq ?_
      refine WC.held 6 rfl Fa.M H38 (fun w' => ∃ L', Own [] w w' ([.blk b1 [(vU32 m.pg), ev, pv, (.bool m.con)] 30, .blk b2 [(vU32 n.pg), ev', pv', (.bool n.con)] 30, .blk b3 [(vU8 x.kind), (vU32 x.n), (vU32 x.m)] 36, .row (.slice (some ⟨b4, 0, none⟩) 2 2) 30 4 2 (List.flatMap mmc [(Mm.mk m.pg ev m.xs pv m.ps m.con), (Mm.mk n.pg ev' n.xs pv' n.ps n.con)]), .row v8 50 2 m.xs.length (List.flatMap xtc m.xs), .row u8 51 1 m.ps.length (List.map vU16 m.ps), .blk b9 [(vU32 m.pg), v8, u8, (.bool m.con)] 30] ++ L')) ?_
      intro w39 H39
      refine WH.take (i := 0) (v := (.agg #[(vU32 m.pg), v8, u8, (.bool m.con)])) rfl rfl (.inl rfl) rfl (by kernel_rfl) ⟨[], H39⟩ (fun wX hSX => hSX.elim fun LX HX => op_loadS (vs := [_, _, _, _]) rfl (HX.cells (i := 6) rfl rfl) Try.underlying30 rfl Fa.I30 rfl ⟨rfl, rfl⟩) ?_
      refine WH.take (i := 2) (v := (.agg #[(vU32 m.pg), ev, pv, (.bool m.con)])) rfl rfl (.inl rfl) rfl (by kernel_rfl) ⟨[], H39⟩ (fun wX hSX => hSX.elim fun LX HX => op_loadS (vs := [_, _, _, _]) rfl (HX.cells (i := 0) rfl rfl) Try.underlying30 rfl Fa.I30 rfl ⟨rfl, rfl⟩) ?_
      refine WH.named (fun W hW => ?_)
      have st7_2 : ∀ (v50021 : Value) (v50061 : Value) (wS : World), Own [] w wS [.blk b1 [(vU32 m.pg), ev, pv, (.bool m.con)] 30, .blk b2 [(vU32 n.pg), ev', pv', (.bool n.con)] 30, .blk b3 [(vU8 x.kind), (vU32 x.n), (vU32 x.m)] 36, .row (.slice (some ⟨b4, 0, none⟩) 2 2) 30 4 2 (List.flatMap mmc [(Mm.mk m.pg ev m.xs pv m.ps m.con), (Mm.mk n.pg ev' n.xs pv' n.ps n.con)]), .row v8 50 2 m.xs.length (List.flatMap xtc m.xs), .row u8 51 1 m.ps.length (List.map vU16 m.ps), .blk b9 [(vU32 m.pg), v8, u8, (.bool m.con)] 30, .row v50021 36 3 (notesM m).length (List.flatMap ntc (notesM m)), .row v50061 36 3 (notesM m).length (List.flatMap ntc (notesM m))] → W 0 #[true, true, true, true, true, true] [(0, (.agg #[(vU32 m.pg), ev, pv, (.bool m.con)])), (1, (.agg #[(vU32 n.pg), ev', pv', (.bool n.con)])), (2, (.agg #[(vU8 x.kind), (vU32 x.n), (vU32 x.m)])), (3, (ptr b1 0)), (4, (ptr b2 0)), (5, (ptr b3 0)), (6, (.bool false)), (7, (ptr b9 0)), (8, (vN (mfE m.pg m.xs m.ps))), (9, v50021), (10, v50061), (12, (.agg #[(vU32 m.pg), ev, pv, (.bool m.con)])), (13, (.agg #[(vU32 n.pg), ev', pv', (.bool n.con)])), (14, (.slice (some ⟨b4, 0, none⟩) 2 2)), (15, (.bool (large11 ([(Mm.mk m.pg ev m.xs pv m.ps m.con), (Mm.mk n.pg ev' n.xs pv' n.ps n.con)])))), (17, (.agg #[(vU32 m.pg), ev, pv, (.bool m.con)])), (18, (.agg #[(vU32 m.pg), v8, u8, (.bool m.con)])), (19, (.agg #[(vU32 m.pg), v8, u8, (.bool m.con)])), (20, (vN (mfE m.pg m.xs m.ps))), (21, (vN (mfE m.pg m.xs m.ps))), (22, (.bool (decide ((mfE m.pg m.xs m.ps) = 0)))), (23, (.agg #[(vU32 m.pg), ev, pv, (.bool m.con)])), (24, (.bool (Mf.may m))), (25, (.bool (!((decide ((mfE m.pg m.xs m.ps) = 0)) == (Mf.may m))))), (26, (.bool (!((decide ((mfE m.pg m.xs m.ps) = 0)) == (Mf.may m))))), (27, (vN (mfE m.pg m.xs m.ps))), (28, (.bool (decide ((mfE m.pg m.xs m.ps) ≠ 0)))), (29, (.bool (decide ((mfE m.pg m.xs m.ps) ≠ 0)))), (30, undef), (31, undef), (32, (.bool false)), (33, (.bool false)), (34, (.bool false)), (35, (.agg #[(vU32 m.pg), v8, u8, (.bool m.con)])), (36, (.agg #[(vU8 x.kind), (vU32 x.n), (vU32 x.m)])), (37, (.bool (rNote m x))), (38, (.agg #[(vU32 m.pg), ev, pv, (.bool m.con)])), (39, (.agg #[(vU8 x.kind), (vU32 x.n), (vU32 x.m)])), (40, (.bool (rNote m x))), (41, (.bool (!((rNote m x) == (rNote m x))))), (42, (.bool (!((rNote m x) == (rNote m x))))), (43, (.bool (!((rNote m x) == (rNote m x))))), (44, (.agg #[(vU32 m.pg), v8, u8, (.bool m.con)])), (45, (.agg #[(vU32 n.pg), ev', pv', (.bool n.con)])), (46, (.bool (covM m n))), (47, (.agg #[(vU32 m.pg), ev, pv, (.bool m.con)])), (48, (.agg #[(vU32 n.pg), ev', pv', (.bool n.con)])), (49, (.bool (covM m n))), (50, (.bool (!((covM m n) == (covM m n))))), (51, (.bool (!((covM m n) == (covM m n))))), (52, (.bool (!((covM m n) == (covM m n))))), (53, (.agg #[(vU32 m.pg), v8, u8, (.bool m.con)])), (54, (.agg #[(vU32 n.pg), ev', pv', (.bool n.con)])), (55, (.bool (decide (m = n)))), (56, (.agg #[(vU32 m.pg), ev, pv, (.bool m.con)])), (57, (.agg #[(vU32 n.pg), ev', pv', (.bool n.con)])), (58, (.bool (decide (m = n)))), (59, (.bool (!((decide (m = n)) == (decide (m = n)))))), (60, (.bool (!((decide (m = n)) == (decide (m = n)))))), (61, (.bool (!((decide (m = n)) == (decide (m = n)))))), (62, (.agg #[(vU32 m.pg), v8, u8, (.bool m.con)])), (63, (.agg #[(vU32 m.pg), ev, pv, (.bool m.con)])), (64, (.bool (decide (m = m)))), (65, (.bool (!(decide (m = m))))), (66, (.bool (!(decide (m = m))))), (67, (.agg #[(vU32 m.pg), v8, u8, (.bool m.con)])), (68, v50021), (69, (.agg #[(vU32 m.pg), ev, pv, (.bool m.con)])), (70, v50061)] wS := by
        intro v50021 v50061 wS HS
        rw [hW]
        refine WH.done (by kernel_rfl) ?_
        refine WQ.next ?_
        refine WC.seq ?_
        refine WC.seq ?_
        refine WC.region ?_
        refine WL.op rfl rfl (op_move rfl ?_)
        refine WL.op rfl rfl (op_lenA Try.underlying22 rfl (HS.arrR (i := 7) rfl) ?_)
        refine WL.op rfl rfl (op_move rfl ?_)
        refine WL.op rfl rfl (op_lenA Try.underlying22 rfl (HS.arrR (i := 8) rfl) ?_)
        refine WL.op rfl rfl (op_neqN rfl rfl ?_)
        refine WL.nil ?_
        refine WQ.next ?_
        refine WC.no rfl (decide_eq_false (fun h => h rfl)) ?_
        refine WC.skip ?_
        refine WQ.next ?_
        refine WC.seq ?_
        refine WC.seq ?_
        refine WC.region ?_
        refine WL.op rfl rfl (op_assign rfl ?_)
        refine WL.nil ?_
        refine WQ.next ?_
        refine WC.block ?_
        refine WC.loop (α := Nat) (fun k => [(3, (ptr b1 0)), (4, (ptr b2 0)), (5, (ptr b3 0)), (7, (ptr b9 0)), (9, v50021), (10, v50061), (11, (vN k))]) (fun k w' => (k ≤ (notesM m).length) ∧ Own [] w w' [.blk b1 [(vU32 m.pg), ev, pv, (.bool m.con)] 30, .blk b2 [(vU32 n.pg), ev', pv', (.bool n.con)] 30, .blk b3 [(vU8 x.kind), (vU32 x.n), (vU32 x.m)] 36, .row (.slice (some ⟨b4, 0, none⟩) 2 2) 30 4 2 (List.flatMap mmc [(Mm.mk m.pg ev m.xs pv m.ps m.con), (Mm.mk n.pg ev' n.xs pv' n.ps n.con)]), .row v8 50 2 m.xs.length (List.flatMap xtc m.xs), .row u8 51 1 m.ps.length (List.map vU16 m.ps), .blk b9 [(vU32 m.pg), v8, u8, (.bool m.con)] 30, .row v50021 36 3 (notesM m).length (List.flatMap ntc (notesM m)), .row v50061 36 3 (notesM m).length (List.flatMap ntc (notesM m))]) (fun k => (notesM m).length - k) 0 ⟨(Nat.zero_le _), HS⟩ ⟨rfl, rfl, rfl, rfl, rfl, rfl, rfl, trivial⟩ ?_
        rintro k w41 ⟨hinv, H41⟩
        show WC _ _ _ _ _ [(3, (ptr b1 0)), (4, (ptr b2 0)), (5, (ptr b3 0)), (7, (ptr b9 0)), (9, v50021), (10, v50061), (11, (vN k))] _
        have hnl := notesM_len (m := m)
        have hnp := nP_len (m := m) m.ps.length
        refine WC.seq ?_
        refine WC.seq ?_
        refine WC.region ?_
        refine WL.op rfl rfl (op_move rfl ?_)
        refine WL.op rfl rfl (op_move rfl ?_)
        refine WL.op rfl rfl (op_lenA Try.underlying22 rfl (H41.arrR (i := 7) rfl) ?_)
        refine WL.op rfl rfl (op_lssN rfl rfl ?_)
        refine WL.nil ?_
        refine WQ.next ?_
        refine WC.cond rfl (fun (hb42 : (decide (k < (notesM m).length)) = true) => ?_) (fun (hb42 : (decide (k < (notesM m).length)) = false) => ?_)
        ·
          have hc42 := of_decide_eq_true hb42
          refine WC.skip ?_
          refine WQ.next ?_
          refine WC.seq ?_
          refine WC.block ?_
          refine WC.seq ?_
          refine WC.draw 9 Fa.M H41 (HW.op rfl (fun w1 H1 => op_move rfl ⟨rfl, Fr.refl _ _⟩) (HW.op rfl (fun w1 H1 => op_move rfl ⟨rfl, Fr.refl _ _⟩) (HW.op rfl (fun w1 H1 => op_indexAddr Try.underlying22 Fa.I36 rfl (H1.arrR (i := 7) rfl) rfl (by omega) ⟨rfl, Fr.refl _ _⟩) (HW.op rfl (fun w1 H1 => op_loadSP (vs := ntc ((notesM m).getD k Nt.zero)) rfl (Arr.atsF (H1.arrR (i := 7) rfl) (fun _ => rfl) (by decide) Nt.zero (by omega)) Try.underlying36 rfl Fa.I36 rfl ⟨rfl, Fr.refl _ _⟩) (HW.op rfl (fun w1 H1 => op_move rfl ⟨rfl, Fr.refl _ _⟩) (HW.op rfl (fun w1 H1 => op_move rfl ⟨rfl, Fr.refl _ _⟩) (HW.op rfl (fun w1 H1 => op_indexAddr Try.underlying22 Fa.I36 rfl (H1.arrR (i := 8) rfl) rfl (by omega) ⟨rfl, Fr.refl _ _⟩) (HW.op rfl (fun w1 H1 => op_loadSP (vs := ntc ((notesM m).getD k Nt.zero)) rfl (Arr.atsF (H1.arrR (i := 8) rfl) (fun _ => rfl) (by decide) Nt.zero (by omega)) Try.underlying36 rfl Fa.I36 rfl ⟨rfl, Fr.refl _ _⟩) (HW.op rfl (fun w1 H1 => op_neqS (xs := [_, _, _]) (ys := [_, _, _]) (b := (!((decide (((notesM m).getD k Nt.zero).kind = ((notesM m).getD k Nt.zero).kind)) && ((decide (((notesM m).getD k Nt.zero).n = ((notesM m).getD k Nt.zero).n)) && (decide (((notesM m).getD k Nt.zero).m = ((notesM m).getD k Nt.zero).m)))))) Fa.FL36 rfl rfl rfl (by simp [eqAll, veqU32, veqU8]) ⟨rfl, Fr.refl _ _⟩)  HW.nil))))))))) (by kernel_rfl) ?_
          intro β43 w43 H43
          refine WL.nil ?_
          refine WQ.next ?_
          refine WC.no rfl (nt_self _) ?_
          refine WC.skip ?_
          refine WQ.inNormal ?_
          refine WQ.next ?_
          refine WC.region ?_
          refine WL.op rfl rfl (op_move rfl ?_)
          refine WL.op rfl rfl (op_addN (b := 1) rfl rfl (by omega) ?_)
          refine WL.op rfl rfl (op_assign rfl ?_)
          refine WL.nil ?_
          exact WQ.round (k + 1) ⟨(by omega), H43⟩ ⟨rfl, rfl, rfl, rfl, rfl, rfl, rfl, trivial⟩ (by omega)
        ·
          have hc42 := of_decide_eq_false hb42
          refine WC.exit ?_
          refine WQ.thenExit ?_
          refine WQ.thenExit ?_
          refine WQ.inHere ?_
          refine WQ.next ?_
          refine WC.seq ?_
          refine WC.region ?_
          refine WL.op rfl rfl (op_loadS (vs := [_, _, _, _]) rfl (H41.cells (i := 6) rfl rfl) Try.underlying30 rfl Fa.I30 rfl ?_)
          refine WL.op rfl rfl (op_loadS (vs := [_, _, _, _]) rfl (H41.cells (i := 0) rfl rfl) Try.underlying30 rfl Fa.I30 rfl ?_)
          refine WL.op rfl rfl (op_callF Fa.C13 rfl (((same_of (a := m) (b := m) (rmsame_ok m.pg m.con _ _ m.xs m.ps m.pg m.con _ _ m.xs m.ps _ (H41.arrR (i := 4) rfl) (H41.arrR (i := 5) rfl) (H41.arr hE) (H41.arr hP) (by omega) (by omega)))).mono (fun e w44 hq => ?_)))
          obtain ⟨rfl, hf44⟩ := hq
          refine ⟨_, rfl, ?_⟩
          have H44 := H41.fr' hf44
          refine WL.op rfl rfl (op_move rfl ?_)
          refine WL.yes rfl rfl rfl (decide_eq_true rfl) rfl (op_callF Fa.C8 rfl ((alive11_ok _).mono (fun e w45 hq => ?_)))
          obtain ⟨rfl, hf45⟩ := hq
          refine ⟨_, rfl, ?_⟩
          have H45 := H44.fr' hf45
          refine WL.op rfl rfl (op_pickT rfl (decide_eq_true rfl) rfl ?_)
          refine WL.op rfl rfl (op_assign rfl ?_)
          refine WL.nil ?_
          refine WQ.next ?_
          refine WC.ret ?_
          refine WQ.out (.tmp rfl .nil) ?_
          exact ⟨rfl, H45.fr⟩
      have st7_1 : ∀ (v50021 : Value) (wS : World), Own [] w wS [.blk b1 [(vU32 m.pg), ev, pv, (.bool m.con)] 30, .blk b2 [(vU32 n.pg), ev', pv', (.bool n.con)] 30, .blk b3 [(vU8 x.kind), (vU32 x.n), (vU32 x.m)] 36, .row (.slice (some ⟨b4, 0, none⟩) 2 2) 30 4 2 (List.flatMap mmc [(Mm.mk m.pg ev m.xs pv m.ps m.con), (Mm.mk n.pg ev' n.xs pv' n.ps n.con)]), .row v8 50 2 m.xs.length (List.flatMap xtc m.xs), .row u8 51 1 m.ps.length (List.map vU16 m.ps), .blk b9 [(vU32 m.pg), v8, u8, (.bool m.con)] 30, .row v50021 36 3 (notesM m).length (List.flatMap ntc (notesM m))] → W 3 #[true, true, true, false, false, false] [(0, (.agg #[(vU32 m.pg), ev, pv, (.bool m.con)])), (1, (.agg #[(vU32 n.pg), ev', pv', (.bool n.con)])), (2, (.agg #[(vU8 x.kind), (vU32 x.n), (vU32 x.m)])), (3, (ptr b1 0)), (4, (ptr b2 0)), (5, (ptr b3 0)), (6, (.bool false)), (7, (ptr b9 0)), (8, (vN (mfE m.pg m.xs m.ps))), (12, (.agg #[(vU32 m.pg), ev, pv, (.bool m.con)])), (13, (.agg #[(vU32 n.pg), ev', pv', (.bool n.con)])), (14, (.slice (some ⟨b4, 0, none⟩) 2 2)), (15, (.bool (large11 ([(Mm.mk m.pg ev m.xs pv m.ps m.con), (Mm.mk n.pg ev' n.xs pv' n.ps n.con)])))), (17, (.agg #[(vU32 m.pg), ev, pv, (.bool m.con)])), (18, (.agg #[(vU32 m.pg), v8, u8, (.bool m.con)])), (19, (.agg #[(vU32 m.pg), v8, u8, (.bool m.con)])), (20, (vN (mfE m.pg m.xs m.ps))), (21, (vN (mfE m.pg m.xs m.ps))), (22, (.bool (decide ((mfE m.pg m.xs m.ps) = 0)))), (23, (.agg #[(vU32 m.pg), ev, pv, (.bool m.con)])), (24, (.bool (Mf.may m))), (25, (.bool (!((decide ((mfE m.pg m.xs m.ps) = 0)) == (Mf.may m))))), (26, (.bool (!((decide ((mfE m.pg m.xs m.ps) = 0)) == (Mf.may m))))), (27, (vN (mfE m.pg m.xs m.ps))), (28, (.bool (decide ((mfE m.pg m.xs m.ps) ≠ 0)))), (29, (.bool (decide ((mfE m.pg m.xs m.ps) ≠ 0)))), (30, undef), (31, undef), (32, (.bool false)), (33, (.bool false)), (34, (.bool false)), (35, (.agg #[(vU32 m.pg), v8, u8, (.bool m.con)])), (36, (.agg #[(vU8 x.kind), (vU32 x.n), (vU32 x.m)])), (37, (.bool (rNote m x))), (38, (.agg #[(vU32 m.pg), ev, pv, (.bool m.con)])), (39, (.agg #[(vU8 x.kind), (vU32 x.n), (vU32 x.m)])), (40, (.bool (rNote m x))), (41, (.bool (!((rNote m x) == (rNote m x))))), (42, (.bool (!((rNote m x) == (rNote m x))))), (43, (.bool (!((rNote m x) == (rNote m x))))), (44, (.agg #[(vU32 m.pg), v8, u8, (.bool m.con)])), (45, (.agg #[(vU32 n.pg), ev', pv', (.bool n.con)])), (46, (.bool (covM m n))), (47, (.agg #[(vU32 m.pg), ev, pv, (.bool m.con)])), (48, (.agg #[(vU32 n.pg), ev', pv', (.bool n.con)])), (49, (.bool (covM m n))), (50, (.bool (!((covM m n) == (covM m n))))), (51, (.bool (!((covM m n) == (covM m n))))), (52, (.bool (!((covM m n) == (covM m n))))), (53, (.agg #[(vU32 m.pg), v8, u8, (.bool m.con)])), (54, (.agg #[(vU32 n.pg), ev', pv', (.bool n.con)])), (55, (.bool (decide (m = n)))), (56, (.agg #[(vU32 m.pg), ev, pv, (.bool m.con)])), (57, (.agg #[(vU32 n.pg), ev', pv', (.bool n.con)])), (58, (.bool (decide (m = n)))), (59, (.bool (!((decide (m = n)) == (decide (m = n)))))), (60, (.bool (!((decide (m = n)) == (decide (m = n)))))), (61, (.bool (!((decide (m = n)) == (decide (m = n)))))), (62, (.agg #[(vU32 m.pg), v8, u8, (.bool m.con)])), (63, (.agg #[(vU32 m.pg), ev, pv, (.bool m.con)])), (64, (.bool (decide (m = m)))), (65, (.bool (!(decide (m = m))))), (66, (.bool (!(decide (m = m))))), (67, (.agg #[(vU32 m.pg), v8, u8, (.bool m.con)])), (68, v50021), (69, (.agg #[(vU32 m.pg), ev, pv, (.bool m.con)]))] wS := by
        intro v50021 wS HS
        rw [hW]
        refine WH.all1 (i := 3) (by kernel_rfl) ?_
        ·
          refine WHS.op (i := 3) rfl (.inl rfl) rfl (op_callF Fa.C23 rfl ((rnotes_ok m _ _ _ (HS.arr hE) (HS.arr hP) (by omega) (by omega)).mono (fun e w50061 hq => ?_)))
          obtain ⟨v50061, rfl, hq50061⟩ := hq
          refine ⟨_, rfl, ?_⟩
          have H50061 : Own [] w w50061 [.blk b1 [(vU32 m.pg), ev, pv, (.bool m.con)] 30, .blk b2 [(vU32 n.pg), ev', pv', (.bool n.con)] 30, .blk b3 [(vU8 x.kind), (vU32 x.n), (vU32 x.m)] 36, .row (.slice (some ⟨b4, 0, none⟩) 2 2) 30 4 2 (List.flatMap mmc [(Mm.mk m.pg ev m.xs pv m.ps m.con), (Mm.mk n.pg ev' n.xs pv' n.ps n.con)]), .row v8 50 2 m.xs.length (List.flatMap xtc m.xs), .row u8 51 1 m.ps.length (List.map vU16 m.ps), .blk b9 [(vU32 m.pg), v8, u8, (.bool m.con)] 30, .row v50021 36 3 (notesM m).length (List.flatMap ntc (notesM m)), .row v50061 36 3 (notesM m).length (List.flatMap ntc (notesM m))] := HS.splice [] [] [.row v50061 36 3 (notesM m).length (List.flatMap ntc (notesM m))] rfl rfl hq50061 (Fits.solid True.intro Fits.nil)
          refine ⟨⟨[.row v50021 36 3 (notesM m).length (List.flatMap ntc (notesM m)), .row v50061 36 3 (notesM m).length (List.flatMap ntc (notesM m))], H50061⟩, ?_⟩
          refine WH.take (i := 4) (v := v50021) rfl rfl (.inl rfl) rfl (by kernel_rfl) ⟨[.row v50021 36 3 (notesM m).length (List.flatMap ntc (notesM m)), .row v50061 36 3 (notesM m).length (List.flatMap ntc (notesM m))], H50061⟩ (fun wX hSX => hSX.elim fun LX HX => op_assign rfl ⟨rfl, rfl⟩) ?_
          refine WH.take (i := 5) (v := v50061) rfl rfl (.inl rfl) rfl (by kernel_rfl) ⟨[.row v50021 36 3 (notesM m).length (List.flatMap ntc (notesM m)), .row v50061 36 3 (notesM m).length (List.flatMap ntc (notesM m))], H50061⟩ (fun wX hSX => hSX.elim fun LX HX => op_assign rfl ⟨rfl, rfl⟩) ?_
          have hq := st7_2 v50021 v50061 w50061 H50061
          rw [hW] at hq
          refine WH.cov ?_ hq
          exact by repeat (first | exact trivial | refine ⟨rfl, ?_⟩)
      have st7_0 : ∀ (wS : World), Own [] w wS [.blk b1 [(vU32 m.pg), ev, pv, (.bool m.con)] 30, .blk b2 [(vU32 n.pg), ev', pv', (.bool n.con)] 30, .blk b3 [(vU8 x.kind), (vU32 x.n), (vU32 x.m)] 36, .row (.slice (some ⟨b4, 0, none⟩) 2 2) 30 4 2 (List.flatMap mmc [(Mm.mk m.pg ev m.xs pv m.ps m.con), (Mm.mk n.pg ev' n.xs pv' n.ps n.con)]), .row v8 50 2 m.xs.length (List.flatMap xtc m.xs), .row u8 51 1 m.ps.length (List.map vU16 m.ps), .blk b9 [(vU32 m.pg), v8, u8, (.bool m.con)] 30] → W 4 #[true, false, true, false, false, false] [(0, (.agg #[(vU32 m.pg), ev, pv, (.bool m.con)])), (1, (.agg #[(vU32 n.pg), ev', pv', (.bool n.con)])), (2, (.agg #[(vU8 x.kind), (vU32 x.n), (vU32 x.m)])), (3, (ptr b1 0)), (4, (ptr b2 0)), (5, (ptr b3 0)), (6, (.bool false)), (7, (ptr b9 0)), (8, (vN (mfE m.pg m.xs m.ps))), (12, (.agg #[(vU32 m.pg), ev, pv, (.bool m.con)])), (13, (.agg #[(vU32 n.pg), ev', pv', (.bool n.con)])), (14, (.slice (some ⟨b4, 0, none⟩) 2 2)), (15, (.bool (large11 ([(Mm.mk m.pg ev m.xs pv m.ps m.con), (Mm.mk n.pg ev' n.xs pv' n.ps n.con)])))), (17, (.agg #[(vU32 m.pg), ev, pv, (.bool m.con)])), (18, (.agg #[(vU32 m.pg), v8, u8, (.bool m.con)])), (19, (.agg #[(vU32 m.pg), v8, u8, (.bool m.con)])), (20, (vN (mfE m.pg m.xs m.ps))), (21, (vN (mfE m.pg m.xs m.ps))), (22, (.bool (decide ((mfE m.pg m.xs m.ps) = 0)))), (23, (.agg #[(vU32 m.pg), ev, pv, (.bool m.con)])), (24, (.bool (Mf.may m))), (25, (.bool (!((decide ((mfE m.pg m.xs m.ps) = 0)) == (Mf.may m))))), (26, (.bool (!((decide ((mfE m.pg m.xs m.ps) = 0)) == (Mf.may m))))), (27, (vN (mfE m.pg m.xs m.ps))), (28, (.bool (decide ((mfE m.pg m.xs m.ps) ≠ 0)))), (29, (.bool (decide ((mfE m.pg m.xs m.ps) ≠ 0)))), (30, undef), (31, undef), (32, (.bool false)), (33, (.bool false)), (34, (.bool false)), (35, (.agg #[(vU32 m.pg), v8, u8, (.bool m.con)])), (36, (.agg #[(vU8 x.kind), (vU32 x.n), (vU32 x.m)])), (37, (.bool (rNote m x))), (38, (.agg #[(vU32 m.pg), ev, pv, (.bool m.con)])), (39, (.agg #[(vU8 x.kind), (vU32 x.n), (vU32 x.m)])), (40, (.bool (rNote m x))), (41, (.bool (!((rNote m x) == (rNote m x))))), (42, (.bool (!((rNote m x) == (rNote m x))))), (43, (.bool (!((rNote m x) == (rNote m x))))), (44, (.agg #[(vU32 m.pg), v8, u8, (.bool m.con)])), (45, (.agg #[(vU32 n.pg), ev', pv', (.bool n.con)])), (46, (.bool (covM m n))), (47, (.agg #[(vU32 m.pg), ev, pv, (.bool m.con)])), (48, (.agg #[(vU32 n.pg), ev', pv', (.bool n.con)])), (49, (.bool (covM m n))), (50, (.bool (!((covM m n) == (covM m n))))), (51, (.bool (!((covM m n) == (covM m n))))), (52, (.bool (!((covM m n) == (covM m n))))), (53, (.agg #[(vU32 m.pg), v8, u8, (.bool m.con)])), (54, (.agg #[(vU32 n.pg), ev', pv', (.bool n.con)])), (55, (.bool (decide (m = n)))), (56, (.agg #[(vU32 m.pg), ev, pv, (.bool m.con)])), (57, (.agg #[(vU32 n.pg), ev', pv', (.bool n.con)])), (58, (.bool (decide (m = n)))), (59, (.bool (!((decide (m = n)) == (decide (m = n)))))), (60, (.bool (!((decide (m = n)) == (decide (m = n)))))), (61, (.bool (!((decide (m = n)) == (decide (m = n)))))), (62, (.agg #[(vU32 m.pg), v8, u8, (.bool m.con)])), (63, (.agg #[(vU32 m.pg), ev, pv, (.bool m.con)])), (64, (.bool (decide (m = m)))), (65, (.bool (!(decide (m = m))))), (66, (.bool (!(decide (m = m))))), (67, (.agg #[(vU32 m.pg), v8, u8, (.bool m.con)])), (69, (.agg #[(vU32 m.pg), ev, pv, (.bool m.con)]))] wS := by
        intro wS HS
        rw [hW]
        refine WH.all1 (i := 1) (by kernel_rfl) ?_
        ·
          refine WHS.op (i := 1) rfl (.inl rfl) rfl (op_callF Fa.C22 rfl ((dnotes_ok m _ _ _ (HS.arrR (i := 4) rfl) (HS.arrR (i := 5) rfl) (by omega) (by omega)).mono (fun e w50021 hq => ?_)))
          obtain ⟨v50021, rfl, hq50021⟩ := hq
          refine ⟨_, rfl, ?_⟩
          have H50021 : Own [] w w50021 [.blk b1 [(vU32 m.pg), ev, pv, (.bool m.con)] 30, .blk b2 [(vU32 n.pg), ev', pv', (.bool n.con)] 30, .blk b3 [(vU8 x.kind), (vU32 x.n), (vU32 x.m)] 36, .row (.slice (some ⟨b4, 0, none⟩) 2 2) 30 4 2 (List.flatMap mmc [(Mm.mk m.pg ev m.xs pv m.ps m.con), (Mm.mk n.pg ev' n.xs pv' n.ps n.con)]), .row v8 50 2 m.xs.length (List.flatMap xtc m.xs), .row u8 51 1 m.ps.length (List.map vU16 m.ps), .blk b9 [(vU32 m.pg), v8, u8, (.bool m.con)] 30, .row v50021 36 3 (notesM m).length (List.flatMap ntc (notesM m))] := HS.splice [] [] [.row v50021 36 3 (notesM m).length (List.flatMap ntc (notesM m))] rfl rfl hq50021 (Fits.solid True.intro Fits.nil)
          refine ⟨⟨[.row v50021 36 3 (notesM m).length (List.flatMap ntc (notesM m))], H50021⟩, ?_⟩
          have hq := st7_1 v50021 w50021 H50021
          rw [hW] at hq
          refine WH.cov ?_ hq
          exact by repeat (first | exact trivial | refine ⟨rfl, ?_⟩)
      have hq := st7_0 w39 H39
      rw [hW] at hq ⊢
      refine WH.cov ?_ hq
      exact by repeat (first | exact trivial | refine ⟨rfl, ?_⟩)
end Go.Proofs.Ytnngbnenekjffaa
