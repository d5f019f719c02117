/- General lemmas and walks: EDem6, EDem7, EDem8, EDem9, EDem11. No condition but what each theorem names. -/
import Derived.Test.YtnngbnenekjffaaQ3905aec0
import Derived.Test.YtnngbnenekjffaaQad99fedb
import Derived.Test.YtnngbnenekjffaaQ85f0726e
/-! from EDem6 -/
namespace Go.Proofs.Ytnngbnenekjffaa
open Go.Owl Go.Spec
set_option maxHeartbeats 1000000 in
set_option maxRecDepth 100000 in
theorem dnotes_ok (m : Mf) (ev pv : Value) (w : World) (hE : Arr w ev 2 m.xs.length (List.flatMap xtc m.xs)) (hP : Arr w pv 1 m.ps.length (List.map vU16 m.ps)) (hn : m.xs.length < 2 ^ 42) (hm : m.ps.length < 2 ^ 42) :
    Calls Try.prog 22 #[(.agg #[(vU32 m.pg), ev, pv, (.bool m.con)])] w (fun e w' => ∃ v, e = .returned v ∧ Own [] w w' [.row v 36 3 (notesM m).length (List.flatMap ntc (notesM m))]) := by
  refine enter (args := [(.agg #[(vU32 m.pg), ev, pv, (.bool m.con)])]) Try.func22 rfl rfl ?_
  have H0 : Own [] w w [] := Own.start w []
  refine WC.seq ?_
  refine WC.region ?_
  refine WL.op rfl rfl (op_box H0 rfl rfl (fun b1 w1 H1 => ?_))
  refine WL.op rfl rfl (op_assign rfl ?_)
  have H2 := H1.nilRow 36 3
  refine WL.nil ?_
  refine WQ.next ?_
  refine WC.seq ?_
  refine WC.seq ?_
  refine WC.region ?_
  refine WL.op rfl rfl (op_loadS (vs := [_, _, _, _]) rfl (H2.cells (i := 0) rfl rfl) Try.underlying30 rfl Fa.I30 rfl ?_)
  refine WL.op rfl rfl (op_callF Fa.C15 rfl ((dcheck_ok m.pg _ _ m.xs m.ps m.con _ (H2.arr hE) (H2.arr hP) (by omega) (by omega)).mono (fun e w3 hq => ?_)))
  obtain ⟨rfl, hf3⟩ := hq
  refine ⟨_, rfl, ?_⟩
  have H3 := H2.fr' hf3
  refine WL.op rfl rfl (op_neqN (b := 0) rfl rfl ?_)
  refine WL.nil ?_
  refine WQ.next ?_
  refine WC.cond rfl (fun (hb4 : (decide ((mfE m.pg m.xs m.ps) ≠ 0)) = true) => ?_) (fun (hb4 : (decide ((mfE m.pg m.xs m.ps) ≠ 0)) = false) => ?_)
  ·
    have hc4 := of_decide_eq_true hb4
    refine WC.seq ?_
    refine WC.region ?_
    refine WL.op rfl rfl (op_assign rfl ?_)
    refine WL.nil ?_
    refine WQ.next ?_
    refine WC.ret ?_
    refine WQ.thenRet ?_
    refine WQ.out (.tmp rfl .nil) ?_
    rw [notes_not (mfE_not hb4).1]
    exact ⟨_, rfl, (H3.nilRow 36 3).sel [2] rfl rfl⟩
  ·
    have hc4 := of_decide_eq_false hb4
    refine WC.skip ?_
    refine WQ.next ?_
    refine WC.cut (α := Value) (fun v => [(0, (.agg #[(vU32 m.pg), ev, pv, (.bool m.con)])), (1, (ptr b1 0)), (2, v)]) (fun v w' => Own [] w w' [.blk b1 [(vU32 m.pg), ev, pv, (.bool m.con)] 30, .row v 36 3 (nA m).length (List.flatMap ntc (nA m))]) ?_ ?_
    ·
      refine WC.seq ?_
      refine WC.region ?_
      refine WL.op rfl rfl (op_fieldAddr rfl Fa.F30_0 ?_)
      refine WL.op rfl rfl (op_load rfl (H3.cell (i := 0) rfl rfl) Try.underlying26 rfl ?_)
      refine WL.op rfl rfl (op_gtrU32 (b := 0) rfl rfl ?_)
      refine WL.nil ?_
      refine WQ.next ?_
      refine WC.cond rfl (fun (hb5 : (decide (m.pg > (0 : UInt32))) = true) => ?_) (fun (hb5 : (decide (m.pg > (0 : UInt32))) = false) => ?_)
      ·
        have hc5 := of_decide_eq_true hb5
        refine WC.region ?_
        refine WL.op rfl rfl (op_move rfl ?_)
        refine WL.op rfl rfl (op_fieldAddr rfl Fa.F30_0 ?_)
        refine WL.op rfl rfl (op_load rfl (H3.cell (i := 0) rfl rfl) Try.underlying26 rfl ?_)
        refine WL.op rfl rfl (op_build (cs := [_, _, _]) Fa.I36 Fa.PL36 rfl rfl ?_)
        refine WL.op rfl rfl (op_buildSlice (cs := [_, _, _]) H3 Try.underlying22 Fa.I36 rfl rfl rfl rfl (by decide) (by decide) (fun b6 w6 H6 => ?_))
        refine WL.op rfl rfl (op_appendF (f := ntc) (l := []) (l' := [(Nt.mk 1 m.pg 0)]) (i := 1) H6 Try.underlying22 Fa.I36 rfl rfl rfl rfl (Src.ofArr Try.underlying22 (H6.arrR (i := 2) rfl)) (one_flat (fun _ => by simp [ntc, Value.oneCell'])) (by omega) (by omega) (fun v7 w7 H7 => ?_))
        refine WL.op rfl rfl (op_assign rfl ?_)
        refine WL.nil ?_
        exact WQ.here v7 (Own.rowEqF (i := 1) (f := ntc) (show Own [] w w7 [.blk b1 [(vU32 m.pg), ev, pv, (.bool m.con)] 30, .row v7 36 3 (0 + 1) (List.flatMap ntc ([] ++ [(Nt.mk 1 m.pg 0)]))] from (H7.take 2)) rfl (by rw [nA_yes hb5]; try rfl) (by rw [nA_yes hb5]; try rfl)) ⟨rfl, rfl, rfl, trivial⟩
      ·
        have hc5 := of_decide_eq_false hb5
        refine WC.skip ?_
        exact WQ.here (.slice none 0 0) (Own.rowEqF (i := 1) (f := ntc) (show Own [] w w3 [.blk b1 [(vU32 m.pg), ev, pv, (.bool m.con)] 30, .row (.slice none 0 0) 36 3 0 (List.flatMap ntc [])] from H3) rfl (by rw [nA_no hb5]; try rfl) (by rw [nA_no hb5]; try rfl)) ⟨rfl, rfl, rfl, trivial⟩
    ·
      rintro v w8 H8
      show WC _ _ _ _ _ [(0, (.agg #[(vU32 m.pg), ev, pv, (.bool m.con)])), (1, (ptr b1 0)), (2, v)] _
      refine WC.seq ?_
      refine WC.seq ?_
      refine WC.region ?_
      refine WL.op rfl rfl (op_fieldAddr rfl Fa.F30_1 ?_)
      refine WL.op rfl rfl (op_load rfl (H8.cell (i := 0) rfl rfl) Try.underlying27 rfl ?_)
      refine WL.op rfl rfl (op_lenA Try.underlying27 rfl (H8.arr hE) ?_)
      refine WL.op rfl rfl (op_move rfl ?_)
      refine WL.nil ?_
      refine WQ.next ?_
      refine WC.block ?_
      refine WC.loop (α := Nat × Value) (fun (k, v) => [(0, (.agg #[(vU32 m.pg), ev, pv, (.bool m.con)])), (1, (ptr b1 0)), (2, v), (20, ev), (21, (vN m.xs.length)), (22, (vN k))]) (fun (k, v) w' => (k ≤ m.xs.length) ∧ Own [] w w' [.blk b1 [(vU32 m.pg), ev, pv, (.bool m.con)] 30, .row v 36 3 (nX m k).length (List.flatMap ntc (nX m k))]) (fun (k, v) => m.xs.length - k) (0, v) ⟨Nat.zero_le _, H8⟩ ⟨rfl, rfl, rfl, rfl, rfl, rfl, trivial⟩ ?_
      rintro ⟨k, v⟩ w9 ⟨hk1, H9⟩
      show WC _ _ _ _ _ [(0, (.agg #[(vU32 m.pg), ev, pv, (.bool m.con)])), (1, (ptr b1 0)), (2, v), (20, ev), (21, (vN m.xs.length)), (22, (vN k))] _
      have hnl := nX_len (m := m) k
      refine WC.seq ?_
      refine WC.region ?_
      refine WL.op rfl rfl (op_lssN rfl rfl ?_)
      refine WL.nil ?_
      refine WQ.next ?_
      refine WC.seq ?_
      refine WC.cond rfl (fun (hb10 : (decide (k < m.xs.length)) = true) => ?_) (fun (hb10 : (decide (k < m.xs.length)) = false) => ?_)
      ·
        have hc10 := of_decide_eq_true hb10
        refine WC.skip ?_
        refine WQ.next ?_
        refine WC.seq ?_
        refine WC.block ?_
        refine WC.seq ?_
        refine WC.region ?_
        refine WL.op rfl rfl (op_indexAddr Try.underlying27 Fa.I50 rfl (H9.arr hE) rfl (by omega) ?_)
        refine WL.op rfl rfl (op_loadSP (vs := xtc (m.xs.getD k Xt.zero)) rfl (Arr.atsF (H9.arr hE) (fun _ => rfl) (by decide) Xt.zero (by omega)) Try.underlying50 rfl Fa.I50 rfl ?_)
        refine WL.op rfl rfl (op_alloc H9 Fa.I50 (fun b11 w11 H11 => ?_))
        refine WL.op rfl rfl (op_storeBW (i := 2) H11 rfl rfl rfl rfl rfl Fa.I50 (fun w12 H12 => ?_))
        refine WL.nil ?_
        refine WQ.next ?_
        refine WC.region ?_
        refine WL.op rfl rfl (op_move rfl ?_)
        refine WL.op rfl rfl (op_fieldAddr rfl Fa.F50_0 ?_)
        refine WL.op rfl rfl (op_load rfl (H12.cell (i := 2) rfl rfl) Try.underlying26 rfl ?_)
        refine WL.op rfl rfl (op_fieldAddr rfl Fa.F50_1 ?_)
        refine WL.op rfl rfl (op_load rfl (H12.cell (i := 2) rfl rfl) Try.underlying26 rfl ?_)
        refine WL.op rfl rfl (op_build (cs := [_, _, _]) Fa.I36 Fa.PL36 rfl rfl ?_)
        refine WL.op rfl rfl (op_buildSlice (cs := [_, _, _]) H12 Try.underlying22 Fa.I36 rfl rfl rfl rfl (by decide) (by decide) (fun b13 w13 H13 => ?_))
        refine WL.op rfl rfl (op_appendF (f := ntc) (l := (nX m k)) (l' := [(Nt.mk 2 ((m.xs.getD k Xt.zero).id) ((m.xs.getD k Xt.zero).bl))]) (i := 1) H13 Try.underlying22 Fa.I36 rfl rfl rfl rfl (Src.ofArr Try.underlying22 (H13.arrR (i := 3) rfl)) (one_flat (fun _ => by simp [ntc, Value.oneCell'])) (by omega) (by omega) (fun v14 w14 H14 => ?_))
        refine WL.op rfl rfl (op_assign rfl ?_)
        refine WL.nil ?_
        refine WQ.inNormal ?_
        refine WQ.next ?_
        refine WC.region ?_
        refine WL.op rfl rfl (op_addN (b := 1) rfl rfl (by omega) ?_)
        refine WL.op rfl rfl (op_move rfl ?_)
        refine WL.nil ?_
        exact WQ.round (k + 1, v14) ⟨(by omega), (Own.rowEqF (i := 1) (f := ntc) (show Own [] w w14 [.blk b1 [(vU32 m.pg), ev, pv, (.bool m.con)] 30, .row v14 36 3 ((nX m k).length + 1) (List.flatMap ntc ((nX m k) ++ [(Nt.mk 2 ((m.xs.getD k Xt.zero).id) ((m.xs.getD k Xt.zero).bl))]))] from (H14.take 2)) rfl rfl (by rw [nX, List.length_append]; rfl))⟩ ⟨rfl, rfl, rfl, rfl, rfl, rfl, trivial⟩ (by show m.xs.length - (k + 1) < m.xs.length - k; omega)
      ·
        have hc10 := of_decide_eq_false hb10
        refine WC.exit ?_
        refine WQ.thenExit ?_
        refine WQ.thenExit ?_
        refine WQ.inHere ?_
        refine WQ.next ?_
        refine WC.seq ?_
        refine WC.seq ?_
        refine WC.region ?_
        refine WL.op rfl rfl (op_fieldAddr rfl Fa.F30_2 ?_)
        refine WL.op rfl rfl (op_load rfl (H9.cell (i := 0) rfl rfl) Try.underlying28 rfl ?_)
        refine WL.op rfl rfl (op_lenA Try.underlying28 rfl (H9.arr hP) ?_)
        refine WL.op rfl rfl (op_move rfl ?_)
        refine WL.nil ?_
        refine WQ.next ?_
        refine WC.block ?_
        refine WC.loop (α := Nat × Value) (fun (k, v) => [(0, (.agg #[(vU32 m.pg), ev, pv, (.bool m.con)])), (1, (ptr b1 0)), (2, v), (36, pv), (37, (vN m.ps.length)), (38, (vN k))]) (fun (k, v) w' => (k ≤ m.ps.length) ∧ Own [] w w' [.blk b1 [(vU32 m.pg), ev, pv, (.bool m.con)] 30, .row v 36 3 (nP m k).length (List.flatMap ntc (nP m k))]) (fun (k, v) => m.ps.length - k) (0, v) ⟨Nat.zero_le _, (by have hke : k = m.xs.length := (by omega); have h := (show Own [] w w9 [.blk b1 [(vU32 m.pg), ev, pv, (.bool m.con)] 30, .row v 36 3 (nX m k).length (List.flatMap ntc (nX m k))] from H9); rw [hke] at h; exact h)⟩ ⟨rfl, rfl, rfl, rfl, rfl, rfl, trivial⟩ ?_
        rintro ⟨k, v⟩ w15 ⟨hk2, H15⟩
        show WC _ _ _ _ _ [(0, (.agg #[(vU32 m.pg), ev, pv, (.bool m.con)])), (1, (ptr b1 0)), (2, v), (36, pv), (37, (vN m.ps.length)), (38, (vN k))] _
        have hnl2 := nP_len (m := m) k
        refine WC.seq ?_
        refine WC.region ?_
        refine WL.op rfl rfl (op_lssN rfl rfl ?_)
        refine WL.nil ?_
        refine WQ.next ?_
        refine WC.seq ?_
        refine WC.cond rfl (fun (hb16 : (decide (k < m.ps.length)) = true) => ?_) (fun (hb16 : (decide (k < m.ps.length)) = false) => ?_)
        ·
          have hc16 := of_decide_eq_true hb16
          refine WC.skip ?_
          refine WQ.next ?_
          refine WC.seq ?_
          refine WC.block ?_
          refine WC.seq ?_
          refine WC.region ?_
          refine WL.op rfl rfl (op_indexAddr1 Try.underlying28 Fa.I51 rfl (H15.arr hP) rfl (by omega) ?_)
          refine WL.op rfl rfl (op_load rfl ((H15.arr hP).at (get_map vU16 0 (Arr.ltM (H15.arr hP) (by omega)))) Try.underlying51 rfl ?_)
          refine WL.op rfl rfl (op_assign rfl ?_)
          refine WL.nil ?_
          refine WQ.next ?_
          refine WC.region ?_
          refine WL.op rfl rfl (op_move rfl ?_)
          refine WL.op rfl rfl (op_move rfl ?_)
          refine WL.op rfl rfl (op_convU16U32 (hs := Try.underlying51) (hd := Try.underlying26) rfl ?_)
          refine WL.op rfl rfl (op_build (cs := [_, _, _]) Fa.I36 Fa.PL36 rfl rfl ?_)
          refine WL.op rfl rfl (op_buildSlice (cs := [_, _, _]) H15 Try.underlying22 Fa.I36 rfl rfl rfl rfl (by decide) (by decide) (fun b17 w17 H17 => ?_))
          refine WL.op rfl rfl (op_appendF (f := ntc) (l := (nP m k)) (l' := [(Nt.mk 3 (UInt32.ofNat (m.ps.getD k 0).toNat) 0)]) (i := 1) H17 Try.underlying22 Fa.I36 rfl rfl rfl rfl (Src.ofArr Try.underlying22 (H17.arrR (i := 2) rfl)) (one_flat (fun _ => by simp [ntc, Value.oneCell'])) (by omega) (by omega) (fun v18 w18 H18 => ?_))
          refine WL.op rfl rfl (op_assign rfl ?_)
          refine WL.nil ?_
          refine WQ.inNormal ?_
          refine WQ.next ?_
          refine WC.region ?_
          refine WL.op rfl rfl (op_addN (b := 1) rfl rfl (by omega) ?_)
          refine WL.op rfl rfl (op_move rfl ?_)
          refine WL.nil ?_
          exact WQ.round (k + 1, v18) ⟨(by omega), (Own.rowEqF (i := 1) (f := ntc) (show Own [] w w18 [.blk b1 [(vU32 m.pg), ev, pv, (.bool m.con)] 30, .row v18 36 3 ((nP m k).length + 1) (List.flatMap ntc ((nP m k) ++ [(Nt.mk 3 (UInt32.ofNat (m.ps.getD k 0).toNat) 0)]))] from (H18.take 2)) rfl rfl (by rw [nP, List.length_append]; rfl))⟩ ⟨rfl, rfl, rfl, rfl, rfl, rfl, trivial⟩ (by show m.ps.length - (k + 1) < m.ps.length - k; omega)
        ·
          have hc16 := of_decide_eq_false hb16
          refine WC.exit ?_
          refine WQ.thenExit ?_
          refine WQ.thenExit ?_
          refine WQ.inHere ?_
          refine WQ.next ?_
          refine WC.seq ?_
          refine WC.seq ?_
          refine WC.region ?_
          refine WL.op rfl rfl (op_fieldAddr rfl Fa.F30_3 ?_)
          refine WL.op rfl rfl (op_load rfl (H15.cell (i := 0) rfl rfl) Try.underlying4 rfl ?_)
          refine WL.nil ?_
          refine WQ.next ?_
          refine WC.cond rfl (fun (hb19 : m.con = true) => ?_) (fun (hb19 : m.con = false) => ?_)
          ·
            refine WC.region ?_
            refine WL.op rfl rfl (op_move rfl ?_)
            refine WL.op rfl rfl (op_build (cs := [_, _, _]) Fa.I36 Fa.PL36 rfl rfl ?_)
            refine WL.op rfl rfl (op_buildSlice (cs := [_, _, _]) H15 Try.underlying22 Fa.I36 rfl rfl rfl rfl (by decide) (by decide) (fun b20 w20 H20 => ?_))
            refine WL.op rfl rfl (op_appendF (f := ntc) (l := (nP m k)) (l' := [(Nt.mk 4 0 0)]) (i := 1) H20 Try.underlying22 Fa.I36 rfl rfl rfl rfl (Src.ofArr Try.underlying22 (H20.arrR (i := 2) rfl)) (one_flat (fun _ => by simp [ntc, Value.oneCell'])) (by omega) (by omega) (fun v21 w21 H21 => ?_))
            refine WL.op rfl rfl (op_assign rfl ?_)
            refine WL.nil ?_
            refine WQ.next ?_
            refine WC.seq ?_
            refine WC.region ?_
            refine WL.op rfl rfl (op_move rfl ?_)
            refine WL.op rfl rfl (op_assign rfl ?_)
            refine WL.nil ?_
            refine WQ.next ?_
            refine WC.ret ?_
            refine WQ.out (.tmp rfl .nil) ?_
            have h := (show Own [] w w21 [.blk b1 [(vU32 m.pg), ev, pv, (.bool m.con)] 30, .row v21 36 3 ((nP m k).length + 1) (List.flatMap ntc ((nP m k) ++ [(Nt.mk 4 0 0)])), .row (.slice (some ⟨b20, 0, none⟩) 1 1) 36 3 1 (List.flatMap ntc [(Nt.mk 4 0 0)])] from H21)
            have hke : k = m.ps.length := by omega
            subst hke
            rw [(notes_yes (mfE_may hb4) hb19)]
            exact ⟨_, rfl, (Own.rowEqF (i := 1) (f := ntc) (m' := (nP m m.ps.length ++ [Nt.mk 4 0 0]).length) h rfl rfl (by simp)).sel [1] rfl rfl⟩
          ·
            refine WC.skip ?_
            refine WQ.next ?_
            refine WC.seq ?_
            refine WC.region ?_
            refine WL.op rfl rfl (op_move rfl ?_)
            refine WL.op rfl rfl (op_assign rfl ?_)
            refine WL.nil ?_
            refine WQ.next ?_
            refine WC.ret ?_
            refine WQ.out (.tmp rfl .nil) ?_
            have h := (show Own [] w w15 [.blk b1 [(vU32 m.pg), ev, pv, (.bool m.con)] 30, .row v 36 3 (nP m k).length (List.flatMap ntc (nP m k))] from H15)
            have hke : k = m.ps.length := by omega
            subst hke
            rw [(notes_no (mfE_may hb4) hb19)]
            exact ⟨_, rfl, (Own.rowEqF (i := 1) (f := ntc) (m' := (nP m m.ps.length).length) h rfl rfl (by simp)).sel [1] rfl rfl⟩
set_option maxRecDepth 100000 in
theorem rmay11_ok (pg : UInt32) (ev pv : Value) (xs : List Xt) (ps : List UInt16) (con : Bool) (w : World) (hE : Arr w ev 2 xs.length (List.flatMap xtc xs)) (hP : Arr w pv 1 ps.length (List.map vU16 ps)) (hn : xs.length < 2 ^ 47) (hm : ps.length < 2 ^ 47) :
    Calls Try.prog 17 #[(.agg #[(vU32 pg), ev, pv, (.bool con)])] w (fun e w' => e = .returned (.bool (mfMay pg xs ps)) ∧ Fr [] w w') := by
  refine enter (args := [(.agg #[(vU32 pg), ev, pv, (.bool con)])]) Try.func17 rfl rfl ?_
  have H0 : Own [] w w [] := Own.start w []
  refine WC.seq ?_
  refine WC.region ?_
  refine WL.op rfl rfl (op_box H0 rfl rfl (fun b1 w1 H1 => ?_))
  refine WL.op rfl rfl (op_assign rfl ?_)
  refine WL.nil ?_
  refine WQ.next ?_
  refine WC.seq ?_
  refine WC.seq ?_
  refine WC.region ?_
  refine WL.op rfl rfl (op_assign rfl ?_)
  refine WL.nil ?_
  refine WQ.next ?_
  refine WC.block ?_
  refine WC.loop (α := Nat) (fun k => [(1, (ptr b1 0)), (3, (vN k))]) (fun k w' => (k ≤ xs.length ∧ (∀ j, j < k → xtBad (xs.getD j Xt.zero) = false ∧ (0 < j → ¬ (xs.getD (j - 1) Xt.zero).id ≥ (xs.getD j Xt.zero).id))) ∧ Own [] w w' [.blk b1 [(vU32 pg), ev, pv, (.bool con)] 30]) (fun k => xs.length - k) 0 ⟨⟨Nat.zero_le _, fun j h => by omega⟩, H1⟩ ⟨rfl, rfl, trivial⟩ ?_
  rintro k w2 ⟨⟨hk1, hok⟩, H2⟩
  show WC _ _ _ _ _ [(1, (ptr b1 0)), (3, (vN k))] _
  refine WC.seq ?_
  refine WC.seq ?_
  refine WC.region ?_
  refine WL.op rfl rfl (op_move rfl ?_)
  refine WL.op rfl rfl (op_fieldAddr rfl Fa.F30_1 ?_)
  refine WL.op rfl rfl (op_load rfl (H2.cell (i := 0) rfl rfl) Try.underlying27 rfl ?_)
  refine WL.op rfl rfl (op_lenA Try.underlying27 rfl (H2.arr hE) ?_)
  refine WL.op rfl rfl (op_lssN rfl rfl ?_)
  refine WL.nil ?_
  refine WQ.next ?_
  refine WC.cond rfl (fun (hb3 : (decide (k < xs.length)) = true) => ?_) (fun (hb3 : (decide (k < xs.length)) = false) => ?_)
  ·
    have hc3 := of_decide_eq_true hb3
    refine WC.skip ?_
    refine WQ.next ?_
    refine WC.seq ?_
    refine WC.block ?_
    refine WC.seq ?_
    refine WC.region ?_
    refine WL.op rfl rfl (op_fieldAddr rfl Fa.F30_1 ?_)
    refine WL.op rfl rfl (op_load rfl (H2.cell (i := 0) rfl rfl) Try.underlying27 rfl ?_)
    refine WL.op rfl rfl (op_move rfl ?_)
    refine WL.op rfl rfl (op_indexAddr Try.underlying27 Fa.I50 rfl (H2.arr hE) rfl (by omega) ?_)
    refine WL.op rfl rfl (op_loadSP (vs := xtc (xs.getD k Xt.zero)) rfl (Arr.atsF (H2.arr hE) (fun _ => rfl) (by decide) Xt.zero (by omega)) Try.underlying50 rfl Fa.I50 rfl ?_)
    refine WL.op rfl rfl (op_alloc H2 Fa.I50 (fun b4 w4 H4 => ?_))
    refine WL.op rfl rfl (op_storeBW (i := 1) H4 rfl rfl rfl rfl rfl Fa.I50 (fun w5 H5 => ?_))
    refine WL.nil ?_
    refine WQ.next ?_
    refine WC.seq ?_
    refine bsplit (fun (hb6 : (decide ((xs.getD k Xt.zero).id ≥ (16 : UInt32))) = true) => ?_) (fun (hb6 : (decide ((xs.getD k Xt.zero).id ≥ (16 : UInt32))) = false) => ?_)
    ·
      have hc6 := of_decide_eq_true hb6
      refine WC.draw 29 Fa.M H5 (HW.op rfl (fun w1 H1 => op_fieldAddr rfl Fa.F50_0 ⟨rfl, Fr.refl _ _⟩) (HW.op rfl (fun w1 H1 => op_load rfl (H1.cell (i := 1) rfl rfl) Try.underlying26 rfl ⟨rfl, Fr.refl _ _⟩) (HW.op rfl (fun w1 H1 => op_geqU32 (b := 16) rfl rfl ⟨rfl, Fr.refl _ _⟩) (HW.op rfl (fun w1 H1 => op_move rfl ⟨rfl, Fr.refl _ _⟩) (HW.no rfl rfl rfl hb6 (HW.no rfl rfl rfl hb6 (HW.no rfl rfl rfl hb6 (HW.op rfl (fun w1 H1 => op_pickT rfl hb6 rfl ⟨rfl, Fr.refl _ _⟩) (HW.op rfl (fun w1 H1 => op_move rfl ⟨rfl, Fr.refl _ _⟩) (HW.no rfl rfl rfl rfl (HW.no rfl rfl rfl rfl (HW.no rfl rfl rfl rfl (HW.op rfl (fun w1 H1 => op_pickT rfl rfl rfl ⟨rfl, Fr.refl _ _⟩) (HW.op rfl (fun w1 H1 => op_move rfl ⟨rfl, Fr.refl _ _⟩) (HW.no rfl rfl rfl rfl (HW.no rfl rfl rfl rfl (HW.no rfl rfl rfl rfl (HW.non rfl rfl rfl (HW.non rfl rfl rfl (HW.non rfl rfl rfl (HW.non rfl rfl rfl (HW.non rfl rfl rfl (HW.non rfl rfl rfl (HW.non rfl rfl rfl (HW.non rfl rfl rfl (HW.non rfl rfl rfl (HW.non rfl rfl rfl (HW.no rfl rfl rfl rfl (HW.op rfl (fun w1 H1 => op_pickT rfl rfl rfl ⟨rfl, Fr.refl _ _⟩)  HW.nil))))))))))))))))))))))))))))) (by kernel_rfl) ?_
      intro β7 w7 H7
      refine WL.nil ?_
      refine WQ.next ?_
      refine WC.yes rfl rfl ?_
      refine WC.seq ?_
      refine WC.region ?_
      refine WL.op rfl rfl (op_assign rfl ?_)
      refine WL.nil ?_
      refine WQ.next ?_
      refine WC.ret ?_
      refine WQ.inRet ?_
      refine WQ.thenRet ?_
      refine WQ.thenRet ?_
      refine WQ.inRet ?_
      refine WQ.thenRet ?_
      refine WQ.out (.tmp rfl .nil) ?_
      exact ⟨by rw [mfMay_x (k := k) (by omega) (by (rw [xtBad, hb6]) <;> rfl)]; rfl, H7.fr⟩
    ·
      have hc6 := of_decide_eq_false hb6
      refine bsplit (fun (hb8 : (decide ((xs.getD k Xt.zero).bl < (1 : UInt32))) = true) => ?_) (fun (hb8 : (decide ((xs.getD k Xt.zero).bl < (1 : UInt32))) = false) => ?_)
      ·
        have hc8 := of_decide_eq_true hb8
        refine WC.draw 29 Fa.M H5 (HW.op rfl (fun w1 H1 => op_fieldAddr rfl Fa.F50_0 ⟨rfl, Fr.refl _ _⟩) (HW.op rfl (fun w1 H1 => op_load rfl (H1.cell (i := 1) rfl rfl) Try.underlying26 rfl ⟨rfl, Fr.refl _ _⟩) (HW.op rfl (fun w1 H1 => op_geqU32 (b := 16) rfl rfl ⟨rfl, Fr.refl _ _⟩) (HW.op rfl (fun w1 H1 => op_move rfl ⟨rfl, Fr.refl _ _⟩) (HW.yes rfl rfl rfl hb6 (fun w1 H1 => op_fieldAddr rfl Fa.F50_1 ⟨rfl, Fr.refl _ _⟩) (HW.yes rfl rfl rfl hb6 (fun w1 H1 => op_load rfl (H1.cell (i := 1) rfl rfl) Try.underlying26 rfl ⟨rfl, Fr.refl _ _⟩) (HW.yes rfl rfl rfl hb6 (fun w1 H1 => op_lssU32 (b := 1) rfl rfl ⟨rfl, Fr.refl _ _⟩) (HW.op rfl (fun w1 H1 => op_pickF rfl hb6 rfl ⟨rfl, Fr.refl _ _⟩) (HW.op rfl (fun w1 H1 => op_move rfl ⟨rfl, Fr.refl _ _⟩) (HW.no rfl rfl rfl hb8 (HW.no rfl rfl rfl hb8 (HW.no rfl rfl rfl hb8 (HW.op rfl (fun w1 H1 => op_pickT rfl hb8 rfl ⟨rfl, Fr.refl _ _⟩) (HW.op rfl (fun w1 H1 => op_move rfl ⟨rfl, Fr.refl _ _⟩) (HW.no rfl rfl rfl rfl (HW.no rfl rfl rfl rfl (HW.no rfl rfl rfl rfl (HW.non rfl rfl rfl (HW.non rfl rfl rfl (HW.non rfl rfl rfl (HW.non rfl rfl rfl (HW.non rfl rfl rfl (HW.non rfl rfl rfl (HW.non rfl rfl rfl (HW.non rfl rfl rfl (HW.non rfl rfl rfl (HW.non rfl rfl rfl (HW.no rfl rfl rfl rfl (HW.op rfl (fun w1 H1 => op_pickT rfl rfl rfl ⟨rfl, Fr.refl _ _⟩)  HW.nil))))))))))))))))))))))))))))) (by kernel_rfl) ?_
        intro β9 w9 H9
        refine WL.nil ?_
        refine WQ.next ?_
        refine WC.yes rfl rfl ?_
        refine WC.seq ?_
        refine WC.region ?_
        refine WL.op rfl rfl (op_assign rfl ?_)
        refine WL.nil ?_
        refine WQ.next ?_
        refine WC.ret ?_
        refine WQ.inRet ?_
        refine WQ.thenRet ?_
        refine WQ.thenRet ?_
        refine WQ.inRet ?_
        refine WQ.thenRet ?_
        refine WQ.out (.tmp rfl .nil) ?_
        exact ⟨by rw [mfMay_x (k := k) (by omega) (by (rw [xtBad, hb6, hb8]) <;> rfl)]; rfl, H9.fr⟩
      ·
        have hc8 := of_decide_eq_false hb8
        refine bsplit (fun (hb10 : (decide ((xs.getD k Xt.zero).bl > (1024 : UInt32))) = true) => ?_) (fun (hb10 : (decide ((xs.getD k Xt.zero).bl > (1024 : UInt32))) = false) => ?_)
        ·
          have hc10 := of_decide_eq_true hb10
          refine WC.draw 29 Fa.M H5 (HW.op rfl (fun w1 H1 => op_fieldAddr rfl Fa.F50_0 ⟨rfl, Fr.refl _ _⟩) (HW.op rfl (fun w1 H1 => op_load rfl (H1.cell (i := 1) rfl rfl) Try.underlying26 rfl ⟨rfl, Fr.refl _ _⟩) (HW.op rfl (fun w1 H1 => op_geqU32 (b := 16) rfl rfl ⟨rfl, Fr.refl _ _⟩) (HW.op rfl (fun w1 H1 => op_move rfl ⟨rfl, Fr.refl _ _⟩) (HW.yes rfl rfl rfl hb6 (fun w1 H1 => op_fieldAddr rfl Fa.F50_1 ⟨rfl, Fr.refl _ _⟩) (HW.yes rfl rfl rfl hb6 (fun w1 H1 => op_load rfl (H1.cell (i := 1) rfl rfl) Try.underlying26 rfl ⟨rfl, Fr.refl _ _⟩) (HW.yes rfl rfl rfl hb6 (fun w1 H1 => op_lssU32 (b := 1) rfl rfl ⟨rfl, Fr.refl _ _⟩) (HW.op rfl (fun w1 H1 => op_pickF rfl hb6 rfl ⟨rfl, Fr.refl _ _⟩) (HW.op rfl (fun w1 H1 => op_move rfl ⟨rfl, Fr.refl _ _⟩) (HW.yes rfl rfl rfl hb8 (fun w1 H1 => op_fieldAddr rfl Fa.F50_1 ⟨rfl, Fr.refl _ _⟩) (HW.yes rfl rfl rfl hb8 (fun w1 H1 => op_load rfl (H1.cell (i := 1) rfl rfl) Try.underlying26 rfl ⟨rfl, Fr.refl _ _⟩) (HW.yes rfl rfl rfl hb8 (fun w1 H1 => op_gtrU32 (b := 1024) rfl rfl ⟨rfl, Fr.refl _ _⟩) (HW.op rfl (fun w1 H1 => op_pickF rfl hb8 rfl ⟨rfl, Fr.refl _ _⟩) (HW.op rfl (fun w1 H1 => op_move rfl ⟨rfl, Fr.refl _ _⟩) (HW.no rfl rfl rfl hb10 (HW.no rfl rfl rfl hb10 (HW.no rfl rfl rfl hb10 (HW.non rfl rfl rfl (HW.non rfl rfl rfl (HW.non rfl rfl rfl (HW.non rfl rfl rfl (HW.non rfl rfl rfl (HW.non rfl rfl rfl (HW.non rfl rfl rfl (HW.non rfl rfl rfl (HW.non rfl rfl rfl (HW.non rfl rfl rfl (HW.no rfl rfl rfl hb10 (HW.op rfl (fun w1 H1 => op_pickT rfl hb10 rfl ⟨rfl, Fr.refl _ _⟩)  HW.nil))))))))))))))))))))))))))))) (by kernel_rfl) ?_
          intro β11 w11 H11
          refine WL.nil ?_
          refine WQ.next ?_
          refine WC.yes rfl rfl ?_
          refine WC.seq ?_
          refine WC.region ?_
          refine WL.op rfl rfl (op_assign rfl ?_)
          refine WL.nil ?_
          refine WQ.next ?_
          refine WC.ret ?_
          refine WQ.inRet ?_
          refine WQ.thenRet ?_
          refine WQ.thenRet ?_
          refine WQ.inRet ?_
          refine WQ.thenRet ?_
          refine WQ.out (.tmp rfl .nil) ?_
          exact ⟨by rw [mfMay_x (k := k) (by omega) (by (rw [xtBad, hb6, hb8, hb10]) <;> rfl)]; rfl, H11.fr⟩
        ·
          have hc10 := of_decide_eq_false hb10
          refine bsplit (fun (hb12 : (decide (k > 0)) = true) => ?_) (fun (hb12 : (decide (k > 0)) = false) => ?_)
          ·
            have hc12 := of_decide_eq_true hb12
            refine WC.draw 29 Fa.M H5 (HW.op rfl (fun w1 H1 => op_fieldAddr rfl Fa.F50_0 ⟨rfl, Fr.refl _ _⟩) (HW.op rfl (fun w1 H1 => op_load rfl (H1.cell (i := 1) rfl rfl) Try.underlying26 rfl ⟨rfl, Fr.refl _ _⟩) (HW.op rfl (fun w1 H1 => op_geqU32 (b := 16) rfl rfl ⟨rfl, Fr.refl _ _⟩) (HW.op rfl (fun w1 H1 => op_move rfl ⟨rfl, Fr.refl _ _⟩) (HW.yes rfl rfl rfl hb6 (fun w1 H1 => op_fieldAddr rfl Fa.F50_1 ⟨rfl, Fr.refl _ _⟩) (HW.yes rfl rfl rfl hb6 (fun w1 H1 => op_load rfl (H1.cell (i := 1) rfl rfl) Try.underlying26 rfl ⟨rfl, Fr.refl _ _⟩) (HW.yes rfl rfl rfl hb6 (fun w1 H1 => op_lssU32 (b := 1) rfl rfl ⟨rfl, Fr.refl _ _⟩) (HW.op rfl (fun w1 H1 => op_pickF rfl hb6 rfl ⟨rfl, Fr.refl _ _⟩) (HW.op rfl (fun w1 H1 => op_move rfl ⟨rfl, Fr.refl _ _⟩) (HW.yes rfl rfl rfl hb8 (fun w1 H1 => op_fieldAddr rfl Fa.F50_1 ⟨rfl, Fr.refl _ _⟩) (HW.yes rfl rfl rfl hb8 (fun w1 H1 => op_load rfl (H1.cell (i := 1) rfl rfl) Try.underlying26 rfl ⟨rfl, Fr.refl _ _⟩) (HW.yes rfl rfl rfl hb8 (fun w1 H1 => op_gtrU32 (b := 1024) rfl rfl ⟨rfl, Fr.refl _ _⟩) (HW.op rfl (fun w1 H1 => op_pickF rfl hb8 rfl ⟨rfl, Fr.refl _ _⟩) (HW.op rfl (fun w1 H1 => op_move rfl ⟨rfl, Fr.refl _ _⟩) (HW.yes rfl rfl rfl hb10 (fun w1 H1 => op_move rfl ⟨rfl, Fr.refl _ _⟩) (HW.yes rfl rfl rfl hb10 (fun w1 H1 => op_gtrN (b := 0) rfl rfl ⟨rfl, Fr.refl _ _⟩) (HW.yes rfl rfl rfl hb10 (fun w1 H1 => op_move rfl ⟨rfl, Fr.refl _ _⟩) (HW.yes rfl rfl rfl hb12 (fun w1 H1 => op_fieldAddr rfl Fa.F30_1 ⟨rfl, Fr.refl _ _⟩) (HW.yes rfl rfl rfl hb12 (fun w1 H1 => op_load rfl (H1.cell (i := 0) rfl rfl) Try.underlying27 rfl ⟨rfl, Fr.refl _ _⟩) (HW.yes rfl rfl rfl hb12 (fun w1 H1 => op_move rfl ⟨rfl, Fr.refl _ _⟩) (HW.yes rfl rfl rfl hb12 (fun w1 H1 => op_subN (b := 1) rfl rfl (by omega) (by omega) ⟨rfl, Fr.refl _ _⟩) (HW.yes rfl rfl rfl hb12 (fun w1 H1 => op_indexAddr Try.underlying27 Fa.I50 rfl (H1.arr hE) rfl (by omega) ⟨rfl, Fr.refl _ _⟩) (HW.yes rfl rfl rfl hb12 (fun w1 H1 => op_fieldAddrS rfl Fa.F50_0 ⟨rfl, Fr.refl _ _⟩) (HW.yes rfl rfl rfl hb12 (fun w1 H1 => op_load rfl (Arr.atF (k := 0) (H1.arr hE) (fun _ => rfl) (by decide) Xt.zero (by omega) rfl) Try.underlying26 rfl ⟨rfl, Fr.refl _ _⟩) (HW.yes rfl rfl rfl hb12 (fun w1 H1 => op_fieldAddr rfl Fa.F50_0 ⟨rfl, Fr.refl _ _⟩) (HW.yes rfl rfl rfl hb12 (fun w1 H1 => op_load rfl (H1.cell (i := 1) rfl rfl) Try.underlying26 rfl ⟨rfl, Fr.refl _ _⟩) (HW.yes rfl rfl rfl hb12 (fun w1 H1 => op_geqU32 rfl rfl ⟨rfl, Fr.refl _ _⟩) (HW.yes rfl rfl rfl hb10 (fun w1 H1 => op_pickT rfl hb12 rfl ⟨rfl, Fr.refl _ _⟩) (HW.op rfl (fun w1 H1 => op_pickF rfl hb10 rfl ⟨rfl, Fr.refl _ _⟩)  HW.nil))))))))))))))))))))))))))))) (by kernel_rfl) ?_
            intro β13 w13 H13
            refine WL.nil ?_
            refine WQ.next ?_
            refine WC.cond rfl (fun (hb14 : (decide ((xs.getD (k - 1) Xt.zero).id ≥ (xs.getD k Xt.zero).id)) = true) => ?_) (fun (hb14 : (decide ((xs.getD (k - 1) Xt.zero).id ≥ (xs.getD k Xt.zero).id)) = false) => ?_)
            ·
              have hc14 := of_decide_eq_true hb14
              refine WC.seq ?_
              refine WC.region ?_
              refine WL.op rfl rfl (op_assign rfl ?_)
              refine WL.nil ?_
              refine WQ.next ?_
              refine WC.ret ?_
              refine WQ.inRet ?_
              refine WQ.thenRet ?_
              refine WQ.thenRet ?_
              refine WQ.inRet ?_
              refine WQ.thenRet ?_
              refine WQ.out (.tmp rfl .nil) ?_
              exact ⟨by rw [mfMay_r (k := k) (by omega) (by omega) hc14]; rfl, H13.fr⟩
            ·
              have hc14 := of_decide_eq_false hb14
              refine WC.skip ?_
              refine WQ.inNormal ?_
              refine WQ.next ?_
              refine WC.region ?_
              refine WL.op rfl rfl (op_move rfl ?_)
              refine WL.op rfl rfl (op_addN (b := 1) rfl rfl (by omega) ?_)
              refine WL.op rfl rfl (op_assign rfl ?_)
              refine WL.nil ?_
              exact WQ.round (k + 1) ⟨⟨by omega, allPrev hok ⟨by (rw [xtBad, hb6, hb8, hb10]) <;> rfl, fun h0 => by first | exact hc14 | (exact absurd h0 hc14)⟩⟩, (H13.take 1)⟩ ⟨rfl, rfl, trivial⟩ (by omega)
          ·
            have hc12 := of_decide_eq_false hb12
            refine WC.draw 29 Fa.M H5 (HW.op rfl (fun w1 H1 => op_fieldAddr rfl Fa.F50_0 ⟨rfl, Fr.refl _ _⟩) (HW.op rfl (fun w1 H1 => op_load rfl (H1.cell (i := 1) rfl rfl) Try.underlying26 rfl ⟨rfl, Fr.refl _ _⟩) (HW.op rfl (fun w1 H1 => op_geqU32 (b := 16) rfl rfl ⟨rfl, Fr.refl _ _⟩) (HW.op rfl (fun w1 H1 => op_move rfl ⟨rfl, Fr.refl _ _⟩) (HW.yes rfl rfl rfl hb6 (fun w1 H1 => op_fieldAddr rfl Fa.F50_1 ⟨rfl, Fr.refl _ _⟩) (HW.yes rfl rfl rfl hb6 (fun w1 H1 => op_load rfl (H1.cell (i := 1) rfl rfl) Try.underlying26 rfl ⟨rfl, Fr.refl _ _⟩) (HW.yes rfl rfl rfl hb6 (fun w1 H1 => op_lssU32 (b := 1) rfl rfl ⟨rfl, Fr.refl _ _⟩) (HW.op rfl (fun w1 H1 => op_pickF rfl hb6 rfl ⟨rfl, Fr.refl _ _⟩) (HW.op rfl (fun w1 H1 => op_move rfl ⟨rfl, Fr.refl _ _⟩) (HW.yes rfl rfl rfl hb8 (fun w1 H1 => op_fieldAddr rfl Fa.F50_1 ⟨rfl, Fr.refl _ _⟩) (HW.yes rfl rfl rfl hb8 (fun w1 H1 => op_load rfl (H1.cell (i := 1) rfl rfl) Try.underlying26 rfl ⟨rfl, Fr.refl _ _⟩) (HW.yes rfl rfl rfl hb8 (fun w1 H1 => op_gtrU32 (b := 1024) rfl rfl ⟨rfl, Fr.refl _ _⟩) (HW.op rfl (fun w1 H1 => op_pickF rfl hb8 rfl ⟨rfl, Fr.refl _ _⟩) (HW.op rfl (fun w1 H1 => op_move rfl ⟨rfl, Fr.refl _ _⟩) (HW.yes rfl rfl rfl hb10 (fun w1 H1 => op_move rfl ⟨rfl, Fr.refl _ _⟩) (HW.yes rfl rfl rfl hb10 (fun w1 H1 => op_gtrN (b := 0) rfl rfl ⟨rfl, Fr.refl _ _⟩) (HW.yes rfl rfl rfl hb10 (fun w1 H1 => op_move rfl ⟨rfl, Fr.refl _ _⟩) (HW.no rfl rfl rfl hb12 (HW.no rfl rfl rfl hb12 (HW.no rfl rfl rfl hb12 (HW.no rfl rfl rfl hb12 (HW.no rfl rfl rfl hb12 (HW.no rfl rfl rfl hb12 (HW.no rfl rfl rfl hb12 (HW.no rfl rfl rfl hb12 (HW.no rfl rfl rfl hb12 (HW.no rfl rfl rfl hb12 (HW.yes rfl rfl rfl hb10 (fun w1 H1 => op_pickF rfl hb12 rfl ⟨rfl, Fr.refl _ _⟩) (HW.op rfl (fun w1 H1 => op_pickF rfl hb10 rfl ⟨rfl, Fr.refl _ _⟩)  HW.nil))))))))))))))))))))))))))))) (by kernel_rfl) ?_
            intro β15 w15 H15
            refine WL.nil ?_
            refine WQ.next ?_
            refine WC.no rfl rfl ?_
            refine WC.skip ?_
            refine WQ.inNormal ?_
            refine WQ.next ?_
            refine WC.region ?_
            refine WL.op rfl rfl (op_move rfl ?_)
            refine WL.op rfl rfl (op_addN (b := 1) rfl rfl (by omega) ?_)
            refine WL.op rfl rfl (op_assign rfl ?_)
            refine WL.nil ?_
            exact WQ.round (k + 1) ⟨⟨by omega, allPrev hok ⟨by (rw [xtBad, hb6, hb8, hb10]) <;> rfl, fun h0 => by first | exact hc12 | (exact absurd h0 hc12)⟩⟩, (H15.take 1)⟩ ⟨rfl, rfl, trivial⟩ (by omega)
  ·
    have hc3 := of_decide_eq_false hb3
    refine WC.exit ?_
    refine WQ.thenExit ?_
    refine WQ.thenExit ?_
    refine WQ.inHere ?_
    refine WQ.next ?_
    refine WC.seq ?_
    refine WC.seq ?_
    refine WC.region ?_
    refine WL.op rfl rfl (op_assign rfl ?_)
    refine WL.nil ?_
    refine WQ.next ?_
    refine WC.block ?_
    refine WC.loop (α := Nat) (fun i => [(1, (ptr b1 0)), (5, (vN i))]) (fun i w' => (i ≤ ps.length ∧ (∀ j, j < i → ps.getD j 0 ≠ 0 ∧ (0 < j → ¬ ps.getD (j - 1) 0 ≥ ps.getD j 0))) ∧ Own [] w w' [.blk b1 [(vU32 pg), ev, pv, (.bool con)] 30]) (fun i => ps.length - i) 0 ⟨⟨Nat.zero_le _, fun j h => by omega⟩, H2⟩ ⟨rfl, rfl, trivial⟩ ?_
    rintro i w16 ⟨⟨hi1, hoi⟩, H16⟩
    show WC _ _ _ _ _ [(1, (ptr b1 0)), (5, (vN i))] _
    refine WC.seq ?_
    refine WC.seq ?_
    refine WC.region ?_
    refine WL.op rfl rfl (op_move rfl ?_)
    refine WL.op rfl rfl (op_fieldAddr rfl Fa.F30_2 ?_)
    refine WL.op rfl rfl (op_load rfl (H16.cell (i := 0) rfl rfl) Try.underlying28 rfl ?_)
    refine WL.op rfl rfl (op_lenA Try.underlying28 rfl (H16.arr hP) ?_)
    refine WL.op rfl rfl (op_lssN rfl rfl ?_)
    refine WL.nil ?_
    refine WQ.next ?_
    refine WC.cond rfl (fun (hb17 : (decide (i < ps.length)) = true) => ?_) (fun (hb17 : (decide (i < ps.length)) = false) => ?_)
    ·
      have hc17 := of_decide_eq_true hb17
      refine WC.skip ?_
      refine WQ.next ?_
      refine WC.seq ?_
      refine WC.block ?_
      refine WC.seq ?_
      refine bsplit (fun (hb18 : (decide ((ps.getD i 0) = (0 : UInt16))) = true) => ?_) (fun (hb18 : (decide ((ps.getD i 0) = (0 : UInt16))) = false) => ?_)
      ·
        have hc18 := of_decide_eq_true hb18
        refine WC.draw 24 Fa.M H16 (HW.op rfl (fun w1 H1 => op_fieldAddr rfl Fa.F30_2 ⟨rfl, Fr.refl _ _⟩) (HW.op rfl (fun w1 H1 => op_load rfl (H1.cell (i := 0) rfl rfl) Try.underlying28 rfl ⟨rfl, Fr.refl _ _⟩) (HW.op rfl (fun w1 H1 => op_move rfl ⟨rfl, Fr.refl _ _⟩) (HW.op rfl (fun w1 H1 => op_indexAddr1 Try.underlying28 Fa.I51 rfl (H1.arr hP) rfl (by omega) ⟨rfl, Fr.refl _ _⟩) (HW.op rfl (fun w1 H1 => op_load rfl ((H1.arr hP).at (get_map vU16 0 (Arr.ltM (H1.arr hP) (by omega)))) Try.underlying51 rfl ⟨rfl, Fr.refl _ _⟩) (HW.op rfl (fun w1 H1 => op_eqlU16 (b := 0) rfl rfl ⟨rfl, Fr.refl _ _⟩) (HW.op rfl (fun w1 H1 => op_move rfl ⟨rfl, Fr.refl _ _⟩) (HW.no rfl rfl rfl hb18 (HW.no rfl rfl rfl hb18 (HW.no rfl rfl rfl hb18 (HW.non rfl rfl rfl (HW.non rfl rfl rfl (HW.non rfl rfl rfl (HW.non rfl rfl rfl (HW.non rfl rfl rfl (HW.non rfl rfl rfl (HW.non rfl rfl rfl (HW.non rfl rfl rfl (HW.non rfl rfl rfl (HW.non rfl rfl rfl (HW.non rfl rfl rfl (HW.non rfl rfl rfl (HW.no rfl rfl rfl hb18 (HW.op rfl (fun w1 H1 => op_pickT rfl hb18 rfl ⟨rfl, Fr.refl _ _⟩)  HW.nil)))))))))))))))))))))))) (by kernel_rfl) ?_
        intro β19 w19 H19
        refine WL.nil ?_
        refine WQ.next ?_
        refine WC.yes rfl rfl ?_
        refine WC.seq ?_
        refine WC.region ?_
        refine WL.op rfl rfl (op_assign rfl ?_)
        refine WL.nil ?_
        refine WQ.next ?_
        refine WC.ret ?_
        refine WQ.inRet ?_
        refine WQ.thenRet ?_
        refine WQ.thenRet ?_
        refine WQ.inRet ?_
        refine WQ.thenRet ?_
        refine WQ.out (.tmp rfl .nil) ?_
        exact ⟨by rw [mfMay_p (k := i) (by omega) hc18]; rfl, H19.fr⟩
      ·
        have hc18 := of_decide_eq_false hb18
        refine bsplit (fun (hb20 : (decide (i > 0)) = true) => ?_) (fun (hb20 : (decide (i > 0)) = false) => ?_)
        ·
          have hc20 := of_decide_eq_true hb20
          refine WC.draw 24 Fa.M H16 (HW.op rfl (fun w1 H1 => op_fieldAddr rfl Fa.F30_2 ⟨rfl, Fr.refl _ _⟩) (HW.op rfl (fun w1 H1 => op_load rfl (H1.cell (i := 0) rfl rfl) Try.underlying28 rfl ⟨rfl, Fr.refl _ _⟩) (HW.op rfl (fun w1 H1 => op_move rfl ⟨rfl, Fr.refl _ _⟩) (HW.op rfl (fun w1 H1 => op_indexAddr1 Try.underlying28 Fa.I51 rfl (H1.arr hP) rfl (by omega) ⟨rfl, Fr.refl _ _⟩) (HW.op rfl (fun w1 H1 => op_load rfl ((H1.arr hP).at (get_map vU16 0 (Arr.ltM (H1.arr hP) (by omega)))) Try.underlying51 rfl ⟨rfl, Fr.refl _ _⟩) (HW.op rfl (fun w1 H1 => op_eqlU16 (b := 0) rfl rfl ⟨rfl, Fr.refl _ _⟩) (HW.op rfl (fun w1 H1 => op_move rfl ⟨rfl, Fr.refl _ _⟩) (HW.yes rfl rfl rfl hb18 (fun w1 H1 => op_move rfl ⟨rfl, Fr.refl _ _⟩) (HW.yes rfl rfl rfl hb18 (fun w1 H1 => op_gtrN (b := 0) rfl rfl ⟨rfl, Fr.refl _ _⟩) (HW.yes rfl rfl rfl hb18 (fun w1 H1 => op_move rfl ⟨rfl, Fr.refl _ _⟩) (HW.yes rfl rfl rfl hb20 (fun w1 H1 => op_fieldAddr rfl Fa.F30_2 ⟨rfl, Fr.refl _ _⟩) (HW.yes rfl rfl rfl hb20 (fun w1 H1 => op_load rfl (H1.cell (i := 0) rfl rfl) Try.underlying28 rfl ⟨rfl, Fr.refl _ _⟩) (HW.yes rfl rfl rfl hb20 (fun w1 H1 => op_move rfl ⟨rfl, Fr.refl _ _⟩) (HW.yes rfl rfl rfl hb20 (fun w1 H1 => op_subN (b := 1) rfl rfl (by omega) (by omega) ⟨rfl, Fr.refl _ _⟩) (HW.yes rfl rfl rfl hb20 (fun w1 H1 => op_indexAddr1 Try.underlying28 Fa.I51 rfl (H1.arr hP) rfl (by omega) ⟨rfl, Fr.refl _ _⟩) (HW.yes rfl rfl rfl hb20 (fun w1 H1 => op_load rfl ((H1.arr hP).at (get_map vU16 0 (Arr.ltM (H1.arr hP) (by omega)))) Try.underlying51 rfl ⟨rfl, Fr.refl _ _⟩) (HW.yes rfl rfl rfl hb20 (fun w1 H1 => op_fieldAddr rfl Fa.F30_2 ⟨rfl, Fr.refl _ _⟩) (HW.yes rfl rfl rfl hb20 (fun w1 H1 => op_load rfl (H1.cell (i := 0) rfl rfl) Try.underlying28 rfl ⟨rfl, Fr.refl _ _⟩) (HW.yes rfl rfl rfl hb20 (fun w1 H1 => op_move rfl ⟨rfl, Fr.refl _ _⟩) (HW.yes rfl rfl rfl hb20 (fun w1 H1 => op_indexAddr1 Try.underlying28 Fa.I51 rfl (H1.arr hP) rfl (by omega) ⟨rfl, Fr.refl _ _⟩) (HW.yes rfl rfl rfl hb20 (fun w1 H1 => op_load rfl ((H1.arr hP).at (get_map vU16 0 (Arr.ltM (H1.arr hP) (by omega)))) Try.underlying51 rfl ⟨rfl, Fr.refl _ _⟩) (HW.yes rfl rfl rfl hb20 (fun w1 H1 => op_geqU16 rfl rfl ⟨rfl, Fr.refl _ _⟩) (HW.yes rfl rfl rfl hb18 (fun w1 H1 => op_pickT rfl hb20 rfl ⟨rfl, Fr.refl _ _⟩) (HW.op rfl (fun w1 H1 => op_pickF rfl hb18 rfl ⟨rfl, Fr.refl _ _⟩)  HW.nil)))))))))))))))))))))))) (by kernel_rfl) ?_
          intro β21 w21 H21
          refine WL.nil ?_
          refine WQ.next ?_
          refine WC.cond rfl (fun (hb22 : (decide ((ps.getD (i - 1) 0) ≥ (ps.getD i 0))) = true) => ?_) (fun (hb22 : (decide ((ps.getD (i - 1) 0) ≥ (ps.getD i 0))) = false) => ?_)
          ·
            have hc22 := of_decide_eq_true hb22
            refine WC.seq ?_
            refine WC.region ?_
            refine WL.op rfl rfl (op_assign rfl ?_)
            refine WL.nil ?_
            refine WQ.next ?_
            refine WC.ret ?_
            refine WQ.inRet ?_
            refine WQ.thenRet ?_
            refine WQ.thenRet ?_
            refine WQ.inRet ?_
            refine WQ.thenRet ?_
            refine WQ.out (.tmp rfl .nil) ?_
            exact ⟨by rw [mfMay_q (k := i) (by omega) (by omega) hc22]; rfl, H21.fr⟩
          ·
            have hc22 := of_decide_eq_false hb22
            refine WC.skip ?_
            refine WQ.inNormal ?_
            refine WQ.next ?_
            refine WC.region ?_
            refine WL.op rfl rfl (op_move rfl ?_)
            refine WL.op rfl rfl (op_addN (b := 1) rfl rfl (by omega) ?_)
            refine WL.op rfl rfl (op_assign rfl ?_)
            refine WL.nil ?_
            exact WQ.round (i + 1) ⟨⟨by omega, allPrev hoi ⟨of_decide_eq_false hb18, fun h0 => by first | exact hc22 | (exact absurd h0 hc22)⟩⟩, H21⟩ ⟨rfl, rfl, trivial⟩ (by omega)
        ·
          have hc20 := of_decide_eq_false hb20
          refine WC.draw 24 Fa.M H16 (HW.op rfl (fun w1 H1 => op_fieldAddr rfl Fa.F30_2 ⟨rfl, Fr.refl _ _⟩) (HW.op rfl (fun w1 H1 => op_load rfl (H1.cell (i := 0) rfl rfl) Try.underlying28 rfl ⟨rfl, Fr.refl _ _⟩) (HW.op rfl (fun w1 H1 => op_move rfl ⟨rfl, Fr.refl _ _⟩) (HW.op rfl (fun w1 H1 => op_indexAddr1 Try.underlying28 Fa.I51 rfl (H1.arr hP) rfl (by omega) ⟨rfl, Fr.refl _ _⟩) (HW.op rfl (fun w1 H1 => op_load rfl ((H1.arr hP).at (get_map vU16 0 (Arr.ltM (H1.arr hP) (by omega)))) Try.underlying51 rfl ⟨rfl, Fr.refl _ _⟩) (HW.op rfl (fun w1 H1 => op_eqlU16 (b := 0) rfl rfl ⟨rfl, Fr.refl _ _⟩) (HW.op rfl (fun w1 H1 => op_move rfl ⟨rfl, Fr.refl _ _⟩) (HW.yes rfl rfl rfl hb18 (fun w1 H1 => op_move rfl ⟨rfl, Fr.refl _ _⟩) (HW.yes rfl rfl rfl hb18 (fun w1 H1 => op_gtrN (b := 0) rfl rfl ⟨rfl, Fr.refl _ _⟩) (HW.yes rfl rfl rfl hb18 (fun w1 H1 => op_move rfl ⟨rfl, Fr.refl _ _⟩) (HW.no rfl rfl rfl hb20 (HW.no rfl rfl rfl hb20 (HW.no rfl rfl rfl hb20 (HW.no rfl rfl rfl hb20 (HW.no rfl rfl rfl hb20 (HW.no rfl rfl rfl hb20 (HW.no rfl rfl rfl hb20 (HW.no rfl rfl rfl hb20 (HW.no rfl rfl rfl hb20 (HW.no rfl rfl rfl hb20 (HW.no rfl rfl rfl hb20 (HW.no rfl rfl rfl hb20 (HW.yes rfl rfl rfl hb18 (fun w1 H1 => op_pickF rfl hb20 rfl ⟨rfl, Fr.refl _ _⟩) (HW.op rfl (fun w1 H1 => op_pickF rfl hb18 rfl ⟨rfl, Fr.refl _ _⟩)  HW.nil)))))))))))))))))))))))) (by kernel_rfl) ?_
          intro β23 w23 H23
          refine WL.nil ?_
          refine WQ.next ?_
          refine WC.no rfl rfl ?_
          refine WC.skip ?_
          refine WQ.inNormal ?_
          refine WQ.next ?_
          refine WC.region ?_
          refine WL.op rfl rfl (op_move rfl ?_)
          refine WL.op rfl rfl (op_addN (b := 1) rfl rfl (by omega) ?_)
          refine WL.op rfl rfl (op_assign rfl ?_)
          refine WL.nil ?_
          exact WQ.round (i + 1) ⟨⟨by omega, allPrev hoi ⟨of_decide_eq_false hb18, fun h0 => by first | exact hc20 | (exact absurd h0 hc20)⟩⟩, H23⟩ ⟨rfl, rfl, trivial⟩ (by omega)
    ·
      have hc17 := of_decide_eq_false hb17
      refine WC.exit ?_
      refine WQ.thenExit ?_
      refine WQ.thenExit ?_
      refine WQ.inHere ?_
      refine WQ.next ?_
      refine WC.seq ?_
      refine WC.region ?_
      refine WL.op rfl rfl (op_fieldAddr rfl Fa.F30_0 ?_)
      refine WL.op rfl rfl (op_load rfl (H16.cell (i := 0) rfl rfl) Try.underlying26 rfl ?_)
      refine WL.op rfl rfl (op_leqU32 (b := 1024) rfl rfl ?_)
      refine WL.op rfl rfl (op_move rfl ?_)
      refine WL.split (t := 81) rfl (fun (hb24 : (decide (pg ≤ (1024 : UInt32))) = true) => ?_) (fun (hb24 : (decide (pg ≤ (1024 : UInt32))) = false) => ?_)
      ·
        have hc24 := of_decide_eq_true hb24
        refine WL.yes rfl rfl rfl hb24 rfl (op_fieldAddr rfl Fa.F30_2 ?_)
        refine WL.yes rfl rfl rfl hb24 rfl (op_load rfl (H16.cell (i := 0) rfl rfl) Try.underlying28 rfl ?_)
        refine WL.yes rfl rfl rfl hb24 rfl (op_lenA Try.underlying28 rfl (H16.arr hP) ?_)
        refine WL.yes rfl rfl rfl hb24 rfl (op_leqN (b := 16) rfl rfl ?_)
        refine WL.op rfl rfl (op_pickT rfl hb24 rfl ?_)
        refine WL.op rfl rfl (op_assign rfl ?_)
        refine WL.nil ?_
        refine WQ.next ?_
        refine WC.ret ?_
        refine WQ.out (.tmp rfl .nil) ?_
        exact ⟨by (rw [mfMay_end (fun j hj => hok j (by omega)) (fun j hj => hoi j (by omega)), hb24]) <;> rfl, H16.fr⟩
      ·
        have hc24 := of_decide_eq_false hb24
        refine WL.no rfl rfl rfl hb24 rfl ?_
        refine WL.no rfl rfl rfl hb24 rfl ?_
        refine WL.no rfl rfl rfl hb24 rfl ?_
        refine WL.no rfl rfl rfl hb24 rfl ?_
        refine WL.op rfl rfl (op_pickF rfl hb24 rfl ?_)
        refine WL.op rfl rfl (op_assign rfl ?_)
        refine WL.nil ?_
        refine WQ.next ?_
        refine WC.ret ?_
        refine WQ.out (.tmp rfl .nil) ?_
        exact ⟨by (rw [mfMay_end (fun j hj => hok j (by omega)) (fun j hj => hoi j (by omega)), hb24]) <;> rfl, H16.fr⟩
set_option maxHeartbeats 1000000 in
set_option maxRecDepth 100000 in
theorem rnotes_ok (m : Mf) (ev pv : Value) (w : World) (hE : Arr w ev 2 m.xs.length (List.flatMap xtc m.xs)) (hP : Arr w pv 1 m.ps.length (List.map vU16 m.ps)) (hn : m.xs.length < 2 ^ 42) (hm : m.ps.length < 2 ^ 42) :
    Calls Try.prog 23 #[(.agg #[(vU32 m.pg), ev, pv, (.bool m.con)])] w (fun e w' => ∃ v, e = .returned v ∧ Own [] w w' [.row v 36 3 (notesM m).length (List.flatMap ntc (notesM m))]) := by
  refine enter (args := [(.agg #[(vU32 m.pg), ev, pv, (.bool m.con)])]) Try.func23 rfl rfl ?_
  have H0 : Own [] w w [] := Own.start w []
  refine WC.seq ?_
  refine WC.region ?_
  refine WL.op rfl rfl (op_box H0 rfl rfl (fun b1 w1 H1 => ?_))
  refine WL.op rfl rfl (op_assign rfl ?_)
  refine WL.nil ?_
  refine WQ.next ?_
  refine WC.seq ?_
  refine WC.region ?_
  refine WL.op rfl rfl (op_assign rfl ?_)
  have H2 := H1.nilRow 36 3
  refine WL.nil ?_
  refine WQ.next ?_
  refine WC.seq ?_
  refine WC.seq ?_
  refine WC.region ?_
  refine WL.op rfl rfl (op_loadS (vs := [_, _, _, _]) rfl (H2.cells (i := 0) rfl rfl) Try.underlying30 rfl Fa.I30 rfl ?_)
  refine WL.op rfl rfl (op_callF Fa.C17 rfl ((rmay11_ok m.pg _ _ m.xs m.ps m.con _ (H2.arr hE) (H2.arr hP) (by omega) (by omega)).mono (fun e w3 hq => ?_)))
  obtain ⟨rfl, hf3⟩ := hq
  refine ⟨_, rfl, ?_⟩
  have H3 := H2.fr' hf3
  refine WL.op rfl rfl (op_not rfl ?_)
  refine WL.nil ?_
  refine WQ.next ?_
  refine WC.cond rfl (fun (hb4 : (!(Mf.may m)) = true) => ?_) (fun (hb4 : (!(Mf.may m)) = false) => ?_)
  ·
    have hn4 := (Bool.not_eq_true' _).mp hb4
    refine WC.seq ?_
    refine WC.region ?_
    refine WL.op rfl rfl (op_assign rfl ?_)
    refine WL.nil ?_
    refine WQ.next ?_
    refine WC.ret ?_
    refine WQ.thenRet ?_
    refine WQ.out (.tmp rfl .nil) ?_
    rw [notes_not hn4]
    exact ⟨_, rfl, (H3.nilRow 36 3).sel [2] rfl rfl⟩
  ·
    have hn4 := (Bool.not_eq_false' _).mp hb4
    refine WC.skip ?_
    refine WQ.next ?_
    refine WC.cut (α := Value) (fun v => [(0, (.agg #[(vU32 m.pg), ev, pv, (.bool m.con)])), (1, (ptr b1 0)), (3, v)]) (fun v w' => Own [] w w' [.blk b1 [(vU32 m.pg), ev, pv, (.bool m.con)] 30, .row v 36 3 (nA m).length (List.flatMap ntc (nA m))]) ?_ ?_
    ·
      refine WC.seq ?_
      refine WC.region ?_
      refine WL.op rfl rfl (op_fieldAddr rfl Fa.F30_0 ?_)
      refine WL.op rfl rfl (op_load rfl (H3.cell (i := 0) rfl rfl) Try.underlying26 rfl ?_)
      refine WL.op rfl rfl (op_gtrU32 (b := 0) rfl rfl ?_)
      refine WL.nil ?_
      refine WQ.next ?_
      refine WC.cond rfl (fun (hb5 : (decide (m.pg > (0 : UInt32))) = true) => ?_) (fun (hb5 : (decide (m.pg > (0 : UInt32))) = false) => ?_)
      ·
        have hc5 := of_decide_eq_true hb5
        refine WC.region ?_
        refine WL.op rfl rfl (op_move rfl ?_)
        refine WL.op rfl rfl (op_fieldAddr rfl Fa.F30_0 ?_)
        refine WL.op rfl rfl (op_load rfl (H3.cell (i := 0) rfl rfl) Try.underlying26 rfl ?_)
        refine WL.op rfl rfl (op_build (cs := [_, _, _]) Fa.I36 Fa.PL36 rfl rfl ?_)
        refine WL.op rfl rfl (op_buildSlice (cs := [_, _, _]) H3 Try.underlying22 Fa.I36 rfl rfl rfl rfl (by decide) (by decide) (fun b6 w6 H6 => ?_))
        refine WL.op rfl rfl (op_appendF (f := ntc) (l := []) (l' := [(Nt.mk 1 m.pg 0)]) (i := 1) H6 Try.underlying22 Fa.I36 rfl rfl rfl rfl (Src.ofArr Try.underlying22 (H6.arrR (i := 2) rfl)) (one_flat (fun _ => by simp [ntc, Value.oneCell'])) (by omega) (by omega) (fun v7 w7 H7 => ?_))
        refine WL.op rfl rfl (op_assign rfl ?_)
        refine WL.nil ?_
        exact WQ.here v7 (Own.rowEqF (i := 1) (f := ntc) (show Own [] w w7 [.blk b1 [(vU32 m.pg), ev, pv, (.bool m.con)] 30, .row v7 36 3 (0 + 1) (List.flatMap ntc ([] ++ [(Nt.mk 1 m.pg 0)]))] from (H7.take 2)) rfl (by rw [nA_yes hb5]; try rfl) (by rw [nA_yes hb5]; try rfl)) ⟨rfl, rfl, rfl, trivial⟩
      ·
        have hc5 := of_decide_eq_false hb5
        refine WC.skip ?_
        exact WQ.here (.slice none 0 0) (Own.rowEqF (i := 1) (f := ntc) (show Own [] w w3 [.blk b1 [(vU32 m.pg), ev, pv, (.bool m.con)] 30, .row (.slice none 0 0) 36 3 0 (List.flatMap ntc [])] from H3) rfl (by rw [nA_no hb5]; try rfl) (by rw [nA_no hb5]; try rfl)) ⟨rfl, rfl, rfl, trivial⟩
    ·
      rintro v w8 H8
      show WC _ _ _ _ _ [(0, (.agg #[(vU32 m.pg), ev, pv, (.bool m.con)])), (1, (ptr b1 0)), (3, v)] _
      refine WC.seq ?_
      refine WC.seq ?_
      refine WC.region ?_
      refine WL.op rfl rfl (op_assign rfl ?_)
      refine WL.nil ?_
      refine WQ.next ?_
      refine WC.block ?_
      refine WC.loop (α := Nat × Value) (fun (k, v) => [(0, (.agg #[(vU32 m.pg), ev, pv, (.bool m.con)])), (1, (ptr b1 0)), (3, v), (4, (vN k))]) (fun (k, v) w' => (k ≤ m.xs.length) ∧ Own [] w w' [.blk b1 [(vU32 m.pg), ev, pv, (.bool m.con)] 30, .row v 36 3 (nX m k).length (List.flatMap ntc (nX m k))]) (fun (k, v) => m.xs.length - k) (0, v) ⟨Nat.zero_le _, H8⟩ ⟨rfl, rfl, rfl, rfl, trivial⟩ ?_
      rintro ⟨k, v⟩ w9 ⟨hk1, H9⟩
      show WC _ _ _ _ _ [(0, (.agg #[(vU32 m.pg), ev, pv, (.bool m.con)])), (1, (ptr b1 0)), (3, v), (4, (vN k))] _
      have hnl := nX_len (m := m) k
      refine WC.seq ?_
      refine WC.seq ?_
      refine WC.region ?_
      refine WL.op rfl rfl (op_move rfl ?_)
      refine WL.op rfl rfl (op_fieldAddr rfl Fa.F30_1 ?_)
      refine WL.op rfl rfl (op_load rfl (H9.cell (i := 0) rfl rfl) Try.underlying27 rfl ?_)
      refine WL.op rfl rfl (op_lenA Try.underlying27 rfl (H9.arr hE) ?_)
      refine WL.op rfl rfl (op_lssN rfl rfl ?_)
      refine WL.nil ?_
      refine WQ.next ?_
      refine WC.cond rfl (fun (hb10 : (decide (k < m.xs.length)) = true) => ?_) (fun (hb10 : (decide (k < m.xs.length)) = false) => ?_)
      ·
        have hc10 := of_decide_eq_true hb10
        refine WC.skip ?_
        refine WQ.next ?_
        refine WC.seq ?_
        refine WC.block ?_
        refine WC.draw 15 Fa.M H9 (HW.op rfl (fun w1 H1 => op_move rfl ⟨rfl, Fr.refl _ _⟩) (HW.op rfl (fun w1 H1 => op_fieldAddr rfl Fa.F30_1 ⟨rfl, Fr.refl _ _⟩) (HW.op rfl (fun w1 H1 => op_load rfl (H1.cell (i := 0) rfl rfl) Try.underlying27 rfl ⟨rfl, Fr.refl _ _⟩) (HW.op rfl (fun w1 H1 => op_move rfl ⟨rfl, Fr.refl _ _⟩) (HW.op rfl (fun w1 H1 => op_indexAddr Try.underlying27 Fa.I50 rfl (H1.arr hE) rfl (by omega) ⟨rfl, Fr.refl _ _⟩) (HW.op rfl (fun w1 H1 => op_fieldAddrS rfl Fa.F50_0 ⟨rfl, Fr.refl _ _⟩) (HW.op rfl (fun w1 H1 => op_load rfl (Arr.atF (k := 0) (H1.arr hE) (fun _ => rfl) (by decide) Xt.zero (by omega) rfl) Try.underlying26 rfl ⟨rfl, Fr.refl _ _⟩) (HW.op rfl (fun w1 H1 => op_fieldAddr rfl Fa.F30_1 ⟨rfl, Fr.refl _ _⟩) (HW.op rfl (fun w1 H1 => op_load rfl (H1.cell (i := 0) rfl rfl) Try.underlying27 rfl ⟨rfl, Fr.refl _ _⟩) (HW.op rfl (fun w1 H1 => op_move rfl ⟨rfl, Fr.refl _ _⟩) (HW.op rfl (fun w1 H1 => op_indexAddr Try.underlying27 Fa.I50 rfl (H1.arr hE) rfl (by omega) ⟨rfl, Fr.refl _ _⟩) (HW.op rfl (fun w1 H1 => op_fieldAddrS rfl Fa.F50_1 ⟨rfl, Fr.refl _ _⟩) (HW.op rfl (fun w1 H1 => op_load rfl (Arr.atF (k := 1) (H1.arr hE) (fun _ => rfl) (by decide) Xt.zero (by omega) rfl) Try.underlying26 rfl ⟨rfl, Fr.refl _ _⟩) (HW.op rfl (fun w1 H1 => op_build (cs := [_, _, _]) Fa.I36 Fa.PL36 rfl rfl ⟨rfl, Fr.refl _ _⟩) (HW.flt (mk := fun bq => .slice (some ⟨bq.1, 0, none⟩) 1 1) (ent := fun bq => .row (.slice (some ⟨bq.1, 0, none⟩) 1 1) _ _ _ _) rfl (fun w1 _ => op_buildSlice (cs := [_, _, _]) (Own.start w1 []) Try.underlying22 Fa.I36 rfl rfl rfl rfl (by decide) (by decide) (fun bq w2 H2 => ⟨(bq, undef), rfl, H2, True.intro⟩))  HW.nil))))))))))))))) (by kernel_rfl) ?_
        intro β11 w11 H11
        refine WL.op rfl rfl (op_appendF (f := ntc) (l := (nX m k)) (l' := [(Nt.mk 2 ((m.xs.getD k Xt.zero).id) ((m.xs.getD k Xt.zero).bl))]) (i := 1) H11 Try.underlying22 Fa.I36 rfl rfl rfl rfl (Src.ofArr Try.underlying22 (H11.arrR (i := 2) rfl)) (one_flat (fun _ => by simp [ntc, Value.oneCell'])) (by omega) (by omega) (fun v12 w12 H12 => ?_))
        refine WL.op rfl rfl (op_assign rfl ?_)
        refine WL.nil ?_
        refine WQ.inNormal ?_
        refine WQ.next ?_
        refine WC.region ?_
        refine WL.op rfl rfl (op_move rfl ?_)
        refine WL.op rfl rfl (op_addN (b := 1) rfl rfl (by omega) ?_)
        refine WL.op rfl rfl (op_assign rfl ?_)
        refine WL.nil ?_
        exact WQ.round (k + 1, v12) ⟨(by omega), (Own.rowEqF (i := 1) (f := ntc) (show Own [] w w12 [.blk b1 [(vU32 m.pg), ev, pv, (.bool m.con)] 30, .row v12 36 3 ((nX m k).length + 1) (List.flatMap ntc ((nX m k) ++ [(Nt.mk 2 ((m.xs.getD k Xt.zero).id) ((m.xs.getD k Xt.zero).bl))]))] from (H12.take 2)) rfl rfl (by rw [nX, List.length_append]; rfl))⟩ ⟨rfl, rfl, rfl, rfl, trivial⟩ (by show m.xs.length - (k + 1) < m.xs.length - k; omega)
      ·
        have hc10 := of_decide_eq_false hb10
        refine WC.exit ?_
        refine WQ.thenExit ?_
        refine WQ.thenExit ?_
        refine WQ.inHere ?_
        refine WQ.next ?_
        refine WC.seq ?_
        refine WC.seq ?_
        refine WC.region ?_
        refine WL.op rfl rfl (op_assign rfl ?_)
        refine WL.nil ?_
        refine WQ.next ?_
        refine WC.block ?_
        refine WC.loop (α := Nat × Value) (fun (k, v) => [(0, (.agg #[(vU32 m.pg), ev, pv, (.bool m.con)])), (1, (ptr b1 0)), (3, v), (5, (vN k))]) (fun (k, v) w' => (k ≤ m.ps.length) ∧ Own [] w w' [.blk b1 [(vU32 m.pg), ev, pv, (.bool m.con)] 30, .row v 36 3 (nP m k).length (List.flatMap ntc (nP m k))]) (fun (k, v) => m.ps.length - k) (0, v) ⟨Nat.zero_le _, (by have hke : k = m.xs.length := (by omega); have h := (show Own [] w w9 [.blk b1 [(vU32 m.pg), ev, pv, (.bool m.con)] 30, .row v 36 3 (nX m k).length (List.flatMap ntc (nX m k))] from H9); rw [hke] at h; exact h)⟩ ⟨rfl, rfl, rfl, rfl, trivial⟩ ?_
        rintro ⟨k, v⟩ w13 ⟨hk2, H13⟩
        show WC _ _ _ _ _ [(0, (.agg #[(vU32 m.pg), ev, pv, (.bool m.con)])), (1, (ptr b1 0)), (3, v), (5, (vN k))] _
        have hnl2 := nP_len (m := m) k
        refine WC.seq ?_
        refine WC.seq ?_
        refine WC.region ?_
        refine WL.op rfl rfl (op_move rfl ?_)
        refine WL.op rfl rfl (op_fieldAddr rfl Fa.F30_2 ?_)
        refine WL.op rfl rfl (op_load rfl (H13.cell (i := 0) rfl rfl) Try.underlying28 rfl ?_)
        refine WL.op rfl rfl (op_lenA Try.underlying28 rfl (H13.arr hP) ?_)
        refine WL.op rfl rfl (op_lssN rfl rfl ?_)
        refine WL.nil ?_
        refine WQ.next ?_
        refine WC.cond rfl (fun (hb14 : (decide (k < m.ps.length)) = true) => ?_) (fun (hb14 : (decide (k < m.ps.length)) = false) => ?_)
        ·
          have hc14 := of_decide_eq_true hb14
          refine WC.skip ?_
          refine WQ.next ?_
          refine WC.seq ?_
          refine WC.block ?_
          refine WC.region ?_
          refine WL.op rfl rfl (op_move rfl ?_)
          refine WL.op rfl rfl (op_fieldAddr rfl Fa.F30_2 ?_)
          refine WL.op rfl rfl (op_load rfl (H13.cell (i := 0) rfl rfl) Try.underlying28 rfl ?_)
          refine WL.op rfl rfl (op_move rfl ?_)
          refine WL.op rfl rfl (op_indexAddr1 Try.underlying28 Fa.I51 rfl (H13.arr hP) rfl (by omega) ?_)
          refine WL.op rfl rfl (op_load rfl ((H13.arr hP).at (get_map vU16 0 (Arr.ltM (H13.arr hP) (by omega)))) Try.underlying51 rfl ?_)
          refine WL.op rfl rfl (op_convU16U32 (hs := Try.underlying51) (hd := Try.underlying26) rfl ?_)
          refine WL.op rfl rfl (op_build (cs := [_, _, _]) Fa.I36 Fa.PL36 rfl rfl ?_)
          refine WL.op rfl rfl (op_buildSlice (cs := [_, _, _]) H13 Try.underlying22 Fa.I36 rfl rfl rfl rfl (by decide) (by decide) (fun b15 w15 H15 => ?_))
          refine WL.op rfl rfl (op_appendF (f := ntc) (l := (nP m k)) (l' := [(Nt.mk 3 (UInt32.ofNat (m.ps.getD k 0).toNat) 0)]) (i := 1) H15 Try.underlying22 Fa.I36 rfl rfl rfl rfl (Src.ofArr Try.underlying22 (H15.arrR (i := 2) rfl)) (one_flat (fun _ => by simp [ntc, Value.oneCell'])) (by omega) (by omega) (fun v16 w16 H16 => ?_))
          refine WL.op rfl rfl (op_assign rfl ?_)
          refine WL.nil ?_
          refine WQ.inNormal ?_
          refine WQ.next ?_
          refine WC.region ?_
          refine WL.op rfl rfl (op_move rfl ?_)
          refine WL.op rfl rfl (op_addN (b := 1) rfl rfl (by omega) ?_)
          refine WL.op rfl rfl (op_assign rfl ?_)
          refine WL.nil ?_
          exact WQ.round (k + 1, v16) ⟨(by omega), (Own.rowEqF (i := 1) (f := ntc) (show Own [] w w16 [.blk b1 [(vU32 m.pg), ev, pv, (.bool m.con)] 30, .row v16 36 3 ((nP m k).length + 1) (List.flatMap ntc ((nP m k) ++ [(Nt.mk 3 (UInt32.ofNat (m.ps.getD k 0).toNat) 0)]))] from (H16.take 2)) rfl rfl (by rw [nP, List.length_append]; rfl))⟩ ⟨rfl, rfl, rfl, rfl, trivial⟩ (by show m.ps.length - (k + 1) < m.ps.length - k; omega)
        ·
          have hc14 := of_decide_eq_false hb14
          refine WC.exit ?_
          refine WQ.thenExit ?_
          refine WQ.thenExit ?_
          refine WQ.inHere ?_
          refine WQ.next ?_
          refine WC.seq ?_
          refine WC.seq ?_
          refine WC.region ?_
          refine WL.op rfl rfl (op_fieldAddr rfl Fa.F30_3 ?_)
          refine WL.op rfl rfl (op_load rfl (H13.cell (i := 0) rfl rfl) Try.underlying4 rfl ?_)
          refine WL.nil ?_
          refine WQ.next ?_
          refine WC.cond rfl (fun (hb17 : m.con = true) => ?_) (fun (hb17 : m.con = false) => ?_)
          ·
            refine WC.region ?_
            refine WL.op rfl rfl (op_move rfl ?_)
            refine WL.op rfl rfl (op_build (cs := [_, _, _]) Fa.I36 Fa.PL36 rfl rfl ?_)
            refine WL.op rfl rfl (op_buildSlice (cs := [_, _, _]) H13 Try.underlying22 Fa.I36 rfl rfl rfl rfl (by decide) (by decide) (fun b18 w18 H18 => ?_))
            refine WL.op rfl rfl (op_appendF (f := ntc) (l := (nP m k)) (l' := [(Nt.mk 4 0 0)]) (i := 1) H18 Try.underlying22 Fa.I36 rfl rfl rfl rfl (Src.ofArr Try.underlying22 (H18.arrR (i := 2) rfl)) (one_flat (fun _ => by simp [ntc, Value.oneCell'])) (by omega) (by omega) (fun v19 w19 H19 => ?_))
            refine WL.op rfl rfl (op_assign rfl ?_)
            refine WL.nil ?_
            refine WQ.next ?_
            refine WC.seq ?_
            refine WC.region ?_
            refine WL.op rfl rfl (op_move rfl ?_)
            refine WL.op rfl rfl (op_assign rfl ?_)
            refine WL.nil ?_
            refine WQ.next ?_
            refine WC.ret ?_
            refine WQ.out (.tmp rfl .nil) ?_
            have h := (show Own [] w w19 [.blk b1 [(vU32 m.pg), ev, pv, (.bool m.con)] 30, .row v19 36 3 ((nP m k).length + 1) (List.flatMap ntc ((nP m k) ++ [(Nt.mk 4 0 0)])), .row (.slice (some ⟨b18, 0, none⟩) 1 1) 36 3 1 (List.flatMap ntc [(Nt.mk 4 0 0)])] from H19)
            have hke : k = m.ps.length := by omega
            subst hke
            rw [(notes_yes (by simpa using hb4) hb17)]
            exact ⟨_, rfl, (Own.rowEqF (i := 1) (f := ntc) (m' := (nP m m.ps.length ++ [Nt.mk 4 0 0]).length) h rfl rfl (by simp)).sel [1] rfl rfl⟩
          ·
            refine WC.skip ?_
            refine WQ.next ?_
            refine WC.seq ?_
            refine WC.region ?_
            refine WL.op rfl rfl (op_move rfl ?_)
            refine WL.op rfl rfl (op_assign rfl ?_)
            refine WL.nil ?_
            refine WQ.next ?_
            refine WC.ret ?_
            refine WQ.out (.tmp rfl .nil) ?_
            have h := (show Own [] w w13 [.blk b1 [(vU32 m.pg), ev, pv, (.bool m.con)] 30, .row v 36 3 (nP m k).length (List.flatMap ntc (nP m k))] from H13)
            have hke : k = m.ps.length := by omega
            subst hke
            rw [(notes_no (by simpa using hb4) hb17)]
            exact ⟨_, rfl, (Own.rowEqF (i := 1) (f := ntc) (m' := (nP m m.ps.length).length) h rfl rfl (by simp)).sel [1] rfl rfl⟩
end Go.Proofs.Ytnngbnenekjffaa
/-! from EDem7 -/
namespace Go.Proofs.Ytnngbnenekjffaa
open Go.Owl Go.Spec
set_option maxRecDepth 100000 in
theorem cov1_ok (x : Xt) (n : Nt) (q : Nat) (w : World) (hQ : cellsAt w q [(vU8 n.kind), (vU32 n.n), (vU32 n.m)]) :
    Calls Try.prog 47 #[(.agg #[(vU32 x.id), (vU32 x.bl)]), (ptr q 0)] w (fun e w' => e = .returned (.bool (covX n x)) ∧ Fr [] w w') := by
  refine enter (args := [(.agg #[(vU32 x.id), (vU32 x.bl)]), (ptr q 0)]) Try.func47 rfl rfl ?_
  have H0 : Own [] w w [Ent.bo q [(vU8 n.kind), (vU32 n.n), (vU32 n.m)]] := ((Own.start w []).oldB hQ)
  refine WC.seq ?_
  refine WC.region ?_
  refine WL.op rfl rfl (op_box H0 rfl rfl (fun b1 w1 H1 => ?_))
  refine WL.op rfl rfl (op_assign rfl ?_)
  refine WL.nil ?_
  refine WQ.next ?_
  refine WC.seq ?_
  refine WC.region ?_
  refine WL.op rfl rfl (op_fieldAddr rfl Fa.F50_0 ?_)
  refine WL.op rfl rfl (op_load rfl (H1.cell (i := 1) rfl rfl) Try.underlying26 rfl ?_)
  refine WL.op rfl rfl (op_fieldAddr rfl Fa.F36_1 ?_)
  refine WL.op rfl rfl (op_load rfl (H1.cellO (i := 0) rfl rfl) Try.underlying26 rfl ?_)
  refine WL.op rfl rfl (op_eqlU32 rfl rfl ?_)
  refine WL.op rfl rfl (op_move rfl ?_)
  refine WL.split (t := 9) rfl (fun (hb2 : (decide (x.id = n.n)) = true) => ?_) (fun (hb2 : (decide (x.id = n.n)) = false) => ?_)
  ·
    have hc2 := of_decide_eq_true hb2
    refine WL.yes rfl rfl rfl hb2 rfl (op_fieldAddr rfl Fa.F50_1 ?_)
    refine WL.yes rfl rfl rfl hb2 rfl (op_load rfl (H1.cell (i := 1) rfl rfl) Try.underlying26 rfl ?_)
    refine WL.yes rfl rfl rfl hb2 rfl (op_fieldAddr rfl Fa.F36_2 ?_)
    refine WL.yes rfl rfl rfl hb2 rfl (op_load rfl (H1.cellO (i := 0) rfl rfl) Try.underlying26 rfl ?_)
    refine WL.yes rfl rfl rfl hb2 rfl (op_geqU32 rfl rfl ?_)
    refine WL.op rfl rfl (op_pickT rfl hb2 rfl ?_)
    refine WL.op rfl rfl (op_assign rfl ?_)
    refine WL.nil ?_
    refine WQ.next ?_
    refine WC.ret ?_
    refine WQ.out (.tmp rfl .nil) ?_
    exact ⟨by (rw [covX, hb2]) <;> rfl, H1.fr⟩
  ·
    have hc2 := of_decide_eq_false hb2
    refine WL.no rfl rfl rfl hb2 rfl ?_
    refine WL.no rfl rfl rfl hb2 rfl ?_
    refine WL.no rfl rfl rfl hb2 rfl ?_
    refine WL.no rfl rfl rfl hb2 rfl ?_
    refine WL.no rfl rfl rfl hb2 rfl ?_
    refine WL.op rfl rfl (op_pickF rfl hb2 rfl ?_)
    refine WL.op rfl rfl (op_assign rfl ?_)
    refine WL.nil ?_
    refine WQ.next ?_
    refine WC.ret ?_
    refine WQ.out (.tmp rfl .nil) ?_
    exact ⟨by (rw [covX, hb2]) <;> rfl, H1.fr⟩
set_option maxRecDepth 100000 in
theorem idxX2_ok (lv : Value) (l : List Xt) (n : Nt) (q : Nat) (w : World) (hA : Arr w lv 2 l.length (List.flatMap xtc l)) (hQ : cellsAt w q [(vU8 n.kind), (vU32 n.n), (vU32 n.m)]) (hn : l.length < 2 ^ 47) :
    Calls Try.prog 48 #[lv, (.func (.func 47) #[] #[(ptr q 0)])] w (fun e w' => e = .returned (vI (fidx (covX n) l)) ∧ Fr [] w w') := by
  refine enter (args := [lv, (.func (.func 47) #[] #[(ptr q 0)])]) Try.func48 rfl rfl ?_
  have H0 : Own [] w w [Ent.bo q [(vU8 n.kind), (vU32 n.n), (vU32 n.m)]] := ((Own.start w []).oldB hQ)
  refine WC.seq ?_
  refine WC.region ?_
  refine WL.op rfl rfl (op_assign rfl ?_)
  refine WL.nil ?_
  refine WQ.next ?_
  refine WC.seq ?_
  refine WC.seq ?_
  refine WC.region ?_
  refine WL.op rfl rfl (op_move rfl ?_)
  refine WL.op rfl rfl (op_lenA Try.underlying27 rfl (H0.arr hA) ?_)
  refine WL.op rfl rfl (op_move rfl ?_)
  refine WL.nil ?_
  refine WQ.next ?_
  refine WC.block ?_
  refine WC.loop (α := Nat) (fun k => [(0, lv), (1, (.func (.func 47) #[] #[(ptr q 0)])), (7, (vN l.length)), (8, (vN k))]) (fun k w' => (k ≤ l.length ∧ (∀ j, j < k → (covX n) (l.getD j Xt.zero) = false)) ∧ Own [] w w' [Ent.bo q [(vU8 n.kind), (vU32 n.n), (vU32 n.m)]]) (fun k => l.length - k) 0 ⟨⟨Nat.zero_le _, fun j h => by omega⟩, H0⟩ ⟨rfl, rfl, rfl, rfl, trivial⟩ ?_
  rintro k w1 ⟨⟨hk1, hok⟩, H1⟩
  show WC _ _ _ _ _ [(0, lv), (1, (.func (.func 47) #[] #[(ptr q 0)])), (7, (vN l.length)), (8, (vN k))] _
  refine WC.seq ?_
  refine WC.region ?_
  refine WL.op rfl rfl (op_lssN rfl rfl ?_)
  refine WL.nil ?_
  refine WQ.next ?_
  refine WC.seq ?_
  refine WC.cond rfl (fun (hb2 : (decide (k < l.length)) = true) => ?_) (fun (hb2 : (decide (k < l.length)) = false) => ?_)
  ·
    have hc2 := of_decide_eq_true hb2
    refine WC.skip ?_
    refine WQ.next ?_
    refine WC.seq ?_
    refine WC.block ?_
    refine WC.seq ?_
    refine WC.region ?_
    refine WL.op rfl rfl (op_move rfl ?_)
    refine WL.op rfl rfl (op_assign rfl ?_)
    refine WL.nil ?_
    refine WQ.next ?_
    refine WC.seq ?_
    refine WC.region ?_
    refine WL.op rfl rfl (op_move rfl ?_)
    refine WL.op rfl rfl (op_move rfl ?_)
    refine WL.op rfl rfl (op_move rfl ?_)
    refine WL.op rfl rfl (op_indexAddr Try.underlying27 Fa.I50 rfl (H1.arr hA) rfl (by omega) ?_)
    refine WL.op rfl rfl (op_loadSP (vs := xtc (l.getD k Xt.zero)) rfl (Arr.atsF (H1.arr hA) (fun _ => rfl) (by decide) Xt.zero (by omega)) Try.underlying50 rfl Fa.I50 rfl ?_)
    refine WL.op rfl rfl (op_call (f := 47) rfl Fa.C47 rfl ((cov1_ok (l.getD k Xt.zero) n q _ (H1.cellsAtO (i := 0) rfl)).mono (fun e w3 hq => ?_)))
    obtain ⟨rfl, hf3⟩ := hq
    refine ⟨_, rfl, ?_⟩
    have H3 := H1.fr' hf3
    refine WL.nil ?_
    refine WQ.next ?_
    refine WC.cond rfl (fun (hb4 : (covX n (l.getD k Xt.zero)) = true) => ?_) (fun (hb4 : (covX n (l.getD k Xt.zero)) = false) => ?_)
    ·
      refine WC.seq ?_
      refine WC.region ?_
      refine WL.op rfl rfl (op_move rfl ?_)
      refine WL.op rfl rfl (op_assign rfl ?_)
      refine WL.nil ?_
      refine WQ.next ?_
      refine WC.ret ?_
      refine WQ.inRet ?_
      refine WQ.thenRet ?_
      refine WQ.thenRet ?_
      refine WQ.inRet ?_
      refine WQ.thenRet ?_
      refine WQ.out (.tmp rfl .nil) ?_
      exact ⟨by rw [fidx_yes (d := Xt.zero) (by omega) hok hb4]; rfl, H3.fr⟩
    ·
      refine WC.skip ?_
      refine WQ.inNormal ?_
      refine WQ.next ?_
      refine WC.region ?_
      refine WL.op rfl rfl (op_addN (b := 1) rfl rfl (by omega) ?_)
      refine WL.op rfl rfl (op_move rfl ?_)
      refine WL.nil ?_
      exact WQ.round (k + 1) ⟨⟨by omega, allPrev hok hb4⟩, H3⟩ ⟨rfl, rfl, rfl, rfl, trivial⟩ (by omega)
  ·
    have hc2 := of_decide_eq_false hb2
    refine WC.exit ?_
    refine WQ.thenExit ?_
    refine WQ.thenExit ?_
    refine WQ.inHere ?_
    refine WQ.next ?_
    refine WC.seq ?_
    refine WC.region ?_
    refine WL.op rfl rfl (op_assign rfl ?_)
    refine WL.nil ?_
    refine WQ.next ?_
    refine WC.ret ?_
    refine WQ.out (.tmp rfl .nil) ?_
    exact ⟨by rw [fidx_no (d := Xt.zero) (fun j hj => hok j (by omega))]; rfl, H1.fr⟩
set_option maxRecDepth 100000 in
theorem conX2_ok (lv : Value) (l : List Xt) (n : Nt) (q : Nat) (w : World) (hA : Arr w lv 2 l.length (List.flatMap xtc l)) (hQ : cellsAt w q [(vU8 n.kind), (vU32 n.n), (vU32 n.m)]) (hn : l.length < 2 ^ 47) :
    Calls Try.prog 32 #[lv, (.func (.func 47) #[] #[(ptr q 0)])] w (fun e w' => e = .returned (.bool (l.any (covX n))) ∧ Fr [] w w') := by
  refine enter (args := [lv, (.func (.func 47) #[] #[(ptr q 0)])]) Try.func32 rfl rfl ?_
  have H0 : Own [] w w [Ent.bo q [(vU8 n.kind), (vU32 n.n), (vU32 n.m)]] := ((Own.start w []).oldB hQ)
  refine WC.seq ?_
  refine WC.region ?_
  refine WL.op rfl rfl (op_assign rfl ?_)
  refine WL.nil ?_
  refine WQ.next ?_
  refine WC.seq ?_
  refine WC.region ?_
  refine WL.op rfl rfl (op_move rfl ?_)
  refine WL.op rfl rfl (op_move rfl ?_)
  refine WL.op rfl rfl (op_callF Fa.C48 rfl ((idxX2_ok _ l n q _ (H0.arr hA) (H0.cellsAtO (i := 0) rfl) (by omega)).mono (fun e w1 hq => ?_)))
  obtain ⟨rfl, hf1⟩ := hq
  refine ⟨_, rfl, ?_⟩
  have H1 := H0.fr' hf1
  refine WL.op rfl rfl (op_geqI (b := (0 : Int)) rfl rfl ?_)
  refine WL.op rfl rfl (op_assign rfl ?_)
  refine WL.nil ?_
  refine WQ.next ?_
  refine WC.ret ?_
  refine WQ.out (.tmp rfl .nil) ?_
  exact ⟨by rw [← fidx_any]; rfl, H1.fr⟩
set_option maxRecDepth 100000 in
theorem dcovers_ok (m : Mf) (ev pv : Value) (x : Nt) (w : World) (hE : Arr w ev 2 m.xs.length (List.flatMap xtc m.xs)) (hP : Arr w pv 1 m.ps.length (List.map vU16 m.ps)) (hn : m.xs.length < 2 ^ 45) (hm : m.ps.length < 2 ^ 45) :
    Calls Try.prog 31 #[(.agg #[(vU32 m.pg), ev, pv, (.bool m.con)]), (.agg #[(vU8 x.kind), (vU32 x.n), (vU32 x.m)])] w (fun e w' => e = .returned (.bool (covN m x)) ∧ Fr [] w w') := by
  refine enter (args := [(.agg #[(vU32 m.pg), ev, pv, (.bool m.con)]), (.agg #[(vU8 x.kind), (vU32 x.n), (vU32 x.m)])]) Try.func31 rfl rfl ?_
  have H0 : Own [] w w [] := Own.start w []
  refine WC.seq ?_
  refine WC.region ?_
  refine WL.op rfl rfl (op_box H0 rfl rfl (fun b1 w1 H1 => ?_))
  refine WL.op rfl rfl (op_box H1 rfl rfl (fun b2 w2 H2 => ?_))
  refine WL.op rfl rfl (op_assign rfl ?_)
  refine WL.nil ?_
  refine WQ.next ?_
  refine WC.seq ?_
  refine WC.seq ?_
  refine WC.region ?_
  refine WL.op rfl rfl (op_fieldAddr rfl Fa.F36_0 ?_)
  refine WL.op rfl rfl (op_load rfl (H2.cell (i := 1) rfl rfl) Try.underlying5 rfl ?_)
  refine WL.nil ?_
  refine WQ.next ?_
  refine WC.block ?_
  refine WC.seq ?_
  refine WC.region ?_
  refine WL.op rfl rfl (op_eqlU8 (b := 1) rfl rfl ?_)
  refine WL.op rfl rfl (op_assign rfl ?_)
  refine WL.nil ?_
  refine WQ.next ?_
  refine WC.cond rfl (fun (hb3 : (decide (x.kind = (1 : UInt8))) = true) => ?_) (fun (hb3 : (decide (x.kind = (1 : UInt8))) = false) => ?_)
  ·
    have hc3 := of_decide_eq_true hb3
    refine WC.seq ?_
    refine WC.region ?_
    refine WL.op rfl rfl (op_fieldAddr rfl Fa.F30_0 ?_)
    refine WL.op rfl rfl (op_load rfl (H2.cell (i := 0) rfl rfl) Try.underlying26 rfl ?_)
    refine WL.op rfl rfl (op_fieldAddr rfl Fa.F36_1 ?_)
    refine WL.op rfl rfl (op_load rfl (H2.cell (i := 1) rfl rfl) Try.underlying26 rfl ?_)
    refine WL.op rfl rfl (op_geqU32 rfl rfl ?_)
    refine WL.op rfl rfl (op_assign rfl ?_)
    refine WL.nil ?_
    refine WQ.next ?_
    refine WC.ret ?_
    refine WQ.inRet ?_
    refine WQ.thenRet ?_
    refine WQ.out (.tmp rfl .nil) ?_
    exact ⟨by (rw [covN, hb3]) <;> rfl, H2.fr⟩
  ·
    have hc3 := of_decide_eq_false hb3
    refine WC.seq ?_
    refine WC.region ?_
    refine WL.op rfl rfl (op_eqlU8 (b := 2) rfl rfl ?_)
    refine WL.op rfl rfl (op_assign rfl ?_)
    refine WL.nil ?_
    refine WQ.next ?_
    refine WC.cond rfl (fun (hb4 : (decide (x.kind = (2 : UInt8))) = true) => ?_) (fun (hb4 : (decide (x.kind = (2 : UInt8))) = false) => ?_)
    ·
      have hc4 := of_decide_eq_true hb4
      refine WC.seq ?_
      refine WC.region ?_
      refine WL.op rfl rfl (op_fieldAddr rfl Fa.F30_1 ?_)
      refine WL.op rfl rfl (op_load rfl (H2.cell (i := 0) rfl rfl) Try.underlying27 rfl ?_)
      refine WL.op rfl rfl (op_makeFunc rfl rfl ?_)
      refine WL.op rfl rfl (op_callF Fa.C32 rfl ((conX2_ok _ m.xs x b2 _ (H2.arr hE) (H2.cellsAt (i := 1) rfl) (by omega)).mono (fun e w5 hq => ?_)))
      obtain ⟨rfl, hf5⟩ := hq
      refine ⟨_, rfl, ?_⟩
      have H5 := H2.fr' hf5
      refine WL.op rfl rfl (op_assign rfl ?_)
      refine WL.nil ?_
      refine WQ.next ?_
      refine WC.ret ?_
      refine WQ.inRet ?_
      refine WQ.thenRet ?_
      refine WQ.out (.tmp rfl .nil) ?_
      exact ⟨by rw [covN_x hb3 hb4]; rfl, H5.fr⟩
    ·
      have hc4 := of_decide_eq_false hb4
      refine WC.seq ?_
      refine WC.region ?_
      refine WL.op rfl rfl (op_eqlU8 (b := 3) rfl rfl ?_)
      refine WL.op rfl rfl (op_assign rfl ?_)
      refine WL.nil ?_
      refine WQ.next ?_
      refine WC.cond rfl (fun (hb6 : (decide (x.kind = (3 : UInt8))) = true) => ?_) (fun (hb6 : (decide (x.kind = (3 : UInt8))) = false) => ?_)
      ·
        have hc6 := of_decide_eq_true hb6
        refine WC.seq ?_
        refine WC.region ?_
        refine WL.op rfl rfl (op_fieldAddr rfl Fa.F30_2 ?_)
        refine WL.op rfl rfl (op_load rfl (H2.cell (i := 0) rfl rfl) Try.underlying28 rfl ?_)
        refine WL.op rfl rfl (op_fieldAddr rfl Fa.F36_1 ?_)
        refine WL.op rfl rfl (op_load rfl (H2.cell (i := 1) rfl rfl) Try.underlying26 rfl ?_)
        refine WL.op rfl rfl (op_convU32U16 (hs := Try.underlying26) (hd := Try.underlying51) rfl ?_)
        refine WL.op rfl rfl (op_callF Fa.C38 rfl ((con16_ok _ m.ps (UInt16.ofNat x.n.toNat) _ (H2.arr hP) (by omega)).mono (fun e w7 hq => ?_)))
        obtain ⟨rfl, hf7⟩ := hq
        refine ⟨_, rfl, ?_⟩
        have H7 := H2.fr' hf7
        refine WL.op rfl rfl (op_assign rfl ?_)
        refine WL.nil ?_
        refine WQ.next ?_
        refine WC.ret ?_
        refine WQ.inRet ?_
        refine WQ.thenRet ?_
        refine WQ.out (.tmp rfl .nil) ?_
        exact ⟨by (rw [covN, hb3, hb4, hb6]) <;> rfl, H7.fr⟩
      ·
        have hc6 := of_decide_eq_false hb6
        refine WC.skip ?_
        refine WQ.inNormal ?_
        refine WQ.next ?_
        refine WC.seq ?_
        refine WC.region ?_
        refine WL.op rfl rfl (op_fieldAddr rfl Fa.F30_3 ?_)
        refine WL.op rfl rfl (op_load rfl (H2.cell (i := 0) rfl rfl) Try.underlying4 rfl ?_)
        refine WL.op rfl rfl (op_assign rfl ?_)
        refine WL.nil ?_
        refine WQ.next ?_
        refine WC.ret ?_
        refine WQ.out (.tmp rfl .nil) ?_
        exact ⟨by (rw [covN, hb3, hb4, hb6]) <;> rfl, H2.fr⟩
set_option maxRecDepth 100000 in
theorem cov2_ok (m : Mf) (ev pv : Value) (x : Nt) (q : Nat) (w : World) (hQ : cellsAt w q [(vU32 m.pg), ev, pv, (.bool m.con)]) (hE : Arr w ev 2 m.xs.length (List.flatMap xtc m.xs)) (hP : Arr w pv 1 m.ps.length (List.map vU16 m.ps)) (hn : m.xs.length < 2 ^ 45) (hm : m.ps.length < 2 ^ 45) :
    Calls Try.prog 30 #[(.agg #[(vU8 x.kind), (vU32 x.n), (vU32 x.m)]), (ptr q 0)] w (fun e w' => e = .returned (.bool (!covN m x)) ∧ Fr [] w w') := by
  refine enter (args := [(.agg #[(vU8 x.kind), (vU32 x.n), (vU32 x.m)]), (ptr q 0)]) Try.func30 rfl rfl ?_
  have H0 : Own [] w w [Ent.bo q [(vU32 m.pg), ev, pv, (.bool m.con)]] := ((Own.start w []).oldB hQ)
  refine WC.seq ?_
  refine WC.region ?_
  refine WL.op rfl rfl (op_box H0 rfl rfl (fun b1 w1 H1 => ?_))
  refine WL.op rfl rfl (op_assign rfl ?_)
  refine WL.nil ?_
  refine WQ.next ?_
  refine WC.seq ?_
  refine WC.region ?_
  refine WL.op rfl rfl (op_loadS (vs := [_, _, _, _]) rfl (H1.cellsO (i := 0) rfl rfl) Try.underlying30 rfl Fa.I30 rfl ?_)
  refine WL.op rfl rfl (op_loadS (vs := [_, _, _]) rfl (H1.cells (i := 1) rfl rfl) Try.underlying36 rfl Fa.I36 rfl ?_)
  refine WL.op rfl rfl (op_callF Fa.C31 rfl ((dcovers_ok m _ _ x _ (H1.arr hE) (H1.arr hP) (by omega) (by omega)).mono (fun e w2 hq => ?_)))
  obtain ⟨rfl, hf2⟩ := hq
  refine ⟨_, rfl, ?_⟩
  have H2 := H1.fr' hf2
  refine WL.op rfl rfl (op_not rfl ?_)
  refine WL.op rfl rfl (op_assign rfl ?_)
  refine WL.nil ?_
  refine WQ.next ?_
  refine WC.ret ?_
  refine WQ.out (.tmp rfl .nil) ?_
  exact ⟨rfl, H2.fr⟩
set_option maxRecDepth 100000 in
theorem idxN2_ok (lv : Value) (l : List Nt) (m : Mf) (ev pv : Value) (q : Nat) (w : World) (hA : Arr w lv 3 l.length (List.flatMap ntc l)) (hQ : cellsAt w q [(vU32 m.pg), ev, pv, (.bool m.con)]) (hE : Arr w ev 2 m.xs.length (List.flatMap xtc m.xs)) (hP : Arr w pv 1 m.ps.length (List.map vU16 m.ps)) (hn : m.xs.length < 2 ^ 45) (hm : m.ps.length < 2 ^ 45) (hl : l.length < 2 ^ 47) :
    Calls Try.prog 46 #[lv, (.func (.func 30) #[] #[(ptr q 0)])] w (fun e w' => e = .returned (vI (fidx (fun n => !covN m n) l)) ∧ Fr [] w w') := by
  refine enter (args := [lv, (.func (.func 30) #[] #[(ptr q 0)])]) Try.func46 rfl rfl ?_
  have H0 : Own [] w w [Ent.bo q [(vU32 m.pg), ev, pv, (.bool m.con)]] := ((Own.start w []).oldB hQ)
  refine WC.seq ?_
  refine WC.region ?_
  refine WL.op rfl rfl (op_assign rfl ?_)
  refine WL.nil ?_
  refine WQ.next ?_
  refine WC.seq ?_
  refine WC.seq ?_
  refine WC.region ?_
  refine WL.op rfl rfl (op_move rfl ?_)
  refine WL.op rfl rfl (op_lenA Try.underlying22 rfl (H0.arr hA) ?_)
  refine WL.op rfl rfl (op_move rfl ?_)
  refine WL.nil ?_
  refine WQ.next ?_
  refine WC.block ?_
  refine WC.loop (α := Nat) (fun k => [(0, lv), (1, (.func (.func 30) #[] #[(ptr q 0)])), (7, (vN l.length)), (8, (vN k))]) (fun k w' => (k ≤ l.length ∧ (∀ j, j < k → (fun n => !covN m n) (l.getD j Nt.zero) = false)) ∧ Own [] w w' [Ent.bo q [(vU32 m.pg), ev, pv, (.bool m.con)]]) (fun k => l.length - k) 0 ⟨⟨Nat.zero_le _, fun j h => by omega⟩, H0⟩ ⟨rfl, rfl, rfl, rfl, trivial⟩ ?_
  rintro k w1 ⟨⟨hk1, hok⟩, H1⟩
  show WC _ _ _ _ _ [(0, lv), (1, (.func (.func 30) #[] #[(ptr q 0)])), (7, (vN l.length)), (8, (vN k))] _
  refine WC.seq ?_
  refine WC.region ?_
  refine WL.op rfl rfl (op_lssN rfl rfl ?_)
  refine WL.nil ?_
  refine WQ.next ?_
  refine WC.seq ?_
  refine WC.cond rfl (fun (hb2 : (decide (k < l.length)) = true) => ?_) (fun (hb2 : (decide (k < l.length)) = false) => ?_)
  ·
    have hc2 := of_decide_eq_true hb2
    refine WC.skip ?_
    refine WQ.next ?_
    refine WC.seq ?_
    refine WC.block ?_
    refine WC.seq ?_
    refine WC.region ?_
    refine WL.op rfl rfl (op_move rfl ?_)
    refine WL.op rfl rfl (op_assign rfl ?_)
    refine WL.nil ?_
    refine WQ.next ?_
    refine WC.seq ?_
    refine WC.region ?_
    refine WL.op rfl rfl (op_move rfl ?_)
    refine WL.op rfl rfl (op_move rfl ?_)
    refine WL.op rfl rfl (op_move rfl ?_)
    refine WL.op rfl rfl (op_indexAddr Try.underlying22 Fa.I36 rfl (H1.arr hA) rfl (by omega) ?_)
    refine WL.op rfl rfl (op_loadSP (vs := ntc (l.getD k Nt.zero)) rfl (Arr.atsF (H1.arr hA) (fun _ => rfl) (by decide) Nt.zero (by omega)) Try.underlying36 rfl Fa.I36 rfl ?_)
    refine WL.op rfl rfl (op_call (f := 30) rfl Fa.C30 rfl ((cov2_ok m _ _ (l.getD k Nt.zero) q _ (H1.cellsAtO (i := 0) rfl) (H1.arr hE) (H1.arr hP) (by omega) (by omega)).mono (fun e w3 hq => ?_)))
    obtain ⟨rfl, hf3⟩ := hq
    refine ⟨_, rfl, ?_⟩
    have H3 := H1.fr' hf3
    refine WL.nil ?_
    refine WQ.next ?_
    refine WC.cond rfl (fun (hb4 : (!covN m (l.getD k Nt.zero)) = true) => ?_) (fun (hb4 : (!covN m (l.getD k Nt.zero)) = false) => ?_)
    ·
      have hn4 := (Bool.not_eq_true' _).mp hb4
      refine WC.seq ?_
      refine WC.region ?_
      refine WL.op rfl rfl (op_move rfl ?_)
      refine WL.op rfl rfl (op_assign rfl ?_)
      refine WL.nil ?_
      refine WQ.next ?_
      refine WC.ret ?_
      refine WQ.inRet ?_
      refine WQ.thenRet ?_
      refine WQ.thenRet ?_
      refine WQ.inRet ?_
      refine WQ.thenRet ?_
      refine WQ.out (.tmp rfl .nil) ?_
      exact ⟨by rw [fidx_yes (d := Nt.zero) (by omega) hok hb4]; rfl, H3.fr⟩
    ·
      have hn4 := (Bool.not_eq_false' _).mp hb4
      refine WC.skip ?_
      refine WQ.inNormal ?_
      refine WQ.next ?_
      refine WC.region ?_
      refine WL.op rfl rfl (op_addN (b := 1) rfl rfl (by omega) ?_)
      refine WL.op rfl rfl (op_move rfl ?_)
      refine WL.nil ?_
      exact WQ.round (k + 1) ⟨⟨by omega, allPrev hok hb4⟩, H3⟩ ⟨rfl, rfl, rfl, rfl, trivial⟩ (by omega)
  ·
    have hc2 := of_decide_eq_false hb2
    refine WC.exit ?_
    refine WQ.thenExit ?_
    refine WQ.thenExit ?_
    refine WQ.inHere ?_
    refine WQ.next ?_
    refine WC.seq ?_
    refine WC.region ?_
    refine WL.op rfl rfl (op_assign rfl ?_)
    refine WL.nil ?_
    refine WQ.next ?_
    refine WC.ret ?_
    refine WQ.out (.tmp rfl .nil) ?_
    exact ⟨by rw [fidx_no (d := Nt.zero) (fun j hj => hok j (by omega))]; rfl, H1.fr⟩
set_option maxRecDepth 100000 in
theorem conN2_ok (lv : Value) (l : List Nt) (m : Mf) (ev pv : Value) (q : Nat) (w : World) (hA : Arr w lv 3 l.length (List.flatMap ntc l)) (hQ : cellsAt w q [(vU32 m.pg), ev, pv, (.bool m.con)]) (hE : Arr w ev 2 m.xs.length (List.flatMap xtc m.xs)) (hP : Arr w pv 1 m.ps.length (List.map vU16 m.ps)) (hn : m.xs.length < 2 ^ 45) (hm : m.ps.length < 2 ^ 45) (hl : l.length < 2 ^ 47) :
    Calls Try.prog 29 #[lv, (.func (.func 30) #[] #[(ptr q 0)])] w (fun e w' => e = .returned (.bool (l.any fun n => !covN m n)) ∧ Fr [] w w') := by
  refine enter (args := [lv, (.func (.func 30) #[] #[(ptr q 0)])]) Try.func29 rfl rfl ?_
  have H0 : Own [] w w [Ent.bo q [(vU32 m.pg), ev, pv, (.bool m.con)]] := ((Own.start w []).oldB hQ)
  refine WC.seq ?_
  refine WC.region ?_
  refine WL.op rfl rfl (op_assign rfl ?_)
  refine WL.nil ?_
  refine WQ.next ?_
  refine WC.seq ?_
  refine WC.region ?_
  refine WL.op rfl rfl (op_move rfl ?_)
  refine WL.op rfl rfl (op_move rfl ?_)
  refine WL.op rfl rfl (op_callF Fa.C46 rfl ((idxN2_ok _ l m _ _ q _ (H0.arr hA) (H0.cellsAtO (i := 0) rfl) (H0.arr hE) (H0.arr hP) (by omega) (by omega) (by omega)).mono (fun e w1 hq => ?_)))
  obtain ⟨rfl, hf1⟩ := hq
  refine ⟨_, rfl, ?_⟩
  have H1 := H0.fr' hf1
  refine WL.op rfl rfl (op_geqI (b := (0 : Int)) rfl rfl ?_)
  refine WL.op rfl rfl (op_assign rfl ?_)
  refine WL.nil ?_
  refine WQ.next ?_
  refine WC.ret ?_
  refine WQ.out (.tmp rfl .nil) ?_
  exact ⟨by rw [← fidx_any]; rfl, H1.fr⟩
end Go.Proofs.Ytnngbnenekjffaa
/-! from EDem8 -/
namespace Go.Proofs.Ytnngbnenekjffaa
open Go.Owl Go.Spec
set_option maxRecDepth 100000 in
theorem dnote_ok (m : Mf) (ev pv : Value) (x : Nt) (w : World) (hE : Arr w ev 2 m.xs.length (List.flatMap xtc m.xs)) (hP : Arr w pv 1 m.ps.length (List.map vU16 m.ps)) (hn : m.xs.length < 2 ^ 45) (hm : m.ps.length < 2 ^ 45) :
    Calls Try.prog 18 #[(.agg #[(vU32 m.pg), ev, pv, (.bool m.con)]), (.agg #[(vU8 x.kind), (vU32 x.n), (vU32 x.m)])] w (fun e w' => e = .returned (.bool (rNote m x)) ∧ Fr [] w w') := by
  refine enter (args := [(.agg #[(vU32 m.pg), ev, pv, (.bool m.con)]), (.agg #[(vU8 x.kind), (vU32 x.n), (vU32 x.m)])]) Try.func18 rfl rfl ?_
  have H0 : Own [] w w [] := Own.start w []
  refine WC.seq ?_
  refine WC.region ?_
  refine WL.op rfl rfl (op_box H0 rfl rfl (fun b1 w1 H1 => ?_))
  refine WL.op rfl rfl (op_box H1 rfl rfl (fun b2 w2 H2 => ?_))
  refine WL.op rfl rfl (op_assign rfl ?_)
  refine WL.nil ?_
  refine WQ.next ?_
  refine WC.seq ?_
  refine WC.region ?_
  refine WL.op rfl rfl (op_loadS (vs := [_, _, _, _]) rfl (H2.cells (i := 0) rfl rfl) Try.underlying30 rfl Fa.I30 rfl ?_)
  refine WL.op rfl rfl (op_callF Fa.C15 rfl ((dcheck_ok m.pg _ _ m.xs m.ps m.con _ (H2.arr hE) (H2.arr hP) (by omega) (by omega)).mono (fun e w3 hq => ?_)))
  obtain ⟨rfl, hf3⟩ := hq
  refine ⟨_, rfl, ?_⟩
  have H3 := H2.fr' hf3
  refine WL.op rfl rfl (op_eqlN (b := 0) rfl rfl ?_)
  refine WL.op rfl rfl (op_move rfl ?_)
  refine WL.split (t := 8) rfl (fun (hb4 : (decide ((mfE m.pg m.xs m.ps) = 0)) = true) => ?_) (fun (hb4 : (decide ((mfE m.pg m.xs m.ps) = 0)) = false) => ?_)
  ·
    have hc4 := of_decide_eq_true hb4
    refine WL.yes rfl rfl rfl hb4 rfl (op_loadS (vs := [_, _, _]) rfl (H3.cells (i := 1) rfl rfl) Try.underlying36 rfl Fa.I36 rfl ?_)
    refine WL.yes rfl rfl rfl hb4 rfl (op_callF Fa.C24 rfl ((onote_ok x _).mono (fun e w5 hq => ?_)))
    obtain ⟨rfl, hf5⟩ := hq
    refine ⟨_, rfl, ?_⟩
    have H5 := H3.fr' hf5
    refine WL.yes rfl rfl rfl hb4 rfl (op_eqlN (b := 0) rfl rfl ?_)
    refine WL.op rfl rfl (op_pickT rfl hb4 rfl ?_)
    refine WL.op rfl rfl (op_move rfl ?_)
    refine WL.split (t := 13) rfl (fun (hb6 : (decide ((noteE x) = 0)) = true) => ?_) (fun (hb6 : (decide ((noteE x) = 0)) = false) => ?_)
    ·
      have hc6 := of_decide_eq_true hb6
      refine WL.yes rfl rfl rfl hb6 rfl (op_loadS (vs := [_, _, _, _]) rfl (H5.cells (i := 0) rfl rfl) Try.underlying30 rfl Fa.I30 rfl ?_)
      refine WL.yes rfl rfl rfl hb6 rfl (op_loadS (vs := [_, _, _]) rfl (H5.cells (i := 1) rfl rfl) Try.underlying36 rfl Fa.I36 rfl ?_)
      refine WL.yes rfl rfl rfl hb6 rfl (op_callF Fa.C31 rfl ((dcovers_ok m _ _ x _ (H5.arr hE) (H5.arr hP) (by omega) (by omega)).mono (fun e w7 hq => ?_)))
      obtain ⟨rfl, hf7⟩ := hq
      refine ⟨_, rfl, ?_⟩
      have H7 := H5.fr' hf7
      refine WL.op rfl rfl (op_pickT rfl hb6 rfl ?_)
      refine WL.op rfl rfl (op_assign rfl ?_)
      refine WL.nil ?_
      refine WQ.next ?_
      refine WC.ret ?_
      refine WQ.out (.tmp rfl .nil) ?_
      exact ⟨by (rw [rNote, ← mfE_dec, ← noteE_dec, hb4, hb6]) <;> rfl, H7.fr⟩
    ·
      have hc6 := of_decide_eq_false hb6
      refine WL.no rfl rfl rfl hb6 rfl ?_
      refine WL.no rfl rfl rfl hb6 rfl ?_
      refine WL.no rfl rfl rfl hb6 rfl ?_
      refine WL.op rfl rfl (op_pickF rfl hb6 rfl ?_)
      refine WL.op rfl rfl (op_assign rfl ?_)
      refine WL.nil ?_
      refine WQ.next ?_
      refine WC.ret ?_
      refine WQ.out (.tmp rfl .nil) ?_
      exact ⟨by (rw [rNote, ← mfE_dec, ← noteE_dec, hb4, hb6]) <;> rfl, H5.fr⟩
  ·
    have hc4 := of_decide_eq_false hb4
    refine WL.no rfl rfl rfl hb4 rfl ?_
    refine WL.no rfl rfl rfl hb4 rfl ?_
    refine WL.no rfl rfl rfl hb4 rfl ?_
    refine WL.op rfl rfl (op_pickF rfl hb4 rfl ?_)
    refine WL.op rfl rfl (op_move rfl ?_)
    refine WL.no rfl rfl rfl rfl rfl ?_
    refine WL.no rfl rfl rfl rfl rfl ?_
    refine WL.no rfl rfl rfl rfl rfl ?_
    refine WL.op rfl rfl (op_pickF rfl rfl rfl ?_)
    refine WL.op rfl rfl (op_assign rfl ?_)
    refine WL.nil ?_
    refine WQ.next ?_
    refine WC.ret ?_
    refine WQ.out (.tmp rfl .nil) ?_
    exact ⟨by (rw [rNote, ← mfE_dec, ← noteE_dec, hb4]) <;> rfl, H3.fr⟩
set_option maxRecDepth 100000 in
theorem dcov_ok (m m' : Mf) (ev pv ev' pv' : Value) (w : World) (hE : Arr w ev 2 m.xs.length (List.flatMap xtc m.xs)) (hP : Arr w pv 1 m.ps.length (List.map vU16 m.ps)) (hF : Arr w ev' 2 m'.xs.length (List.flatMap xtc m'.xs)) (hQ : Arr w pv' 1 m'.ps.length (List.map vU16 m'.ps)) (hn : m.xs.length < 2 ^ 42) (hm : m.ps.length < 2 ^ 42) (hn' : m'.xs.length < 2 ^ 42) (hm' : m'.ps.length < 2 ^ 42) :
    Calls Try.prog 14 #[(.agg #[(vU32 m.pg), ev, pv, (.bool m.con)]), (.agg #[(vU32 m'.pg), ev', pv', (.bool m'.con)])] w (fun e w' => e = .returned (.bool (covM m m')) ∧ Fr [] w w') := by
  refine enter (args := [(.agg #[(vU32 m.pg), ev, pv, (.bool m.con)]), (.agg #[(vU32 m'.pg), ev', pv', (.bool m'.con)])]) Try.func14 rfl rfl ?_
  have H0 : Own [] w w [] := Own.start w []
  refine WC.seq ?_
  refine WC.region ?_
  refine WL.op rfl rfl (op_box H0 rfl rfl (fun b1 w1 H1 => ?_))
  refine WL.op rfl rfl (op_box H1 rfl rfl (fun b2 w2 H2 => ?_))
  refine WL.op rfl rfl (op_assign rfl ?_)
  refine WL.nil ?_
  refine WQ.next ?_
  refine WC.seq ?_
  refine WC.region ?_
  refine WL.op rfl rfl (op_loadS (vs := [_, _, _, _]) rfl (H2.cells (i := 0) rfl rfl) Try.underlying30 rfl Fa.I30 rfl ?_)
  refine WL.op rfl rfl (op_callF Fa.C15 rfl ((dcheck_ok m.pg _ _ m.xs m.ps m.con _ (H2.arr hE) (H2.arr hP) (by omega) (by omega)).mono (fun e w3 hq => ?_)))
  obtain ⟨rfl, hf3⟩ := hq
  refine ⟨_, rfl, ?_⟩
  have H3 := H2.fr' hf3
  refine WL.op rfl rfl (op_eqlN (b := 0) rfl rfl ?_)
  refine WL.op rfl rfl (op_move rfl ?_)
  refine WL.split (t := 8) rfl (fun (hb4 : (decide ((mfE m.pg m.xs m.ps) = 0)) = true) => ?_) (fun (hb4 : (decide ((mfE m.pg m.xs m.ps) = 0)) = false) => ?_)
  ·
    have hc4 := of_decide_eq_true hb4
    refine WL.yes rfl rfl rfl hb4 rfl (op_loadS (vs := [_, _, _, _]) rfl (H3.cells (i := 1) rfl rfl) Try.underlying30 rfl Fa.I30 rfl ?_)
    refine WL.yes rfl rfl rfl hb4 rfl (op_callF Fa.C15 rfl ((dcheck_ok m'.pg _ _ m'.xs m'.ps m'.con _ (H3.arr hF) (H3.arr hQ) (by omega) (by omega)).mono (fun e w5 hq => ?_)))
    obtain ⟨rfl, hf5⟩ := hq
    refine ⟨_, rfl, ?_⟩
    have H5 := H3.fr' hf5
    refine WL.yes rfl rfl rfl hb4 rfl (op_eqlN (b := 0) rfl rfl ?_)
    refine WL.op rfl rfl (op_pickT rfl hb4 rfl ?_)
    refine WL.op rfl rfl (op_move rfl ?_)
    refine WL.split (t := 13) rfl (fun (hb6 : (decide ((mfE m'.pg m'.xs m'.ps) = 0)) = true) => ?_) (fun (hb6 : (decide ((mfE m'.pg m'.xs m'.ps) = 0)) = false) => ?_)
    ·
      have hc6 := of_decide_eq_true hb6
      refine WL.yes rfl rfl rfl hb6 rfl (op_loadS (vs := [_, _, _, _]) rfl (H5.cells (i := 1) rfl rfl) Try.underlying30 rfl Fa.I30 rfl ?_)
      refine WL.yes rfl rfl rfl hb6 rfl (op_callF Fa.C22 rfl ((dnotes_ok m' _ _ _ (H5.arr hF) (H5.arr hQ) (by omega) (by omega)).mono (fun e w7 hq => ?_)))
      obtain ⟨v7, rfl, hq7⟩ := hq
      refine ⟨_, rfl, ?_⟩
      have H7 : Own [] w w7 [.blk b1 [(vU32 m.pg), ev, pv, (.bool m.con)] 30, .blk b2 [(vU32 m'.pg), ev', pv', (.bool m'.con)] 30, .row v7 36 3 (notesM m').length (List.flatMap ntc (notesM m'))] := H5.splice [] [] [.row v7 36 3 (notesM m').length (List.flatMap ntc (notesM m'))] rfl rfl hq7 (Fits.solid True.intro Fits.nil)
      refine WL.yes rfl rfl rfl hb6 rfl (op_makeFunc rfl rfl ?_)
      refine WL.yes rfl rfl rfl hb6 rfl (op_callF Fa.C29 rfl ((conN2_ok _ (notesM m') m _ _ b1 _ (H7.arrR (i := 2) rfl) (H7.cellsAt (i := 0) rfl) (H7.arr hE) (H7.arr hP) (by omega) (by omega) (by have h := nP_len (m := m') m'.ps.length; have h2 := notesM_len (m := m'); omega)).mono (fun e w8 hq => ?_)))
      obtain ⟨rfl, hf8⟩ := hq
      refine ⟨_, rfl, ?_⟩
      have H8 := H7.fr' hf8
      refine WL.yes rfl rfl rfl hb6 rfl (op_not rfl ?_)
      refine WL.op rfl rfl (op_pickT rfl hb6 rfl ?_)
      refine WL.op rfl rfl (op_assign rfl ?_)
      refine WL.nil ?_
      refine WQ.next ?_
      refine WC.ret ?_
      refine WQ.out (.tmp rfl .nil) ?_
      exact ⟨by (rw [covM, ← mfE_dec (m := m), ← mfE_dec (m := m'), hb4, hb6]) <;> rfl, H8.fr⟩
    ·
      have hc6 := of_decide_eq_false hb6
      refine WL.no rfl rfl rfl hb6 rfl ?_
      refine WL.no rfl rfl rfl hb6 rfl ?_
      refine WL.no rfl rfl rfl hb6 rfl ?_
      refine WL.no rfl rfl rfl hb6 rfl ?_
      refine WL.no rfl rfl rfl hb6 rfl ?_
      refine WL.op rfl rfl (op_pickF rfl hb6 rfl ?_)
      refine WL.op rfl rfl (op_assign rfl ?_)
      refine WL.nil ?_
      refine WQ.next ?_
      refine WC.ret ?_
      refine WQ.out (.tmp rfl .nil) ?_
      exact ⟨by (rw [covM, ← mfE_dec (m := m), ← mfE_dec (m := m'), hb4, hb6]) <;> rfl, H5.fr⟩
  ·
    have hc4 := of_decide_eq_false hb4
    refine WL.no rfl rfl rfl hb4 rfl ?_
    refine WL.no rfl rfl rfl hb4 rfl ?_
    refine WL.no rfl rfl rfl hb4 rfl ?_
    refine WL.op rfl rfl (op_pickF rfl hb4 rfl ?_)
    refine WL.op rfl rfl (op_move rfl ?_)
    refine WL.no rfl rfl rfl rfl rfl ?_
    refine WL.no rfl rfl rfl rfl rfl ?_
    refine WL.no rfl rfl rfl rfl rfl ?_
    refine WL.no rfl rfl rfl rfl rfl ?_
    refine WL.no rfl rfl rfl rfl rfl ?_
    refine WL.op rfl rfl (op_pickF rfl rfl rfl ?_)
    refine WL.op rfl rfl (op_assign rfl ?_)
    refine WL.nil ?_
    refine WQ.next ?_
    refine WC.ret ?_
    refine WQ.out (.tmp rfl .nil) ?_
    exact ⟨by (rw [covM, ← mfE_dec (m := m), ← mfE_dec (m := m'), hb4]) <;> rfl, H3.fr⟩
set_option maxHeartbeats 1000000 in
set_option maxRecDepth 100000 in
theorem dun_ok (lv : Value) (ms : List Mm) (w : World) (hA : Arr w lv 4 ms.length (List.flatMap mmc ms)) (hI : MmD.list.ok w ms) (hl : ms.length ≤ 600) (hfx : ∀ x ∈ ms, x.xs.length ≤ 2 ^ 46) (hfp : ∀ x ∈ ms, x.ps.length ≤ 2 ^ 46) :
    Calls Try.prog 11 #[lv] w (fun e w' => ∃ v u, e = .returned (.tuple #[.agg #[vU32 (unM (ms.map Mm.f)).pg, v, u, .bool (unM (ms.map Mm.f)).con], vN (unE (ms.map Mm.f))]) ∧ Own [] w w' [.row v 50 2 ((unM (ms.map Mm.f)).xs).length (List.flatMap xtc (unM (ms.map Mm.f)).xs), .row u 51 1 ((unM (ms.map Mm.f)).ps).length (List.map vU16 (unM (ms.map Mm.f)).ps)]) := by
  refine enter (args := [lv]) Try.func11 rfl rfl ?_
  have H0 : Own [] w w [] := Own.start w []
  refine WC.seq ?_
  refine WC.region ?_
  refine WL.op rfl rfl (op_alloc H0 Fa.I30 (fun b1 w1 H1 => ?_))
  refine WL.op rfl rfl (op_assign rfl ?_)
  refine WL.nil ?_
  refine WQ.next ?_
  refine WC.seq ?_
  refine WC.region ?_
  refine WL.op rfl rfl (op_assign rfl ?_)
  have H2 := H1.nilRow 36 3
  refine WL.nil ?_
  refine WQ.next ?_
  refine WC.seq ?_
  refine WC.seq ?_
  refine WC.region ?_
  refine WL.op rfl rfl (op_move rfl ?_)
  refine WL.op rfl rfl (op_lenA Try.underlying23 rfl (H2.arr hA) ?_)
  refine WL.op rfl rfl (op_move rfl ?_)
  refine WL.nil ?_
  refine WQ.next ?_
  refine WC.block ?_
  refine WC.loop (α := Nat × Value) (fun (k, v) => [(0, lv), (2, (ptr b1 0)), (4, v), (8, lv), (9, (vN ms.length)), (10, (vN k))]) (fun (k, v) w' => (k ≤ ms.length ∧ (∀ j, j < k → (ms.getD j Mm.zero).f.may = true)) ∧ Own [] w w' [.blk b1 [(vU32 0), (.slice none 0 0), (.slice none 0 0), (.bool false)] 30, .row v 36 3 (unL ms k).length (List.flatMap ntc (unL ms k))]) (fun (k, v) => ms.length - k) (0, .slice none 0 0) ⟨⟨Nat.zero_le _, fun j h => by omega⟩, H2⟩ ⟨rfl, rfl, rfl, rfl, rfl, rfl, trivial⟩ ?_
  rintro ⟨k, v⟩ w3 ⟨⟨hk1, hok⟩, H3⟩
  show WC _ _ _ _ _ [(0, lv), (2, (ptr b1 0)), (4, v), (8, lv), (9, (vN ms.length)), (10, (vN k))] _
  have hul := unL_len hok
  have hgx := get_prop (p := fun x : Mm => x.xs.length ≤ 2 ^ 46) (d := Mm.zero) hfx (Nat.zero_le _) k
  have hgp := get_prop (p := fun x : Mm => x.ps.length ≤ 2 ^ 46) (d := Mm.zero) hfp (Nat.zero_le _) k
  refine WC.seq ?_
  refine WC.region ?_
  refine WL.op rfl rfl (op_lssN rfl rfl ?_)
  refine WL.nil ?_
  refine WQ.next ?_
  refine WC.seq ?_
  refine WC.cond rfl (fun (hb4 : (decide (k < ms.length)) = true) => ?_) (fun (hb4 : (decide (k < ms.length)) = false) => ?_)
  ·
    have hc4 := of_decide_eq_true hb4
    refine WC.skip ?_
    refine WQ.next ?_
    refine WC.seq ?_
    refine WC.block ?_
    refine WC.seq ?_
    refine WC.region ?_
    refine WL.op rfl rfl (op_indexAddr Try.underlying23 Fa.I30 rfl (H3.arr hA) rfl (by omega) ?_)
    refine WL.op rfl rfl (op_loadSP (vs := mmc (ms.getD k Mm.zero)) rfl (Arr.atsF (H3.arr hA) (fun _ => rfl) (by decide) Mm.zero (by omega)) Try.underlying30 rfl Fa.I30 rfl ?_)
    refine WL.op rfl rfl (op_alloc H3 Fa.I30 (fun b5 w5 H5 => ?_))
    refine WL.op rfl rfl (op_storeBW (i := 2) H5 rfl rfl rfl rfl (one_cons rfl (one_cons (Arr.one ((MmD_xs (Deep.getD MmD (MmD.list.fr0 hI H5.fr) Mm.zero (MmD_zero _) k)))) (one_cons (Arr.one ((MmD_ps (Deep.getD MmD (MmD.list.fr0 hI H5.fr) Mm.zero (MmD_zero _) k)))) (one_cons rfl one_nil)))) Fa.I30 (fun w6 H6 => ?_))
    refine WL.nil ?_
    refine WQ.next ?_
    refine WC.seq ?_
    refine WC.seq ?_
    refine WC.region ?_
    refine WL.op rfl rfl (op_loadS (vs := [_, _, _, _]) rfl (H6.cells (i := 2) rfl rfl) Try.underlying30 rfl Fa.I30 rfl ?_)
    refine WL.op rfl rfl (op_callF Fa.C15 rfl ((dcheck_ok ((ms.getD k Mm.zero).pg) _ _ ((ms.getD k Mm.zero).xs) ((ms.getD k Mm.zero).ps) ((ms.getD k Mm.zero).con) _ ((MmD_xs (Deep.getD MmD (MmD.list.fr0 hI H6.fr) Mm.zero (MmD_zero _) k))) ((MmD_ps (Deep.getD MmD (MmD.list.fr0 hI H6.fr) Mm.zero (MmD_zero _) k))) (by omega) (by omega)).mono (fun e w7 hq => ?_)))
    obtain ⟨rfl, hf7⟩ := hq
    refine ⟨_, rfl, ?_⟩
    have H7 := H6.fr' hf7
    refine WL.op rfl rfl (op_assign rfl ?_)
    refine WL.nil ?_
    refine WQ.next ?_
    refine WC.seq ?_
    refine WC.region ?_
    refine WL.op rfl rfl (op_move rfl ?_)
    refine WL.op rfl rfl (op_neqN (b := 0) rfl rfl ?_)
    refine WL.nil ?_
    refine WQ.next ?_
    refine WC.cond rfl (fun (hb8 : (decide ((mfE ((ms.getD k Mm.zero).pg) ((ms.getD k Mm.zero).xs) ((ms.getD k Mm.zero).ps)) ≠ 0)) = true) => ?_) (fun (hb8 : (decide ((mfE ((ms.getD k Mm.zero).pg) ((ms.getD k Mm.zero).xs) ((ms.getD k Mm.zero).ps)) ≠ 0)) = false) => ?_)
    ·
      have hc8 := of_decide_eq_true hb8
      refine WC.seq ?_
      refine WC.region ?_
      refine WL.op rfl rfl (op_build (cs := [_, _, _, _]) Fa.I30 Fa.PL30 rfl rfl ?_)
      refine WL.op rfl rfl (op_move rfl ?_)
      refine WL.op rfl rfl (op_storeBW (i := 0) H7 rfl rfl rfl rfl rfl Fa.I30 (fun w9 H9 => ?_))
      refine WL.op rfl rfl (op_assign rfl ?_)
      refine WL.nil ?_
      refine WQ.next ?_
      refine WC.ret ?_
      refine WQ.thenRet ?_
      refine WQ.inRet ?_
      refine WQ.thenRet ?_
      refine WQ.thenRet ?_
      refine WQ.inRet ?_
      refine WQ.thenRet ?_
      refine WQ.out (.cell rfl (run_loadVarS (vs := [_, _, _, _]) (H9.cells (i := 0) rfl rfl) Try.underlying30 rfl Fa.I30 rfl) (.tmp rfl .nil)) ?_
      have hnm := mfE_not (m := (ms.getD k Mm.zero).f) hb8
      have hub := un_bad (k := k) (by omega) hnm.1
      rw [hub.1, hub.2, show mfE (ms.getD k Mm.zero).pg (ms.getD k Mm.zero).xs (ms.getD k Mm.zero).ps = 2 from hnm.2]
      exact ⟨_, _, rfl, ((H9.nilRow 50 2).nilRow 51 1).sel [3, 4] rfl rfl⟩
    ·
      have hc8 := of_decide_eq_false hb8
      refine WC.skip ?_
      refine WQ.next ?_
      refine WC.region ?_
      refine WL.op rfl rfl (op_move rfl ?_)
      have hml : (ms.getD k Mm.zero).f.xs.length ≤ 16 ∧ (ms.getD k Mm.zero).f.ps.length ≤ 16 := may_len (m := (ms.getD k Mm.zero).f) (mfE_may (m := (ms.getD k Mm.zero).f) hb8)
      have hnl : (notesM (ms.getD k Mm.zero).f).length ≤ 34 := by rw [notes_may (mfE_may (m := (ms.getD k Mm.zero).f) hb8)]; exact notes_len (mfE_may (m := (ms.getD k Mm.zero).f) hb8)
      refine WL.op rfl rfl (op_loadS (vs := [_, _, _, _]) rfl (H7.cells (i := 2) rfl rfl) Try.underlying30 rfl Fa.I30 rfl ?_)
      refine WL.op rfl rfl (op_callF Fa.C22 rfl ((dnotes_ok (ms.getD k Mm.zero).f _ _ _ ((MmD_xs (Deep.getD MmD (MmD.list.fr0 hI H7.fr) Mm.zero (MmD_zero _) k))) ((MmD_ps (Deep.getD MmD (MmD.list.fr0 hI H7.fr) Mm.zero (MmD_zero _) k))) (by omega) (by omega)).mono (fun e w10 hq => ?_)))
      obtain ⟨v10, rfl, hq10⟩ := hq
      refine ⟨_, rfl, ?_⟩
      have H10 : Own [] w w10 [.blk b1 [(vU32 0), (.slice none 0 0), (.slice none 0 0), (.bool false)] 30, .row v 36 3 (unL ms k).length (List.flatMap ntc (unL ms k)), .blk b5 [(vU32 (ms.getD k Mm.zero).pg), (ms.getD k Mm.zero).ev, (ms.getD k Mm.zero).pv, (.bool (ms.getD k Mm.zero).con)] 30, .row v10 36 3 (notesM (ms.getD k Mm.zero).f).length (List.flatMap ntc (notesM (ms.getD k Mm.zero).f))] := H7.splice [] [] [.row v10 36 3 (notesM (ms.getD k Mm.zero).f).length (List.flatMap ntc (notesM (ms.getD k Mm.zero).f))] rfl rfl hq10 (Fits.solid True.intro Fits.nil)
      refine WL.op rfl rfl (op_appendF (f := ntc) (l := (unL ms k)) (l' := (notesM (ms.getD k Mm.zero).f)) (i := 1) H10 Try.underlying22 Fa.I36 rfl rfl rfl rfl (Src.ofArr Try.underlying22 (H10.arrR (i := 3) rfl)) (one_flat (fun _ => by simp [ntc, Value.oneCell'])) (by omega) (by omega) (fun v11 w11 H11 => ?_))
      refine WL.op rfl rfl (op_assign rfl ?_)
      refine WL.nil ?_
      refine WQ.inNormal ?_
      refine WQ.next ?_
      refine WC.region ?_
      refine WL.op rfl rfl (op_addN (b := 1) rfl rfl (by omega) ?_)
      refine WL.op rfl rfl (op_move rfl ?_)
      refine WL.nil ?_
      have hmy := (mfE_may (m := (ms.getD k Mm.zero).f) hb8)
      exact WQ.round (k + 1, v11) ⟨⟨by omega, allPrev hok hmy⟩, (Own.rowEqF (i := 1) (f := ntc) (show Own [] w w11 [.blk b1 [(vU32 0), (.slice none 0 0), (.slice none 0 0), (.bool false)] 30, .row v11 36 3 ((unL ms k).length + (notesM (ms.getD k Mm.zero).f).length) (List.flatMap ntc ((unL ms k) ++ (notesM (ms.getD k Mm.zero).f)))] from (H11.take 2)) rfl (by rw [notes_may hmy]; try rfl) (by rw [notes_may hmy, unL, List.length_append]; try rfl))⟩ ⟨rfl, rfl, rfl, rfl, rfl, rfl, trivial⟩ (by show ms.length - (k + 1) < ms.length - k; omega)
  ·
    have hc4 := of_decide_eq_false hb4
    refine WC.exit ?_
    refine WQ.thenExit ?_
    refine WQ.thenExit ?_
    refine WQ.inHere ?_
    refine WQ.next ?_
    refine WC.seq ?_
    refine WC.region ?_
    refine WL.op rfl rfl (op_move rfl ?_)
    refine WL.op rfl rfl (op_callF Fa.C9 rfl ((dof_ok _ (unL ms k) _ (H3.arrR (i := 1) rfl) (by omega)).mono (fun e w12 hq => ?_)))
    obtain ⟨v12, u12, rfl, hq12⟩ := hq
    refine ⟨_, rfl, ?_⟩
    have H12 : Own [] w w12 [.blk b1 [(vU32 0), (.slice none 0 0), (.slice none 0 0), (.bool false)] 30, .row v 36 3 (unL ms k).length (List.flatMap ntc (unL ms k)), .row v12 50 2 ((ofM (unL ms k)).xs).length (List.flatMap xtc (ofM (unL ms k)).xs), .row u12 51 1 ((ofM (unL ms k)).ps).length (List.map vU16 (ofM (unL ms k)).ps)] := H3.splice [] [] [.row v12 50 2 ((ofM (unL ms k)).xs).length (List.flatMap xtc (ofM (unL ms k)).xs), .row u12 51 1 ((ofM (unL ms k)).ps).length (List.map vU16 (ofM (unL ms k)).ps)] rfl rfl hq12 (Fits.solid True.intro (Fits.solid True.intro Fits.nil))
    refine WL.op rfl rfl (op_extract rfl rfl ?_)
    refine WL.op rfl rfl (op_extract rfl rfl ?_)
    refine WL.op rfl rfl (op_storeBW (i := 0) H12 rfl rfl rfl rfl (one_cons rfl (one_cons (Arr.one (H12.arrR (i := 2) rfl)) (one_cons (Arr.one (H12.arrR (i := 3) rfl)) (one_cons rfl one_nil)))) Fa.I30 (fun w13 H13 => ?_))
    refine WL.op rfl rfl (op_assign rfl ?_)
    refine WL.nil ?_
    refine WQ.next ?_
    refine WC.ret ?_
    refine WQ.out (.cell rfl (run_loadVarS (vs := [_, _, _, _]) (H13.cells (i := 0) rfl rfl) Try.underlying30 rfl Fa.I30 rfl) (.tmp rfl .nil)) ?_
    have h := (show Own [] w w13 [.blk b1 [(vU32 (ofM (unL ms k)).pg), v12, u12, (.bool (ofM (unL ms k)).con)] 30, .row v 36 3 (unL ms k).length (List.flatMap ntc (unL ms k)), .row v12 50 2 ((ofM (unL ms k)).xs).length (List.flatMap xtc (ofM (unL ms k)).xs), .row u12 51 1 ((ofM (unL ms k)).ps).length (List.map vU16 (ofM (unL ms k)).ps)] from H13)
    obtain rfl : k = ms.length := by omega
    have hue := un_end (fun j hj => hok j (by omega))
    rw [hue.1, hue.2]
    exact ⟨_, _, rfl, h.sel [2, 3] rfl rfl⟩
set_option maxHeartbeats 1000000 in
set_option maxRecDepth 100000 in
theorem run_ok (lv : Value) (ms : List Mm) (w : World) (hA : Arr w lv 4 ms.length (List.flatMap mmc ms)) (hI : MmD.list.ok w ms) (hl : ms.length ≤ 600) (hfx : ∀ x ∈ ms, x.xs.length ≤ 2 ^ 46) (hfp : ∀ x ∈ ms, x.ps.length ≤ 2 ^ 46) :
    Calls Try.prog 12 #[lv] w (fun e w' => ∃ v u, e = .returned (.tuple #[.agg #[vU32 (unM (ms.map Mm.f)).pg, v, u, .bool (unM (ms.map Mm.f)).con], vN (unE (ms.map Mm.f))]) ∧ (∀ b ∈ footA v (List.flatMap xtc (unM (ms.map Mm.f)).xs), w.heap.size ≤ b) ∧ (∀ b ∈ footA u (List.map vU16 (unM (ms.map Mm.f)).ps), w.heap.size ≤ b) ∧ Own [] w w' [Ent.ar v 2 ((unM (ms.map Mm.f)).xs).length (List.flatMap xtc (unM (ms.map Mm.f)).xs), Ent.ar u 1 ((unM (ms.map Mm.f)).ps).length (List.map vU16 (unM (ms.map Mm.f)).ps)]) := by
  refine enter (args := [lv]) Try.func12 rfl rfl ?_
  have H0 : Own [] w w [] := Own.start w []
  refine WC.seq ?_
  refine WC.region ?_
  refine WL.op rfl rfl (op_alloc H0 Fa.I30 (fun b1 w1 H1 => ?_))
  refine WL.op rfl rfl (op_assign rfl ?_)
  refine WL.nil ?_
  refine WQ.next ?_
  refine WC.seq ?_
  refine WC.region ?_
  refine WL.op rfl rfl (op_assign rfl ?_)
  have H2 := H1.nilRow 36 3
  refine WL.nil ?_
  refine WQ.next ?_
  refine WC.seq ?_
  refine WC.seq ?_
  refine WC.region ?_
  refine WL.op rfl rfl (op_assign rfl ?_)
  refine WL.nil ?_
  refine WQ.next ?_
  refine WC.block ?_
  refine WC.loop (α := Nat × Value) (fun (k, v) => [(0, lv), (2, (ptr b1 0)), (4, v), (5, (vN k))]) (fun (k, v) w' => (k ≤ ms.length ∧ (∀ j, j < k → (ms.getD j Mm.zero).f.may = true)) ∧ Own [] w w' [.blk b1 [(vU32 0), (.slice none 0 0), (.slice none 0 0), (.bool false)] 30, .row v 36 3 (unL ms k).length (List.flatMap ntc (unL ms k))]) (fun (k, v) => ms.length - k) (0, .slice none 0 0) ⟨⟨Nat.zero_le _, fun j h => by omega⟩, H2⟩ ⟨rfl, rfl, rfl, rfl, trivial⟩ ?_
  rintro ⟨k, v⟩ w3 ⟨⟨hk1, hok⟩, H3⟩
  show WC _ _ _ _ _ [(0, lv), (2, (ptr b1 0)), (4, v), (5, (vN k))] _
  have hul := unL_len hok
  have hgx := get_prop (p := fun x : Mm => x.xs.length ≤ 2 ^ 46) (d := Mm.zero) hfx (Nat.zero_le _) k
  have hgp := get_prop (p := fun x : Mm => x.ps.length ≤ 2 ^ 46) (d := Mm.zero) hfp (Nat.zero_le _) k
  refine WC.seq ?_
  refine WC.seq ?_
  refine WC.region ?_
  refine WL.op rfl rfl (op_move rfl ?_)
  refine WL.op rfl rfl (op_move rfl ?_)
  refine WL.op rfl rfl (op_lenA Try.underlying23 rfl (H3.arr hA) ?_)
  refine WL.op rfl rfl (op_lssN rfl rfl ?_)
  refine WL.nil ?_
  refine WQ.next ?_
  refine WC.cond rfl (fun (hb4 : (decide (k < ms.length)) = true) => ?_) (fun (hb4 : (decide (k < ms.length)) = false) => ?_)
  ·
    have hc4 := of_decide_eq_true hb4
    refine WC.skip ?_
    refine WQ.next ?_
    refine WC.seq ?_
    refine WC.block ?_
    refine WC.seq ?_
    refine WC.seq ?_
    refine WC.region ?_
    refine WL.op rfl rfl (op_move rfl ?_)
    refine WL.op rfl rfl (op_move rfl ?_)
    refine WL.op rfl rfl (op_indexAddr Try.underlying23 Fa.I30 rfl (H3.arr hA) rfl (by omega) ?_)
    refine WL.op rfl rfl (op_loadSP (vs := mmc (ms.getD k Mm.zero)) rfl (Arr.atsF (H3.arr hA) (fun _ => rfl) (by decide) Mm.zero (by omega)) Try.underlying30 rfl Fa.I30 rfl ?_)
    refine WL.op rfl rfl (op_callF Fa.C17 rfl ((rmay11_ok ((ms.getD k Mm.zero).pg) _ _ ((ms.getD k Mm.zero).xs) ((ms.getD k Mm.zero).ps) ((ms.getD k Mm.zero).con) _ ((MmD_xs (Deep.getD MmD (MmD.list.fr0 hI H3.fr) Mm.zero (MmD_zero _) k))) ((MmD_ps (Deep.getD MmD (MmD.list.fr0 hI H3.fr) Mm.zero (MmD_zero _) k))) (by omega) (by omega)).mono (fun e w5 hq => ?_)))
    obtain ⟨rfl, hf5⟩ := hq
    refine ⟨_, rfl, ?_⟩
    have H5 := H3.fr' hf5
    refine WL.op rfl rfl (op_not rfl ?_)
    refine WL.nil ?_
    refine WQ.next ?_
    refine WC.cond rfl (fun (hb6 : (!(Mf.may (ms.getD k Mm.zero).f)) = true) => ?_) (fun (hb6 : (!(Mf.may (ms.getD k Mm.zero).f)) = false) => ?_)
    ·
      have hn6 := (Bool.not_eq_true' _).mp hb6
      refine WC.seq ?_
      refine WC.region ?_
      refine WL.op rfl rfl (op_build (cs := [_, _, _, _]) Fa.I30 Fa.PL30 rfl rfl ?_)
      refine WL.op rfl rfl (op_storeBW (i := 0) H5 rfl rfl rfl rfl rfl Fa.I30 (fun w7 H7 => ?_))
      refine WL.op rfl rfl (op_assign rfl ?_)
      refine WL.nil ?_
      refine WQ.next ?_
      refine WC.ret ?_
      refine WQ.thenRet ?_
      refine WQ.inRet ?_
      refine WQ.thenRet ?_
      refine WQ.thenRet ?_
      refine WQ.inRet ?_
      refine WQ.thenRet ?_
      refine WQ.out (.cell rfl (run_loadVarS (vs := [_, _, _, _]) (H7.cells (i := 0) rfl rfl) Try.underlying30 rfl Fa.I30 rfl) (.tmp rfl .nil)) ?_
      have hub := un_bad (k := k) (by omega) (show (ms.getD k Mm.zero).f.may = false from hn6)
      rw [hub.1, hub.2]
      exact ⟨_, _, rfl, fresh_nil _, fresh_nil _, ((((H7.nilRow 50 2).nilRow 51 1).freeze (i := 2) rfl).freeze (i := 3) rfl).sel [2, 3] rfl rfl⟩
    ·
      have hn6 := (Bool.not_eq_false' _).mp hb6
      refine WC.skip ?_
      refine WQ.next ?_
      refine WC.region ?_
      refine WL.op rfl rfl (op_move rfl ?_)
      refine WL.op rfl rfl (op_move rfl ?_)
      refine WL.op rfl rfl (op_move rfl ?_)
      refine WL.op rfl rfl (op_indexAddr Try.underlying23 Fa.I30 rfl (H5.arr hA) rfl (by omega) ?_)
      refine WL.op rfl rfl (op_loadSP (vs := mmc (ms.getD k Mm.zero)) rfl (Arr.atsF (H5.arr hA) (fun _ => rfl) (by decide) Mm.zero (by omega)) Try.underlying30 rfl Fa.I30 rfl ?_)
      have hml : (ms.getD k Mm.zero).f.xs.length ≤ 16 ∧ (ms.getD k Mm.zero).f.ps.length ≤ 16 := may_len (m := (ms.getD k Mm.zero).f) (show (ms.getD k Mm.zero).f.may = true from hn6)
      have hnl : (notesM (ms.getD k Mm.zero).f).length ≤ 34 := by rw [notes_may (show (ms.getD k Mm.zero).f.may = true from hn6)]; exact notes_len (show (ms.getD k Mm.zero).f.may = true from hn6)
      refine WL.op rfl rfl (op_callF Fa.C23 rfl ((rnotes_ok (ms.getD k Mm.zero).f _ _ _ ((MmD_xs (Deep.getD MmD (MmD.list.fr0 hI H5.fr) Mm.zero (MmD_zero _) k))) ((MmD_ps (Deep.getD MmD (MmD.list.fr0 hI H5.fr) Mm.zero (MmD_zero _) k))) (by omega) (by omega)).mono (fun e w8 hq => ?_)))
      obtain ⟨v8, rfl, hq8⟩ := hq
      refine ⟨_, rfl, ?_⟩
      have H8 : Own [] w w8 [.blk b1 [(vU32 0), (.slice none 0 0), (.slice none 0 0), (.bool false)] 30, .row v 36 3 (unL ms k).length (List.flatMap ntc (unL ms k)), .row v8 36 3 (notesM (ms.getD k Mm.zero).f).length (List.flatMap ntc (notesM (ms.getD k Mm.zero).f))] := H5.splice [] [] [.row v8 36 3 (notesM (ms.getD k Mm.zero).f).length (List.flatMap ntc (notesM (ms.getD k Mm.zero).f))] rfl rfl hq8 (Fits.solid True.intro Fits.nil)
      refine WL.op rfl rfl (op_appendF (f := ntc) (l := (unL ms k)) (l' := (notesM (ms.getD k Mm.zero).f)) (i := 1) H8 Try.underlying22 Fa.I36 rfl rfl rfl rfl (Src.ofArr Try.underlying22 (H8.arrR (i := 2) rfl)) (one_flat (fun _ => by simp [ntc, Value.oneCell'])) (by omega) (by omega) (fun v9 w9 H9 => ?_))
      refine WL.op rfl rfl (op_assign rfl ?_)
      refine WL.nil ?_
      refine WQ.inNormal ?_
      refine WQ.next ?_
      refine WC.region ?_
      refine WL.op rfl rfl (op_move rfl ?_)
      refine WL.op rfl rfl (op_addN (b := 1) rfl rfl (by omega) ?_)
      refine WL.op rfl rfl (op_assign rfl ?_)
      refine WL.nil ?_
      have hmy := (show (ms.getD k Mm.zero).f.may = true from hn6)
      exact WQ.round (k + 1, v9) ⟨⟨by omega, allPrev hok hmy⟩, (Own.rowEqF (i := 1) (f := ntc) (show Own [] w w9 [.blk b1 [(vU32 0), (.slice none 0 0), (.slice none 0 0), (.bool false)] 30, .row v9 36 3 ((unL ms k).length + (notesM (ms.getD k Mm.zero).f).length) (List.flatMap ntc ((unL ms k) ++ (notesM (ms.getD k Mm.zero).f)))] from (H9.take 2)) rfl (by rw [notes_may hmy]; try rfl) (by rw [notes_may hmy, unL, List.length_append]; try rfl))⟩ ⟨rfl, rfl, rfl, rfl, trivial⟩ (by show ms.length - (k + 1) < ms.length - k; omega)
  ·
    have hc4 := of_decide_eq_false hb4
    refine WC.exit ?_
    refine WQ.thenExit ?_
    refine WQ.thenExit ?_
    refine WQ.inHere ?_
    refine WQ.next ?_
    refine WC.seq ?_
    refine WC.region ?_
    refine WL.op rfl rfl (op_move rfl ?_)
    refine WL.op rfl rfl (op_callF Fa.C10 rfl ((rof_ok _ (unL ms k) _ (H3.arrR (i := 1) rfl) (by omega)).mono (fun e w10 hq => ?_)))
    obtain ⟨v10, u10, rfl, ha10, hb10, hq10⟩ := hq
    refine ⟨_, rfl, ?_⟩
    have H10 : Own [] w w10 [.blk b1 [(vU32 0), (.slice none 0 0), (.slice none 0 0), (.bool false)] 30, .row v 36 3 (unL ms k).length (List.flatMap ntc (unL ms k)), Ent.ar v10 2 ((ofM (unL ms k)).xs).length (List.flatMap xtc (ofM (unL ms k)).xs), Ent.ar u10 1 ((ofM (unL ms k)).ps).length (List.map vU16 (ofM (unL ms k)).ps)] := H3.splice [] [] [Ent.ar v10 2 ((ofM (unL ms k)).xs).length (List.flatMap xtc (ofM (unL ms k)).xs), Ent.ar u10 1 ((ofM (unL ms k)).ps).length (List.map vU16 (ofM (unL ms k)).ps)] rfl rfl hq10 (Fits.fresh ha10 (Fits.fresh hb10 Fits.nil))
    refine WL.op rfl rfl (op_extract rfl rfl ?_)
    refine WL.op rfl rfl (op_extract rfl rfl ?_)
    refine WL.op rfl rfl (op_storeBW (i := 0) H10 rfl rfl rfl rfl (one_cons rfl (one_cons (Arr.one (H10.arrO (i := 2) rfl)) (one_cons (Arr.one (H10.arrO (i := 3) rfl)) (one_cons rfl one_nil)))) Fa.I30 (fun w11 H11 => ?_))
    refine WL.op rfl rfl (op_assign rfl ?_)
    refine WL.nil ?_
    refine WQ.next ?_
    refine WC.ret ?_
    refine WQ.out (.cell rfl (run_loadVarS (vs := [_, _, _, _]) (H11.cells (i := 0) rfl rfl) Try.underlying30 rfl Fa.I30 rfl) (.tmp rfl .nil)) ?_
    have h := (show Own [] w w11 [.blk b1 [(vU32 (ofM (unL ms k)).pg), v10, u10, (.bool (ofM (unL ms k)).con)] 30, .row v 36 3 (unL ms k).length (List.flatMap ntc (unL ms k)), Ent.ar v10 2 ((ofM (unL ms k)).xs).length (List.flatMap xtc (ofM (unL ms k)).xs), Ent.ar u10 1 ((ofM (unL ms k)).ps).length (List.map vU16 (ofM (unL ms k)).ps)] from H11)
    obtain rfl : k = ms.length := by omega
    have hue := un_end (fun j hj => hok j (by omega))
    rw [hue.1, hue.2]
    exact ⟨_, _, rfl, fun b hb => Nat.le_trans H3.fr.size (ha10 b hb), fun b hb => Nat.le_trans H3.fr.size (hb10 b hb), h.sel [2, 3] rfl rfl⟩
set_option maxRecDepth 100000 in
theorem large11_ok (lv : Value) (ms : List Mm) (w : World) (hA : Arr w lv 4 ms.length (List.flatMap mmc ms)) (hI : MmD.list.ok w ms) (hl : ms.length ≤ 2 ^ 47) (hfx : ∀ x ∈ ms, x.xs.length ≤ 2 ^ 46) (hfp : ∀ x ∈ ms, x.ps.length ≤ 2 ^ 46) :
    Calls Try.prog 7 #[lv] w (fun e w' => e = .returned (.bool (large11 ms)) ∧ Fr [] w w') := by
  refine enter (args := [lv]) Try.func7 rfl rfl ?_
  have H0 : Own [] w w [] := Own.start w []
  refine WC.seq ?_
  refine WC.region ?_
  refine WL.op rfl rfl (op_assign rfl ?_)
  refine WL.nil ?_
  refine WQ.next ?_
  refine WC.seq ?_
  refine WC.region ?_
  refine WL.op rfl rfl (op_move rfl ?_)
  refine WL.op rfl rfl (op_lenA Try.underlying23 rfl (H0.arr hA) ?_)
  refine WL.op rfl rfl (op_assign rfl ?_)
  refine WL.nil ?_
  refine WQ.next ?_
  refine WC.seq ?_
  refine WC.seq ?_
  refine WC.region ?_
  refine WL.op rfl rfl (op_assign rfl ?_)
  refine WL.nil ?_
  refine WQ.next ?_
  refine WC.block ?_
  refine WC.loop (α := Nat) (fun k => [(0, lv), (3, (vN (largeN ms k))), (4, (vN k))]) (fun k w' => (k ≤ min ms.length 100) ∧ Own [] w w' []) (fun k => ms.length - k) 0 ⟨(Nat.zero_le _), H0⟩ ⟨rfl, rfl, rfl, trivial⟩ ?_
  rintro k w1 ⟨hk1, H1⟩
  show WC _ _ _ _ _ [(0, lv), (3, (vN (largeN ms k))), (4, (vN k))] _
  have hln := largeN_le hfx hfp k
  have hgx := get_prop (p := fun x : Mm => x.xs.length ≤ 2 ^ 46) (d := Mm.zero) hfx (Nat.zero_le _) k
  have hgp := get_prop (p := fun x : Mm => x.ps.length ≤ 2 ^ 46) (d := Mm.zero) hfp (Nat.zero_le _) k
  refine WC.seq ?_
  refine WC.seq ?_
  refine WC.region ?_
  refine WL.op rfl rfl (op_move rfl ?_)
  refine WL.op rfl rfl (op_move rfl ?_)
  refine WL.op rfl rfl (op_lenA Try.underlying23 rfl (H1.arr hA) ?_)
  refine WL.op rfl rfl (op_lssN rfl rfl ?_)
  refine WL.op rfl rfl (op_move rfl ?_)
  refine WL.split (t := 11) rfl (fun (hb2 : (decide (k < ms.length)) = true) => ?_) (fun (hb2 : (decide (k < ms.length)) = false) => ?_)
  ·
    have hc2 := of_decide_eq_true hb2
    refine WL.yes rfl rfl rfl hb2 rfl (op_move rfl ?_)
    refine WL.yes rfl rfl rfl hb2 rfl (op_lssN (b := 100) rfl rfl ?_)
    refine WL.op rfl rfl (op_pickT rfl hb2 rfl ?_)
    refine WL.nil ?_
    refine WQ.next ?_
    refine WC.cond rfl (fun (hb3 : (decide (k < 100)) = true) => ?_) (fun (hb3 : (decide (k < 100)) = false) => ?_)
    ·
      have hc3 := of_decide_eq_true hb3
      refine WC.skip ?_
      refine WQ.next ?_
      refine WC.seq ?_
      refine WC.block ?_
      refine WC.draw 16 Fa.M H1 (HW.op rfl (fun w1 H1 => op_move rfl ⟨rfl, Fr.refl _ _⟩) (HW.op rfl (fun w1 H1 => op_move rfl ⟨rfl, Fr.refl _ _⟩) (HW.op rfl (fun w1 H1 => op_move rfl ⟨rfl, Fr.refl _ _⟩) (HW.op rfl (fun w1 H1 => op_indexAddr Try.underlying23 Fa.I30 rfl (H1.arr hA) rfl (by omega) ⟨rfl, Fr.refl _ _⟩) (HW.op rfl (fun w1 H1 => op_fieldAddrS rfl Fa.F30_1 ⟨rfl, Fr.refl _ _⟩) (HW.op rfl (fun w1 H1 => op_load rfl (Arr.atF (k := 1) (H1.arr hA) (fun _ => rfl) (by decide) Mm.zero (by omega) rfl) Try.underlying27 rfl ⟨rfl, Fr.refl _ _⟩) (HW.op rfl (fun w1 H1 => op_lenA Try.underlying27 rfl ((MmD_xs (Deep.getD MmD (MmD.list.fr0 hI H1.fr) Mm.zero (MmD_zero _) k))) ⟨rfl, Fr.refl _ _⟩) (HW.op rfl (fun w1 H1 => op_addN rfl rfl (by omega) ⟨rfl, Fr.refl _ _⟩) (HW.op rfl (fun w1 H1 => op_move rfl ⟨rfl, Fr.refl _ _⟩) (HW.op rfl (fun w1 H1 => op_move rfl ⟨rfl, Fr.refl _ _⟩) (HW.op rfl (fun w1 H1 => op_indexAddr Try.underlying23 Fa.I30 rfl (H1.arr hA) rfl (by omega) ⟨rfl, Fr.refl _ _⟩) (HW.op rfl (fun w1 H1 => op_fieldAddrS rfl Fa.F30_2 ⟨rfl, Fr.refl _ _⟩) (HW.op rfl (fun w1 H1 => op_load rfl (Arr.atF (k := 2) (H1.arr hA) (fun _ => rfl) (by decide) Mm.zero (by omega) rfl) Try.underlying28 rfl ⟨rfl, Fr.refl _ _⟩) (HW.op rfl (fun w1 H1 => op_lenA Try.underlying28 rfl ((MmD_ps (Deep.getD MmD (MmD.list.fr0 hI H1.fr) Mm.zero (MmD_zero _) k))) ⟨rfl, Fr.refl _ _⟩) (HW.op rfl (fun w1 H1 => op_addN rfl rfl (by omega) ⟨rfl, Fr.refl _ _⟩) (HW.op rfl (fun w1 H1 => op_assign rfl ⟨rfl, Fr.refl _ _⟩)  HW.nil)))))))))))))))) (by kernel_rfl) ?_
      intro β4 w4 H4
      refine WL.nil ?_
      refine WQ.inNormal ?_
      refine WQ.next ?_
      refine WC.region ?_
      refine WL.op rfl rfl (op_move rfl ?_)
      refine WL.op rfl rfl (op_addN (b := 1) rfl rfl (by omega) ?_)
      refine WL.op rfl rfl (op_assign rfl ?_)
      refine WL.nil ?_
      exact WQ.round (k + 1) ⟨(by omega), H4⟩ ⟨rfl, rfl, rfl, trivial⟩ (by omega)
    ·
      have hc3 := of_decide_eq_false hb3
      refine WC.exit ?_
      refine WQ.thenExit ?_
      refine WQ.thenExit ?_
      refine WQ.inHere ?_
      refine WQ.next ?_
      refine WC.seq ?_
      refine WC.region ?_
      refine WL.op rfl rfl (op_move rfl ?_)
      refine WL.op rfl rfl (op_gtrN (b := 600) rfl rfl ?_)
      refine WL.op rfl rfl (op_assign rfl ?_)
      refine WL.nil ?_
      refine WQ.next ?_
      refine WC.ret ?_
      refine WQ.out (.tmp rfl .nil) ?_
      exact ⟨by rw [large11, show min ms.length 100 = k by omega]; rfl, H1.fr⟩
  ·
    have hc2 := of_decide_eq_false hb2
    refine WL.no rfl rfl rfl hb2 rfl ?_
    refine WL.no rfl rfl rfl hb2 rfl ?_
    refine WL.op rfl rfl (op_pickF rfl hb2 rfl ?_)
    refine WL.nil ?_
    refine WQ.next ?_
    refine WC.no rfl rfl ?_
    refine WC.exit ?_
    refine WQ.thenExit ?_
    refine WQ.thenExit ?_
    refine WQ.inHere ?_
    refine WQ.next ?_
    refine WC.seq ?_
    refine WC.region ?_
    refine WL.op rfl rfl (op_move rfl ?_)
    refine WL.op rfl rfl (op_gtrN (b := 600) rfl rfl ?_)
    refine WL.op rfl rfl (op_assign rfl ?_)
    refine WL.nil ?_
    refine WQ.next ?_
    refine WC.ret ?_
    refine WQ.out (.tmp rfl .nil) ?_
    exact ⟨by rw [large11, show min ms.length 100 = k by omega]; rfl, H1.fr⟩
end Go.Proofs.Ytnngbnenekjffaa
/-! from EDem9 -/
namespace Go.Proofs.Ytnngbnenekjffaa
open Go.Owl Go.Spec
set_option maxHeartbeats 1000000 in
set_option maxRecDepth 100000 in
theorem alive11_ok  (w : World) :
    Calls Try.prog 8 #[] w (fun e w' => e = .returned (.bool true) ∧ Fr [] w w') := by
  refine enter (args := []) Try.func8 rfl rfl ?_
  have H0 : Own [] w w [] := Own.start w []
  refine WC.seq ?_
  refine WC.region ?_
  refine WL.op rfl rfl (op_assign rfl ?_)
  refine WL.nil ?_
  refine WQ.next ?_
  refine WC.seq ?_
  refine WC.region ?_
  refine WL.op rfl rfl (op_build (cs := [_, _, _]) Fa.I36 Fa.PL36 rfl rfl ?_)
  refine WL.op rfl rfl (op_build (cs := [_, _, _]) Fa.I36 Fa.PL36 rfl rfl ?_)
  refine WL.op rfl rfl (op_build (cs := [_, _, _]) Fa.I36 Fa.PL36 rfl rfl ?_)
  refine WL.op rfl rfl (op_build (cs := [_, _, _]) Fa.I36 Fa.PL36 rfl rfl ?_)
  refine WL.op rfl rfl (op_buildSlice (cs := [_, _, _, _, _, _, _, _, _, _, _, _]) H0 Try.underlying22 Fa.I36 rfl rfl rfl rfl (by decide) (by decide) (fun b1 w1 H1 => ?_))
  refine WL.op rfl rfl (op_callF Fa.C9 rfl ((dof_ok _ ([(Nt.mk 2 2 3), (Nt.mk 3 9 0), (Nt.mk 2 2 5), (Nt.mk 3 7 0)]) _ (H1.arrR (i := 0) rfl) (by decide)).mono (fun e w2 hq => ?_)))
  obtain ⟨v2, u2, rfl, hq2⟩ := hq
  refine ⟨_, rfl, ?_⟩
  have H2 : Own [] w w2 [.row (.slice (some ⟨b1, 0, none⟩) 4 4) 36 3 4 (List.flatMap ntc [(Nt.mk 2 2 3), (Nt.mk 3 9 0), (Nt.mk 2 2 5), (Nt.mk 3 7 0)]), .row v2 50 2 ((ofM ([(Nt.mk 2 2 3), (Nt.mk 3 9 0), (Nt.mk 2 2 5), (Nt.mk 3 7 0)])).xs).length (List.flatMap xtc (ofM ([(Nt.mk 2 2 3), (Nt.mk 3 9 0), (Nt.mk 2 2 5), (Nt.mk 3 7 0)])).xs), .row u2 51 1 ((ofM ([(Nt.mk 2 2 3), (Nt.mk 3 9 0), (Nt.mk 2 2 5), (Nt.mk 3 7 0)])).ps).length (List.map vU16 (ofM ([(Nt.mk 2 2 3), (Nt.mk 3 9 0), (Nt.mk 2 2 5), (Nt.mk 3 7 0)])).ps)] := H1.splice [] [] [.row v2 50 2 ((ofM ([(Nt.mk 2 2 3), (Nt.mk 3 9 0), (Nt.mk 2 2 5), (Nt.mk 3 7 0)])).xs).length (List.flatMap xtc (ofM ([(Nt.mk 2 2 3), (Nt.mk 3 9 0), (Nt.mk 2 2 5), (Nt.mk 3 7 0)])).xs), .row u2 51 1 ((ofM ([(Nt.mk 2 2 3), (Nt.mk 3 9 0), (Nt.mk 2 2 5), (Nt.mk 3 7 0)])).ps).length (List.map vU16 (ofM ([(Nt.mk 2 2 3), (Nt.mk 3 9 0), (Nt.mk 2 2 5), (Nt.mk 3 7 0)])).ps)] rfl rfl hq2 (Fits.solid True.intro (Fits.solid True.intro Fits.nil))
  refine WL.op rfl rfl (op_move rfl ?_)
  refine WL.op rfl rfl (op_extract rfl rfl ?_)
  refine WL.op rfl rfl (op_extract rfl rfl ?_)
  refine WL.op rfl rfl (op_alloc H2 Fa.I30 (fun b3 w3 H3 => ?_))
  refine WL.op rfl rfl (op_storeBW (i := 3) H3 rfl rfl rfl rfl (one_cons rfl (one_cons (Arr.one (H3.arrR (i := 1) rfl)) (one_cons (Arr.one (H3.arrR (i := 2) rfl)) (one_cons rfl one_nil)))) Fa.I30 (fun w4 H4 => ?_))
  refine WL.op rfl rfl (op_assign rfl ?_)
  refine WL.nil ?_
  refine WQ.next ?_
  refine WC.seq ?_
  refine WC.region ?_
  refine WL.op rfl rfl (op_build (cs := [_, _, _]) Fa.I36 Fa.PL36 rfl rfl ?_)
  refine WL.op rfl rfl (op_buildSlice (cs := [_, _, _]) H4 Try.underlying22 Fa.I36 rfl rfl rfl rfl (by decide) (by decide) (fun b5 w5 H5 => ?_))
  refine WL.op rfl rfl (op_callF Fa.C9 rfl ((dof_ok _ ([(Nt.mk 0 0 0)]) _ (H5.arrR (i := 4) rfl) (by decide)).mono (fun e w6 hq => ?_)))
  obtain ⟨v6, u6, rfl, hq6⟩ := hq
  refine ⟨_, rfl, ?_⟩
  have H6 : Own [] w w6 [.row (.slice (some ⟨b1, 0, none⟩) 4 4) 36 3 4 (List.flatMap ntc [(Nt.mk 2 2 3), (Nt.mk 3 9 0), (Nt.mk 2 2 5), (Nt.mk 3 7 0)]), .row v2 50 2 ((ofM ([(Nt.mk 2 2 3), (Nt.mk 3 9 0), (Nt.mk 2 2 5), (Nt.mk 3 7 0)])).xs).length (List.flatMap xtc (ofM ([(Nt.mk 2 2 3), (Nt.mk 3 9 0), (Nt.mk 2 2 5), (Nt.mk 3 7 0)])).xs), .row u2 51 1 ((ofM ([(Nt.mk 2 2 3), (Nt.mk 3 9 0), (Nt.mk 2 2 5), (Nt.mk 3 7 0)])).ps).length (List.map vU16 (ofM ([(Nt.mk 2 2 3), (Nt.mk 3 9 0), (Nt.mk 2 2 5), (Nt.mk 3 7 0)])).ps), .blk b3 [(vU32 (ofM ([(Nt.mk 2 2 3), (Nt.mk 3 9 0), (Nt.mk 2 2 5), (Nt.mk 3 7 0)])).pg), v2, u2, (.bool (ofM ([(Nt.mk 2 2 3), (Nt.mk 3 9 0), (Nt.mk 2 2 5), (Nt.mk 3 7 0)])).con)] 30, .row (.slice (some ⟨b5, 0, none⟩) 1 1) 36 3 1 (List.flatMap ntc [(Nt.mk 0 0 0)]), .row v6 50 2 ((ofM ([(Nt.mk 0 0 0)])).xs).length (List.flatMap xtc (ofM ([(Nt.mk 0 0 0)])).xs), .row u6 51 1 ((ofM ([(Nt.mk 0 0 0)])).ps).length (List.map vU16 (ofM ([(Nt.mk 0 0 0)])).ps)] := H5.splice [] [] [.row v6 50 2 ((ofM ([(Nt.mk 0 0 0)])).xs).length (List.flatMap xtc (ofM ([(Nt.mk 0 0 0)])).xs), .row u6 51 1 ((ofM ([(Nt.mk 0 0 0)])).ps).length (List.map vU16 (ofM ([(Nt.mk 0 0 0)])).ps)] rfl rfl hq6 (Fits.solid True.intro (Fits.solid True.intro Fits.nil))
  refine WL.op rfl rfl (op_move rfl ?_)
  refine WL.op rfl rfl (op_extract rfl rfl ?_)
  refine WL.op rfl rfl (op_extract rfl rfl ?_)
  refine WL.op rfl rfl (op_alloc H6 Fa.I30 (fun b7 w7 H7 => ?_))
  refine WL.op rfl rfl (op_storeBW (i := 7) H7 rfl rfl rfl rfl (one_cons rfl (one_cons (Arr.one (H7.arrR (i := 5) rfl)) (one_cons (Arr.one (H7.arrR (i := 6) rfl)) (one_cons rfl one_nil)))) Fa.I30 (fun w8 H8 => ?_))
  refine WL.op rfl rfl (op_assign rfl ?_)
  refine WL.nil ?_
  refine WQ.next ?_
  refine WC.seq ?_
  refine WC.region ?_
  refine WL.op rfl rfl (op_move rfl ?_)
  refine WL.op rfl rfl (op_eqlN (b := 0) rfl rfl ?_)
  refine WL.op rfl rfl (op_move rfl ?_)
  refine WL.yes rfl rfl rfl al1 rfl (op_loadS (vs := [_, _, _, _]) rfl (H8.cells (i := 3) rfl rfl) Try.underlying30 rfl Fa.I30 rfl ?_)
  refine WL.yes rfl rfl rfl al1 rfl (op_build (cs := [_, _]) Fa.I50 Fa.PL50 rfl rfl ?_)
  refine WL.yes rfl rfl rfl al1 rfl (op_buildSlice (cs := [_, _]) H8 Try.underlying27 Fa.I50 rfl rfl rfl rfl (by decide) (by decide) (fun b9 w9 H9 => ?_))
  refine WL.yes rfl rfl rfl al1 rfl (op_buildSlice (cs := [_, _]) H9 Try.underlying28 Fa.I51 rfl rfl rfl rfl (by decide) (by decide) (fun b10 w10 H10 => ?_))
  refine WL.yes rfl rfl rfl al1 rfl (op_build (cs := [_, _, _, _]) Fa.I30 Fa.PL30 rfl rfl ?_)
  refine WL.yes rfl rfl rfl al1 rfl (op_callF Fa.C13 rfl (((same_of (a := (ofM ([(Nt.mk 2 2 3), (Nt.mk 3 9 0), (Nt.mk 2 2 5), (Nt.mk 3 7 0)]))) (b := (Mf.mk 0 ([(Xt.mk 2 5)]) ([7, 9]) false)) (rmsame_ok ((ofM ([(Nt.mk 2 2 3), (Nt.mk 3 9 0), (Nt.mk 2 2 5), (Nt.mk 3 7 0)])).pg) ((ofM ([(Nt.mk 2 2 3), (Nt.mk 3 9 0), (Nt.mk 2 2 5), (Nt.mk 3 7 0)])).con) _ _ ((ofM ([(Nt.mk 2 2 3), (Nt.mk 3 9 0), (Nt.mk 2 2 5), (Nt.mk 3 7 0)])).xs) ((ofM ([(Nt.mk 2 2 3), (Nt.mk 3 9 0), (Nt.mk 2 2 5), (Nt.mk 3 7 0)])).ps) 0 false _ _ ([(Xt.mk 2 5)]) ([7, 9]) _ (H10.arrR (i := 1) rfl) (H10.arrR (i := 2) rfl) (H10.arrR (i := 8) rfl) (H10.arrR (i := 9) rfl) (Nat.lt_trans al8 (by decide)) (Nat.lt_trans al9 (by decide))))).mono (fun e w11 hq => ?_)))
  obtain ⟨rfl, hf11⟩ := hq
  refine ⟨_, rfl, ?_⟩
  have H11 := H10.fr' hf11
  refine WL.op rfl rfl (op_pickT rfl al1 rfl ?_)
  refine WL.op rfl rfl (op_move rfl ?_)
  refine WL.yes rfl rfl rfl al2 rfl (op_move rfl ?_)
  refine WL.yes rfl rfl rfl al2 rfl (op_eqlN (b := 2) rfl rfl ?_)
  refine WL.op rfl rfl (op_pickT rfl al2 rfl ?_)
  refine WL.op rfl rfl (op_move rfl ?_)
  refine WL.yes rfl rfl rfl al3 rfl (op_loadS (vs := [_, _, _, _]) rfl (H11.cells (i := 3) rfl rfl) Try.underlying30 rfl Fa.I30 rfl ?_)
  refine WL.yes rfl rfl rfl al3 rfl (op_callF Fa.C15 rfl ((dcheck_ok ((ofM ([(Nt.mk 2 2 3), (Nt.mk 3 9 0), (Nt.mk 2 2 5), (Nt.mk 3 7 0)])).pg) _ _ ((ofM ([(Nt.mk 2 2 3), (Nt.mk 3 9 0), (Nt.mk 2 2 5), (Nt.mk 3 7 0)])).xs) ((ofM ([(Nt.mk 2 2 3), (Nt.mk 3 9 0), (Nt.mk 2 2 5), (Nt.mk 3 7 0)])).ps) ((ofM ([(Nt.mk 2 2 3), (Nt.mk 3 9 0), (Nt.mk 2 2 5), (Nt.mk 3 7 0)])).con) _ (H11.arrR (i := 1) rfl) (H11.arrR (i := 2) rfl) (Nat.lt_trans al8 (by decide)) (Nat.lt_trans al9 (by decide))).mono (fun e w12 hq => ?_)))
  obtain ⟨rfl, hf12⟩ := hq
  refine ⟨_, rfl, ?_⟩
  have H12 := H11.fr' hf12
  refine WL.yes rfl rfl rfl al3 rfl (op_eqlN (b := 0) rfl rfl ?_)
  refine WL.op rfl rfl (op_pickT rfl al3 rfl ?_)
  refine WL.op rfl rfl (op_move rfl ?_)
  refine WL.yes rfl rfl rfl al4 rfl (op_loadS (vs := [_, _, _, _]) rfl (H12.cells (i := 3) rfl rfl) Try.underlying30 rfl Fa.I30 rfl ?_)
  refine WL.yes rfl rfl rfl al4 rfl (op_build (cs := [_, _, _]) Fa.I36 Fa.PL36 rfl rfl ?_)
  refine WL.yes rfl rfl rfl al4 rfl (op_callF Fa.C18 rfl ((dnote_ok (ofM ([(Nt.mk 2 2 3), (Nt.mk 3 9 0), (Nt.mk 2 2 5), (Nt.mk 3 7 0)])) _ _ (Nt.mk 3 7 0) _ (H12.arrR (i := 1) rfl) (H12.arrR (i := 2) rfl) (Nat.lt_trans al8 (by decide)) (Nat.lt_trans al9 (by decide))).mono (fun e w13 hq => ?_)))
  obtain ⟨rfl, hf13⟩ := hq
  refine ⟨_, rfl, ?_⟩
  have H13 := H12.fr' hf13
  refine WL.op rfl rfl (op_pickT rfl al4 rfl ?_)
  refine WL.op rfl rfl (op_move rfl ?_)
  refine WL.yes rfl rfl rfl al5 rfl (op_loadS (vs := [_, _, _, _]) rfl (H13.cells (i := 3) rfl rfl) Try.underlying30 rfl Fa.I30 rfl ?_)
  refine WL.yes rfl rfl rfl al5 rfl (op_build (cs := [_, _, _]) Fa.I36 Fa.PL36 rfl rfl ?_)
  refine WL.yes rfl rfl rfl al5 rfl (op_callF Fa.C18 rfl ((dnote_ok (ofM ([(Nt.mk 2 2 3), (Nt.mk 3 9 0), (Nt.mk 2 2 5), (Nt.mk 3 7 0)])) _ _ (Nt.mk 4 0 0) _ (H13.arrR (i := 1) rfl) (H13.arrR (i := 2) rfl) (Nat.lt_trans al8 (by decide)) (Nat.lt_trans al9 (by decide))).mono (fun e w14 hq => ?_)))
  obtain ⟨rfl, hf14⟩ := hq
  refine ⟨_, rfl, ?_⟩
  have H14 := H13.fr' hf14
  refine WL.yes rfl rfl rfl al5 rfl (op_not rfl ?_)
  refine WL.op rfl rfl (op_pickT rfl al5 rfl ?_)
  refine WL.op rfl rfl (op_move rfl ?_)
  refine WL.yes rfl rfl rfl (congrArg Bool.not al6) rfl (op_loadS (vs := [_, _, _, _]) rfl (H14.cells (i := 3) rfl rfl) Try.underlying30 rfl Fa.I30 rfl ?_)
  refine WL.yes rfl rfl rfl (congrArg Bool.not al6) rfl (op_loadS (vs := [_, _, _, _]) rfl (H14.cells (i := 3) rfl rfl) Try.underlying30 rfl Fa.I30 rfl ?_)
  refine WL.yes rfl rfl rfl (congrArg Bool.not al6) rfl (op_callF Fa.C14 rfl ((dcov_ok (ofM ([(Nt.mk 2 2 3), (Nt.mk 3 9 0), (Nt.mk 2 2 5), (Nt.mk 3 7 0)])) (ofM ([(Nt.mk 2 2 3), (Nt.mk 3 9 0), (Nt.mk 2 2 5), (Nt.mk 3 7 0)])) _ _ _ _ _ (H14.arrR (i := 1) rfl) (H14.arrR (i := 2) rfl) (H14.arrR (i := 1) rfl) (H14.arrR (i := 2) rfl) al8 al9 al8 al9).mono (fun e w15 hq => ?_)))
  obtain ⟨rfl, hf15⟩ := hq
  refine ⟨_, rfl, ?_⟩
  have H15 := H14.fr' hf15
  refine WL.op rfl rfl (op_pickT rfl (congrArg Bool.not al6) rfl ?_)
  refine WL.op rfl rfl (op_assign rfl ?_)
  refine WL.nil ?_
  refine WQ.next ?_
  refine WC.ret ?_
  refine WQ.out (.tmp rfl .nil) ?_
  exact ⟨by rw [al7]; rfl, H15.fr⟩
end Go.Proofs.Ytnngbnenekjffaa
/-! from EDem11 -/
namespace Go.Proofs.Ytnngbnenekjffaa
open Go.Owl Go.Spec
set_option maxHeartbeats 2000000 in
set_option maxRecDepth 100000 in
theorem demandUnions_ok (lv mv : Value) (l : List Nt) (ms : List Mm) (w : World) (hA : Arr w lv 3 l.length (List.flatMap ntc l)) (hM : Arr w mv 4 ms.length (List.flatMap mmc ms)) (hI : MmD.list.ok w ms) (hl : ms.length ≤ 2 ^ 47) (hfx : ∀ x ∈ ms, x.xs.length ≤ 2 ^ 46) (hfp : ∀ x ∈ ms, x.ps.length ≤ 2 ^ 46) :
    Calls Try.prog 3 #[lv, mv] w (fun e w' => e = .returned (.bool true) ∧ Fr [] w w') := by
  refine enter (args := [lv, mv]) Try.func3 rfl rfl ?_
  have H0 : Own [] w w [] := Own.start w []
  refine WC.seq ?_
  refine WC.region ?_
  refine WL.op rfl rfl (op_assign rfl ?_)
  refine WL.nil ?_
  refine WQ.next ?_
  refine WC.seq ?_
  refine WC.seq ?_
  refine WC.region ?_
  refine WL.op rfl rfl (op_move rfl ?_)
  refine WL.op rfl rfl (op_callF Fa.C7 rfl ((large11_ok _ ms _ (H0.arr hM) (MmD.list.fr0 hI H0.fr) (by omega) hfx hfp).mono (fun e w1 hq => ?_)))
  obtain ⟨rfl, hf1⟩ := hq
  refine ⟨_, rfl, ?_⟩
  have H1 := H0.fr' hf1
  refine WL.op rfl rfl (op_move rfl ?_)
  refine WL.split (t := 17) rfl (fun (hb2 : (large11 ms) = true) => ?_) (fun (hb2 : (large11 ms) = false) => ?_)
  ·
    refine WL.no rfl rfl rfl hb2 rfl ?_
    refine WL.no rfl rfl rfl hb2 rfl ?_
    refine WL.no rfl rfl rfl hb2 rfl ?_
    refine WL.op rfl rfl (op_pickT rfl hb2 rfl ?_)
    refine WL.nil ?_
    refine WQ.next ?_
    refine WC.yes rfl rfl ?_
    refine WC.seq ?_
    refine WC.region ?_
    refine WL.op rfl rfl (op_callF Fa.C8 rfl ((alive11_ok _).mono (fun e w3 hq => ?_)))
    obtain ⟨rfl, hf3⟩ := hq
    refine ⟨_, rfl, ?_⟩
    have H3 := H1.fr' hf3
    refine WL.op rfl rfl (op_assign rfl ?_)
    refine WL.nil ?_
    refine WQ.next ?_
    refine WC.ret ?_
    refine WQ.thenRet ?_
    refine WQ.out (.tmp rfl .nil) ?_
    exact ⟨rfl, H3.fr⟩
  ·
    refine WL.yes rfl rfl rfl hb2 rfl (op_move rfl ?_)
    refine WL.yes rfl rfl rfl hb2 rfl (op_lenA Try.underlying22 rfl (H1.arr hA) ?_)
    refine WL.yes rfl rfl rfl hb2 rfl (op_gtrN (b := 200) rfl rfl ?_)
    refine WL.op rfl rfl (op_pickF rfl hb2 rfl ?_)
    refine WL.nil ?_
    refine WQ.next ?_
    refine WC.cond rfl (fun (hb4 : (decide (l.length > 200)) = true) => ?_) (fun (hb4 : (decide (l.length > 200)) = false) => ?_)
    ·
      have hc4 := of_decide_eq_true hb4
      refine WC.seq ?_
      refine WC.region ?_
      refine WL.op rfl rfl (op_callF Fa.C8 rfl ((alive11_ok _).mono (fun e w5 hq => ?_)))
      obtain ⟨rfl, hf5⟩ := hq
      refine ⟨_, rfl, ?_⟩
      have H5 := H1.fr' hf5
      refine WL.op rfl rfl (op_assign rfl ?_)
      refine WL.nil ?_
      refine WQ.next ?_
      refine WC.ret ?_
      refine WQ.thenRet ?_
      refine WQ.out (.tmp rfl .nil) ?_
      exact ⟨rfl, H5.fr⟩
    ·
      have hc4 := of_decide_eq_false hb4
      have hl6 := large_len hb2
      have hol := of_len (l := l)
      have hul := un_len' (ms := ms)
      refine WC.skip ?_
      refine WQ.next ?_
      refine WC.seq ?_
      refine WC.region ?_
      refine WL.op rfl rfl (op_move rfl ?_)
      have H7 := H1.nilRow 36 3
      refine WL.op rfl rfl (op_appendF (f := ntc) (l := []) (l' := l) (i := 0) H7 Try.underlying22 Fa.I36 rfl rfl rfl rfl (Src.ofArr Try.underlying22 (H7.arr hA)) (one_flat (fun _ => by simp [ntc, Value.oneCell'])) (by omega) (by omega) (fun v6 w6 H6 => ?_))
      refine WL.op rfl rfl (op_assign rfl ?_)
      refine WL.nil ?_
      refine WQ.next ?_
      refine WC.seq ?_
      refine WC.region ?_
      have H8 : Own [] w w6 [.row v6 36 3 l.length (List.flatMap ntc l)] := Own.rowEqF (i := 0) (f := ntc) H6 rfl (by simp) (by simp)
      refine WL.op rfl rfl (op_move rfl ?_)
      refine WL.op rfl rfl (op_callF Fa.C9 rfl ((dof_ok _ l _ (H8.arrR (i := 0) rfl) (by omega)).mono (fun e w9 hq => ?_)))
      obtain ⟨v9, u9, rfl, hq9⟩ := hq
      refine ⟨_, rfl, ?_⟩
      have H9 : Own [] w w9 [.row v6 36 3 l.length (List.flatMap ntc l), .row v9 50 2 ((ofM l).xs).length (List.flatMap xtc (ofM l).xs), .row u9 51 1 ((ofM l).ps).length (List.map vU16 (ofM l).ps)] := H8.splice [] [] [.row v9 50 2 ((ofM l).xs).length (List.flatMap xtc (ofM l).xs), .row u9 51 1 ((ofM l).ps).length (List.map vU16 (ofM l).ps)] rfl rfl hq9 (Fits.solid True.intro (Fits.solid True.intro Fits.nil))
      refine WL.op rfl rfl (op_move rfl ?_)
      refine WL.op rfl rfl (op_extract rfl rfl ?_)
      refine WL.op rfl rfl (op_extract rfl rfl ?_)
      refine WL.op rfl rfl (op_alloc H9 Fa.I30 (fun b10 w10 H10 => ?_))
      refine WL.op rfl rfl (op_storeBW (i := 3) H10 rfl rfl rfl rfl (one_cons rfl (one_cons (Arr.one (H10.arrR (i := 1) rfl)) (one_cons (Arr.one (H10.arrR (i := 2) rfl)) (one_cons rfl one_nil)))) Fa.I30 (fun w11 H11 => ?_))
      refine WL.op rfl rfl (op_assign rfl ?_)
      refine WL.nil ?_
      refine WQ.next ?_
      refine WC.seq ?_
      refine WC.region ?_
      refine WL.op rfl rfl (op_move rfl ?_)
      refine WL.op rfl rfl (op_callF Fa.C10 rfl ((rof_ok _ l _ (H11.arr hA) (by omega)).mono (fun e w12 hq => ?_)))
      obtain ⟨v12, u12, rfl, ha12, hb12, hq12⟩ := hq
      refine ⟨_, rfl, ?_⟩
      have H12 : Own [] w w12 [.row v6 36 3 l.length (List.flatMap ntc l), .row v9 50 2 ((ofM l).xs).length (List.flatMap xtc (ofM l).xs), .row u9 51 1 ((ofM l).ps).length (List.map vU16 (ofM l).ps), .blk b10 [(vU32 (ofM l).pg), v9, u9, (.bool (ofM l).con)] 30, Ent.ar v12 2 ((ofM l).xs).length (List.flatMap xtc (ofM l).xs), Ent.ar u12 1 ((ofM l).ps).length (List.map vU16 (ofM l).ps)] := H11.splice [] [] [Ent.ar v12 2 ((ofM l).xs).length (List.flatMap xtc (ofM l).xs), Ent.ar u12 1 ((ofM l).ps).length (List.map vU16 (ofM l).ps)] rfl rfl hq12 (Fits.fresh ha12 (Fits.fresh hb12 Fits.nil))
      refine WL.op rfl rfl (op_move rfl ?_)
      refine WL.op rfl rfl (op_extract rfl rfl ?_)
      refine WL.op rfl rfl (op_extract rfl rfl ?_)
      refine WL.op rfl rfl (op_alloc H12 Fa.I30 (fun b13 w13 H13 => ?_))
      refine WL.op rfl rfl (op_storeBW (i := 6) H13 rfl rfl rfl rfl (one_cons rfl (one_cons (Arr.one (H13.arrO (i := 4) rfl)) (one_cons (Arr.one (H13.arrO (i := 5) rfl)) (one_cons rfl one_nil)))) Fa.I30 (fun w14 H14 => ?_))
      refine WL.op rfl rfl (op_assign rfl ?_)
      refine WL.nil ?_
      refine WQ.next ?_
      refine WC.seq ?_
      refine WC.seq ?_
      refine WC.region ?_
      refine WL.op rfl rfl (op_assign rfl ?_)
      refine WL.nil ?_
      refine WQ.next ?_
      refine WC.block ?_
      refine WC.loop (α := Nat) (fun k => [(0, lv), (1, mv), (5, v6), (6, (ptr b10 0)), (7, (vN (ofE l))), (8, (ptr b13 0)), (9, (vN (ofE l))), (10, (vN k))]) (fun k w' => (k ≤ l.length) ∧ Own [] w w' [.row v6 36 3 l.length (List.flatMap ntc l), .row v9 50 2 ((ofM l).xs).length (List.flatMap xtc (ofM l).xs), .row u9 51 1 ((ofM l).ps).length (List.map vU16 (ofM l).ps), .blk b10 [(vU32 (ofM l).pg), v9, u9, (.bool (ofM l).con)] 30, Ent.ar v12 2 ((ofM l).xs).length (List.flatMap xtc (ofM l).xs), Ent.ar u12 1 ((ofM l).ps).length (List.map vU16 (ofM l).ps), .blk b13 [(vU32 (ofM l).pg), v12, u12, (.bool (ofM l).con)] 30]) (fun k => l.length - k) 0 ⟨(Nat.zero_le _), H14⟩ ⟨rfl, rfl, rfl, rfl, rfl, rfl, rfl, rfl, trivial⟩ ?_
      rintro k w15 ⟨hinv, H15⟩
      show WC _ _ _ _ _ [(0, lv), (1, mv), (5, v6), (6, (ptr b10 0)), (7, (vN (ofE l))), (8, (ptr b13 0)), (9, (vN (ofE l))), (10, (vN k))] _
      refine WC.seq ?_
      refine WC.seq ?_
      refine WC.region ?_
      refine WL.op rfl rfl (op_move rfl ?_)
      refine WL.op rfl rfl (op_move rfl ?_)
      refine WL.op rfl rfl (op_lenA Try.underlying22 rfl (H15.arr hA) ?_)
      refine WL.op rfl rfl (op_lssN rfl rfl ?_)
      refine WL.nil ?_
      refine WQ.next ?_
      refine WC.cond rfl (fun (hb16 : (decide (k < l.length)) = true) => ?_) (fun (hb16 : (decide (k < l.length)) = false) => ?_)
      ·
        have hc16 := of_decide_eq_true hb16
        refine WC.skip ?_
        refine WQ.next ?_
        refine WC.seq ?_
        refine WC.block ?_
        refine WC.seq ?_
        refine WC.draw 9 Fa.M H15 (HW.op rfl (fun w1 H1 => op_move rfl ⟨rfl, Fr.refl _ _⟩) (HW.op rfl (fun w1 H1 => op_move rfl ⟨rfl, Fr.refl _ _⟩) (HW.op rfl (fun w1 H1 => op_indexAddr Try.underlying22 Fa.I36 rfl (H1.arrR (i := 0) rfl) rfl (by omega) ⟨rfl, Fr.refl _ _⟩) (HW.op rfl (fun w1 H1 => op_loadSP (vs := ntc (l.getD k Nt.zero)) rfl (Arr.atsF (H1.arrR (i := 0) rfl) (fun _ => rfl) (by decide) Nt.zero (by omega)) Try.underlying36 rfl Fa.I36 rfl ⟨rfl, Fr.refl _ _⟩) (HW.op rfl (fun w1 H1 => op_move rfl ⟨rfl, Fr.refl _ _⟩) (HW.op rfl (fun w1 H1 => op_move rfl ⟨rfl, Fr.refl _ _⟩) (HW.op rfl (fun w1 H1 => op_indexAddr Try.underlying22 Fa.I36 rfl (H1.arr hA) rfl (by omega) ⟨rfl, Fr.refl _ _⟩) (HW.op rfl (fun w1 H1 => op_loadSP (vs := ntc (l.getD k Nt.zero)) rfl (Arr.atsF (H1.arr hA) (fun _ => rfl) (by decide) Nt.zero (by omega)) Try.underlying36 rfl Fa.I36 rfl ⟨rfl, Fr.refl _ _⟩) (HW.op rfl (fun w1 H1 => op_neqS (xs := [_, _, _]) (ys := [_, _, _]) (b := (!((decide ((l.getD k Nt.zero).kind = (l.getD k Nt.zero).kind)) && ((decide ((l.getD k Nt.zero).n = (l.getD k Nt.zero).n)) && (decide ((l.getD k Nt.zero).m = (l.getD k Nt.zero).m)))))) Fa.FL36 rfl rfl rfl (by simp [eqAll, veqU32, veqU8]) ⟨rfl, Fr.refl _ _⟩)  HW.nil))))))))) (by kernel_rfl) ?_
        intro β17 w17 H17
        refine WL.nil ?_
        refine WQ.next ?_
        refine WC.no rfl (nt_self _) ?_
        refine WC.skip ?_
        refine WQ.inNormal ?_
        refine WQ.next ?_
        refine WC.region ?_
        refine WL.op rfl rfl (op_move rfl ?_)
        refine WL.op rfl rfl (op_addN (b := 1) rfl rfl (by omega) ?_)
        refine WL.op rfl rfl (op_assign rfl ?_)
        refine WL.nil ?_
        exact WQ.round (k + 1) ⟨(by omega), H17⟩ ⟨rfl, rfl, rfl, rfl, rfl, rfl, rfl, rfl, trivial⟩ (by omega)
      ·
        have hc16 := of_decide_eq_false hb16
        refine WC.exit ?_
        refine WQ.thenExit ?_
        refine WQ.thenExit ?_
        refine WQ.inHere ?_
        refine WQ.next ?_
        refine WC.seq ?_
        refine WC.region ?_
        refine WL.op rfl rfl (op_move rfl ?_)
        have H19 := H15.nilRow 30 4
        refine WL.op rfl rfl (op_appendF (f := mmc) (l := []) (l' := ms) (i := 7) H19 Try.underlying23 Fa.I30 rfl rfl rfl rfl (Src.ofArr Try.underlying23 (H19.arr hM)) (mm_one (MmD.list.fr0 hI H19.fr)) (by omega) (by omega) (fun v18 w18 H18 => ?_))
        have H20 : Own [] w w18 [.row v6 36 3 l.length (List.flatMap ntc l), .row v9 50 2 ((ofM l).xs).length (List.flatMap xtc (ofM l).xs), .row u9 51 1 ((ofM l).ps).length (List.map vU16 (ofM l).ps), .blk b10 [(vU32 (ofM l).pg), v9, u9, (.bool (ofM l).con)] 30, Ent.ar v12 2 ((ofM l).xs).length (List.flatMap xtc (ofM l).xs), Ent.ar u12 1 ((ofM l).ps).length (List.map vU16 (ofM l).ps), .blk b13 [(vU32 (ofM l).pg), v12, u12, (.bool (ofM l).con)] 30, .row v18 30 4 ms.length (List.flatMap mmc ms)] := Own.rowEqF (i := 7) (f := mmc) H18 rfl (by simp) (by simp)
        refine WL.op rfl rfl (op_callF Fa.C11 rfl ((dun_ok _ ms _ (H20.arrR (i := 7) rfl) (MmD.list.fr0 hI H20.fr) (by omega) hfx hfp).mono (fun e w21 hq => ?_)))
        obtain ⟨v21, u21, rfl, hq21⟩ := hq
        refine ⟨_, rfl, ?_⟩
        have H21 : Own [] w w21 [.row v6 36 3 l.length (List.flatMap ntc l), .row v9 50 2 ((ofM l).xs).length (List.flatMap xtc (ofM l).xs), .row u9 51 1 ((ofM l).ps).length (List.map vU16 (ofM l).ps), .blk b10 [(vU32 (ofM l).pg), v9, u9, (.bool (ofM l).con)] 30, Ent.ar v12 2 ((ofM l).xs).length (List.flatMap xtc (ofM l).xs), Ent.ar u12 1 ((ofM l).ps).length (List.map vU16 (ofM l).ps), .blk b13 [(vU32 (ofM l).pg), v12, u12, (.bool (ofM l).con)] 30, .row v18 30 4 ms.length (List.flatMap mmc ms), .row v21 50 2 ((unM (ms.map Mm.f)).xs).length (List.flatMap xtc (unM (ms.map Mm.f)).xs), .row u21 51 1 ((unM (ms.map Mm.f)).ps).length (List.map vU16 (unM (ms.map Mm.f)).ps)] := H20.splice [] [] [.row v21 50 2 ((unM (ms.map Mm.f)).xs).length (List.flatMap xtc (unM (ms.map Mm.f)).xs), .row u21 51 1 ((unM (ms.map Mm.f)).ps).length (List.map vU16 (unM (ms.map Mm.f)).ps)] rfl rfl hq21 (Fits.solid True.intro (Fits.solid True.intro Fits.nil))
        refine WL.op rfl rfl (op_move rfl ?_)
        refine WL.op rfl rfl (op_extract rfl rfl ?_)
        refine WL.op rfl rfl (op_extract rfl rfl ?_)
        refine WL.op rfl rfl (op_alloc H21 Fa.I30 (fun b22 w22 H22 => ?_))
        refine WL.op rfl rfl (op_storeBW (i := 10) H22 rfl rfl rfl rfl (one_cons rfl (one_cons (Arr.one (H22.arrR (i := 8) rfl)) (one_cons (Arr.one (H22.arrR (i := 9) rfl)) (one_cons rfl one_nil)))) Fa.I30 (fun w23 H23 => ?_))
        refine WL.op rfl rfl (op_assign rfl ?_)
        refine WL.nil ?_
        refine WQ.next ?_
        refine WC.seq ?_
        refine WC.region ?_
        refine WL.op rfl rfl (op_move rfl ?_)
        refine WL.op rfl rfl (op_callF Fa.C12 rfl ((run_ok _ ms _ (H23.arr hM) (MmD.list.fr0 hI H23.fr) (by omega) hfx hfp).mono (fun e w24 hq => ?_)))
        obtain ⟨v24, u24, rfl, ha24, hb24, hq24⟩ := hq
        refine ⟨_, rfl, ?_⟩
        have H24 : Own [] w w24 [.row v6 36 3 l.length (List.flatMap ntc l), .row v9 50 2 ((ofM l).xs).length (List.flatMap xtc (ofM l).xs), .row u9 51 1 ((ofM l).ps).length (List.map vU16 (ofM l).ps), .blk b10 [(vU32 (ofM l).pg), v9, u9, (.bool (ofM l).con)] 30, Ent.ar v12 2 ((ofM l).xs).length (List.flatMap xtc (ofM l).xs), Ent.ar u12 1 ((ofM l).ps).length (List.map vU16 (ofM l).ps), .blk b13 [(vU32 (ofM l).pg), v12, u12, (.bool (ofM l).con)] 30, .row v18 30 4 ms.length (List.flatMap mmc ms), .row v21 50 2 ((unM (ms.map Mm.f)).xs).length (List.flatMap xtc (unM (ms.map Mm.f)).xs), .row u21 51 1 ((unM (ms.map Mm.f)).ps).length (List.map vU16 (unM (ms.map Mm.f)).ps), .blk b22 [(vU32 (unM (ms.map Mm.f)).pg), v21, u21, (.bool (unM (ms.map Mm.f)).con)] 30, Ent.ar v24 2 ((unM (ms.map Mm.f)).xs).length (List.flatMap xtc (unM (ms.map Mm.f)).xs), Ent.ar u24 1 ((unM (ms.map Mm.f)).ps).length (List.map vU16 (unM (ms.map Mm.f)).ps)] := H23.splice [] [] [Ent.ar v24 2 ((unM (ms.map Mm.f)).xs).length (List.flatMap xtc (unM (ms.map Mm.f)).xs), Ent.ar u24 1 ((unM (ms.map Mm.f)).ps).length (List.map vU16 (unM (ms.map Mm.f)).ps)] rfl rfl hq24 (Fits.fresh ha24 (Fits.fresh hb24 Fits.nil))
        refine WL.op rfl rfl (op_move rfl ?_)
        refine WL.op rfl rfl (op_extract rfl rfl ?_)
        refine WL.op rfl rfl (op_extract rfl rfl ?_)
        refine WL.op rfl rfl (op_alloc H24 Fa.I30 (fun b25 w25 H25 => ?_))
        refine WL.op rfl rfl (op_storeBW (i := 13) H25 rfl rfl rfl rfl (one_cons rfl (one_cons (Arr.one (H25.arrO (i := 11) rfl)) (one_cons (Arr.one (H25.arrO (i := 12) rfl)) (one_cons rfl one_nil)))) Fa.I30 (fun w26 H26 => ?_))
        refine WL.op rfl rfl (op_assign rfl ?_)
        refine WL.nil ?_
        refine WQ.next ?_
        refine WC.seq ?_
        refine WC.region ?_
        refine WL.op rfl rfl (op_loadS (vs := [_, _, _, _]) rfl (H26.cells (i := 3) rfl rfl) Try.underlying30 rfl Fa.I30 rfl ?_)
        refine WL.op rfl rfl (op_loadS (vs := [_, _, _, _]) rfl (H26.cells (i := 6) rfl rfl) Try.underlying30 rfl Fa.I30 rfl ?_)
        refine WL.op rfl rfl (op_callF Fa.C13 rfl (((same_of (a := (ofM l)) (b := (ofM l)) (rmsame_ok ((ofM l).pg) ((ofM l).con) _ _ ((ofM l).xs) ((ofM l).ps) ((ofM l).pg) ((ofM l).con) _ _ ((ofM l).xs) ((ofM l).ps) _ (H26.arrR (i := 1) rfl) (H26.arrR (i := 2) rfl) (H26.arrO (i := 4) rfl) (H26.arrO (i := 5) rfl) (by omega) (by omega)))).mono (fun e w27 hq => ?_)))
        obtain ⟨rfl, hf27⟩ := hq
        refine ⟨_, rfl, ?_⟩
        have H27 := H26.fr' hf27
        refine WL.op rfl rfl (op_move rfl ?_)
        refine WL.yes rfl rfl rfl (decide_eq_true rfl) rfl (op_move rfl ?_)
        refine WL.yes rfl rfl rfl (decide_eq_true rfl) rfl (op_move rfl ?_)
        refine WL.yes rfl rfl rfl (decide_eq_true rfl) rfl (op_eqlN rfl rfl ?_)
        refine WL.op rfl rfl (op_pickT rfl (decide_eq_true rfl) rfl ?_)
        refine WL.op rfl rfl (op_move rfl ?_)
        refine WL.yes rfl rfl rfl (decide_eq_true rfl) rfl (op_loadS (vs := [_, _, _, _]) rfl (H27.cells (i := 10) rfl rfl) Try.underlying30 rfl Fa.I30 rfl ?_)
        refine WL.yes rfl rfl rfl (decide_eq_true rfl) rfl (op_loadS (vs := [_, _, _, _]) rfl (H27.cells (i := 13) rfl rfl) Try.underlying30 rfl Fa.I30 rfl ?_)
        refine WL.yes rfl rfl rfl (decide_eq_true rfl) rfl (op_callF Fa.C13 rfl (((same_of (a := (unM (ms.map Mm.f))) (b := (unM (ms.map Mm.f))) (rmsame_ok ((unM (ms.map Mm.f)).pg) ((unM (ms.map Mm.f)).con) _ _ ((unM (ms.map Mm.f)).xs) ((unM (ms.map Mm.f)).ps) ((unM (ms.map Mm.f)).pg) ((unM (ms.map Mm.f)).con) _ _ ((unM (ms.map Mm.f)).xs) ((unM (ms.map Mm.f)).ps) _ (H27.arrR (i := 8) rfl) (H27.arrR (i := 9) rfl) (H27.arrO (i := 11) rfl) (H27.arrO (i := 12) rfl) (by omega) (by omega)))).mono (fun e w28 hq => ?_)))
        obtain ⟨rfl, hf28⟩ := hq
        refine ⟨_, rfl, ?_⟩
        have H28 := H27.fr' hf28
        refine WL.op rfl rfl (op_pickT rfl (decide_eq_true rfl) rfl ?_)
        refine WL.op rfl rfl (op_move rfl ?_)
        refine WL.yes rfl rfl rfl (decide_eq_true rfl) rfl (op_move rfl ?_)
        refine WL.yes rfl rfl rfl (decide_eq_true rfl) rfl (op_move rfl ?_)
        refine WL.yes rfl rfl rfl (decide_eq_true rfl) rfl (op_eqlN rfl rfl ?_)
        refine WL.op rfl rfl (op_pickT rfl (decide_eq_true rfl) rfl ?_)
        refine WL.op rfl rfl (op_move rfl ?_)
        refine WL.yes rfl rfl rfl (decide_eq_true rfl) rfl (op_callF Fa.C8 rfl ((alive11_ok _).mono (fun e w29 hq => ?_)))
        obtain ⟨rfl, hf29⟩ := hq
        refine ⟨_, rfl, ?_⟩
        have H29 := H28.fr' hf29
        refine WL.op rfl rfl (op_pickT rfl (decide_eq_true rfl) rfl ?_)
        refine WL.op rfl rfl (op_assign rfl ?_)
        refine WL.nil ?_
        refine WQ.next ?_
        refine WC.ret ?_
        refine WQ.out (.tmp rfl .nil) ?_
        exact ⟨rfl, H29.fr⟩
end Go.Proofs.Ytnngbnenekjffaa
