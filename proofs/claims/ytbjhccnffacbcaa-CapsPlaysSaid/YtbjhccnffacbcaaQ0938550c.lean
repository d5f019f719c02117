/- General lemmas and walks: WCap22, WCap23, WCap24, WCap25. No condition but what each theorem names. -/
import Derived.Test.YtbjhccnffacbcaaQ87ceff81
import Derived.Test.YtbjhccnffacbcaaQ9e540657
import Derived.Test.YtbjhccnffacbcaaQ02f141bf
/-! from WCap22 -/
namespace Go.Proofs.Ytbjhccnffacbcaa
open Go.Owl Go.Spec
set_option maxRecDepth 100000 in
theorem rmayH_ok (pg : UInt32) (lv : Value) (he : List UInt32) (w : World) (hA : Arr w lv 1 he.length (List.map vU32 he)) (hn : he.length < 2 ^ 47) :
  Calls Try.prog 33 #[(.agg #[(vU32 pg), lv])] w (fun e w' => e = .returned (.bool (decide (hardE pg he = 0))) ∧ Fr [] w w') := by
 refine enter (args := [(.agg #[(vU32 pg), lv])]) Try.func33 rfl rfl ?_
 have H0 : Owl.Own [] w w [] := Own.start w []
 refine ws ?_
 refine wo (op_box H0 rfl rfl (fun b1 w1 H1 => ?_))
 refine wo (op_assign rfl ?_)
 refine wn ?_
 refine WC.seq ?_
 refine ws ?_
 refine wo (op_assign rfl ?_)
 refine wn ?_
 refine WC.block ?_
 refine WC.loop (α := Nat) (fun k => [(1, (ptr b1 0)), (3, (vN k))]) (fun k w' => (k ≤ he.length ∧ (∀ j, j < k → decide (he.getD j 0 > 1024) = false)) ∧ Owl.Own [] w w' [.blk b1 [(vU32 pg), lv] 48]) (fun k => he.length - k) 0 ⟨⟨Nat.zero_le _, fun j h => by omega⟩, H1⟩ ⟨rfl, rfl, trivial⟩ ?_
 rintro k w2 ⟨⟨hk1, hok⟩, H2⟩
 show WC _ _ _ _ _ [(1, (ptr b1 0)), (3, (vN k))] _
 refine WC.seq ?_
 refine ws ?_
 refine wo (op_move rfl ?_)
 refine wo (op_fieldAddr rfl Fa.F48_1 ?_)
 refine wo (op_load rfl (H2.cell (i := 0) rfl rfl) Try.underlying46 rfl ?_)
 refine wo (op_lenA Try.underlying46 rfl (H2.arr hA) ?_)
 refine wo (op_lssN rfl rfl ?_)
 refine wn ?_
 refine WC.cond rfl (fun (hb3 : (decide (k < he.length)) = true) => ?_) (fun (hb3 : (decide (k < he.length)) = false) => ?_)
 ·
  have hc3 := of_decide_eq_true hb3
  refine WC.skip ?_
  refine WQ.next ?_
  refine WC.seq ?_
  refine WC.block ?_
  refine ws ?_
  refine wo (op_fieldAddr rfl Fa.F48_1 ?_)
  refine wo (op_load rfl (H2.cell (i := 0) rfl rfl) Try.underlying46 rfl ?_)
  refine wo (op_move rfl ?_)
  refine wo (op_indexAddr1 Try.underlying46 Fa.I29 rfl (H2.arr hA) rfl (by omega) ?_)
  refine wo (op_load rfl ((H2.arr hA).at (get_map vU32 0 (Arr.ltM (H2.arr hA) (by omega)))) Try.underlying29 rfl ?_)
  refine wo (op_gtrU32 (b := 1024) rfl rfl ?_)
  refine wn ?_
  refine WC.cond rfl (fun (hb4 : (decide ((he.getD k 0) > (1024 : UInt32))) = true) => ?_) (fun (hb4 : (decide ((he.getD k 0) > (1024 : UInt32))) = false) => ?_)
  ·
   have hc4 := of_decide_eq_true hb4
   refine ws ?_
   refine wo (op_assign rfl ?_)
   refine wn ?_
   refine WC.ret ?_
   refine WQ.inRet ?_
   refine WQ.thenRet ?_
   refine WQ.thenRet ?_
   refine WQ.inRet ?_
   refine WQ.thenRet ?_
   refine WQ.out (.tmp rfl .nil) ?_
   exact ⟨by rw [hardMay_1 (k := k) (by omega) (of_decide_eq_true hb4)]; rfl, H2.fr⟩
  ·
   have hc4 := of_decide_eq_false hb4
   refine WC.skip ?_
   refine WQ.inNormal ?_
   refine WQ.next ?_
   refine WC.region ?_
   refine wo (op_move rfl ?_)
   refine wo (op_addN (b := 1) rfl rfl (by omega) ?_)
   refine wo (op_assign rfl ?_)
   refine WL.nil ?_
   exact WQ.round (k + 1) ⟨⟨by omega, allPrev hok hb4⟩, H2⟩ ⟨rfl, rfl, trivial⟩ (by omega)
 ·
  have hc3 := of_decide_eq_false hb3
  refine WC.exit ?_
  refine WQ.thenExit ?_
  refine WQ.thenExit ?_
  refine WQ.inHere ?_
  refine WQ.next ?_
  refine ws ?_
  refine wo (op_fieldAddr rfl Fa.F48_0 ?_)
  refine wo (op_load rfl (H2.cell (i := 0) rfl rfl) Try.underlying29 rfl ?_)
  refine wo (op_leqU32 (b := 4096) rfl rfl ?_)
  refine wo (op_move rfl ?_)
  refine WL.split (t := 20) rfl (fun (hb5 : (decide (pg ≤ (4096 : UInt32))) = true) => ?_) (fun (hb5 : (decide (pg ≤ (4096 : UInt32))) = false) => ?_)
  ·
   have hc5 := of_decide_eq_true hb5
   refine WL.yes rfl rfl rfl hb5 rfl (op_fieldAddr rfl Fa.F48_1 ?_)
   refine WL.yes rfl rfl rfl hb5 rfl (op_load rfl (H2.cell (i := 0) rfl rfl) Try.underlying46 rfl ?_)
   refine WL.yes rfl rfl rfl hb5 rfl (op_lenA Try.underlying46 rfl (H2.arr hA) ?_)
   refine WL.yes rfl rfl rfl hb5 rfl (op_leqN (b := 16) rfl rfl ?_)
   refine wo (op_pickT rfl hb5 rfl ?_)
   refine wo (op_assign rfl ?_)
   refine wn ?_
   refine WC.ret ?_
   refine WQ.out (.tmp rfl .nil) ?_
   exact ⟨by (rw [hardMay_2 (fun j hj => hok j (by omega)), hb5]) <;> rfl, H2.fr⟩
  ·
   have hc5 := of_decide_eq_false hb5
   refine WL.no rfl rfl rfl hb5 rfl ?_
   refine WL.no rfl rfl rfl hb5 rfl ?_
   refine WL.no rfl rfl rfl hb5 rfl ?_
   refine WL.no rfl rfl rfl hb5 rfl ?_
   refine wo (op_pickF rfl hb5 rfl ?_)
   refine wo (op_assign rfl ?_)
   refine wn ?_
   refine WC.ret ?_
   refine WQ.out (.tmp rfl .nil) ?_
   exact ⟨by (rw [hardMay_2 (fun j hj => hok j (by omega)), hb5]) <;> rfl, H2.fr⟩
set_option maxRecDepth 100000 in
theorem rgrant_bad (r : Nat) (pg : UInt32) (hv rv : Value) (he : List UInt32) (rl : List Gr) (env : Int) (mp : UInt32) (ev pv : Value) (xs : List Xt) (ps : List UInt16) (con : Bool) (pages : UInt32) (w : World) (hR : cellsAt w r [(vU32 pg), hv, rv]) (hH : Arr w hv 1 he.length (List.map vU32 he)) (hV : Arr w rv 7 rl.length (List.flatMap rgc rl)) (hD : grD.list.ok w rl) (hE : Arr w ev 2 xs.length (List.flatMap xtc xs)) (hP : Arr w pv 1 ps.length (List.map vU16 ps)) (hb : env < 1 ∨ env > 8) :
  Calls Try.prog 65 #[(ptr r 0), (vI env), (.agg #[(vU32 mp), ev, pv, (.bool con)]), (vU32 pages)] w (fun e w' => e = .returned (vN 2) ∧ Fr [] w w') := by
 refine enter (args := [(ptr r 0), (vI env), (.agg #[(vU32 mp), ev, pv, (.bool con)]), (vU32 pages)]) Try.func65 rfl rfl ?_
 have H0 : Owl.Own [] w w [Ent.bo r [(vU32 pg), hv, rv], Ent.ar hv 1 he.length (List.map vU32 he), Ent.ar rv 7 rl.length (List.flatMap rgc rl), Ent.dp grD.list rl] := (((((Own.start w []).oldB hR).oldA hH).oldA hV).dpOld hD)
 refine ws ?_
 refine wo (op_box H0 rfl rfl (fun b1 w1 H1 => ?_))
 refine wo (op_assign rfl ?_)
 refine wn ?_
 refine WC.seq ?_
 refine ws ?_
 refine wo (op_move rfl ?_)
 refine wo (op_lssI (b := (1 : Int)) rfl rfl ?_)
 refine wo (op_move rfl ?_)
 refine WL.split (t := 15) rfl (fun (hb2 : (decide (env < (1 : Int))) = true) => ?_) (fun (hb2 : (decide (env < (1 : Int))) = false) => ?_)
 ·
  have hc2 := of_decide_eq_true hb2
  refine WL.no rfl rfl rfl hb2 rfl ?_
  refine WL.no rfl rfl rfl hb2 rfl ?_
  refine wo (op_pickT rfl hb2 rfl ?_)
  refine wo (op_move rfl ?_)
  refine WL.no rfl rfl rfl rfl rfl ?_
  refine WL.no rfl rfl rfl rfl rfl ?_
  refine WL.no rfl rfl rfl rfl rfl ?_
  refine wo (op_pickT rfl rfl rfl ?_)
  refine wo (op_move rfl ?_)
  refine WL.no rfl rfl rfl rfl rfl ?_
  refine WL.no rfl rfl rfl rfl rfl ?_
  refine wo (op_pickT rfl rfl rfl ?_)
  refine wn ?_
  refine WC.yes rfl rfl ?_
  refine ws ?_
  refine wo (op_assign rfl ?_)
  refine wn ?_
  refine WC.ret ?_
  refine WQ.thenRet ?_
  refine WQ.out (.tmp rfl .nil) ?_
  exact ⟨rfl, H1.fr⟩
 ·
  have hc2 := of_decide_eq_false hb2
  refine WL.yes rfl rfl rfl hb2 rfl (op_move rfl ?_)
  refine WL.yes rfl rfl rfl hb2 rfl (op_gtrI (b := (8 : Int)) rfl rfl ?_)
  refine wo (op_pickF rfl hb2 rfl ?_)
  refine wo (op_move rfl ?_)
  refine WL.no rfl rfl rfl (decide_eq_true (by omega)) rfl ?_
  refine WL.no rfl rfl rfl (decide_eq_true (by omega)) rfl ?_
  refine WL.no rfl rfl rfl (decide_eq_true (by omega)) rfl ?_
  refine wo (op_pickT rfl (decide_eq_true (by omega)) rfl ?_)
  refine wo (op_move rfl ?_)
  refine WL.no rfl rfl rfl rfl rfl ?_
  refine WL.no rfl rfl rfl rfl rfl ?_
  refine wo (op_pickT rfl rfl rfl ?_)
  refine wn ?_
  refine WC.yes rfl rfl ?_
  refine ws ?_
  refine wo (op_assign rfl ?_)
  refine wn ?_
  refine WC.ret ?_
  refine WQ.thenRet ?_
  refine WQ.out (.tmp rfl .nil) ?_
  exact ⟨rfl, H1.fr⟩
set_option maxHeartbeats 20000000 in
set_option maxRecDepth 100000 in
theorem rgrant_ok (r : Nat) (pg : UInt32) (hv rv : Value) (he : List UInt32) (rl : List Gr) (en : Nat) (mp : UInt32) (ev pv : Value) (xs : List Xt) (ps : List UInt16) (con : Bool) (pages : UInt32) (T : List Nat) (w : World) (H : Owl.Own T w w [.blk r [(vU32 pg), hv, rv] 81, Ent.ar hv 1 he.length (List.map vU32 he), .row rv 86 7 rl.length (List.flatMap rgc rl), Ent.dp grD.list rl, Ent.ar ev 2 xs.length (List.flatMap xtc xs), Ent.ar pv 1 ps.length (List.map vU16 ps)]) (hT : ∀ b ∈ T, b = r ∨ some b = rv.ownBlock) (h1 : 1 ≤ en) (h8 : en ≤ 8) (hn : xs.length < 2 ^ 40) (hm : ps.length < 2 ^ 40) (hhe : he.length < 2 ^ 32) (hl : rl.length < 2 ^ 30) (hfit : ∀ g ∈ rl, g.ps.length < 2 ^ 40 ∧ g.xs.length < 2 ^ 40) :
    Calls Try.prog 65 #[(ptr r 0), (vN en), (.agg #[(vU32 mp), ev, pv, (.bool con)]), (vU32 pages)] w (fun e w' => ∃ rv' rl', e = .returned (vN (rgE pg he rl (en : Int) mp xs ps pages)) ∧ (∀ l, Rel l rl → Rel (grantG pg he l (en : Int) mp xs ps con pages) rl') ∧ DpTo w rl rl' ∧ Owl.Own T w w' [.blk r [(vU32 pg), hv, rv'] 81, Ent.ar hv 1 he.length (List.map vU32 he), .row rv' 86 7 rl'.length (List.flatMap rgc rl'), Ent.dp grD.list rl', Ent.ar ev 2 xs.length (List.flatMap xtc xs), Ent.ar pv 1 ps.length (List.map vU16 ps)]) := by
  refine enter (args := [(ptr r 0), (vN en), (.agg #[(vU32 mp), ev, pv, (.bool con)]), (vU32 pages)]) Try.func65 rfl rfl ?_
  refine ws ?_
  refine wo (op_box H rfl rfl (fun b1 w1 H1 => ?_))
  refine wo (op_assign rfl ?_)
  refine wn ?_
  refine WC.seq ?_
  refine ws ?_
  refine wo (op_move rfl ?_)
  refine wo (op_lssN (b := 1) rfl rfl ?_)
  refine wo (op_move rfl ?_)
  refine WL.yes rfl rfl rfl (decide_eq_false (by omega)) rfl (op_move rfl ?_)
  refine WL.yes rfl rfl rfl (decide_eq_false (by omega)) rfl (op_gtrN (b := 8) rfl rfl ?_)
  refine wo (op_pickF rfl (decide_eq_false (by omega)) rfl ?_)
  refine wo (op_move rfl ?_)
  refine WL.yes rfl rfl rfl (decide_eq_false (by omega)) rfl (op_loadS (vs := [_, _, _, _]) rfl (H1.cells (i := 6) rfl rfl) Try.underlying59 rfl Fa.I59 rfl ?_)
  refine WL.yes rfl rfl rfl (decide_eq_false (by omega)) rfl (op_callF Fa.C103 rfl ((rmay11_ok mp _ _ xs ps con _ (H1.arrO (i := 4) rfl) (H1.arrO (i := 5) rfl) (by omega) (by omega)).mono (fun e w2 hq => ?_)))
  obtain ⟨rfl, hf2⟩ := hq
  refine ⟨_, rfl, ?_⟩
  have H2 := H1.fr' hf2
  refine WL.yes rfl rfl rfl (decide_eq_false (by omega)) rfl (op_not rfl ?_)
  refine wo (op_pickF rfl (decide_eq_false (by omega)) rfl ?_)
  refine wo (op_move rfl ?_)
  refine WL.split (t := 24) rfl (fun (hb3 : (!(mfMay mp xs ps)) = true) => ?_) (fun (hb3 : (!(mfMay mp xs ps)) = false) => ?_)
  ·
    have hn3 := (Bool.not_eq_true' _).mp hb3
    refine WL.no rfl rfl rfl hb3 rfl ?_
    refine WL.no rfl rfl rfl hb3 rfl ?_
    refine wo (op_pickT rfl hb3 rfl ?_)
    refine wn ?_
    refine WC.yes rfl rfl ?_
    refine ws ?_
    refine wo (op_assign rfl ?_)
    refine wn ?_
    refine WC.ret ?_
    refine WQ.thenRet ?_
    refine WQ.out (.tmp rfl .nil) ?_
    have hE0 : rgE pg he rl (en : Int) mp xs ps pages = 2 := rgE_2 (.inl hn3)
    exact ⟨rv, rl, by rw [hE0]; rfl, fun l hL => hL.noGrant (by rw [hE0]; decide), DpTo.sub (fun _ h => h), H2.sel [0, 1, 2, 3, 4, 5] rfl rfl⟩
  ·
    have hn3 := (Bool.not_eq_false' _).mp hb3
    refine WL.yes rfl rfl rfl hb3 rfl (op_move rfl ?_)
    refine WL.yes rfl rfl rfl hb3 rfl (op_gtrU32 (b := 4096) rfl rfl ?_)
    refine wo (op_pickF rfl hb3 rfl ?_)
    refine wn ?_
    refine WC.cond rfl (fun (hb4 : (decide (pages > (4096 : UInt32))) = true) => ?_) (fun (hb4 : (decide (pages > (4096 : UInt32))) = false) => ?_)
    ·
      have hc4 := of_decide_eq_true hb4
      refine ws ?_
      refine wo (op_assign rfl ?_)
      refine wn ?_
      refine WC.ret ?_
      refine WQ.thenRet ?_
      refine WQ.out (.tmp rfl .nil) ?_
      have hE0 : rgE pg he rl (en : Int) mp xs ps pages = 2 := rgE_2 (.inr (of_decide_eq_true hb4))
      exact ⟨rv, rl, by rw [hE0]; rfl, fun l hL => hL.noGrant (by rw [hE0]; decide), DpTo.sub (fun _ h => h), H2.sel [0, 1, 2, 3, 4, 5] rfl rfl⟩
    ·
      have hc4 := of_decide_eq_false hb4
      refine WC.skip ?_
      refine WQ.next ?_
      refine WC.seq ?_
      refine ws ?_
      refine wo (op_move rfl ?_)
      refine wo (op_move rfl ?_)
      refine bsplit (fun (hb5 : (decide (hasE rl (en : Int) = true)) = true) => ?_) (fun (hb5 : (decide (hasE rl (en : Int) = true)) = false) => ?_)
      ·
        have hc5 := of_decide_eq_true hb5
        obtain ⟨k, hk, hgk, hnk, hok⟩ := has_at (of_decide_eq_true hb5)
        refine wo (op_callF Fa.C104 rfl ((find_yes r pg hv rv he rl ((en : Nat) : Int) k _ (H2.cellsAt (i := 0) rfl) (H2.arrO (i := 1) rfl) (H2.arrR (i := 2) rfl) (H2.dpO (i := 3) rfl) (by omega) hk hgk hnk).mono (fun e w6 hq => ?_)))
        obtain ⟨rfl, hf6⟩ := hq
        refine ⟨_, rfl, ?_⟩
        have H6 := H2.fr' hf6
        refine wo (op_geqN (b := 0) rfl rfl ?_)
        refine wn ?_
        refine WC.yes rfl (decide_eq_true (Nat.zero_le _)) ?_
        refine ws ?_
        refine wo (op_assign rfl ?_)
        refine wn ?_
        refine WC.ret ?_
        refine WQ.thenRet ?_
        refine WQ.out (.tmp rfl .nil) ?_
        have hE0 : rgE pg he rl (en : Int) mp xs ps pages = 9 := rgE_9 (by omega) (by omega) hn3 (of_decide_eq_false hb4) (of_decide_eq_true hb5)
        exact ⟨rv, rl, by rw [hE0]; rfl, fun l hL => hL.noGrant (by rw [hE0]; decide), DpTo.sub (fun _ h => h), H6.sel [0, 1, 2, 3, 4, 5] rfl rfl⟩
      ·
        have hc5 := of_decide_eq_false hb5
        have hno : hasE rl ((en : Nat) : Int) = false := by simpa using of_decide_eq_false hb5
        refine wo (op_callF Fa.C104 rfl ((find_no r pg hv rv he rl ((en : Nat) : Int) _ (H2.cellsAt (i := 0) rfl) (H2.arrO (i := 1) rfl) (H2.arrR (i := 2) rfl) (H2.dpO (i := 3) rfl) (by omega) hno).mono (fun e w7 hq => ?_)))
        obtain ⟨rfl, hf7⟩ := hq
        refine ⟨_, rfl, ?_⟩
        have H7 := H2.fr' hf7
        refine wo (op_geqI (b := (0 : Int)) rfl rfl ?_)
        refine wn ?_
        refine WC.no rfl (by decide) ?_
        refine WC.skip ?_
        refine WQ.next ?_
        refine WC.seq ?_
        refine ws ?_
        refine wo (op_assign rfl ?_)
        refine wn ?_
        refine WC.block ?_
        refine WC.loop (α := Nat) (fun k1 => [(0, (ptr r 0)), (1, (vN en)), (3, (vU32 pages)), (6, (ptr b1 0)), (9, (vN k1))]) (fun k1 w' => (k1 ≤ xs.length ∧ (∀ j, j < k1 → noneX he (xs.getD j Xt.zero) = false)) ∧ Owl.Own T w w' [.blk r [(vU32 pg), hv, rv] 81, Ent.ar hv 1 he.length (List.map vU32 he), .row rv 86 7 rl.length (List.flatMap rgc rl), Ent.dp grD.list rl, Ent.ar ev 2 xs.length (List.flatMap xtc xs), Ent.ar pv 1 ps.length (List.map vU16 ps), .blk b1 [(vU32 mp), ev, pv, (.bool con)] 59]) (fun k1 => xs.length - k1) 0 ⟨⟨Nat.zero_le _, fun j h => by omega⟩, H7⟩ ⟨rfl, rfl, rfl, rfl, rfl, trivial⟩ ?_
        rintro k1 w8 ⟨⟨hk1, hok1⟩, H8⟩
        show WC _ _ _ _ _ [(0, (ptr r 0)), (1, (vN en)), (3, (vU32 pages)), (6, (ptr b1 0)), (9, (vN k1))] _
        refine WC.seq ?_
        refine ws ?_
        refine wo (op_move rfl ?_)
        refine wo (op_fieldAddr rfl Fa.F59_1 ?_)
        refine wo (op_load rfl (H8.cell (i := 6) rfl rfl) Try.underlying56 rfl ?_)
        refine wo (op_lenA Try.underlying56 rfl (H8.arrO (i := 4) rfl) ?_)
        refine wo (op_lssN rfl rfl ?_)
        refine wn ?_
        refine WC.cond rfl (fun (hb9 : (decide (k1 < xs.length)) = true) => ?_) (fun (hb9 : (decide (k1 < xs.length)) = false) => ?_)
        ·
          have hc9 := of_decide_eq_true hb9
          refine WC.skip ?_
          refine WQ.next ?_
          refine WC.seq ?_
          refine WC.block ?_
          refine WC.seq ?_
          refine WC.draw 14 Fa.M H8 (HW.op rfl (fun w1 H1 => op_fieldAddr rfl Fa.F59_1 ⟨rfl, Fr.refl _ _⟩) (HW.op rfl (fun w1 H1 => op_load rfl (H1.cell (i := 6) rfl rfl) Try.underlying56 rfl ⟨rfl, Fr.refl _ _⟩) (HW.op rfl (fun w1 H1 => op_move rfl ⟨rfl, Fr.refl _ _⟩) (HW.op rfl (fun w1 H1 => op_indexAddr Try.underlying56 Fa.I108 rfl (H1.arrO (i := 4) rfl) rfl (by omega) ⟨rfl, Fr.refl _ _⟩) (HW.op rfl (fun w1 H1 => op_fieldAddrS rfl Fa.F108_0 ⟨rfl, Fr.refl _ _⟩) (HW.op rfl (fun w1 H1 => op_load rfl (Arr.atF (k := 0) (H1.arrO (i := 4) rfl) (fun _ => rfl) (by decide) Xt.zero (by omega) rfl) Try.underlying29 rfl ⟨rfl, Fr.refl _ _⟩) (HW.op rfl (fun w1 H1 => op_move rfl ⟨rfl, Fr.refl _ _⟩) (HW.op rfl (fun w1 H1 => op_nilCheck rfl ⟨rfl, Fr.refl _ _⟩) (HW.op rfl (fun w1 H1 => op_fieldAddr rfl Fa.F81_0 ⟨rfl, Fr.refl _ _⟩) (HW.op rfl (fun w1 H1 => op_fieldAddr rfl Fa.F48_1 ⟨rfl, Fr.refl _ _⟩) (HW.op rfl (fun w1 H1 => op_load rfl (H1.cell (i := 0) rfl rfl) Try.underlying46 rfl ⟨rfl, Fr.refl _ _⟩) (HW.op rfl (fun w1 H1 => op_lenA Try.underlying46 rfl (H1.arrO (i := 1) rfl) ⟨rfl, Fr.refl _ _⟩) (HW.op rfl (fun w1 H1 => op_convNU32 (hs := Try.underlying3) (hd := Try.underlying29) rfl ⟨rfl, Fr.refl _ _⟩) (HW.op rfl (fun w1 H1 => op_geqU32 rfl rfl ⟨rfl, Fr.refl _ _⟩)  HW.nil)))))))))))))) (by kernel_rfl) ?_
          intro β10 w10 H10
          refine wn ?_
          refine WC.cond rfl (fun (hb11 : (decide ((xs.getD k1 Xt.zero).id ≥ (UInt32.ofNat he.length))) = true) => ?_) (fun (hb11 : (decide ((xs.getD k1 Xt.zero).id ≥ (UInt32.ofNat he.length))) = false) => ?_)
          ·
            have hc11 := of_decide_eq_true hb11
            refine ws ?_
            refine wo (op_assign rfl ?_)
            refine wn ?_
            refine WC.ret ?_
            refine WQ.inRet ?_
            refine WQ.thenRet ?_
            refine WQ.thenRet ?_
            refine WQ.inRet ?_
            refine WQ.thenRet ?_
            refine WQ.out (.tmp rfl .nil) ?_
            have hE0 : rgE pg he rl (en : Int) mp xs ps pages = 3 := (rgE_w (by omega) (by omega) hn3 (of_decide_eq_false hb4) hno).trans (rgW_3 (noneE_yes (k := k1) (by omega) (of_decide_eq_true (by have h9 := noneX_u (he := he) (x := xs.getD k1 Xt.zero) (by omega); rw [hb11] at h9; exact h9.symm))))
            exact ⟨rv, rl, by rw [hE0]; rfl, fun l hL => hL.noGrant (by rw [hE0]; decide), DpTo.sub (fun _ h => h), H10.sel [0, 1, 2, 3, 4, 5] rfl rfl⟩
          ·
            have hc11 := of_decide_eq_false hb11
            refine WC.skip ?_
            refine WQ.inNormal ?_
            refine WQ.next ?_
            refine WC.region ?_
            refine wo (op_move rfl ?_)
            refine wo (op_addN (b := 1) rfl rfl (by omega) ?_)
            refine wo (op_assign rfl ?_)
            refine WL.nil ?_
            exact WQ.round (k1 + 1) ⟨⟨by omega, allPrev hok1 (by rw [← noneX_u (by omega)]; exact hb11)⟩, H10⟩ ⟨rfl, rfl, rfl, rfl, rfl, trivial⟩ (by omega)
        ·
          have hc9 := of_decide_eq_false hb9
          refine WC.exit ?_
          refine WQ.thenExit ?_
          refine WQ.thenExit ?_
          refine WQ.inHere ?_
          refine WQ.next ?_
          refine WC.seq ?_
          refine ws ?_
          refine wo (op_assign rfl ?_)
          refine wn ?_
          refine WC.block ?_
          refine WC.loop (α := Nat) (fun k2 => [(0, (ptr r 0)), (1, (vN en)), (3, (vU32 pages)), (6, (ptr b1 0)), (10, (vN k2))]) (fun k2 w' => (k2 ≤ xs.length ∧ (∀ j, j < k2 → longX he (xs.getD j Xt.zero) = false)) ∧ Owl.Own T w w' [.blk r [(vU32 pg), hv, rv] 81, Ent.ar hv 1 he.length (List.map vU32 he), .row rv 86 7 rl.length (List.flatMap rgc rl), Ent.dp grD.list rl, Ent.ar ev 2 xs.length (List.flatMap xtc xs), Ent.ar pv 1 ps.length (List.map vU16 ps), .blk b1 [(vU32 mp), ev, pv, (.bool con)] 59]) (fun k2 => xs.length - k2) 0 ⟨⟨Nat.zero_le _, fun j h => by omega⟩, H8⟩ ⟨rfl, rfl, rfl, rfl, rfl, trivial⟩ ?_
          rintro k2 w12 ⟨⟨hk2, hok2⟩, H12⟩
          show WC _ _ _ _ _ [(0, (ptr r 0)), (1, (vN en)), (3, (vU32 pages)), (6, (ptr b1 0)), (10, (vN k2))] _
          refine WC.seq ?_
          refine ws ?_
          refine wo (op_move rfl ?_)
          refine wo (op_fieldAddr rfl Fa.F59_1 ?_)
          refine wo (op_load rfl (H12.cell (i := 6) rfl rfl) Try.underlying56 rfl ?_)
          refine wo (op_lenA Try.underlying56 rfl (H12.arrO (i := 4) rfl) ?_)
          refine wo (op_lssN rfl rfl ?_)
          refine wn ?_
          refine WC.cond rfl (fun (hb13 : (decide (k2 < xs.length)) = true) => ?_) (fun (hb13 : (decide (k2 < xs.length)) = false) => ?_)
          ·
            have hc13 := of_decide_eq_true hb13
            refine WC.skip ?_
            refine WQ.next ?_
            refine WC.seq ?_
            refine WC.block ?_
            refine WC.seq ?_
            refine WC.draw 20 Fa.M H12 (HW.op rfl (fun w1 H1 => op_fieldAddr rfl Fa.F59_1 ⟨rfl, Fr.refl _ _⟩) (HW.op rfl (fun w1 H1 => op_load rfl (H1.cell (i := 6) rfl rfl) Try.underlying56 rfl ⟨rfl, Fr.refl _ _⟩) (HW.op rfl (fun w1 H1 => op_move rfl ⟨rfl, Fr.refl _ _⟩) (HW.op rfl (fun w1 H1 => op_indexAddr Try.underlying56 Fa.I108 rfl (H1.arrO (i := 4) rfl) rfl (by omega) ⟨rfl, Fr.refl _ _⟩) (HW.op rfl (fun w1 H1 => op_fieldAddrS rfl Fa.F108_1 ⟨rfl, Fr.refl _ _⟩) (HW.op rfl (fun w1 H1 => op_load rfl (Arr.atF (k := 1) (H1.arrO (i := 4) rfl) (fun _ => rfl) (by decide) Xt.zero (by omega) rfl) Try.underlying29 rfl ⟨rfl, Fr.refl _ _⟩) (HW.op rfl (fun w1 H1 => op_move rfl ⟨rfl, Fr.refl _ _⟩) (HW.op rfl (fun w1 H1 => op_nilCheck rfl ⟨rfl, Fr.refl _ _⟩) (HW.op rfl (fun w1 H1 => op_fieldAddr rfl Fa.F81_0 ⟨rfl, Fr.refl _ _⟩) (HW.op rfl (fun w1 H1 => op_fieldAddr rfl Fa.F48_1 ⟨rfl, Fr.refl _ _⟩) (HW.op rfl (fun w1 H1 => op_load rfl (H1.cell (i := 0) rfl rfl) Try.underlying46 rfl ⟨rfl, Fr.refl _ _⟩) (HW.op rfl (fun w1 H1 => op_fieldAddr rfl Fa.F59_1 ⟨rfl, Fr.refl _ _⟩) (HW.op rfl (fun w1 H1 => op_load rfl (H1.cell (i := 6) rfl rfl) Try.underlying56 rfl ⟨rfl, Fr.refl _ _⟩) (HW.op rfl (fun w1 H1 => op_move rfl ⟨rfl, Fr.refl _ _⟩) (HW.op rfl (fun w1 H1 => op_indexAddr Try.underlying56 Fa.I108 rfl (H1.arrO (i := 4) rfl) rfl (by omega) ⟨rfl, Fr.refl _ _⟩) (HW.op rfl (fun w1 H1 => op_fieldAddrS rfl Fa.F108_0 ⟨rfl, Fr.refl _ _⟩) (HW.op rfl (fun w1 H1 => op_load rfl (Arr.atF (k := 0) (H1.arrO (i := 4) rfl) (fun _ => rfl) (by decide) Xt.zero (by omega) rfl) Try.underlying29 rfl ⟨rfl, Fr.refl _ _⟩) (HW.op rfl (fun w1 H1 => op_indexAddr1 Try.underlying46 Fa.I29 rfl (H1.arrO (i := 1) rfl) rfl (by have := of_decide_eq_false (hok1 k2 (by omega)); omega) ⟨rfl, Fr.refl _ _⟩) (HW.op rfl (fun w1 H1 => op_load rfl ((H1.arrO (i := 1) rfl).at (get_map vU32 0 (by have := of_decide_eq_false (hok1 k2 (by omega)); omega))) Try.underlying29 rfl ⟨rfl, Fr.refl _ _⟩) (HW.op rfl (fun w1 H1 => op_gtrU32 rfl rfl ⟨rfl, Fr.refl _ _⟩)  HW.nil)))))))))))))))))))) (by kernel_rfl) ?_
            intro β14 w14 H14
            refine wn ?_
            refine WC.cond rfl (fun (hb15 : (decide ((xs.getD k2 Xt.zero).bl > (he.getD (xs.getD k2 Xt.zero).id.toNat 0))) = true) => ?_) (fun (hb15 : (decide ((xs.getD k2 Xt.zero).bl > (he.getD (xs.getD k2 Xt.zero).id.toNat 0))) = false) => ?_)
            ·
              have hc15 := of_decide_eq_true hb15
              refine ws ?_
              refine wo (op_assign rfl ?_)
              refine wn ?_
              refine WC.ret ?_
              refine WQ.inRet ?_
              refine WQ.thenRet ?_
              refine WQ.thenRet ?_
              refine WQ.inRet ?_
              refine WQ.thenRet ?_
              refine WQ.out (.tmp rfl .nil) ?_
              have hE0 : rgE pg he rl (en : Int) mp xs ps pages = 5 := (rgE_w (by omega) (by omega) hn3 (of_decide_eq_false hb4) hno).trans (rgW_5 (noneE_no (fun j hj => by have := hok1 j (by omega); exact of_decide_eq_false this)) (longE_yes (k := k2) (by omega) (longX_y (by have := of_decide_eq_false (hok1 k2 (by omega)); omega) hb15)))
              exact ⟨rv, rl, by rw [hE0]; rfl, fun l hL => hL.noGrant (by rw [hE0]; decide), DpTo.sub (fun _ h => h), H14.sel [0, 1, 2, 3, 4, 5] rfl rfl⟩
            ·
              have hc15 := of_decide_eq_false hb15
              refine WC.skip ?_
              refine WQ.inNormal ?_
              refine WQ.next ?_
              refine WC.region ?_
              refine wo (op_move rfl ?_)
              refine wo (op_addN (b := 1) rfl rfl (by omega) ?_)
              refine wo (op_assign rfl ?_)
              refine WL.nil ?_
              exact WQ.round (k2 + 1) ⟨⟨by omega, allPrev hok2 (longX_n hb15)⟩, H14⟩ ⟨rfl, rfl, rfl, rfl, rfl, trivial⟩ (by omega)
          ·
            have hc13 := of_decide_eq_false hb13
            refine WC.exit ?_
            refine WQ.thenExit ?_
            refine WQ.thenExit ?_
            refine WQ.inHere ?_
            refine WQ.next ?_
            refine WC.seq ?_
            refine ws ?_
            refine wo (op_move rfl ?_)
            refine wo (op_loadS (vs := [_, _, _, _]) rfl (H12.cells (i := 6) rfl rfl) Try.underlying59 rfl Fa.I59 rfl ?_)
            refine wo (op_callF Fa.C105 rfl ((rbusy_ok r pg hv rv he rl mp _ _ xs ps con _ (H12.cellsAt (i := 0) rfl) (H12.arrO (i := 1) rfl) (H12.arrR (i := 2) rfl) (H12.dpO (i := 3) rfl) (H12.arrO (i := 4) rfl) (H12.arrO (i := 5) rfl) (by omega) hfit (by omega) (by omega)).mono (fun e w16 hq => ?_)))
            obtain ⟨rfl, hf16⟩ := hq
            refine ⟨_, rfl, ?_⟩
            have H16 := H12.fr' hf16
            refine wn ?_
            refine WC.cond rfl (fun (hb17 : (busyR rl xs ps) = true) => ?_) (fun (hb17 : (busyR rl xs ps) = false) => ?_)
            ·
              refine ws ?_
              refine wo (op_assign rfl ?_)
              refine wn ?_
              refine WC.ret ?_
              refine WQ.thenRet ?_
              refine WQ.out (.tmp rfl .nil) ?_
              have hE0 : rgE pg he rl (en : Int) mp xs ps pages = 190 := (rgE_w (by omega) (by omega) hn3 (of_decide_eq_false hb4) hno).trans (rgW_190 (noneE_no (fun j hj => by have := hok1 j (by omega); exact of_decide_eq_false this)) (longE_no (fun j hj => hok2 j (by omega))) hb17)
              exact ⟨rv, rl, by rw [hE0]; rfl, fun l hL => hL.noGrant (by rw [hE0]; decide), DpTo.sub (fun _ h => h), H16.sel [0, 1, 2, 3, 4, 5] rfl rfl⟩
            ·
              refine WC.skip ?_
              refine WQ.next ?_
              refine WC.seq ?_
              refine WC.seq ?_
              refine WC.draw 7 Fa.M H16 (HW.op rfl (fun w1 H1 => op_fieldAddr rfl Fa.F59_0 ⟨rfl, Fr.refl _ _⟩) (HW.op rfl (fun w1 H1 => op_load rfl (H1.cell (i := 6) rfl rfl) Try.underlying29 rfl ⟨rfl, Fr.refl _ _⟩) (HW.op rfl (fun w1 H1 => op_move rfl ⟨rfl, Fr.refl _ _⟩) (HW.op rfl (fun w1 H1 => op_addU32 rfl rfl ⟨rfl, Fr.refl _ _⟩) (HW.op rfl (fun w1 H1 => op_move rfl ⟨rfl, Fr.refl _ _⟩) (HW.op rfl (fun w1 H1 => op_callF Fa.C37 rfl ((rfree_ok r pg hv rv he rl _ (H1.cellsAt (i := 0) rfl) (H1.arrO (i := 1) rfl) (H1.arrR (i := 2) rfl) (H1.dpO (i := 3) rfl) (by omega)).mono (fun e w2 hq => ⟨_, hq.1, rfl, hq.2⟩))) (HW.op rfl (fun w1 H1 => op_gtrU32 rfl rfl ⟨rfl, Fr.refl _ _⟩)  HW.nil))))))) (by kernel_rfl) ?_
              intro β19 w19 H19
              refine wn ?_
              refine WC.cond rfl (fun (hb20 : (decide ((mp + pages) > (freeS pg rl))) = true) => ?_) (fun (hb20 : (decide ((mp + pages) > (freeS pg rl))) = false) => ?_)
              ·
                have hc20 := of_decide_eq_true hb20
                refine ws ?_
                refine wo (op_assign rfl ?_)
                refine wn ?_
                refine WC.ret ?_
                refine WQ.thenRet ?_
                refine WQ.out (.tmp rfl .nil) ?_
                have hE0 : rgE pg he rl (en : Int) mp xs ps pages = 4 := (rgE_w (by omega) (by omega) hn3 (of_decide_eq_false hb4) hno).trans ((rgW_f (noneE_no (fun j hj => by have := hok1 j (by omega); exact of_decide_eq_false this)) (longE_no (fun j hj => hok2 j (by omega))) hb17).trans (if_pos (of_decide_eq_true hb20)))
                exact ⟨rv, rl, by rw [hE0]; rfl, fun l hL => hL.noGrant (by rw [hE0]; decide), DpTo.sub (fun _ h => h), H19.sel [0, 1, 2, 3, 4, 5] rfl rfl⟩
              ·
                have hc20 := of_decide_eq_false hb20
                refine WC.skip ?_
                refine WQ.next ?_
                refine ws ?_
                refine wo (op_assign rfl ?_)
                have H21 := H19.nilRow 86 7
                refine wn ?_
                refine ws ?_
                refine wo (op_assign rfl ?_)
                refine wn ?_
                refine WC.seq ?_
                refine WC.block ?_
                refine WC.loop (α := Nat × Value) (fun (k3, q) => [(0, (ptr r 0)), (1, (vN en)), (3, (vU32 pages)), (6, (ptr b1 0)), (11, q), (12, (vN k3))]) (fun (k3, q) w' => (k3 ≤ rl.length ∧ (∀ j, j < k3 → ((rl.getD j Gr.no).e : Int) < (en : Int))) ∧ Owl.Own T w w' [.blk r [(vU32 pg), hv, rv] 81, Ent.ar hv 1 he.length (List.map vU32 he), .row rv 86 7 rl.length (List.flatMap rgc rl), Ent.dp grD.list rl, Ent.ar ev 2 xs.length (List.flatMap xtc xs), Ent.ar pv 1 ps.length (List.map vU16 ps), .blk b1 [(vU32 mp), ev, pv, (.bool con)] 59, .row q 86 7 k3 (List.flatMap rgc (rl.take k3))]) (fun (k3, q) => rl.length - k3) (0, (.slice none 0 0)) ⟨⟨Nat.zero_le _, fun j h => by omega⟩, H21⟩ ⟨rfl, rfl, rfl, rfl, rfl, rfl, trivial⟩ ?_
                rintro ⟨k3, q⟩ w22 ⟨⟨hk3, hok3⟩, H22⟩
                show WC _ _ _ _ _ [(0, (ptr r 0)), (1, (vN en)), (3, (vU32 pages)), (6, (ptr b1 0)), (11, q), (12, (vN k3))] _
                refine WC.seq ?_
                refine ws ?_
                refine wo (op_move rfl ?_)
                refine wo (op_move rfl ?_)
                refine wo (op_nilCheck rfl ?_)
                refine wo (op_fieldAddr rfl Fa.F81_1 ?_)
                refine wo (op_load rfl (H22.cell (i := 0) rfl rfl) Try.underlying79 rfl ?_)
                refine wo (op_lenA Try.underlying79 rfl (H22.arrR (i := 2) rfl) ?_)
                refine wo (op_lssN rfl rfl ?_)
                refine wo (op_move rfl ?_)
                refine WL.split (t := 97) rfl (fun (hb23 : (decide (k3 < rl.length)) = true) => ?_) (fun (hb23 : (decide (k3 < rl.length)) = false) => ?_)
                ·
                  have hc23 := of_decide_eq_true hb23
                  refine WL.yes rfl rfl rfl hb23 rfl (op_move rfl ?_)
                  refine WL.yes rfl rfl rfl hb23 rfl (op_nilCheck rfl ?_)
                  refine WL.yes rfl rfl rfl hb23 rfl (op_fieldAddr rfl Fa.F81_1 ?_)
                  refine WL.yes rfl rfl rfl hb23 rfl (op_load rfl (H22.cell (i := 0) rfl rfl) Try.underlying79 rfl ?_)
                  refine WL.yes rfl rfl rfl hb23 rfl (op_move rfl ?_)
                  refine WL.yes rfl rfl rfl hb23 rfl (op_indexAddr Try.underlying79 Fa.I86 rfl (H22.arrR (i := 2) rfl) rfl (by omega) ?_)
                  refine WL.yes rfl rfl rfl hb23 rfl (op_fieldAddrS rfl Fa.F86_0 ?_)
                  refine WL.yes rfl rfl rfl hb23 rfl (op_load rfl (Arr.atF (k := 0) (H22.arrR (i := 2) rfl) (fun _ => rfl) (by decide) Gr.no (by omega) rfl) Try.underlying3 rfl ?_)
                  refine WL.yes rfl rfl rfl hb23 rfl (op_move rfl ?_)
                  refine WL.yes rfl rfl rfl hb23 rfl (op_lssN rfl rfl ?_)
                  refine wo (op_pickT rfl hb23 rfl ?_)
                  refine wn ?_
                  refine WC.cond rfl (fun (hb24 : (decide ((rl.getD k3 Gr.no).e < en)) = true) => ?_) (fun (hb24 : (decide ((rl.getD k3 Gr.no).e < en)) = false) => ?_)
                  ·
                    have hc24 := of_decide_eq_true hb24
                    refine WC.skip ?_
                    refine WQ.next ?_
                    refine WC.block ?_
                    refine ws ?_
                    refine wo (op_move rfl ?_)
                    refine wo (op_move rfl ?_)
                    refine wo (op_nilCheck rfl ?_)
                    refine wo (op_fieldAddr rfl Fa.F81_1 ?_)
                    refine wo (op_load rfl (H22.cell (i := 0) rfl rfl) Try.underlying79 rfl ?_)
                    refine wo (op_move rfl ?_)
                    refine wo (op_indexAddr Try.underlying79 Fa.I86 rfl (H22.arrR (i := 2) rfl) rfl (by omega) ?_)
                    refine wo (op_loadSP (vs := rgc (rl.getD k3 Gr.no)) rfl (Arr.atsF (H22.arrR (i := 2) rfl) (fun _ => rfl) (by decide) Gr.no (by omega)) Try.underlying86 rfl Fa.I86 rfl ?_)
                    refine wo (op_buildSlice (cs := [_, _, _, _, _, _, _]) H22 Try.underlying79 Fa.I86 rfl rfl rfl rfl (by decide) (by decide) (fun b25 w25 H25 => ?_))
                    refine wo (op_appendF (f := rgc) (l := (rl.take k3)) (l' := [(rl.getD k3 Gr.no)]) (i := 7) H25 Try.underlying79 Fa.I86 rfl rfl rfl rfl (Src.ofArr Try.underlying79 (H25.arrR (i := 8) rfl)) (gr_one (fun x hx => (H25.dpO (i := 3) rfl) x (by rw [List.mem_singleton.1 hx]; rw [show rl.getD k3 Gr.no = rl[k3] by simp [List.getD, show k3 < rl.length by omega]]; exact List.getElem_mem _))) (by omega) (by omega) (fun v26 w26 H26 => ?_))
                    refine wo (op_assign rfl ?_)
                    refine wn ?_
                    refine WC.region ?_
                    refine wo (op_move rfl ?_)
                    refine wo (op_addN (b := 1) rfl rfl (by omega) ?_)
                    refine wo (op_assign rfl ?_)
                    refine WL.nil ?_
                    refine WQ.inNormal ?_
                    exact WQ.round (k3 + 1, v26) ⟨⟨by omega, allPrev hok3 (by have := of_decide_eq_true hb24; omega)⟩, (by have h := (show Owl.Own T w w26 [.blk r [(vU32 pg), hv, rv] 81, Ent.ar hv 1 he.length (List.map vU32 he), .row rv 86 7 rl.length (List.flatMap rgc rl), Ent.dp grD.list rl, Ent.ar ev 2 xs.length (List.flatMap xtc xs), Ent.ar pv 1 ps.length (List.map vU16 ps), .blk b1 [(vU32 mp), ev, pv, (.bool con)] 59, .row v26 86 7 (k3 + 1) (List.flatMap rgc ((rl.take k3) ++ [(rl.getD k3 Gr.no)]))] from (H26.take 8)); rw [show ((rl.take k3) ++ [(rl.getD k3 Gr.no)]) = rl.take (k3 + 1) from (take_snoc (by omega)).symm] at h; exact h)⟩ ⟨rfl, rfl, rfl, rfl, rfl, rfl, trivial⟩ (by show rl.length - (k3 + 1) < rl.length - k3; omega)
                  ·
                    have hc24 := of_decide_eq_false hb24
                    refine WC.exit ?_
                    refine WQ.thenExit ?_
                    refine WQ.thenExit ?_
                    refine WQ.inHere ?_
                    refine WQ.next ?_
                    refine ws ?_
                    refine wo (op_move rfl ?_)
                    refine wo (op_move rfl ?_)
                    refine wo (op_loadS (vs := [_, _, _, _]) rfl (H22.cells (i := 6) rfl rfl) Try.underlying59 rfl Fa.I59 rfl ?_)
                    refine wo (op_callF Fa.C20 rfl ((copy11_ok mp _ _ xs ps con _ (H22.arrO (i := 4) rfl) (H22.arrO (i := 5) rfl) (by omega) (by omega)).mono (fun e w27 hq => ?_)))
                    obtain ⟨v27, u27, rfl, hq27⟩ := hq
                    refine ⟨_, rfl, ?_⟩
                    have H27 : Owl.Own T w w27 [.blk r [(vU32 pg), hv, rv] 81, Ent.ar hv 1 he.length (List.map vU32 he), .row rv 86 7 rl.length (List.flatMap rgc rl), Ent.dp grD.list rl, Ent.ar ev 2 xs.length (List.flatMap xtc xs), Ent.ar pv 1 ps.length (List.map vU16 ps), .blk b1 [(vU32 mp), ev, pv, (.bool con)] 59, .row q 86 7 k3 (List.flatMap rgc (rl.take k3)), .row v27 108 2 xs.length (List.flatMap xtc xs), .row u27 50 1 ps.length (List.map vU16 ps)] := H22.splice [] [] [.row v27 108 2 xs.length (List.flatMap xtc xs), .row u27 50 1 ps.length (List.map vU16 ps)] rfl rfl hq27 (Fits.solid True.intro (Fits.solid True.intro Fits.nil))
                    refine wo (op_move rfl ?_)
                    refine wo (op_build (cs := [_, _, _, _, _, _, _]) Fa.I86 Fa.PL86 rfl rfl ?_)
                    refine wo (op_buildSlice (cs := [_, _, _, _, _, _, _]) H27 Try.underlying79 Fa.I86 rfl rfl rfl rfl (by decide) (by decide) (fun b28 w28 H28 => ?_))
                    refine wo (op_appendF (f := rgc) (l := (rl.take k3)) (l' := [(Gr.rg en mp v27 xs u27 ps con pages 0)]) (i := 7) H28 Try.underlying79 Fa.I86 rfl rfl rfl rfl (Src.ofArr Try.underlying79 (H28.arrR (i := 10) rfl)) (gr_one (fun x hx => by rw [List.mem_singleton.1 hx]; exact ⟨(H28.arrR (i := 8) rfl), (H28.arrR (i := 9) rfl)⟩)) (by omega) (by omega) (fun v29 w29 H29 => ?_))
                    refine wo (op_assign rfl ?_)
                    refine wn ?_
                    refine ws ?_
                    refine wo (op_move rfl ?_)
                    refine wo (op_move rfl ?_)
                    refine wo (op_move rfl ?_)
                    refine wo (op_nilCheck rfl ?_)
                    refine wo (op_fieldAddr rfl Fa.F81_1 ?_)
                    refine wo (op_load rfl (H29.cell (i := 0) rfl rfl) Try.underlying79 rfl ?_)
                    refine wo (op_move rfl ?_)
                    refine wo (op_cutLo Try.underlying79 Fa.I86 rfl (H29.arrR (i := 2) rfl) rfl (by omega) ?_)
                    refine wo (op_appendF (f := rgc) (l := ((rl.take k3) ++ [(Gr.rg en mp v27 xs u27 ps con pages 0)])) (l' := (rl.drop k3)) (i := 7) H29 Try.underlying79 Fa.I86 rfl rfl rfl rfl (Src.ofArr Try.underlying79 (((H29.arrR (i := 2) rfl)).cutLoF (fun _ => rfl) (by decide) (a := k3) (by omega))) (gr_one (fun x hx => (H29.dpO (i := 3) rfl) x (List.mem_of_mem_drop hx))) (by omega) (by omega) (fun v30 w30 H30 => ?_))
                    refine wo (op_nilCheck rfl ?_)
                    refine wo (op_fieldAddr rfl Fa.F81_1 ?_)
                    refine wo (op_storeB (i := 0) H30 rfl rfl rfl rfl (Arr.one (H30.arrR (i := 7) rfl)) Fa.I79 (fun w31 H31 => ?_))
                    refine wn ?_
                    refine ws ?_
                    refine wo (op_assign rfl ?_)
                    refine wn ?_
                    refine WC.ret ?_
                    refine WQ.out (.tmp rfl .nil) ?_
                    have hE0 : rgE pg he rl (en : Int) mp xs ps pages = 0 := (rgE_w (by omega) (by omega) hn3 (of_decide_eq_false hb4) hno).trans ((rgW_f (noneE_no (fun j hj => by have := hok1 j (by omega); exact of_decide_eq_false this)) (longE_no (fun j hj => hok2 j (by omega))) hb17).trans (if_neg (of_decide_eq_false hb20)))
                    have h2 := H31
                    rw [show ((k3 + 1) + (rl.length - k3)) = ((rl.take k3 ++ [(Gr.rg en mp v27 xs u27 ps con pages 0)] ++ rl.drop k3)).length by simp; omega] at h2
                    have hz1 := h2.rowFreshT (i := 8) rfl (fun b hb => by
                      rcases hT b hb with h9 | h9
                      · exact ⟨0, _, rfl, by decide, congrArg some h9.symm⟩
                      · exact ⟨2, _, rfl, by decide, h9.symm⟩)
                    have hz2 := h2.rowFreshT (i := 9) rfl (fun b hb => by
                      rcases hT b hb with h9 | h9
                      · exact ⟨0, _, rfl, by decide, congrArg some h9.symm⟩
                      · exact ⟨2, _, rfl, by decide, h9.symm⟩)
                    have h3 := (h2.freeze (i := 8) rfl).freeze (i := 9) rfl
                    have h4 := h3.join (i := 8) (j := 9) (sr := grD.st (Gr.rg en mp v27 xs u27 ps con pages 0)) rfl rfl (fun p q => ⟨p, q⟩) (fun b hb => List.mem_append.1 hb)
                    have h5 := Owl.Own.dpWith (D := grD) (l := rl) (l' := (rl.take k3 ++ [(Gr.rg en mp v27 xs u27 ps con pages 0)] ++ rl.drop k3)) (a := (Gr.rg en mp v27 xs u27 ps con pages 0)) (i := 3) (j := 11) h4 rfl rfl (fun w p q => dpIns p q) (fun b hb => dpInsFt hb)
                    exact ⟨v30, (rl.take k3 ++ [(Gr.rg en mp v27 xs u27 ps con pages 0)] ++ rl.drop k3), by rw [hE0]; rfl, fun l hL => hL.grant (by rw [hL.grantE]; exact hE0) rfl (by rw [mfE, hn3]; rfl) hok3 (by rcases Nat.lt_or_ge k3 rl.length with h9 | h9; exact .inr ⟨h9, by first | (have h8 := of_decide_eq_false hb24; omega) | omega⟩; exact .inl (by omega)), DpTo.ins (fun x hx => (List.mem_append.1 hx).elim (hz1 x) (hz2 x)), h5.sel [0, 1, 7, 12, 4, 5] rfl rfl⟩
                ·
                  have hc23 := of_decide_eq_false hb23
                  refine WL.no rfl rfl rfl hb23 rfl ?_
                  refine WL.no rfl rfl rfl hb23 rfl ?_
                  refine WL.no rfl rfl rfl hb23 rfl ?_
                  refine WL.no rfl rfl rfl hb23 rfl ?_
                  refine WL.no rfl rfl rfl hb23 rfl ?_
                  refine WL.no rfl rfl rfl hb23 rfl ?_
                  refine WL.no rfl rfl rfl hb23 rfl ?_
                  refine WL.no rfl rfl rfl hb23 rfl ?_
                  refine WL.no rfl rfl rfl hb23 rfl ?_
                  refine WL.no rfl rfl rfl hb23 rfl ?_
                  refine wo (op_pickF rfl hb23 rfl ?_)
                  refine wn ?_
                  refine WC.no rfl rfl ?_
                  refine WC.exit ?_
                  refine WQ.thenExit ?_
                  refine WQ.thenExit ?_
                  refine WQ.inHere ?_
                  refine WQ.next ?_
                  refine ws ?_
                  refine wo (op_move rfl ?_)
                  refine wo (op_move rfl ?_)
                  refine wo (op_loadS (vs := [_, _, _, _]) rfl (H22.cells (i := 6) rfl rfl) Try.underlying59 rfl Fa.I59 rfl ?_)
                  refine wo (op_callF Fa.C20 rfl ((copy11_ok mp _ _ xs ps con _ (H22.arrO (i := 4) rfl) (H22.arrO (i := 5) rfl) (by omega) (by omega)).mono (fun e w32 hq => ?_)))
                  obtain ⟨v32, u32, rfl, hq32⟩ := hq
                  refine ⟨_, rfl, ?_⟩
                  have H32 : Owl.Own T w w32 [.blk r [(vU32 pg), hv, rv] 81, Ent.ar hv 1 he.length (List.map vU32 he), .row rv 86 7 rl.length (List.flatMap rgc rl), Ent.dp grD.list rl, Ent.ar ev 2 xs.length (List.flatMap xtc xs), Ent.ar pv 1 ps.length (List.map vU16 ps), .blk b1 [(vU32 mp), ev, pv, (.bool con)] 59, .row q 86 7 k3 (List.flatMap rgc (rl.take k3)), .row v32 108 2 xs.length (List.flatMap xtc xs), .row u32 50 1 ps.length (List.map vU16 ps)] := H22.splice [] [] [.row v32 108 2 xs.length (List.flatMap xtc xs), .row u32 50 1 ps.length (List.map vU16 ps)] rfl rfl hq32 (Fits.solid True.intro (Fits.solid True.intro Fits.nil))
                  refine wo (op_move rfl ?_)
                  refine wo (op_build (cs := [_, _, _, _, _, _, _]) Fa.I86 Fa.PL86 rfl rfl ?_)
                  refine wo (op_buildSlice (cs := [_, _, _, _, _, _, _]) H32 Try.underlying79 Fa.I86 rfl rfl rfl rfl (by decide) (by decide) (fun b33 w33 H33 => ?_))
                  refine wo (op_appendF (f := rgc) (l := (rl.take k3)) (l' := [(Gr.rg en mp v32 xs u32 ps con pages 0)]) (i := 7) H33 Try.underlying79 Fa.I86 rfl rfl rfl rfl (Src.ofArr Try.underlying79 (H33.arrR (i := 10) rfl)) (gr_one (fun x hx => by rw [List.mem_singleton.1 hx]; exact ⟨(H33.arrR (i := 8) rfl), (H33.arrR (i := 9) rfl)⟩)) (by omega) (by omega) (fun v34 w34 H34 => ?_))
                  refine wo (op_assign rfl ?_)
                  refine wn ?_
                  refine ws ?_
                  refine wo (op_move rfl ?_)
                  refine wo (op_move rfl ?_)
                  refine wo (op_move rfl ?_)
                  refine wo (op_nilCheck rfl ?_)
                  refine wo (op_fieldAddr rfl Fa.F81_1 ?_)
                  refine wo (op_load rfl (H34.cell (i := 0) rfl rfl) Try.underlying79 rfl ?_)
                  refine wo (op_move rfl ?_)
                  refine wo (op_cutLo Try.underlying79 Fa.I86 rfl (H34.arrR (i := 2) rfl) rfl (by omega) ?_)
                  refine wo (op_appendF (f := rgc) (l := ((rl.take k3) ++ [(Gr.rg en mp v32 xs u32 ps con pages 0)])) (l' := (rl.drop k3)) (i := 7) H34 Try.underlying79 Fa.I86 rfl rfl rfl rfl (Src.ofArr Try.underlying79 (((H34.arrR (i := 2) rfl)).cutLoF (fun _ => rfl) (by decide) (a := k3) (by omega))) (gr_one (fun x hx => (H34.dpO (i := 3) rfl) x (List.mem_of_mem_drop hx))) (by omega) (by omega) (fun v35 w35 H35 => ?_))
                  refine wo (op_nilCheck rfl ?_)
                  refine wo (op_fieldAddr rfl Fa.F81_1 ?_)
                  refine wo (op_storeB (i := 0) H35 rfl rfl rfl rfl (Arr.one (H35.arrR (i := 7) rfl)) Fa.I79 (fun w36 H36 => ?_))
                  refine wn ?_
                  refine ws ?_
                  refine wo (op_assign rfl ?_)
                  refine wn ?_
                  refine WC.ret ?_
                  refine WQ.out (.tmp rfl .nil) ?_
                  have hE0 : rgE pg he rl (en : Int) mp xs ps pages = 0 := (rgE_w (by omega) (by omega) hn3 (of_decide_eq_false hb4) hno).trans ((rgW_f (noneE_no (fun j hj => by have := hok1 j (by omega); exact of_decide_eq_false this)) (longE_no (fun j hj => hok2 j (by omega))) hb17).trans (if_neg (of_decide_eq_false hb20)))
                  have h2 := H36
                  rw [show ((k3 + 1) + (rl.length - k3)) = ((rl.take k3 ++ [(Gr.rg en mp v32 xs u32 ps con pages 0)] ++ rl.drop k3)).length by simp; omega] at h2
                  have hz1 := h2.rowFreshT (i := 8) rfl (fun b hb => by
                    rcases hT b hb with h9 | h9
                    · exact ⟨0, _, rfl, by decide, congrArg some h9.symm⟩
                    · exact ⟨2, _, rfl, by decide, h9.symm⟩)
                  have hz2 := h2.rowFreshT (i := 9) rfl (fun b hb => by
                    rcases hT b hb with h9 | h9
                    · exact ⟨0, _, rfl, by decide, congrArg some h9.symm⟩
                    · exact ⟨2, _, rfl, by decide, h9.symm⟩)
                  have h3 := (h2.freeze (i := 8) rfl).freeze (i := 9) rfl
                  have h4 := h3.join (i := 8) (j := 9) (sr := grD.st (Gr.rg en mp v32 xs u32 ps con pages 0)) rfl rfl (fun p q => ⟨p, q⟩) (fun b hb => List.mem_append.1 hb)
                  have h5 := Owl.Own.dpWith (D := grD) (l := rl) (l' := (rl.take k3 ++ [(Gr.rg en mp v32 xs u32 ps con pages 0)] ++ rl.drop k3)) (a := (Gr.rg en mp v32 xs u32 ps con pages 0)) (i := 3) (j := 11) h4 rfl rfl (fun w p q => dpIns p q) (fun b hb => dpInsFt hb)
                  exact ⟨v35, (rl.take k3 ++ [(Gr.rg en mp v32 xs u32 ps con pages 0)] ++ rl.drop k3), by rw [hE0]; rfl, fun l hL => hL.grant (by rw [hL.grantE]; exact hE0) rfl (by rw [mfE, hn3]; rfl) hok3 (.inl (by omega)), DpTo.ins (fun x hx => (List.mem_append.1 hx).elim (hz1 x) (hz2 x)), h5.sel [0, 1, 7, 12, 4, 5] rfl rfl⟩
end Go.Proofs.Ytbjhccnffacbcaa
/-! from WCap23 -/
namespace Go.Proofs.Ytbjhccnffacbcaa
open Go.Owl Go.Spec
set_option maxHeartbeats 4000000 in
set_option maxRecDepth 100000 in
theorem rrelease_ok (r : Nat) (pg : UInt32) (hv rv : Value) (he : List UInt32) (rl : List Gr) (env : Int) (T : List Nat) (w : World) (H : Owl.Own T w w [.blk r [(vU32 pg), hv, rv] 81, Ent.ar hv 1 he.length (List.map vU32 he), .row rv 86 7 rl.length (List.flatMap rgc rl), Ent.dp grD.list rl]) (hl : rl.length < 2 ^ 30) (hfit : ∀ g ∈ rl, g.ps.length < 2 ^ 40 ∧ g.xs.length < 2 ^ 40) :
  Calls Try.prog 66 #[(ptr r 0), (vI env)] w (fun e w' => ∃ rv' rl', e = .returned (vN (relE rl env)) ∧ (∀ l, Rel l rl → Rel (relG l env) rl') ∧ DpTo w rl rl' ∧ Owl.Own T w w' [.blk r [(vU32 pg), hv, rv'] 81, Ent.ar hv 1 he.length (List.map vU32 he), .row rv' 86 7 rl'.length (List.flatMap rgc rl'), Ent.dp grD.list rl']) := by
 refine enter (args := [(ptr r 0), (vI env)]) Try.func66 rfl rfl ?_
 refine ws ?_
 refine wo (op_assign rfl ?_)
 refine wn ?_
 refine ws ?_
 refine wo (op_move rfl ?_)
 refine wo (op_move rfl ?_)
 refine bsplit (fun (hb1 : (decide (hasE rl env = true)) = true) => ?_) (fun (hb1 : (decide (hasE rl env = true)) = false) => ?_)
 ·
  have hc1 := of_decide_eq_true hb1
  obtain ⟨k, hk, hgk, hnk, hok⟩ := has_at (of_decide_eq_true hb1)
  refine wo (op_callF Fa.C104 rfl ((find_yes r pg hv rv he rl env k _ (H.cellsAt (i := 0) rfl) (H.arrO (i := 1) rfl) (H.arrR (i := 2) rfl) (H.dpO (i := 3) rfl) (by omega) hk hgk hnk).mono (fun e w2 hq => ?_)))
  obtain ⟨rfl, hf2⟩ := hq
  refine ⟨_, rfl, ?_⟩
  have H2 := H.fr' hf2
  refine wo (op_assign rfl ?_)
  refine wn ?_
  refine WC.seq ?_
  refine ws ?_
  refine wo (op_move rfl ?_)
  refine wo (op_lssN (b := 0) rfl rfl ?_)
  refine wn ?_
  refine WC.no rfl (decide_eq_false (Nat.not_lt_zero _)) ?_
  refine WC.skip ?_
  refine WQ.next ?_
  refine WC.seq ?_
  refine WC.held 19 rfl Fa.M H2 (fun w' => ∃ L', Owl.Own T w w' ([] ++ L')) ?_
  intro w3 H3
  refine WH.take (i := 0) (v := (ptr r 0)) rfl rfl (.inl rfl) rfl (by kernel_rfl) ⟨[.blk r [(vU32 pg), hv, rv] 81, Ent.ar hv 1 he.length (List.map vU32 he), .row rv 86 7 rl.length (List.flatMap rgc rl), Ent.dp grD.list rl], H3⟩ (fun wX hSX => hSX.elim fun LX HX => op_move rfl ⟨rfl, rfl⟩) ?_
  refine WH.take (i := 1) (v := (ptr r 0)) rfl rfl (.inl rfl) rfl (by kernel_rfl) ⟨[.blk r [(vU32 pg), hv, rv] 81, Ent.ar hv 1 he.length (List.map vU32 he), .row rv 86 7 rl.length (List.flatMap rgc rl), Ent.dp grD.list rl], H3⟩ (fun wX hSX => hSX.elim fun LX HX => op_move rfl ⟨rfl, rfl⟩) ?_
  refine WH.take (i := 5) (v := (vN k)) rfl rfl (.inl rfl) rfl (by kernel_rfl) ⟨[.blk r [(vU32 pg), hv, rv] 81, Ent.ar hv 1 he.length (List.map vU32 he), .row rv 86 7 rl.length (List.flatMap rgc rl), Ent.dp grD.list rl], H3⟩ (fun wX hSX => hSX.elim fun LX HX => op_move rfl ⟨rfl, rfl⟩) ?_
  refine WH.take (i := 8) (v := (ptr r 0)) rfl rfl (.inl rfl) rfl (by kernel_rfl) ⟨[.blk r [(vU32 pg), hv, rv] 81, Ent.ar hv 1 he.length (List.map vU32 he), .row rv 86 7 rl.length (List.flatMap rgc rl), Ent.dp grD.list rl], H3⟩ (fun wX hSX => hSX.elim fun LX HX => op_move rfl ⟨rfl, rfl⟩) ?_
  refine WH.take (i := 12) (v := (vN k)) rfl rfl (.inl rfl) rfl (by kernel_rfl) ⟨[.blk r [(vU32 pg), hv, rv] 81, Ent.ar hv 1 he.length (List.map vU32 he), .row rv 86 7 rl.length (List.flatMap rgc rl), Ent.dp grD.list rl], H3⟩ (fun wX hSX => hSX.elim fun LX HX => op_move rfl ⟨rfl, rfl⟩) ?_
  refine WH.take (i := 13) (v := (vN (k + 1))) rfl rfl (.inl rfl) rfl (by kernel_rfl) ⟨[.blk r [(vU32 pg), hv, rv] 81, Ent.ar hv 1 he.length (List.map vU32 he), .row rv 86 7 rl.length (List.flatMap rgc rl), Ent.dp grD.list rl], H3⟩ (fun wX hSX => hSX.elim fun LX HX => op_addN (b := 1) rfl rfl (by omega) ⟨rfl, rfl⟩) ?_
  refine WH.named (fun W hW => ?_)
  have st4_22 : ∀ (v14141 : Value) (v14301 : Value) (wS : World), Owl.Own T w wS [.blk r [(vU32 pg), hv, v14301] 81, Ent.ar hv 1 he.length (List.map vU32 he), .row rv 86 7 rl.length (List.flatMap rgc rl), Ent.dp grD.list rl, .row v14301 86 7 ((0 + k) + (rl.length - (k + 1))) (List.flatMap rgc (([] ++ (rl.take k)) ++ (rl.drop (k + 1))))] → W 0 #[tt, tt, tt, tt, tt, tt, tt, tt, tt, tt, tt, tt, tt, tt, tt, tt, tt, tt, tt] [(0, (ptr r 0)), (1, (vI env)), (4, (vN 0)), (5, (vN k)), (6, (ptr r 0)), (7, (vI env)), (8, (vN k)), (9, (vN k)), (10, (.bool (decide (k < 0)))), (11, (ptr r 0)), (12, (ptr r 0)), (13, (ptr r 0)), (14, (ptr r 2)), (15, rv), (16, (vN k)), (17, (cutV rv 0 k 7)), (18, v14141), (19, (ptr r 0)), (20, (ptr r 0)), (21, (ptr r 2)), (22, rv), (23, (vN k)), (24, (vN (k + 1))), (25, (cutV rv (k + 1) rl.length 7)), (26, v14301), (27, (ptr r 0)), (28, (ptr r 2))] wS := by
   intro v14141 v14301 wS HS
   rw [hW]
   refine WH.done (by kernel_rfl) ?_
   refine WQ.next ?_
   refine ws ?_
   refine wo (op_assign rfl ?_)
   refine wn ?_
   refine WC.ret ?_
   refine WQ.out (.tmp rfl .nil) ?_
   have h2 := HS
   rw [show ((0 + k) + (rl.length - (k + 1))) = (rl.take k ++ rl.drop (k + 1)).length by simp; omega] at h2
   have h3 := Owl.Own.dpOf (D := grD) (l := rl) (l' := (rl.take k ++ rl.drop (k + 1))) (i := 3) h2 rfl (fun w h x hx => h x (cut_sub x hx)) (ft_sub cut_sub)
   exact ⟨v14301, (rl.take k ++ rl.drop (k + 1)), by rw [relE, if_pos (of_decide_eq_true hb1)]; rfl, fun l hL => hL.rel hk hgk, DpTo.cut, h3.sel [0, 1, 4, 5] rfl rfl⟩
  have st4_21 : ∀ (v14141 : Value) (v14301 : Value) (wS : World), Owl.Own T w wS [.blk r [(vU32 pg), hv, rv] 81, Ent.ar hv 1 he.length (List.map vU32 he), .row rv 86 7 rl.length (List.flatMap rgc rl), Ent.dp grD.list rl, .row v14301 86 7 ((0 + k) + (rl.length - (k + 1))) (List.flatMap rgc (([] ++ (rl.take k)) ++ (rl.drop (k + 1))))] → W 1 #[tt, tt, tt, tt, tt, tt, tt, tt, tt, tt, tt, tt, tt, tt, tt, tt, tt, tt, ff] [(0, (ptr r 0)), (1, (vI env)), (4, (vN 0)), (5, (vN k)), (6, (ptr r 0)), (7, (vI env)), (8, (vN k)), (9, (vN k)), (10, (.bool (decide (k < 0)))), (11, (ptr r 0)), (12, (ptr r 0)), (13, (ptr r 0)), (14, (ptr r 2)), (15, rv), (16, (vN k)), (17, (cutV rv 0 k 7)), (18, v14141), (19, (ptr r 0)), (20, (ptr r 0)), (21, (ptr r 2)), (22, rv), (23, (vN k)), (24, (vN (k + 1))), (25, (cutV rv (k + 1) rl.length 7)), (26, v14301), (27, (ptr r 0)), (28, (ptr r 2))] wS := by
   intro v14141 v14301 wS HS
   rw [hW]
   refine WH.all1 (i := 18) (by kernel_rfl) ?_
   ·
    refine WHS.op (i := 18) rfl (.inl rfl) rfl (op_storeB (i := 0) HS rfl rfl rfl rfl (Arr.one (HS.arrR (i := 4) rfl)) Fa.I79 (fun w14361 H14361 => ?_))
    refine ⟨⟨[.blk r [(vU32 pg), hv, v14301] 81, Ent.ar hv 1 he.length (List.map vU32 he), .row rv 86 7 rl.length (List.flatMap rgc rl), Ent.dp grD.list rl, .row v14301 86 7 ((0 + k) + (rl.length - (k + 1))) (List.flatMap rgc (([] ++ (rl.take k)) ++ (rl.drop (k + 1))))], H14361⟩, ?_⟩
    have hq := st4_22 v14141 v14301 w14361 H14361
    rw [hW] at hq
    exact WH.cv hq
  have st4_20 : ∀ (v14141 : Value) (v14301 : Value) (wS : World), Owl.Own T w wS [.blk r [(vU32 pg), hv, rv] 81, Ent.ar hv 1 he.length (List.map vU32 he), .row rv 86 7 rl.length (List.flatMap rgc rl), Ent.dp grD.list rl, .row v14301 86 7 ((0 + k) + (rl.length - (k + 1))) (List.flatMap rgc (([] ++ (rl.take k)) ++ (rl.drop (k + 1))))] → W 3 #[tt, tt, tt, tt, tt, tt, tt, tt, tt, tt, tt, tt, tt, tt, tt, tt, ff, ff, ff] [(0, (ptr r 0)), (1, (vI env)), (4, (vN 0)), (5, (vN k)), (6, (ptr r 0)), (7, (vI env)), (8, (vN k)), (9, (vN k)), (10, (.bool (decide (k < 0)))), (11, (ptr r 0)), (12, (ptr r 0)), (13, (ptr r 0)), (14, (ptr r 2)), (15, rv), (16, (vN k)), (17, (cutV rv 0 k 7)), (18, v14141), (19, (ptr r 0)), (20, (ptr r 0)), (21, (ptr r 2)), (22, rv), (23, (vN k)), (24, (vN (k + 1))), (25, (cutV rv (k + 1) rl.length 7)), (26, v14301)] wS := by
   intro v14141 v14301 wS HS
   rw [hW]
   refine WH.all1 (i := 16) (by kernel_rfl) ?_
   ·
    refine WHS.op (i := 16) rfl (.inl rfl) rfl (op_nilCheck rfl ?_)
    refine ⟨⟨[.blk r [(vU32 pg), hv, rv] 81, Ent.ar hv 1 he.length (List.map vU32 he), .row rv 86 7 rl.length (List.flatMap rgc rl), Ent.dp grD.list rl, .row v14301 86 7 ((0 + k) + (rl.length - (k + 1))) (List.flatMap rgc (([] ++ (rl.take k)) ++ (rl.drop (k + 1))))], HS⟩, ?_⟩
    refine WH.take (i := 17) (v := (ptr r 2)) rfl rfl (.inl rfl) rfl (by kernel_rfl) ⟨[.blk r [(vU32 pg), hv, rv] 81, Ent.ar hv 1 he.length (List.map vU32 he), .row rv 86 7 rl.length (List.flatMap rgc rl), Ent.dp grD.list rl, .row v14301 86 7 ((0 + k) + (rl.length - (k + 1))) (List.flatMap rgc (([] ++ (rl.take k)) ++ (rl.drop (k + 1))))], HS⟩ (fun wX hSX => hSX.elim fun LX HX => op_fieldAddr rfl Fa.F81_1 ⟨rfl, rfl⟩) ?_
    have hq := st4_21 v14141 v14301 wS HS
    rw [hW] at hq
    exact WH.cv hq
  have st4_19 : ∀ (v14141 : Value) (wS : World), Owl.Own T w wS [.blk r [(vU32 pg), hv, rv] 81, Ent.ar hv 1 he.length (List.map vU32 he), .row rv 86 7 rl.length (List.flatMap rgc rl), Ent.dp grD.list rl, .row v14141 86 7 (0 + k) (List.flatMap rgc ([] ++ (rl.take k)))] → W 4 #[tt, tt, tt, tt, tt, tt, tt, tt, tt, tt, tt, tt, tt, tt, tt, ff, ff, ff, ff] [(0, (ptr r 0)), (1, (vI env)), (4, (vN 0)), (5, (vN k)), (6, (ptr r 0)), (7, (vI env)), (8, (vN k)), (9, (vN k)), (10, (.bool (decide (k < 0)))), (11, (ptr r 0)), (12, (ptr r 0)), (13, (ptr r 0)), (14, (ptr r 2)), (15, rv), (16, (vN k)), (17, (cutV rv 0 k 7)), (18, v14141), (19, (ptr r 0)), (20, (ptr r 0)), (21, (ptr r 2)), (22, rv), (23, (vN k)), (24, (vN (k + 1))), (25, (cutV rv (k + 1) rl.length 7))] wS := by
   intro v14141 wS HS
   rw [hW]
   refine WH.all1 (i := 15) (by kernel_rfl) ?_
   ·
    refine WHS.op (i := 15) rfl (.inl rfl) rfl (op_appendF (f := rgc) (l := ([] ++ (rl.take k))) (l' := (rl.drop (k + 1))) (i := 4) HS Try.underlying79 Fa.I86 rfl rfl rfl rfl (Src.ofArr Try.underlying79 (((HS.arrR (i := 2) rfl)).cutLoF (fun _ => rfl) (by decide) (a := (k + 1)) (by omega))) (gr_one (fun x hx => (HS.dpO (i := 3) rfl) x (List.mem_of_mem_drop hx))) (by omega) (by omega) (fun v14301 w14301 H14301 => ?_))
    refine ⟨⟨[.blk r [(vU32 pg), hv, rv] 81, Ent.ar hv 1 he.length (List.map vU32 he), .row rv 86 7 rl.length (List.flatMap rgc rl), Ent.dp grD.list rl, .row v14301 86 7 ((0 + k) + (rl.length - (k + 1))) (List.flatMap rgc (([] ++ (rl.take k)) ++ (rl.drop (k + 1))))], H14301⟩, ?_⟩
    have hq := st4_20 v14141 v14301 w14301 H14301
    rw [hW] at hq
    exact WH.cv hq
  have st4_17 : ∀ (v14141 : Value) (wS : World), Owl.Own T w wS [.blk r [(vU32 pg), hv, rv] 81, Ent.ar hv 1 he.length (List.map vU32 he), .row rv 86 7 rl.length (List.flatMap rgc rl), Ent.dp grD.list rl, .row v14141 86 7 (0 + k) (List.flatMap rgc ([] ++ (rl.take k)))] → W 5 #[tt, tt, tt, tt, tt, tt, tt, tt, tt, tt, tt, tt, tt, tt, ff, ff, ff, ff, ff] [(0, (ptr r 0)), (1, (vI env)), (4, (vN 0)), (5, (vN k)), (6, (ptr r 0)), (7, (vI env)), (8, (vN k)), (9, (vN k)), (10, (.bool (decide (k < 0)))), (11, (ptr r 0)), (12, (ptr r 0)), (13, (ptr r 0)), (14, (ptr r 2)), (15, rv), (16, (vN k)), (17, (cutV rv 0 k 7)), (18, v14141), (19, (ptr r 0)), (20, (ptr r 0)), (21, (ptr r 2)), (22, rv), (23, (vN k)), (24, (vN (k + 1)))] wS := by
   intro v14141 wS HS
   rw [hW]
   refine WH.all1 (i := 14) (by kernel_rfl) ?_
   ·
    refine WHS.op (i := 14) rfl (.inl rfl) rfl (op_cutLo Try.underlying79 Fa.I86 rfl (HS.arrR (i := 2) rfl) rfl (by omega) ?_)
    refine ⟨⟨[.blk r [(vU32 pg), hv, rv] 81, Ent.ar hv 1 he.length (List.map vU32 he), .row rv 86 7 rl.length (List.flatMap rgc rl), Ent.dp grD.list rl, .row v14141 86 7 (0 + k) (List.flatMap rgc ([] ++ (rl.take k)))], HS⟩, ?_⟩
    have hq := st4_19 v14141 wS HS
    rw [hW] at hq
    exact WH.cv hq
  have st4_18 : ∀ (wS : World), Owl.Own T w wS [.blk r [(vU32 pg), hv, rv] 81, Ent.ar hv 1 he.length (List.map vU32 he), .row rv 86 7 rl.length (List.flatMap rgc rl), Ent.dp grD.list rl] → W 5 #[tt, tt, tt, tt, tt, tt, tt, ff, tt, tt, tt, tt, tt, tt, tt, ff, ff, ff, ff] [(0, (ptr r 0)), (1, (vI env)), (4, (vN 0)), (5, (vN k)), (6, (ptr r 0)), (7, (vI env)), (8, (vN k)), (9, (vN k)), (10, (.bool (decide (k < 0)))), (11, (ptr r 0)), (12, (ptr r 0)), (13, (ptr r 0)), (14, (ptr r 2)), (15, rv), (16, (vN k)), (17, (cutV rv 0 k 7)), (19, (ptr r 0)), (20, (ptr r 0)), (21, (ptr r 2)), (22, rv), (23, (vN k)), (24, (vN (k + 1))), (25, (cutV rv (k + 1) rl.length 7))] wS := by
   intro wS HS
   rw [hW]
   refine WH.all1 (i := 7) (by kernel_rfl) ?_
   ·
    have H14142 := HS.nilRow 86 7
    refine WHS.op (i := 7) rfl (.inl rfl) rfl (op_appendF (f := rgc) (l := []) (l' := (rl.take k)) (i := 4) H14142 Try.underlying79 Fa.I86 rfl rfl rfl rfl (Src.ofArr Try.underlying79 (((H14142.arrR (i := 2) rfl)).cutHiF (fun _ => rfl) (b := k) (by omega))) (gr_one (fun x hx => (H14142.dpO (i := 3) rfl) x (List.mem_of_mem_take hx))) (by omega) (by omega) (fun v14141 w14141 H14141 => ?_))
    refine ⟨⟨[.blk r [(vU32 pg), hv, rv] 81, Ent.ar hv 1 he.length (List.map vU32 he), .row rv 86 7 rl.length (List.flatMap rgc rl), Ent.dp grD.list rl, .row v14141 86 7 (0 + k) (List.flatMap rgc ([] ++ (rl.take k)))], H14141⟩, ?_⟩
    have hq := st4_19 v14141 w14141 H14141
    rw [hW] at hq
    exact WH.cv hq
  have st4_14 : ∀ (v14141 : Value) (wS : World), Owl.Own T w wS [.blk r [(vU32 pg), hv, rv] 81, Ent.ar hv 1 he.length (List.map vU32 he), .row rv 86 7 rl.length (List.flatMap rgc rl), Ent.dp grD.list rl, .row v14141 86 7 (0 + k) (List.flatMap rgc ([] ++ (rl.take k)))] → W 6 #[tt, tt, tt, tt, tt, tt, tt, tt, tt, tt, tt, ff, tt, tt, ff, ff, ff, ff, ff] [(0, (ptr r 0)), (1, (vI env)), (4, (vN 0)), (5, (vN k)), (6, (ptr r 0)), (7, (vI env)), (8, (vN k)), (9, (vN k)), (10, (.bool (decide (k < 0)))), (11, (ptr r 0)), (12, (ptr r 0)), (13, (ptr r 0)), (14, (ptr r 2)), (15, rv), (16, (vN k)), (17, (cutV rv 0 k 7)), (18, v14141), (19, (ptr r 0)), (20, (ptr r 0)), (21, (ptr r 2)), (23, (vN k)), (24, (vN (k + 1)))] wS := by
   intro v14141 wS HS
   rw [hW]
   refine WH.all1 (i := 11) (by kernel_rfl) ?_
   ·
    refine WHS.op (i := 11) rfl (.inl rfl) rfl (op_load rfl (HS.cell (i := 0) rfl rfl) Try.underlying79 rfl ?_)
    refine ⟨⟨[.blk r [(vU32 pg), hv, rv] 81, Ent.ar hv 1 he.length (List.map vU32 he), .row rv 86 7 rl.length (List.flatMap rgc rl), Ent.dp grD.list rl, .row v14141 86 7 (0 + k) (List.flatMap rgc ([] ++ (rl.take k)))], HS⟩, ?_⟩
    have hq := st4_17 v14141 wS HS
    rw [hW] at hq
    exact WH.cv hq
  have st4_15 : ∀ (wS : World), Owl.Own T w wS [.blk r [(vU32 pg), hv, rv] 81, Ent.ar hv 1 he.length (List.map vU32 he), .row rv 86 7 rl.length (List.flatMap rgc rl), Ent.dp grD.list rl] → W 6 #[tt, tt, tt, tt, tt, tt, tt, ff, tt, tt, tt, tt, tt, tt, ff, ff, ff, ff, ff] [(0, (ptr r 0)), (1, (vI env)), (4, (vN 0)), (5, (vN k)), (6, (ptr r 0)), (7, (vI env)), (8, (vN k)), (9, (vN k)), (10, (.bool (decide (k < 0)))), (11, (ptr r 0)), (12, (ptr r 0)), (13, (ptr r 0)), (14, (ptr r 2)), (15, rv), (16, (vN k)), (17, (cutV rv 0 k 7)), (19, (ptr r 0)), (20, (ptr r 0)), (21, (ptr r 2)), (22, rv), (23, (vN k)), (24, (vN (k + 1)))] wS := by
   intro wS HS
   rw [hW]
   refine WH.all2 (i := 7) (j := 14) (by kernel_rfl) ?_ ?_
   ·
    have H14142 := HS.nilRow 86 7
    refine WHS.op (i := 7) rfl (.inl rfl) rfl (op_appendF (f := rgc) (l := []) (l' := (rl.take k)) (i := 4) H14142 Try.underlying79 Fa.I86 rfl rfl rfl rfl (Src.ofArr Try.underlying79 (((H14142.arrR (i := 2) rfl)).cutHiF (fun _ => rfl) (b := k) (by omega))) (gr_one (fun x hx => (H14142.dpO (i := 3) rfl) x (List.mem_of_mem_take hx))) (by omega) (by omega) (fun v14141 w14141 H14141 => ?_))
    refine ⟨⟨[.blk r [(vU32 pg), hv, rv] 81, Ent.ar hv 1 he.length (List.map vU32 he), .row rv 86 7 rl.length (List.flatMap rgc rl), Ent.dp grD.list rl, .row v14141 86 7 (0 + k) (List.flatMap rgc ([] ++ (rl.take k)))], H14141⟩, ?_⟩
    have hq := st4_17 v14141 w14141 H14141
    rw [hW] at hq
    exact WH.cv hq
   ·
    refine WHS.op (i := 14) rfl (.inl rfl) rfl (op_cutLo Try.underlying79 Fa.I86 rfl (HS.arrR (i := 2) rfl) rfl (by omega) ?_)
    refine ⟨⟨[.blk r [(vU32 pg), hv, rv] 81, Ent.ar hv 1 he.length (List.map vU32 he), .row rv 86 7 rl.length (List.flatMap rgc rl), Ent.dp grD.list rl], HS⟩, ?_⟩
    have hq := st4_18 wS HS
    rw [hW] at hq
    exact WH.cv hq
  have st4_16 : ∀ (wS : World), Owl.Own T w wS [.blk r [(vU32 pg), hv, rv] 81, Ent.ar hv 1 he.length (List.map vU32 he), .row rv 86 7 rl.length (List.flatMap rgc rl), Ent.dp grD.list rl] → W 6 #[tt, tt, tt, tt, tt, tt, ff, ff, tt, tt, tt, tt, tt, tt, tt, ff, ff, ff, ff] [(0, (ptr r 0)), (1, (vI env)), (4, (vN 0)), (5, (vN k)), (6, (ptr r 0)), (7, (vI env)), (8, (vN k)), (9, (vN k)), (10, (.bool (decide (k < 0)))), (11, (ptr r 0)), (12, (ptr r 0)), (13, (ptr r 0)), (14, (ptr r 2)), (15, rv), (16, (vN k)), (19, (ptr r 0)), (20, (ptr r 0)), (21, (ptr r 2)), (22, rv), (23, (vN k)), (24, (vN (k + 1))), (25, (cutV rv (k + 1) rl.length 7))] wS := by
   intro wS HS
   rw [hW]
   refine WH.all1 (i := 6) (by kernel_rfl) ?_
   ·
    refine WHS.op (i := 6) rfl (.inl rfl) rfl (op_cutHi Try.underlying79 Fa.I86 rfl (HS.arrR (i := 2) rfl) rfl (by omega) ?_)
    refine ⟨⟨[.blk r [(vU32 pg), hv, rv] 81, Ent.ar hv 1 he.length (List.map vU32 he), .row rv 86 7 rl.length (List.flatMap rgc rl), Ent.dp grD.list rl], HS⟩, ?_⟩
    have hq := st4_18 wS HS
    rw [hW] at hq
    exact WH.cv hq
  have st4_11 : ∀ (wS : World), Owl.Own T w wS [.blk r [(vU32 pg), hv, rv] 81, Ent.ar hv 1 he.length (List.map vU32 he), .row rv 86 7 rl.length (List.flatMap rgc rl), Ent.dp grD.list rl] → W 7 #[tt, tt, tt, tt, tt, tt, tt, ff, tt, tt, tt, ff, tt, tt, ff, ff, ff, ff, ff] [(0, (ptr r 0)), (1, (vI env)), (4, (vN 0)), (5, (vN k)), (6, (ptr r 0)), (7, (vI env)), (8, (vN k)), (9, (vN k)), (10, (.bool (decide (k < 0)))), (11, (ptr r 0)), (12, (ptr r 0)), (13, (ptr r 0)), (14, (ptr r 2)), (15, rv), (16, (vN k)), (17, (cutV rv 0 k 7)), (19, (ptr r 0)), (20, (ptr r 0)), (21, (ptr r 2)), (23, (vN k)), (24, (vN (k + 1)))] wS := by
   intro wS HS
   rw [hW]
   refine WH.all2 (i := 7) (j := 11) (by kernel_rfl) ?_ ?_
   ·
    have H14142 := HS.nilRow 86 7
    refine WHS.op (i := 7) rfl (.inl rfl) rfl (op_appendF (f := rgc) (l := []) (l' := (rl.take k)) (i := 4) H14142 Try.underlying79 Fa.I86 rfl rfl rfl rfl (Src.ofArr Try.underlying79 (((H14142.arrR (i := 2) rfl)).cutHiF (fun _ => rfl) (b := k) (by omega))) (gr_one (fun x hx => (H14142.dpO (i := 3) rfl) x (List.mem_of_mem_take hx))) (by omega) (by omega) (fun v14141 w14141 H14141 => ?_))
    refine ⟨⟨[.blk r [(vU32 pg), hv, rv] 81, Ent.ar hv 1 he.length (List.map vU32 he), .row rv 86 7 rl.length (List.flatMap rgc rl), Ent.dp grD.list rl, .row v14141 86 7 (0 + k) (List.flatMap rgc ([] ++ (rl.take k)))], H14141⟩, ?_⟩
    have hq := st4_14 v14141 w14141 H14141
    rw [hW] at hq
    exact WH.cv hq
   ·
    refine WHS.op (i := 11) rfl (.inl rfl) rfl (op_load rfl (HS.cell (i := 0) rfl rfl) Try.underlying79 rfl ?_)
    refine ⟨⟨[.blk r [(vU32 pg), hv, rv] 81, Ent.ar hv 1 he.length (List.map vU32 he), .row rv 86 7 rl.length (List.flatMap rgc rl), Ent.dp grD.list rl], HS⟩, ?_⟩
    have hq := st4_15 wS HS
    rw [hW] at hq
    exact WH.cv hq
  have st4_12 : ∀ (wS : World), Owl.Own T w wS [.blk r [(vU32 pg), hv, rv] 81, Ent.ar hv 1 he.length (List.map vU32 he), .row rv 86 7 rl.length (List.flatMap rgc rl), Ent.dp grD.list rl] → W 7 #[tt, tt, tt, tt, tt, tt, ff, ff, tt, tt, tt, tt, tt, tt, ff, ff, ff, ff, ff] [(0, (ptr r 0)), (1, (vI env)), (4, (vN 0)), (5, (vN k)), (6, (ptr r 0)), (7, (vI env)), (8, (vN k)), (9, (vN k)), (10, (.bool (decide (k < 0)))), (11, (ptr r 0)), (12, (ptr r 0)), (13, (ptr r 0)), (14, (ptr r 2)), (15, rv), (16, (vN k)), (19, (ptr r 0)), (20, (ptr r 0)), (21, (ptr r 2)), (22, rv), (23, (vN k)), (24, (vN (k + 1)))] wS := by
   intro wS HS
   rw [hW]
   refine WH.all2 (i := 6) (j := 14) (by kernel_rfl) ?_ ?_
   ·
    refine WHS.op (i := 6) rfl (.inl rfl) rfl (op_cutHi Try.underlying79 Fa.I86 rfl (HS.arrR (i := 2) rfl) rfl (by omega) ?_)
    refine ⟨⟨[.blk r [(vU32 pg), hv, rv] 81, Ent.ar hv 1 he.length (List.map vU32 he), .row rv 86 7 rl.length (List.flatMap rgc rl), Ent.dp grD.list rl], HS⟩, ?_⟩
    have hq := st4_15 wS HS
    rw [hW] at hq
    exact WH.cv hq
   ·
    refine WHS.op (i := 14) rfl (.inl rfl) rfl (op_cutLo Try.underlying79 Fa.I86 rfl (HS.arrR (i := 2) rfl) rfl (by omega) ?_)
    refine ⟨⟨[.blk r [(vU32 pg), hv, rv] 81, Ent.ar hv 1 he.length (List.map vU32 he), .row rv 86 7 rl.length (List.flatMap rgc rl), Ent.dp grD.list rl], HS⟩, ?_⟩
    have hq := st4_16 wS HS
    rw [hW] at hq
    exact WH.cv hq
  have st4_13 : ∀ (wS : World), Owl.Own T w wS [.blk r [(vU32 pg), hv, rv] 81, Ent.ar hv 1 he.length (List.map vU32 he), .row rv 86 7 rl.length (List.flatMap rgc rl), Ent.dp grD.list rl] → W 7 #[tt, tt, tt, tt, ff, tt, ff, ff, tt, tt, tt, tt, tt, tt, tt, ff, ff, ff, ff] [(0, (ptr r 0)), (1, (vI env)), (4, (vN 0)), (5, (vN k)), (6, (ptr r 0)), (7, (vI env)), (8, (vN k)), (9, (vN k)), (10, (.bool (decide (k < 0)))), (11, (ptr r 0)), (12, (ptr r 0)), (13, (ptr r 0)), (14, (ptr r 2)), (16, (vN k)), (19, (ptr r 0)), (20, (ptr r 0)), (21, (ptr r 2)), (22, rv), (23, (vN k)), (24, (vN (k + 1))), (25, (cutV rv (k + 1) rl.length 7))] wS := by
   intro wS HS
   rw [hW]
   refine WH.all1 (i := 4) (by kernel_rfl) ?_
   ·
    refine WHS.op (i := 4) rfl (.inl rfl) rfl (op_load rfl (HS.cell (i := 0) rfl rfl) Try.underlying79 rfl ?_)
    refine ⟨⟨[.blk r [(vU32 pg), hv, rv] 81, Ent.ar hv 1 he.length (List.map vU32 he), .row rv 86 7 rl.length (List.flatMap rgc rl), Ent.dp grD.list rl], HS⟩, ?_⟩
    have hq := st4_16 wS HS
    rw [hW] at hq
    exact WH.cv hq
  have st4_7 : ∀ (wS : World), Owl.Own T w wS [.blk r [(vU32 pg), hv, rv] 81, Ent.ar hv 1 he.length (List.map vU32 he), .row rv 86 7 rl.length (List.flatMap rgc rl), Ent.dp grD.list rl] → W 8 #[tt, tt, tt, tt, tt, tt, ff, ff, tt, tt, tt, ff, tt, tt, ff, ff, ff, ff, ff] [(0, (ptr r 0)), (1, (vI env)), (4, (vN 0)), (5, (vN k)), (6, (ptr r 0)), (7, (vI env)), (8, (vN k)), (9, (vN k)), (10, (.bool (decide (k < 0)))), (11, (ptr r 0)), (12, (ptr r 0)), (13, (ptr r 0)), (14, (ptr r 2)), (15, rv), (16, (vN k)), (19, (ptr r 0)), (20, (ptr r 0)), (21, (ptr r 2)), (23, (vN k)), (24, (vN (k + 1)))] wS := by
   intro wS HS
   rw [hW]
   refine WH.all2 (i := 6) (j := 11) (by kernel_rfl) ?_ ?_
   ·
    refine WHS.op (i := 6) rfl (.inl rfl) rfl (op_cutHi Try.underlying79 Fa.I86 rfl (HS.arrR (i := 2) rfl) rfl (by omega) ?_)
    refine ⟨⟨[.blk r [(vU32 pg), hv, rv] 81, Ent.ar hv 1 he.length (List.map vU32 he), .row rv 86 7 rl.length (List.flatMap rgc rl), Ent.dp grD.list rl], HS⟩, ?_⟩
    have hq := st4_11 wS HS
    rw [hW] at hq
    exact WH.cv hq
   ·
    refine WHS.op (i := 11) rfl (.inl rfl) rfl (op_load rfl (HS.cell (i := 0) rfl rfl) Try.underlying79 rfl ?_)
    refine ⟨⟨[.blk r [(vU32 pg), hv, rv] 81, Ent.ar hv 1 he.length (List.map vU32 he), .row rv 86 7 rl.length (List.flatMap rgc rl), Ent.dp grD.list rl], HS⟩, ?_⟩
    have hq := st4_12 wS HS
    rw [hW] at hq
    exact WH.cv hq
  have st4_8 : ∀ (wS : World), Owl.Own T w wS [.blk r [(vU32 pg), hv, rv] 81, Ent.ar hv 1 he.length (List.map vU32 he), .row rv 86 7 rl.length (List.flatMap rgc rl), Ent.dp grD.list rl] → W 8 #[tt, tt, tt, tt, ff, tt, ff, ff, tt, tt, tt, tt, tt, tt, ff, ff, ff, ff, ff] [(0, (ptr r 0)), (1, (vI env)), (4, (vN 0)), (5, (vN k)), (6, (ptr r 0)), (7, (vI env)), (8, (vN k)), (9, (vN k)), (10, (.bool (decide (k < 0)))), (11, (ptr r 0)), (12, (ptr r 0)), (13, (ptr r 0)), (14, (ptr r 2)), (16, (vN k)), (19, (ptr r 0)), (20, (ptr r 0)), (21, (ptr r 2)), (22, rv), (23, (vN k)), (24, (vN (k + 1)))] wS := by
   intro wS HS
   rw [hW]
   refine WH.all2 (i := 4) (j := 14) (by kernel_rfl) ?_ ?_
   ·
    refine WHS.op (i := 4) rfl (.inl rfl) rfl (op_load rfl (HS.cell (i := 0) rfl rfl) Try.underlying79 rfl ?_)
    refine ⟨⟨[.blk r [(vU32 pg), hv, rv] 81, Ent.ar hv 1 he.length (List.map vU32 he), .row rv 86 7 rl.length (List.flatMap rgc rl), Ent.dp grD.list rl], HS⟩, ?_⟩
    have hq := st4_12 wS HS
    rw [hW] at hq
    exact WH.cv hq
   ·
    refine WHS.op (i := 14) rfl (.inl rfl) rfl (op_cutLo Try.underlying79 Fa.I86 rfl (HS.arrR (i := 2) rfl) rfl (by omega) ?_)
    refine ⟨⟨[.blk r [(vU32 pg), hv, rv] 81, Ent.ar hv 1 he.length (List.map vU32 he), .row rv 86 7 rl.length (List.flatMap rgc rl), Ent.dp grD.list rl], HS⟩, ?_⟩
    have hq := st4_13 wS HS
    rw [hW] at hq
    exact WH.cv hq
  have st4_10 : ∀ (v14141 : Value) (wS : World), Owl.Own T w wS [.blk r [(vU32 pg), hv, rv] 81, Ent.ar hv 1 he.length (List.map vU32 he), .row rv 86 7 rl.length (List.flatMap rgc rl), Ent.dp grD.list rl, .row v14141 86 7 (0 + k) (List.flatMap rgc ([] ++ (rl.take k)))] → W 8 #[tt, tt, tt, tt, tt, tt, tt, tt, tt, ff, ff, ff, tt, tt, ff, ff, ff, ff, ff] [(0, (ptr r 0)), (1, (vI env)), (4, (vN 0)), (5, (vN k)), (6, (ptr r 0)), (7, (vI env)), (8, (vN k)), (9, (vN k)), (10, (.bool (decide (k < 0)))), (11, (ptr r 0)), (12, (ptr r 0)), (13, (ptr r 0)), (14, (ptr r 2)), (15, rv), (16, (vN k)), (17, (cutV rv 0 k 7)), (18, v14141), (19, (ptr r 0)), (23, (vN k)), (24, (vN (k + 1)))] wS := by
   intro v14141 wS HS
   rw [hW]
   refine WH.all1 (i := 9) (by kernel_rfl) ?_
   ·
    refine WHS.op (i := 9) rfl (.inl rfl) rfl (op_nilCheck rfl ?_)
    refine ⟨⟨[.blk r [(vU32 pg), hv, rv] 81, Ent.ar hv 1 he.length (List.map vU32 he), .row rv 86 7 rl.length (List.flatMap rgc rl), Ent.dp grD.list rl, .row v14141 86 7 (0 + k) (List.flatMap rgc ([] ++ (rl.take k)))], HS⟩, ?_⟩
    refine WH.take (i := 10) (v := (ptr r 2)) rfl rfl (.inl rfl) rfl (by kernel_rfl) ⟨[.blk r [(vU32 pg), hv, rv] 81, Ent.ar hv 1 he.length (List.map vU32 he), .row rv 86 7 rl.length (List.flatMap rgc rl), Ent.dp grD.list rl, .row v14141 86 7 (0 + k) (List.flatMap rgc ([] ++ (rl.take k)))], HS⟩ (fun wX hSX => hSX.elim fun LX HX => op_fieldAddr rfl Fa.F81_1 ⟨rfl, rfl⟩) ?_
    have hq := st4_14 v14141 wS HS
    rw [hW] at hq
    exact WH.cv hq
  have st4_4 : ∀ (wS : World), Owl.Own T w wS [.blk r [(vU32 pg), hv, rv] 81, Ent.ar hv 1 he.length (List.map vU32 he), .row rv 86 7 rl.length (List.flatMap rgc rl), Ent.dp grD.list rl] → W 9 #[tt, tt, tt, tt, ff, tt, ff, ff, tt, tt, tt, ff, tt, tt, ff, ff, ff, ff, ff] [(0, (ptr r 0)), (1, (vI env)), (4, (vN 0)), (5, (vN k)), (6, (ptr r 0)), (7, (vI env)), (8, (vN k)), (9, (vN k)), (10, (.bool (decide (k < 0)))), (11, (ptr r 0)), (12, (ptr r 0)), (13, (ptr r 0)), (14, (ptr r 2)), (16, (vN k)), (19, (ptr r 0)), (20, (ptr r 0)), (21, (ptr r 2)), (23, (vN k)), (24, (vN (k + 1)))] wS := by
   intro wS HS
   rw [hW]
   refine WH.all2 (i := 4) (j := 11) (by kernel_rfl) ?_ ?_
   ·
    refine WHS.op (i := 4) rfl (.inl rfl) rfl (op_load rfl (HS.cell (i := 0) rfl rfl) Try.underlying79 rfl ?_)
    refine ⟨⟨[.blk r [(vU32 pg), hv, rv] 81, Ent.ar hv 1 he.length (List.map vU32 he), .row rv 86 7 rl.length (List.flatMap rgc rl), Ent.dp grD.list rl], HS⟩, ?_⟩
    have hq := st4_7 wS HS
    rw [hW] at hq
    exact WH.cv hq
   ·
    refine WHS.op (i := 11) rfl (.inl rfl) rfl (op_load rfl (HS.cell (i := 0) rfl rfl) Try.underlying79 rfl ?_)
    refine ⟨⟨[.blk r [(vU32 pg), hv, rv] 81, Ent.ar hv 1 he.length (List.map vU32 he), .row rv 86 7 rl.length (List.flatMap rgc rl), Ent.dp grD.list rl], HS⟩, ?_⟩
    have hq := st4_8 wS HS
    rw [hW] at hq
    exact WH.cv hq
  have st4_6 : ∀ (wS : World), Owl.Own T w wS [.blk r [(vU32 pg), hv, rv] 81, Ent.ar hv 1 he.length (List.map vU32 he), .row rv 86 7 rl.length (List.flatMap rgc rl), Ent.dp grD.list rl] → W 9 #[tt, tt, tt, tt, tt, tt, tt, ff, tt, ff, ff, ff, tt, tt, ff, ff, ff, ff, ff] [(0, (ptr r 0)), (1, (vI env)), (4, (vN 0)), (5, (vN k)), (6, (ptr r 0)), (7, (vI env)), (8, (vN k)), (9, (vN k)), (10, (.bool (decide (k < 0)))), (11, (ptr r 0)), (12, (ptr r 0)), (13, (ptr r 0)), (14, (ptr r 2)), (15, rv), (16, (vN k)), (17, (cutV rv 0 k 7)), (19, (ptr r 0)), (23, (vN k)), (24, (vN (k + 1)))] wS := by
   intro wS HS
   rw [hW]
   refine WH.all2 (i := 7) (j := 9) (by kernel_rfl) ?_ ?_
   ·
    have H14142 := HS.nilRow 86 7
    refine WHS.op (i := 7) rfl (.inl rfl) rfl (op_appendF (f := rgc) (l := []) (l' := (rl.take k)) (i := 4) H14142 Try.underlying79 Fa.I86 rfl rfl rfl rfl (Src.ofArr Try.underlying79 (((H14142.arrR (i := 2) rfl)).cutHiF (fun _ => rfl) (b := k) (by omega))) (gr_one (fun x hx => (H14142.dpO (i := 3) rfl) x (List.mem_of_mem_take hx))) (by omega) (by omega) (fun v14141 w14141 H14141 => ?_))
    refine ⟨⟨[.blk r [(vU32 pg), hv, rv] 81, Ent.ar hv 1 he.length (List.map vU32 he), .row rv 86 7 rl.length (List.flatMap rgc rl), Ent.dp grD.list rl, .row v14141 86 7 (0 + k) (List.flatMap rgc ([] ++ (rl.take k)))], H14141⟩, ?_⟩
    have hq := st4_10 v14141 w14141 H14141
    rw [hW] at hq
    exact WH.cv hq
   ·
    refine WHS.op (i := 9) rfl (.inl rfl) rfl (op_nilCheck rfl ?_)
    refine ⟨⟨[.blk r [(vU32 pg), hv, rv] 81, Ent.ar hv 1 he.length (List.map vU32 he), .row rv 86 7 rl.length (List.flatMap rgc rl), Ent.dp grD.list rl], HS⟩, ?_⟩
    refine WH.take (i := 10) (v := (ptr r 2)) rfl rfl (.inl rfl) rfl (by kernel_rfl) ⟨[.blk r [(vU32 pg), hv, rv] 81, Ent.ar hv 1 he.length (List.map vU32 he), .row rv 86 7 rl.length (List.flatMap rgc rl), Ent.dp grD.list rl], HS⟩ (fun wX hSX => hSX.elim fun LX HX => op_fieldAddr rfl Fa.F81_1 ⟨rfl, rfl⟩) ?_
    have hq := st4_11 wS HS
    rw [hW] at hq
    exact WH.cv hq
  have st4_9 : ∀ (wS : World), Owl.Own T w wS [.blk r [(vU32 pg), hv, rv] 81, Ent.ar hv 1 he.length (List.map vU32 he), .row rv 86 7 rl.length (List.flatMap rgc rl), Ent.dp grD.list rl] → W 9 #[tt, tt, ff, ff, ff, tt, ff, ff, tt, tt, tt, tt, tt, tt, tt, ff, ff, ff, ff] [(0, (ptr r 0)), (1, (vI env)), (4, (vN 0)), (5, (vN k)), (6, (ptr r 0)), (7, (vI env)), (8, (vN k)), (9, (vN k)), (10, (.bool (decide (k < 0)))), (11, (ptr r 0)), (12, (ptr r 0)), (16, (vN k)), (19, (ptr r 0)), (20, (ptr r 0)), (21, (ptr r 2)), (22, rv), (23, (vN k)), (24, (vN (k + 1))), (25, (cutV rv (k + 1) rl.length 7))] wS := by
   intro wS HS
   rw [hW]
   refine WH.all1 (i := 2) (by kernel_rfl) ?_
   ·
    refine WHS.op (i := 2) rfl (.inl rfl) rfl (op_nilCheck rfl ?_)
    refine ⟨⟨[.blk r [(vU32 pg), hv, rv] 81, Ent.ar hv 1 he.length (List.map vU32 he), .row rv 86 7 rl.length (List.flatMap rgc rl), Ent.dp grD.list rl], HS⟩, ?_⟩
    refine WH.take (i := 3) (v := (ptr r 2)) rfl rfl (.inl rfl) rfl (by kernel_rfl) ⟨[.blk r [(vU32 pg), hv, rv] 81, Ent.ar hv 1 he.length (List.map vU32 he), .row rv 86 7 rl.length (List.flatMap rgc rl), Ent.dp grD.list rl], HS⟩ (fun wX hSX => hSX.elim fun LX HX => op_fieldAddr rfl Fa.F81_1 ⟨rfl, rfl⟩) ?_
    have hq := st4_13 wS HS
    rw [hW] at hq
    exact WH.cv hq
  have st4_3 : ∀ (wS : World), Owl.Own T w wS [.blk r [(vU32 pg), hv, rv] 81, Ent.ar hv 1 he.length (List.map vU32 he), .row rv 86 7 rl.length (List.flatMap rgc rl), Ent.dp grD.list rl] → W 10 #[tt, tt, tt, tt, tt, tt, ff, ff, tt, ff, ff, ff, tt, tt, ff, ff, ff, ff, ff] [(0, (ptr r 0)), (1, (vI env)), (4, (vN 0)), (5, (vN k)), (6, (ptr r 0)), (7, (vI env)), (8, (vN k)), (9, (vN k)), (10, (.bool (decide (k < 0)))), (11, (ptr r 0)), (12, (ptr r 0)), (13, (ptr r 0)), (14, (ptr r 2)), (15, rv), (16, (vN k)), (19, (ptr r 0)), (23, (vN k)), (24, (vN (k + 1)))] wS := by
   intro wS HS
   rw [hW]
   refine WH.all2 (i := 6) (j := 9) (by kernel_rfl) ?_ ?_
   ·
    refine WHS.op (i := 6) rfl (.inl rfl) rfl (op_cutHi Try.underlying79 Fa.I86 rfl (HS.arrR (i := 2) rfl) rfl (by omega) ?_)
    refine ⟨⟨[.blk r [(vU32 pg), hv, rv] 81, Ent.ar hv 1 he.length (List.map vU32 he), .row rv 86 7 rl.length (List.flatMap rgc rl), Ent.dp grD.list rl], HS⟩, ?_⟩
    have hq := st4_6 wS HS
    rw [hW] at hq
    exact WH.cv hq
   ·
    refine WHS.op (i := 9) rfl (.inl rfl) rfl (op_nilCheck rfl ?_)
    refine ⟨⟨[.blk r [(vU32 pg), hv, rv] 81, Ent.ar hv 1 he.length (List.map vU32 he), .row rv 86 7 rl.length (List.flatMap rgc rl), Ent.dp grD.list rl], HS⟩, ?_⟩
    refine WH.take (i := 10) (v := (ptr r 2)) rfl rfl (.inl rfl) rfl (by kernel_rfl) ⟨[.blk r [(vU32 pg), hv, rv] 81, Ent.ar hv 1 he.length (List.map vU32 he), .row rv 86 7 rl.length (List.flatMap rgc rl), Ent.dp grD.list rl], HS⟩ (fun wX hSX => hSX.elim fun LX HX => op_fieldAddr rfl Fa.F81_1 ⟨rfl, rfl⟩) ?_
    have hq := st4_7 wS HS
    rw [hW] at hq
    exact WH.cv hq
  have st4_5 : ∀ (wS : World), Owl.Own T w wS [.blk r [(vU32 pg), hv, rv] 81, Ent.ar hv 1 he.length (List.map vU32 he), .row rv 86 7 rl.length (List.flatMap rgc rl), Ent.dp grD.list rl] → W 10 #[tt, tt, ff, ff, ff, tt, ff, ff, tt, tt, tt, tt, tt, tt, ff, ff, ff, ff, ff] [(0, (ptr r 0)), (1, (vI env)), (4, (vN 0)), (5, (vN k)), (6, (ptr r 0)), (7, (vI env)), (8, (vN k)), (9, (vN k)), (10, (.bool (decide (k < 0)))), (11, (ptr r 0)), (12, (ptr r 0)), (16, (vN k)), (19, (ptr r 0)), (20, (ptr r 0)), (21, (ptr r 2)), (22, rv), (23, (vN k)), (24, (vN (k + 1)))] wS := by
   intro wS HS
   rw [hW]
   refine WH.all2 (i := 2) (j := 14) (by kernel_rfl) ?_ ?_
   ·
    refine WHS.op (i := 2) rfl (.inl rfl) rfl (op_nilCheck rfl ?_)
    refine ⟨⟨[.blk r [(vU32 pg), hv, rv] 81, Ent.ar hv 1 he.length (List.map vU32 he), .row rv 86 7 rl.length (List.flatMap rgc rl), Ent.dp grD.list rl], HS⟩, ?_⟩
    refine WH.take (i := 3) (v := (ptr r 2)) rfl rfl (.inl rfl) rfl (by kernel_rfl) ⟨[.blk r [(vU32 pg), hv, rv] 81, Ent.ar hv 1 he.length (List.map vU32 he), .row rv 86 7 rl.length (List.flatMap rgc rl), Ent.dp grD.list rl], HS⟩ (fun wX hSX => hSX.elim fun LX HX => op_fieldAddr rfl Fa.F81_1 ⟨rfl, rfl⟩) ?_
    have hq := st4_8 wS HS
    rw [hW] at hq
    exact WH.cv hq
   ·
    refine WHS.op (i := 14) rfl (.inl rfl) rfl (op_cutLo Try.underlying79 Fa.I86 rfl (HS.arrR (i := 2) rfl) rfl (by omega) ?_)
    refine ⟨⟨[.blk r [(vU32 pg), hv, rv] 81, Ent.ar hv 1 he.length (List.map vU32 he), .row rv 86 7 rl.length (List.flatMap rgc rl), Ent.dp grD.list rl], HS⟩, ?_⟩
    have hq := st4_9 wS HS
    rw [hW] at hq
    exact WH.cv hq
  have st4_1 : ∀ (wS : World), Owl.Own T w wS [.blk r [(vU32 pg), hv, rv] 81, Ent.ar hv 1 he.length (List.map vU32 he), .row rv 86 7 rl.length (List.flatMap rgc rl), Ent.dp grD.list rl] → W 11 #[tt, tt, tt, tt, ff, tt, ff, ff, tt, ff, ff, ff, tt, tt, ff, ff, ff, ff, ff] [(0, (ptr r 0)), (1, (vI env)), (4, (vN 0)), (5, (vN k)), (6, (ptr r 0)), (7, (vI env)), (8, (vN k)), (9, (vN k)), (10, (.bool (decide (k < 0)))), (11, (ptr r 0)), (12, (ptr r 0)), (13, (ptr r 0)), (14, (ptr r 2)), (16, (vN k)), (19, (ptr r 0)), (23, (vN k)), (24, (vN (k + 1)))] wS := by
   intro wS HS
   rw [hW]
   refine WH.all2 (i := 4) (j := 9) (by kernel_rfl) ?_ ?_
   ·
    refine WHS.op (i := 4) rfl (.inl rfl) rfl (op_load rfl (HS.cell (i := 0) rfl rfl) Try.underlying79 rfl ?_)
    refine ⟨⟨[.blk r [(vU32 pg), hv, rv] 81, Ent.ar hv 1 he.length (List.map vU32 he), .row rv 86 7 rl.length (List.flatMap rgc rl), Ent.dp grD.list rl], HS⟩, ?_⟩
    have hq := st4_3 wS HS
    rw [hW] at hq
    exact WH.cv hq
   ·
    refine WHS.op (i := 9) rfl (.inl rfl) rfl (op_nilCheck rfl ?_)
    refine ⟨⟨[.blk r [(vU32 pg), hv, rv] 81, Ent.ar hv 1 he.length (List.map vU32 he), .row rv 86 7 rl.length (List.flatMap rgc rl), Ent.dp grD.list rl], HS⟩, ?_⟩
    refine WH.take (i := 10) (v := (ptr r 2)) rfl rfl (.inl rfl) rfl (by kernel_rfl) ⟨[.blk r [(vU32 pg), hv, rv] 81, Ent.ar hv 1 he.length (List.map vU32 he), .row rv 86 7 rl.length (List.flatMap rgc rl), Ent.dp grD.list rl], HS⟩ (fun wX hSX => hSX.elim fun LX HX => op_fieldAddr rfl Fa.F81_1 ⟨rfl, rfl⟩) ?_
    have hq := st4_4 wS HS
    rw [hW] at hq
    exact WH.cv hq
  have st4_2 : ∀ (wS : World), Owl.Own T w wS [.blk r [(vU32 pg), hv, rv] 81, Ent.ar hv 1 he.length (List.map vU32 he), .row rv 86 7 rl.length (List.flatMap rgc rl), Ent.dp grD.list rl] → W 11 #[tt, tt, ff, ff, ff, tt, ff, ff, tt, tt, tt, ff, tt, tt, ff, ff, ff, ff, ff] [(0, (ptr r 0)), (1, (vI env)), (4, (vN 0)), (5, (vN k)), (6, (ptr r 0)), (7, (vI env)), (8, (vN k)), (9, (vN k)), (10, (.bool (decide (k < 0)))), (11, (ptr r 0)), (12, (ptr r 0)), (16, (vN k)), (19, (ptr r 0)), (20, (ptr r 0)), (21, (ptr r 2)), (23, (vN k)), (24, (vN (k + 1)))] wS := by
   intro wS HS
   rw [hW]
   refine WH.all2 (i := 2) (j := 11) (by kernel_rfl) ?_ ?_
   ·
    refine WHS.op (i := 2) rfl (.inl rfl) rfl (op_nilCheck rfl ?_)
    refine ⟨⟨[.blk r [(vU32 pg), hv, rv] 81, Ent.ar hv 1 he.length (List.map vU32 he), .row rv 86 7 rl.length (List.flatMap rgc rl), Ent.dp grD.list rl], HS⟩, ?_⟩
    refine WH.take (i := 3) (v := (ptr r 2)) rfl rfl (.inl rfl) rfl (by kernel_rfl) ⟨[.blk r [(vU32 pg), hv, rv] 81, Ent.ar hv 1 he.length (List.map vU32 he), .row rv 86 7 rl.length (List.flatMap rgc rl), Ent.dp grD.list rl], HS⟩ (fun wX hSX => hSX.elim fun LX HX => op_fieldAddr rfl Fa.F81_1 ⟨rfl, rfl⟩) ?_
    have hq := st4_4 wS HS
    rw [hW] at hq
    exact WH.cv hq
   ·
    refine WHS.op (i := 11) rfl (.inl rfl) rfl (op_load rfl (HS.cell (i := 0) rfl rfl) Try.underlying79 rfl ?_)
    refine ⟨⟨[.blk r [(vU32 pg), hv, rv] 81, Ent.ar hv 1 he.length (List.map vU32 he), .row rv 86 7 rl.length (List.flatMap rgc rl), Ent.dp grD.list rl], HS⟩, ?_⟩
    have hq := st4_5 wS HS
    rw [hW] at hq
    exact WH.cv hq
  have st4_0 : ∀ (wS : World), Owl.Own T w wS [.blk r [(vU32 pg), hv, rv] 81, Ent.ar hv 1 he.length (List.map vU32 he), .row rv 86 7 rl.length (List.flatMap rgc rl), Ent.dp grD.list rl] → W 13 #[tt, tt, ff, ff, ff, tt, ff, ff, tt, ff, ff, ff, tt, tt, ff, ff, ff, ff, ff] [(0, (ptr r 0)), (1, (vI env)), (4, (vN 0)), (5, (vN k)), (6, (ptr r 0)), (7, (vI env)), (8, (vN k)), (9, (vN k)), (10, (.bool (decide (k < 0)))), (11, (ptr r 0)), (12, (ptr r 0)), (16, (vN k)), (19, (ptr r 0)), (23, (vN k)), (24, (vN (k + 1)))] wS := by
   intro wS HS
   rw [hW]
   refine WH.all2 (i := 2) (j := 9) (by kernel_rfl) ?_ ?_
   ·
    refine WHS.op (i := 2) rfl (.inl rfl) rfl (op_nilCheck rfl ?_)
    refine ⟨⟨[.blk r [(vU32 pg), hv, rv] 81, Ent.ar hv 1 he.length (List.map vU32 he), .row rv 86 7 rl.length (List.flatMap rgc rl), Ent.dp grD.list rl], HS⟩, ?_⟩
    refine WH.take (i := 3) (v := (ptr r 2)) rfl rfl (.inl rfl) rfl (by kernel_rfl) ⟨[.blk r [(vU32 pg), hv, rv] 81, Ent.ar hv 1 he.length (List.map vU32 he), .row rv 86 7 rl.length (List.flatMap rgc rl), Ent.dp grD.list rl], HS⟩ (fun wX hSX => hSX.elim fun LX HX => op_fieldAddr rfl Fa.F81_1 ⟨rfl, rfl⟩) ?_
    have hq := st4_1 wS HS
    rw [hW] at hq
    exact WH.cv hq
   ·
    refine WHS.op (i := 9) rfl (.inl rfl) rfl (op_nilCheck rfl ?_)
    refine ⟨⟨[.blk r [(vU32 pg), hv, rv] 81, Ent.ar hv 1 he.length (List.map vU32 he), .row rv 86 7 rl.length (List.flatMap rgc rl), Ent.dp grD.list rl], HS⟩, ?_⟩
    refine WH.take (i := 10) (v := (ptr r 2)) rfl rfl (.inl rfl) rfl (by kernel_rfl) ⟨[.blk r [(vU32 pg), hv, rv] 81, Ent.ar hv 1 he.length (List.map vU32 he), .row rv 86 7 rl.length (List.flatMap rgc rl), Ent.dp grD.list rl], HS⟩ (fun wX hSX => hSX.elim fun LX HX => op_fieldAddr rfl Fa.F81_1 ⟨rfl, rfl⟩) ?_
    have hq := st4_2 wS HS
    rw [hW] at hq
    exact WH.cv hq
  have hq := st4_0 w3 H3
  rw [hW] at hq ⊢
  exact WH.cv hq
 ·
  have hc1 := of_decide_eq_false hb1
  have hno : hasE rl env = false := by simpa using of_decide_eq_false hb1
  refine wo (op_callF Fa.C104 rfl ((find_no r pg hv rv he rl env _ (H.cellsAt (i := 0) rfl) (H.arrO (i := 1) rfl) (H.arrR (i := 2) rfl) (H.dpO (i := 3) rfl) (by omega) hno).mono (fun e w5 hq => ?_)))
  obtain ⟨rfl, hf5⟩ := hq
  refine ⟨_, rfl, ?_⟩
  have H5 := H.fr' hf5
  refine wo (op_assign rfl ?_)
  refine wn ?_
  refine WC.seq ?_
  refine ws ?_
  refine wo (op_move rfl ?_)
  refine wo (op_lssI (b := (0 : Int)) rfl rfl ?_)
  refine wn ?_
  refine WC.yes rfl (by decide) ?_
  refine ws ?_
  refine wo (op_assign rfl ?_)
  refine wn ?_
  refine WC.ret ?_
  refine WQ.thenRet ?_
  refine WQ.out (.tmp rfl .nil) ?_
  exact ⟨rv, rl, by rw [relE, hno]; rfl, fun l hL => hL.relNo hno, DpTo.sub (fun _ h => h), H5.sel [0, 1, 2, 3] rfl rfl⟩
set_option maxHeartbeats 4000000 in
set_option maxRecDepth 100000 in
theorem rtake_ok (r : Nat) (pg : UInt32) (hv rv : Value) (he : List UInt32) (rl : List Gr) (env : Int) (T : List Nat) (w : World) (H : Owl.Own T w w [.blk r [(vU32 pg), hv, rv] 81, Ent.ar hv 1 he.length (List.map vU32 he), .row rv 86 7 rl.length (List.flatMap rgc rl), Ent.dp grD.list rl]) (hl : rl.length < 2 ^ 30) (hfit : ∀ g ∈ rl, g.ps.length < 2 ^ 40 ∧ g.xs.length < 2 ^ 40) (htk : ∀ g ∈ rl, g.tk ≤ g.pg) :
  Calls Try.prog 67 #[(ptr r 0), (vI env)] w (fun e w' => ∃ rv' rl', e = .returned (vN (takeE rl env)) ∧ (∀ l, Rel l rl → Rel (takeG l env) rl') ∧ DpTo w rl rl' ∧ Owl.Own T w w' [.blk r [(vU32 pg), hv, rv'] 81, Ent.ar hv 1 he.length (List.map vU32 he), .row rv' 86 7 rl'.length (List.flatMap rgc rl'), Ent.dp grD.list rl']) := by
 refine enter (args := [(ptr r 0), (vI env)]) Try.func67 rfl rfl ?_
 refine ws ?_
 refine wo (op_assign rfl ?_)
 refine wn ?_
 refine ws ?_
 refine wo (op_move rfl ?_)
 refine wo (op_move rfl ?_)
 refine bsplit (fun (hb1 : (decide (hasE rl env = true)) = true) => ?_) (fun (hb1 : (decide (hasE rl env = true)) = false) => ?_)
 ·
  have hc1 := of_decide_eq_true hb1
  obtain ⟨k, hk, hgk, hnk, hok⟩ := has_at (of_decide_eq_true hb1)
  refine wo (op_callF Fa.C104 rfl ((find_yes r pg hv rv he rl env k _ (H.cellsAt (i := 0) rfl) (H.arrO (i := 1) rfl) (H.arrR (i := 2) rfl) (H.dpO (i := 3) rfl) (by omega) hk hgk hnk).mono (fun e w2 hq => ?_)))
  obtain ⟨rfl, hf2⟩ := hq
  refine ⟨_, rfl, ?_⟩
  have H2 := H.fr' hf2
  refine wo (op_assign rfl ?_)
  refine wn ?_
  refine WC.seq ?_
  refine ws ?_
  refine wo (op_move rfl ?_)
  refine wo (op_lssN (b := 0) rfl rfl ?_)
  refine wn ?_
  refine WC.no rfl (decide_eq_false (Nat.not_lt_zero _)) ?_
  refine WC.skip ?_
  refine WQ.next ?_
  refine WC.seq ?_
  refine ws ?_
  refine wo (op_move rfl ?_)
  refine wo (op_move rfl ?_)
  refine wo (op_callF Fa.C74 rfl ((rleft_ok r pg hv rv he rl env _ (H2.cellsAt (i := 0) rfl) (H2.arrO (i := 1) rfl) (H2.arrR (i := 2) rfl) (H2.dpO (i := 3) rfl) (by omega) hfit).mono (fun e w3 hq => ?_)))
  obtain ⟨rfl, hf3⟩ := hq
  refine ⟨_, rfl, ?_⟩
  have H3 := H2.fr' hf3
  refine wo (op_eqlU32 (b := 0) rfl rfl ?_)
  refine wn ?_
  refine WC.cond rfl (fun (hb4 : (decide (((obs rl env).pg - (obs rl env).tk) = (0 : UInt32))) = true) => ?_) (fun (hb4 : (decide (((obs rl env).pg - (obs rl env).tk) = (0 : UInt32))) = false) => ?_)
  ·
   have hc4 := of_decide_eq_true hb4
   refine ws ?_
   refine wo (op_assign rfl ?_)
   refine wn ?_
   refine WC.ret ?_
   refine WQ.thenRet ?_
   refine WQ.out (.tmp rfl .nil) ?_
   have hE0 := (takeE_y (of_decide_eq_true hb1) (obs_tk (of_decide_eq_true hb1) htk) (of_decide_eq_true hb4))
   exact ⟨rv, rl, by rw [hE0]; rfl, fun l hL => hL.takeNo (by rw [hE0]; decide), DpTo.sub (fun _ h => h), H3.sel [0, 1, 2, 3] rfl rfl⟩
  ·
   have hc4 := of_decide_eq_false hb4
   refine WC.skip ?_
   refine WQ.next ?_
   refine ws ?_
   refine wo (op_move rfl ?_)
   refine wo (op_nilCheck rfl ?_)
   refine wo (op_fieldAddr rfl Fa.F81_1 ?_)
   refine wo (op_load rfl (H3.cell (i := 0) rfl rfl) Try.underlying79 rfl ?_)
   refine wo (op_move rfl ?_)
   refine wo (op_indexAddr Try.underlying79 Fa.I86 rfl (H3.arrR (i := 2) rfl) rfl (by omega) ?_)
   refine wo (op_loadSP (vs := rgc (rl.getD k Gr.no)) rfl (Arr.atsF (H3.arrR (i := 2) rfl) (fun _ => rfl) (by decide) Gr.no (by omega)) Try.underlying86 rfl Fa.I86 rfl ?_)
   refine wo (op_alloc H3 Fa.I86 (fun b5 w5 H5 => ?_))
   refine wo (op_storeBW (i := 4) H5 rfl rfl rfl rfl (one_cons rfl (one_cons rfl (one_cons (Arr.one ((GrD_xs (Deep.getD grD (H5.dpO (i := 3) rfl) Gr.no (GrD_zero _) k)))) (one_cons (Arr.one ((GrD_ps (Deep.getD grD (H5.dpO (i := 3) rfl) Gr.no (GrD_zero _) k)))) (one_cons rfl (one_cons rfl (one_cons rfl one_nil))))))) Fa.I86 (fun w6 H6 => ?_))
   refine wn ?_
   refine ws ?_
   refine wo (op_fieldAddr rfl Fa.F86_3 ?_)
   refine wo (op_load rfl (H6.cell (i := 4) rfl rfl) Try.underlying29 rfl ?_)
   refine wo (op_addU32 (b := 1) rfl rfl ?_)
   refine wo (op_fieldAddr rfl Fa.F86_3 ?_)
   refine wo (op_storeB (i := 4) H6 rfl rfl rfl rfl rfl Fa.I29 (fun w7 H7 => ?_))
   refine wn ?_
   refine WC.seq ?_
   refine WC.draw 7 Fa.M H7 (HW.op rfl (fun w1 H1 => op_move rfl ⟨rfl, Fr.refl _ _⟩) (HW.op rfl (fun w1 H1 => op_nilCheck rfl ⟨rfl, Fr.refl _ _⟩) (HW.op rfl (fun w1 H1 => op_fieldAddr rfl Fa.F81_1 ⟨rfl, Fr.refl _ _⟩) (HW.op rfl (fun w1 H1 => op_load rfl (H1.cell (i := 0) rfl rfl) Try.underlying79 rfl ⟨rfl, Fr.refl _ _⟩) (HW.op rfl (fun w1 H1 => op_move rfl ⟨rfl, Fr.refl _ _⟩) (HW.op rfl (fun w1 H1 => op_loadS (vs := [_, _, _, _, _, _, _]) rfl (H1.cells (i := 4) rfl rfl) Try.underlying86 rfl Fa.I86 rfl ⟨rfl, Fr.refl _ _⟩) (HW.op rfl (fun w1 H1 => op_indexAddr Try.underlying79 Fa.I86 rfl (H1.arrR (i := 2) rfl) rfl (by omega) ⟨rfl, Fr.refl _ _⟩)  HW.nil))))))) (by kernel_rfl) ?_
   intro β8 w8 H8
   refine wo (op_storeRF (i := 2) (f := rgc) (l := rl) (c := (Gr.rg ((rl.getD k Gr.no).e) ((rl.getD k Gr.no).pg) ((rl.getD k Gr.no).ev) ((rl.getD k Gr.no).xs) ((rl.getD k Gr.no).pv) ((rl.getD k Gr.no).ps) ((rl.getD k Gr.no).con) ((rl.getD k Gr.no).pp) ((rl.getD k Gr.no).tk + (1 : UInt32)))) (vs := [(vN (rl.getD k Gr.no).e), (vU32 (rl.getD k Gr.no).pg), (rl.getD k Gr.no).ev, (rl.getD k Gr.no).pv, (.bool (rl.getD k Gr.no).con), (vU32 (rl.getD k Gr.no).pp), (vU32 ((rl.getD k Gr.no).tk + (1 : UInt32)))]) H8 rfl rfl rfl rfl (fun _ => rfl) (by decide) (by omega) (one_cons rfl (one_cons rfl (one_cons (Arr.one ((GrD_xs (Deep.getD grD (H8.dpO (i := 3) rfl) Gr.no (GrD_zero _) k)))) (one_cons (Arr.one ((GrD_ps (Deep.getD grD (H8.dpO (i := 3) rfl) Gr.no (GrD_zero _) k)))) (one_cons rfl (one_cons rfl (one_cons rfl one_nil))))))) Fa.I86 (fun w9 H9 => ?_))
   refine wn ?_
   refine ws ?_
   refine wo (op_assign rfl ?_)
   refine wn ?_
   refine WC.ret ?_
   refine WQ.out (.tmp rfl .nil) ?_
   have hE0 := (takeE_n (of_decide_eq_true hb1) (obs_tk (of_decide_eq_true hb1) htk) (of_decide_eq_false hb4))
   have h2 := H9
   rw [show rl.length = (rl.set k (tkUp (rl.getD k Gr.no))).length by rw [List.length_set]] at h2
   have h3 := Owl.Own.dpOf (D := grD) (l := rl) (l' := (rl.set k (tkUp (rl.getD k Gr.no)))) (i := 3) h2 rfl (fun w h => dpSet hk h (fun q => q)) (ft_set hk rfl)
   exact ⟨rv, (rl.set k (tkUp (rl.getD k Gr.no))), by rw [hE0]; rfl, fun l hL => hL.takeYes hk hgk (by have h9 := of_decide_eq_false hb4; rw [hok] at h9; exact h9) hE0, DpTo.set hk rfl, h3.sel [0, 1, 2, 5] rfl rfl⟩
 ·
  have hc1 := of_decide_eq_false hb1
  have hno : hasE rl env = false := by simpa using of_decide_eq_false hb1
  refine wo (op_callF Fa.C104 rfl ((find_no r pg hv rv he rl env _ (H.cellsAt (i := 0) rfl) (H.arrO (i := 1) rfl) (H.arrR (i := 2) rfl) (H.dpO (i := 3) rfl) (by omega) hno).mono (fun e w10 hq => ?_)))
  obtain ⟨rfl, hf10⟩ := hq
  refine ⟨_, rfl, ?_⟩
  have H10 := H.fr' hf10
  refine wo (op_assign rfl ?_)
  refine wn ?_
  refine WC.seq ?_
  refine ws ?_
  refine wo (op_move rfl ?_)
  refine wo (op_lssI (b := (0 : Int)) rfl rfl ?_)
  refine wn ?_
  refine WC.yes rfl (by decide) ?_
  refine ws ?_
  refine wo (op_assign rfl ?_)
  refine wn ?_
  refine WC.ret ?_
  refine WQ.thenRet ?_
  refine WQ.out (.tmp rfl .nil) ?_
  exact ⟨rv, rl, by rw [takeE_3 hno]; rfl, fun l hL => hL.takeNo (by rw [takeE_3 hno]; decide), DpTo.sub (fun _ h => h), H10.sel [0, 1, 2, 3] rfl rfl⟩
set_option maxHeartbeats 4000000 in
set_option maxRecDepth 100000 in
theorem rgive_ok (r : Nat) (pg : UInt32) (hv rv : Value) (he : List UInt32) (rl : List Gr) (env : Int) (T : List Nat) (w : World) (H : Owl.Own T w w [.blk r [(vU32 pg), hv, rv] 81, Ent.ar hv 1 he.length (List.map vU32 he), .row rv 86 7 rl.length (List.flatMap rgc rl), Ent.dp grD.list rl]) (hl : rl.length < 2 ^ 30) (hfit : ∀ g ∈ rl, g.ps.length < 2 ^ 40 ∧ g.xs.length < 2 ^ 40) :
  Calls Try.prog 68 #[(ptr r 0), (vI env)] w (fun e w' => ∃ rv' rl', e = .returned (vN (giveE rl env)) ∧ (∀ l, Rel l rl → Rel (giveG l env) rl') ∧ DpTo w rl rl' ∧ Owl.Own T w w' [.blk r [(vU32 pg), hv, rv'] 81, Ent.ar hv 1 he.length (List.map vU32 he), .row rv' 86 7 rl'.length (List.flatMap rgc rl'), Ent.dp grD.list rl']) := by
 refine enter (args := [(ptr r 0), (vI env)]) Try.func68 rfl rfl ?_
 refine ws ?_
 refine wo (op_assign rfl ?_)
 refine wn ?_
 refine ws ?_
 refine wo (op_move rfl ?_)
 refine wo (op_move rfl ?_)
 refine bsplit (fun (hb1 : (decide (hasE rl env = true)) = true) => ?_) (fun (hb1 : (decide (hasE rl env = true)) = false) => ?_)
 ·
  have hc1 := of_decide_eq_true hb1
  obtain ⟨k, hk, hgk, hnk, hok⟩ := has_at (of_decide_eq_true hb1)
  refine wo (op_callF Fa.C104 rfl ((find_yes r pg hv rv he rl env k _ (H.cellsAt (i := 0) rfl) (H.arrO (i := 1) rfl) (H.arrR (i := 2) rfl) (H.dpO (i := 3) rfl) (by omega) hk hgk hnk).mono (fun e w2 hq => ?_)))
  obtain ⟨rfl, hf2⟩ := hq
  refine ⟨_, rfl, ?_⟩
  have H2 := H.fr' hf2
  refine wo (op_assign rfl ?_)
  refine wn ?_
  refine WC.seq ?_
  refine ws ?_
  refine wo (op_move rfl ?_)
  refine wo (op_lssN (b := 0) rfl rfl ?_)
  refine wn ?_
  refine WC.no rfl (decide_eq_false (Nat.not_lt_zero _)) ?_
  refine WC.skip ?_
  refine WQ.next ?_
  refine WC.seq ?_
  refine ws ?_
  refine wo (op_move rfl ?_)
  refine wo (op_nilCheck rfl ?_)
  refine wo (op_fieldAddr rfl Fa.F81_1 ?_)
  refine wo (op_load rfl (H2.cell (i := 0) rfl rfl) Try.underlying79 rfl ?_)
  refine wo (op_move rfl ?_)
  refine wo (op_indexAddr Try.underlying79 Fa.I86 rfl (H2.arrR (i := 2) rfl) rfl (by omega) ?_)
  refine wo (op_fieldAddrS rfl Fa.F86_3 ?_)
  refine wo (op_load rfl (Arr.atF (k := 6) (H2.arrR (i := 2) rfl) (fun _ => rfl) (by decide) Gr.no (by omega) rfl) Try.underlying29 rfl ?_)
  refine wo (op_eqlU32 (b := 0) rfl rfl ?_)
  refine wn ?_
  refine WC.cond rfl (fun (hb3 : (decide ((rl.getD k Gr.no).tk = (0 : UInt32))) = true) => ?_) (fun (hb3 : (decide ((rl.getD k Gr.no).tk = (0 : UInt32))) = false) => ?_)
  ·
   have hc3 := of_decide_eq_true hb3
   refine ws ?_
   refine wo (op_assign rfl ?_)
   refine wn ?_
   refine WC.ret ?_
   refine WQ.thenRet ?_
   refine WQ.out (.tmp rfl .nil) ?_
   have hE0 := (giveE_y (of_decide_eq_true hb1) (by rw [hok]; exact of_decide_eq_true hb3))
   exact ⟨rv, rl, by rw [hE0]; rfl, fun l hL => hL.giveNo (by rw [hE0]; decide), DpTo.sub (fun _ h => h), H2.sel [0, 1, 2, 3] rfl rfl⟩
  ·
   have hc3 := of_decide_eq_false hb3
   refine WC.skip ?_
   refine WQ.next ?_
   refine ws ?_
   refine wo (op_move rfl ?_)
   refine wo (op_nilCheck rfl ?_)
   refine wo (op_fieldAddr rfl Fa.F81_1 ?_)
   refine wo (op_load rfl (H2.cell (i := 0) rfl rfl) Try.underlying79 rfl ?_)
   refine wo (op_move rfl ?_)
   refine wo (op_indexAddr Try.underlying79 Fa.I86 rfl (H2.arrR (i := 2) rfl) rfl (by omega) ?_)
   refine wo (op_loadSP (vs := rgc (rl.getD k Gr.no)) rfl (Arr.atsF (H2.arrR (i := 2) rfl) (fun _ => rfl) (by decide) Gr.no (by omega)) Try.underlying86 rfl Fa.I86 rfl ?_)
   refine wo (op_alloc H2 Fa.I86 (fun b4 w4 H4 => ?_))
   refine wo (op_storeBW (i := 4) H4 rfl rfl rfl rfl (one_cons rfl (one_cons rfl (one_cons (Arr.one ((GrD_xs (Deep.getD grD (H4.dpO (i := 3) rfl) Gr.no (GrD_zero _) k)))) (one_cons (Arr.one ((GrD_ps (Deep.getD grD (H4.dpO (i := 3) rfl) Gr.no (GrD_zero _) k)))) (one_cons rfl (one_cons rfl (one_cons rfl one_nil))))))) Fa.I86 (fun w5 H5 => ?_))
   refine wn ?_
   refine ws ?_
   refine wo (op_fieldAddr rfl Fa.F86_3 ?_)
   refine wo (op_load rfl (H5.cell (i := 4) rfl rfl) Try.underlying29 rfl ?_)
   refine wo (op_subU32 (b := 1) rfl rfl ?_)
   refine wo (op_fieldAddr rfl Fa.F86_3 ?_)
   refine wo (op_storeB (i := 4) H5 rfl rfl rfl rfl rfl Fa.I29 (fun w6 H6 => ?_))
   refine wn ?_
   refine WC.seq ?_
   refine WC.draw 7 Fa.M H6 (HW.op rfl (fun w1 H1 => op_move rfl ⟨rfl, Fr.refl _ _⟩) (HW.op rfl (fun w1 H1 => op_nilCheck rfl ⟨rfl, Fr.refl _ _⟩) (HW.op rfl (fun w1 H1 => op_fieldAddr rfl Fa.F81_1 ⟨rfl, Fr.refl _ _⟩) (HW.op rfl (fun w1 H1 => op_load rfl (H1.cell (i := 0) rfl rfl) Try.underlying79 rfl ⟨rfl, Fr.refl _ _⟩) (HW.op rfl (fun w1 H1 => op_move rfl ⟨rfl, Fr.refl _ _⟩) (HW.op rfl (fun w1 H1 => op_loadS (vs := [_, _, _, _, _, _, _]) rfl (H1.cells (i := 4) rfl rfl) Try.underlying86 rfl Fa.I86 rfl ⟨rfl, Fr.refl _ _⟩) (HW.op rfl (fun w1 H1 => op_indexAddr Try.underlying79 Fa.I86 rfl (H1.arrR (i := 2) rfl) rfl (by omega) ⟨rfl, Fr.refl _ _⟩)  HW.nil))))))) (by kernel_rfl) ?_
   intro β7 w7 H7
   refine wo (op_storeRF (i := 2) (f := rgc) (l := rl) (c := (Gr.rg ((rl.getD k Gr.no).e) ((rl.getD k Gr.no).pg) ((rl.getD k Gr.no).ev) ((rl.getD k Gr.no).xs) ((rl.getD k Gr.no).pv) ((rl.getD k Gr.no).ps) ((rl.getD k Gr.no).con) ((rl.getD k Gr.no).pp) ((rl.getD k Gr.no).tk - (1 : UInt32)))) (vs := [(vN (rl.getD k Gr.no).e), (vU32 (rl.getD k Gr.no).pg), (rl.getD k Gr.no).ev, (rl.getD k Gr.no).pv, (.bool (rl.getD k Gr.no).con), (vU32 (rl.getD k Gr.no).pp), (vU32 ((rl.getD k Gr.no).tk - (1 : UInt32)))]) H7 rfl rfl rfl rfl (fun _ => rfl) (by decide) (by omega) (one_cons rfl (one_cons rfl (one_cons (Arr.one ((GrD_xs (Deep.getD grD (H7.dpO (i := 3) rfl) Gr.no (GrD_zero _) k)))) (one_cons (Arr.one ((GrD_ps (Deep.getD grD (H7.dpO (i := 3) rfl) Gr.no (GrD_zero _) k)))) (one_cons rfl (one_cons rfl (one_cons rfl one_nil))))))) Fa.I86 (fun w8 H8 => ?_))
   refine wn ?_
   refine ws ?_
   refine wo (op_assign rfl ?_)
   refine wn ?_
   refine WC.ret ?_
   refine WQ.out (.tmp rfl .nil) ?_
   have hE0 := (giveE_n (of_decide_eq_true hb1) (by rw [hok]; exact of_decide_eq_false hb3))
   have h2 := H8
   rw [show rl.length = (rl.set k (tkDn (rl.getD k Gr.no))).length by rw [List.length_set]] at h2
   have h3 := Owl.Own.dpOf (D := grD) (l := rl) (l' := (rl.set k (tkDn (rl.getD k Gr.no)))) (i := 3) h2 rfl (fun w h => dpSet hk h (fun q => q)) (ft_set hk rfl)
   exact ⟨rv, (rl.set k (tkDn (rl.getD k Gr.no))), by rw [hE0]; rfl, fun l hL => hL.giveYes hk hgk (of_decide_eq_false hb3) hE0, DpTo.set hk rfl, h3.sel [0, 1, 2, 5] rfl rfl⟩
 ·
  have hc1 := of_decide_eq_false hb1
  have hno : hasE rl env = false := by simpa using of_decide_eq_false hb1
  refine wo (op_callF Fa.C104 rfl ((find_no r pg hv rv he rl env _ (H.cellsAt (i := 0) rfl) (H.arrO (i := 1) rfl) (H.arrR (i := 2) rfl) (H.dpO (i := 3) rfl) (by omega) hno).mono (fun e w9 hq => ?_)))
  obtain ⟨rfl, hf9⟩ := hq
  refine ⟨_, rfl, ?_⟩
  have H9 := H.fr' hf9
  refine wo (op_assign rfl ?_)
  refine wn ?_
  refine WC.seq ?_
  refine ws ?_
  refine wo (op_move rfl ?_)
  refine wo (op_lssI (b := (0 : Int)) rfl rfl ?_)
  refine wn ?_
  refine WC.yes rfl (by decide) ?_
  refine ws ?_
  refine wo (op_assign rfl ?_)
  refine wn ?_
  refine WC.ret ?_
  refine WQ.thenRet ?_
  refine WQ.out (.tmp rfl .nil) ?_
  exact ⟨rv, rl, by rw [giveE_3 hno]; rfl, fun l hL => hL.giveNo (by rw [giveE_3 hno]; decide), DpTo.sub (fun _ h => h), H9.sel [0, 1, 2, 3] rfl rfl⟩
end Go.Proofs.Ytbjhccnffacbcaa
/-! from WCap24 -/
namespace Go.Proofs.Ytbjhccnffacbcaa
open Go.Owl Go.Spec
theorem rgrantG_ok (r : Nat) (pg : UInt32) (hv rv : Value) (he : List UInt32) (rl : List Gr) (en : Int) (mp : UInt32) (ev pv : Value) (xs : List Xt) (ps : List UInt16) (con : Bool) (pages : UInt32) (T : List Nat) (w : World) (H : Owl.Own T w w [.blk r [(vU32 pg), hv, rv] 81, Ent.ar hv 1 he.length (List.map vU32 he), .row rv 86 7 rl.length (List.flatMap rgc rl), Ent.dp grD.list rl, Ent.ar ev 2 xs.length (List.flatMap xtc xs), Ent.ar pv 1 ps.length (List.map vU16 ps)]) (hT : ∀ b ∈ T, b = r ∨ some b = rv.ownBlock) (hn : xs.length < 2 ^ 40) (hm : ps.length < 2 ^ 40) (hhe : he.length < 2 ^ 32) (hl : rl.length < 2 ^ 30) (hfit : ∀ g ∈ rl, g.ps.length < 2 ^ 40 ∧ g.xs.length < 2 ^ 40) :
    Calls Try.prog 65 #[ptr r 0, vI en, .agg #[vU32 mp, ev, pv, .bool con], vU32 pages] w (fun e w' => ∃ rv' rl', e = .returned (vN (rgE pg he rl en mp xs ps pages)) ∧ (∀ l, Rel l rl → Rel (grantG pg he l en mp xs ps con pages) rl') ∧ DpTo w rl rl' ∧ Owl.Own T w w' [.blk r [(vU32 pg), hv, rv'] 81, Ent.ar hv 1 he.length (List.map vU32 he), .row rv' 86 7 rl'.length (List.flatMap rgc rl'), Ent.dp grD.list rl', Ent.ar ev 2 xs.length (List.flatMap xtc xs), Ent.ar pv 1 ps.length (List.map vU16 ps)]) := by
  by_cases hb : en < 1 ∨ en > 8
  · have e0 : rgE pg he rl en mp xs ps pages = 2 := if_pos (.inl hb)
    exact (rgrant_bad r pg hv rv he rl en mp ev pv xs ps con pages w (H.cellsAt (i := 0) rfl) (H.arrO (i := 1) rfl) (H.arrR (i := 2) rfl) (H.dpO (i := 3) rfl) (H.arrO (i := 4) rfl) (H.arrO (i := 5) rfl) hb).mono (fun e w' ⟨he1, hf⟩ => ⟨rv, rl, by rw [e0]; exact he1, fun l hL => hL.noGrant (by rw [e0]; decide), DpTo.sub (fun _ h => h), H.fr' hf⟩)
  · obtain ⟨n, rfl⟩ : ∃ n : Nat, en = n := ⟨en.toNat, by omega⟩
    exact rgrant_ok r pg hv rv he rl n mp ev pv xs ps con pages T w H hT (by omega) (by omega) hn hm hhe hl hfit
set_option maxHeartbeats 4000000 in
set_option maxRecDepth 100000 in
theorem ccopy_ok (c : Nat) (pg : UInt32) (hv : Value) (he : List UInt32) (mb cn : Nat) (gs : List Gr) (l : List Gr) (w : World) (hC : cellsAt w c [(vU32 pg), hv, (.map (some mb))]) (hH : Arr w hv 1 he.length (List.map vU32 he)) (hM : w.heap[mb]? = some (mP .i64 (List.map Gr.me gs) cn)) (hG : BsOK 120 Gr.cells Gr.b gs w) (hS : grD.list.ok w gs) (hR : CapR gs cn l) :
  Calls Try.prog 35 #[(ptr c 0)] w (fun e w' => ∃ x mb' gs' cn' l', e = .returned (ptr x 0) ∧ l.Perm l' ∧ CapR gs' cn' l' ∧ DpTo w gs gs' ∧ Owl.Own [] w w' [Ent.ar hv 1 he.length (List.map vU32 he), Ent.dp grD.list gs, .blk x [(vU32 pg), hv, (.map (some mb'))] 112, Ent.ar hv 1 he.length (List.map vU32 he), .obj mb' (mP .i64 (List.map Gr.me gs') cn'), Ent.bs 120 Gr.cells Gr.b gs', Ent.dp grD.list gs']) := by
 refine enter (args := [(ptr c 0)]) Try.func35 rfl rfl ?_
 have H0 : Owl.Own [] w w [Ent.bo c [(vU32 pg), hv, (.map (some mb))], Ent.ar hv 1 he.length (List.map vU32 he), Ent.mo .i64 mb (List.map Gr.me gs) cn, Ent.bsO 120 Gr.cells Gr.b gs, Ent.dp grD.list gs] := ((((((Own.start w []).oldB hC).oldA hH).mpOld hM).bsOld hG).dpOld hS)
 refine ws ?_
 refine wo (op_assign rfl ?_)
 refine wn ?_
 refine WC.seq ?_
 refine ws ?_
 refine wo (op_move rfl ?_)
 refine wo (op_eqlPN Fa.PT52 rfl rfl ?_)
 refine wn ?_
 refine WC.no rfl rfl ?_
 refine WC.skip ?_
 refine WQ.next ?_
 refine ws ?_
 refine wo (op_move rfl ?_)
 refine wo (op_nilCheck rfl ?_)
 refine wo (op_fieldAddr rfl Fa.F112_0 ?_)
 refine wo (op_loadS (vs := [_, _]) rfl (H0.cellsO (i := 0) rfl rfl) Try.underlying48 rfl Fa.I48 rfl ?_)
 refine wo (op_makeMapP (kk := .i64) H0 (fun b1 w1 H1 => ?_))
 refine wo (op_build (cs := [_, _, _]) Fa.I112 Fa.PL112 rfl rfl ?_)
 refine wo (op_box H1 rfl rfl (fun b2 w2 H2 => ?_))
 refine wo (op_assign rfl ?_)
 refine wn ?_
 refine WC.seq ?_
 refine ws ?_
 refine wo (op_move rfl ?_)
 refine wo (op_nilCheck rfl ?_)
 refine wo (op_fieldAddr rfl Fa.F112_1 ?_)
 refine wo (op_load rfl (H2.cellO (i := 0) rfl rfl) Try.underlying110 rfl ?_)
 have H3 : Owl.Own [] w w2 [Ent.bo c [(vU32 pg), hv, (.map (some mb))], Ent.ar hv 1 he.length (List.map vU32 he), Ent.mo .i64 mb (List.map Gr.me gs) cn, Ent.bsO 120 Gr.cells Gr.b gs, Ent.dp grD.list gs, .obj b1 (mP .i64 [] 0), .blk b2 [(vU32 pg), hv, (.map (some b1))] 112, Ent.bs 120 Gr.cells Gr.b []] := H2.bsNil 120 Gr.cells Gr.b
 refine wo (op_rangeP H3 (H3.mpO (i := 2) rfl) Try.underlying110 rfl (fun b4 w4 H4 => ?_))
 refine wn ?_
 refine WC.block ?_
 refine WC.loop (α := List Gr × List Gr × List Gr × Nat) (fun (sn, rst, gs2, c2) => [(3, (ptr b2 0)), (19, (ptr b4 0))]) (fun (sn, rst, gs2, c2) w' => (gs.Perm (sn ++ rst) ∧ gs2.map Gr.core = sn.map Gr.core ∧ MEok (gs2.map Gr.me) c2) ∧ Owl.Own [] w w' [Ent.bo c [(vU32 pg), hv, (.map (some mb))], Ent.ar hv 1 he.length (List.map vU32 he), Ent.mo .i64 mb (List.map Gr.me gs) cn, Ent.bsO 120 Gr.cells Gr.b gs, Ent.dp grD.list gs, .obj b1 (mP .i64 (List.map Gr.me gs2) c2), .blk b2 [(vU32 pg), hv, (.map (some b1))] 112, Ent.bs 120 Gr.cells Gr.b gs2, .obj b4 (itO mb cn (List.map Gr.me sn))]) (fun (sn, rst, gs2, c2) => rst.length) ([], gs, [], 0) ⟨⟨List.Perm.refl _, rfl, MEok.nil 0⟩, H4⟩ ⟨rfl, rfl, trivial⟩ ?_
 rintro ⟨sn, rst, gs2, c2⟩ w5 ⟨⟨hpm, hco, hm2⟩, H5⟩
 show WC _ _ _ _ _ [(3, (ptr b2 0)), (19, (ptr b4 0))] _
 refine ws ?_
 refine wo (op_nextG (i := 8) (sn := sn) (rest := rst) H5 rfl (H5.mpO (i := 2) rfl) hR.1.me hpm rfl (fun h0 => ?_) (fun g6 rs6 hl6 hp6 w6 H6 => ?_))
 ·
  refine wo (op_extract rfl rfl ?_)
  refine wn ?_
  refine WC.seq ?_
  refine WC.no rfl rfl ?_
  refine WC.exit ?_
  refine WQ.thenExit ?_
  refine WQ.thenExit ?_
  refine WQ.inHere ?_
  refine WQ.next ?_
  refine ws ?_
  refine wo (op_move rfl ?_)
  refine wo (op_assign rfl ?_)
  refine wn ?_
  refine WC.ret ?_
  refine WQ.out (.tmp rfl .nil) ?_
  rw [h0, List.append_nil] at hpm
  have h2 := (H5).dup (i := 1) rfl
  have h3 := Owl.Own.dpOf (D := grD) (l := gs) (l' := gs2) (i := 4) h2 rfl (fun w h => core_ok hco hpm h) (core_ft hco hpm)
  exact ⟨_, _, gs2, c2, _, rfl, copy_perm hco hpm hR.2, copy_R hR.1 hco hpm hm2, fun b hb => .inr (core_ft hco hpm b hb), h3.sel [1, 4, 6, 9, 5, 7, 10] rfl rfl⟩
 ·
  have H7 : Owl.Own [] w w6 [Ent.bo c [(vU32 pg), hv, (.map (some mb))], Ent.ar hv 1 he.length (List.map vU32 he), Ent.mo .i64 mb (List.map Gr.me gs) cn, Ent.bsO 120 Gr.cells Gr.b gs, Ent.dp grD.list gs, .obj b1 (mP .i64 (List.map Gr.me gs2) c2), .blk b2 [(vU32 pg), hv, (.map (some b1))] 112, Ent.bs 120 Gr.cells Gr.b gs2, .obj b4 (itO mb cn (List.map Gr.me (sn ++ [g6]))), Ent.bo g6.b [(vU32 g6.pg), g6.ev, g6.pv, (.bool g6.con), (vU32 g6.pp), (vU32 g6.tk)], Ent.ar g6.ev 2 g6.xs.length (List.flatMap xtc g6.xs), Ent.ar g6.pv 1 g6.ps.length (List.map vU16 g6.ps)] := (((H6.bsView (i := 3) (a := g6) rfl (hp6.mem_iff.2 (by simp))).dpView (i := 4) (a := g6) rfl (hp6.mem_iff.2 (by simp)) (fun w h => h.1) (fun b hb => List.mem_append.2 (.inl hb))).dpView (i := 4) (a := g6) rfl (hp6.mem_iff.2 (by simp)) (fun w h => h.2) (fun b hb => List.mem_append.2 (.inr hb)))
  skip
  refine wo (op_extract rfl rfl ?_)
  refine wn ?_
  refine WC.seq ?_
  refine WC.yes rfl rfl ?_
  refine WC.skip ?_
  refine WQ.next ?_
  refine WC.block ?_
  refine ws ?_
  refine wo (op_entryG (i := 8) (sn := sn) (g := g6) H7 rfl (H7.mpO (i := 2) rfl) hR.1.me hp6 rfl ?_)
  refine wo (op_extract rfl rfl ?_)
  refine wo (op_extract rfl rfl ?_)
  refine wo (op_assign rfl ?_)
  refine wo (op_assign rfl ?_)
  refine wn ?_
  refine WC.draw 19 Fa.M H7 (HW.op rfl (fun w1 H1 => op_move rfl ⟨rfl, Fr.refl _ _⟩) (HW.op rfl (fun w1 H1 => op_nilCheck rfl ⟨rfl, Fr.refl _ _⟩) (HW.op rfl (fun w1 H1 => op_fieldAddr rfl Fa.F112_1 ⟨rfl, Fr.refl _ _⟩) (HW.op rfl (fun w1 H1 => op_load rfl (H1.cell (i := 6) rfl rfl) Try.underlying110 rfl ⟨rfl, Fr.refl _ _⟩) (HW.op rfl (fun w1 H1 => op_move rfl ⟨rfl, Fr.refl _ _⟩) (HW.op rfl (fun w1 H1 => op_move rfl ⟨rfl, Fr.refl _ _⟩) (HW.op rfl (fun w1 H1 => op_nilCheck rfl ⟨rfl, Fr.refl _ _⟩) (HW.op rfl (fun w1 H1 => op_fieldAddr rfl Fa.F120_0 ⟨rfl, Fr.refl _ _⟩) (HW.op rfl (fun w1 H1 => op_loadS (vs := [_, _, _, _]) rfl (H1.cellsO (i := 9) rfl rfl) Try.underlying59 rfl Fa.I59 rfl ⟨rfl, Fr.refl _ _⟩) (HW.op rfl (fun w1 H1 => op_move rfl ⟨rfl, Fr.refl _ _⟩) (HW.op rfl (fun w1 H1 => op_nilCheck rfl ⟨rfl, Fr.refl _ _⟩) (HW.op rfl (fun w1 H1 => op_fieldAddr rfl Fa.F120_1 ⟨rfl, Fr.refl _ _⟩) (HW.op rfl (fun w1 H1 => op_load rfl (H1.cellO (i := 9) rfl rfl) Try.underlying29 rfl ⟨rfl, Fr.refl _ _⟩) (HW.op rfl (fun w1 H1 => op_move rfl ⟨rfl, Fr.refl _ _⟩) (HW.op rfl (fun w1 H1 => op_nilCheck rfl ⟨rfl, Fr.refl _ _⟩) (HW.op rfl (fun w1 H1 => op_fieldAddr rfl Fa.F120_2 ⟨rfl, Fr.refl _ _⟩) (HW.op rfl (fun w1 H1 => op_load rfl (H1.cellO (i := 9) rfl rfl) Try.underlying29 rfl ⟨rfl, Fr.refl _ _⟩) (HW.op rfl (fun w1 H1 => op_build (cs := [_, _, _, _, _, _]) Fa.I120 Fa.PL120 rfl rfl ⟨rfl, Fr.refl _ _⟩) (HW.flt (mk := fun bq => ptr bq.1 0) (ent := fun bq => .blk bq.1 _ _) rfl (fun w1 _ => op_box (Own.start w1 []) rfl rfl (fun bq w2 H2 => ⟨(bq, undef), rfl, H2, True.intro⟩))  HW.nil))))))))))))))))))) (by kernel_rfl) ?_
  intro β8 w8 H8
  refine wo (op_updP (i := 5) (k := g6.e) H8 rfl Try.underlying110 Try.underlying3 (fun x hx hk => copy_ne hR.1 hp6 hco hx hk) rfl rfl rfl (fun w9 H9 => ?_))
  refine WL.nil ?_
  refine WQ.inNormal ?_
  exact WQ.round ((sn ++ [g6]), rs6, gs2 ++ [(Gr.mk g6.e (β8 18).1 c2 g6.pg g6.ev g6.xs g6.pv g6.ps g6.con g6.pp g6.tk)], c2 + 1) ⟨⟨hp6, core_snoc hco, copy_me hR.1 hp6 hco hm2⟩, (by have h := (show Owl.Own [] w w9 [Ent.bo c [(vU32 pg), hv, (.map (some mb))], Ent.ar hv 1 he.length (List.map vU32 he), Ent.mo .i64 mb (List.map Gr.me gs) cn, Ent.bsO 120 Gr.cells Gr.b gs, Ent.dp grD.list gs, .obj b1 (mP .i64 ((List.map Gr.me gs2) ++ [ME.mk g6.e (β8 18).1 c2]) (c2 + 1)), .blk b2 [(vU32 pg), hv, (.map (some b1))] 112, Ent.bs 120 Gr.cells Gr.b gs2, .obj b4 (itO mb cn (List.map Gr.me (sn ++ [g6]))), Ent.bo g6.b [(vU32 g6.pg), g6.ev, g6.pv, (.bool g6.con), (vU32 g6.pp), (vU32 g6.tk)], Ent.ar g6.ev 2 g6.xs.length (List.flatMap xtc g6.xs), Ent.ar g6.pv 1 g6.ps.length (List.map vU16 g6.ps), .blk (β8 18).1 [(vU32 g6.pg), g6.ev, g6.pv, (.bool g6.con), (vU32 g6.pp), (vU32 g6.tk)] 120] from H9); rw [show ((List.map Gr.me gs2) ++ [ME.mk g6.e (β8 18).1 c2]) = List.map Gr.me (gs2 ++ [(Gr.mk g6.e (β8 18).1 c2 g6.pg g6.ev g6.xs g6.pv g6.ps g6.con g6.pp g6.tk)]) from by rw [List.map_append]; rfl] at h; exact (h.fold (i := 7) (j := 12) (f := Gr.cells) (bl := Gr.b) (a := (Gr.mk g6.e (β8 18).1 c2 g6.pg g6.ev g6.xs g6.pv g6.ps g6.con g6.pp g6.tk)) (l1 := gs2) (l2 := []) (by rw [List.append_nil]; rfl) rfl rfl rfl rfl).sel [0, 1, 2, 3, 4, 5, 6, 7, 8] rfl rfl)⟩ ⟨rfl, rfl, trivial⟩ (by show rs6.length < rst.length; omega)
end Go.Proofs.Ytbjhccnffacbcaa
/-! from WCap25 -/
namespace Go.Proofs.Ytbjhccnffacbcaa
open Go.Owl Go.Spec
set_option maxHeartbeats 4000000 in
set_option maxRecDepth 100000 in
theorem tells_ok (c : Nat) (pg : UInt32) (hv : Value) (he : List UInt32) (mb cn : Nat) (gs : List Gr) (r : Nat) (hv2 rv : Value) (rl l : List Gr) (env : Int) (id bk : UInt32) (y : UInt16) (w : World) (hC : cellsAt w c [(vU32 pg), hv, (.map (some mb))]) (hH : Arr w hv 1 he.length (List.map vU32 he)) (hM : w.heap[mb]? = some (mP .i64 (List.map Gr.me gs) cn)) (hG : BsOK 120 Gr.cells Gr.b gs w) (hS : grD.list.ok w gs) (hRr : cellsAt w r [(vU32 pg), hv2, rv]) (hHr : Arr w hv2 1 he.length (List.map vU32 he)) (hVr : Arr w rv 7 rl.length (List.flatMap rgc rl)) (hDr : grD.list.ok w rl) (hR : CapR gs cn l) (hQ : Rel l rl) (hl : rl.length < 2 ^ 30) (hfit : ∀ g ∈ rl, g.ps.length < 2 ^ 40 ∧ g.xs.length < 2 ^ 40) :
  Calls Try.prog 38 #[(ptr c 0), (ptr r 0), (vI env), (vU32 id), (vU32 bk), (vU16 y)] w (fun e w' => e = .returned (.bool true) ∧ Fr [] w w') := by
 refine enter (args := [(ptr c 0), (ptr r 0), (vI env), (vU32 id), (vU32 bk), (vU16 y)]) Try.func38 rfl rfl ?_
 have H0 : Owl.Own [] w w [Ent.bo c [(vU32 pg), hv, (.map (some mb))], Ent.ar hv 1 he.length (List.map vU32 he), Ent.mo .i64 mb (List.map Gr.me gs) cn, Ent.bsO 120 Gr.cells Gr.b gs, Ent.dp grD.list gs, Ent.bo r [(vU32 pg), hv2, rv], Ent.ar hv2 1 he.length (List.map vU32 he), Ent.ar rv 7 rl.length (List.flatMap rgc rl), Ent.dp grD.list rl] := ((((((((((Own.start w []).oldB hC).oldA hH).mpOld hM).bsOld hG).dpOld hS).oldB hRr).oldA hHr).oldA hVr).dpOld hDr)
 refine ws ?_
 refine wo (op_assign rfl ?_)
 refine wn ?_
 refine ws ?_
 refine wo (op_move rfl ?_)
 refine wo (op_move rfl ?_)
 refine wo (op_callF Fa.C26 rfl ((manifest_ok c pg hv he mb cn gs env l _ (H0.cellsAtO (i := 0) rfl) (H0.arrO (i := 1) rfl) (H0.mpO (i := 2) rfl) (H0.bsR (i := 3) rfl) (H0.dpO (i := 4) rfl) hR).mono (fun e w1 hq => ?_)))
 obtain ⟨v1, u1, rfl, hq1⟩ := hq
 refine ⟨_, rfl, ?_⟩
 have H1 : Owl.Own [] w w1 [Ent.bo c [(vU32 pg), hv, (.map (some mb))], Ent.ar hv 1 he.length (List.map vU32 he), Ent.mo .i64 mb (List.map Gr.me gs) cn, Ent.bsO 120 Gr.cells Gr.b gs, Ent.dp grD.list gs, Ent.bo r [(vU32 pg), hv2, rv], Ent.ar hv2 1 he.length (List.map vU32 he), Ent.ar rv 7 rl.length (List.flatMap rgc rl), Ent.dp grD.list rl, .row v1 108 2 (obs l env).xs.length (List.flatMap xtc (obs l env).xs), .row u1 50 1 (obs l env).ps.length (List.map vU16 (obs l env).ps)] := H0.splice [] [] [.row v1 108 2 (obs l env).xs.length (List.flatMap xtc (obs l env).xs), .row u1 50 1 (obs l env).ps.length (List.map vU16 (obs l env).ps)] rfl rfl hq1 (Fits.solid True.intro (Fits.solid True.intro Fits.nil))
 refine wo (op_move rfl ?_)
 refine wo (op_extract rfl rfl ?_)
 refine wo (op_extract rfl rfl ?_)
 refine wo (op_alloc H1 Fa.I59 (fun b2 w2 H2 => ?_))
 refine wo (op_storeBW (i := 11) H2 rfl rfl rfl rfl (one_cons rfl (one_cons (Arr.one (H2.arrR (i := 9) rfl)) (one_cons (Arr.one (H2.arrR (i := 10) rfl)) (one_cons rfl one_nil)))) Fa.I59 (fun w3 H3 => ?_))
 refine wo (op_assign rfl ?_)
 refine wn ?_
 refine ws ?_
 refine wo (op_move rfl ?_)
 refine wo (op_move rfl ?_)
 refine wo (op_callF Fa.C69 rfl ((rman_ok r pg hv2 rv he rl env _ (H3.cellsAtO (i := 5) rfl) (H3.arrO (i := 6) rfl) (H3.arrO (i := 7) rfl) (H3.dpO (i := 8) rfl) (by omega) hfit).mono (fun e w4 hq => ?_)))
 obtain ⟨rfl, hf4⟩ := hq
 refine ⟨_, rfl, ?_⟩
 have H4 := H3.fr' hf4
 refine wo (op_move rfl ?_)
 refine wo (op_extract rfl rfl ?_)
 refine wo (op_extract rfl rfl ?_)
 refine wo (op_alloc H4 Fa.I59 (fun b5 w5 H5 => ?_))
 refine wo (op_storeBW (i := 12) H5 rfl rfl rfl rfl (one_cons rfl (one_cons (Arr.one ((GrD_xs (GrD_obs (H5.dpO (i := 8) rfl) env)))) (one_cons (Arr.one ((GrD_ps (GrD_obs (H5.dpO (i := 8) rfl) env)))) (one_cons rfl one_nil)))) Fa.I59 (fun w6 H6 => ?_))
 refine wo (op_assign rfl ?_)
 refine wn ?_
 refine ws ?_
 refine wo (op_move rfl ?_)
 refine wo (op_move rfl ?_)
 refine wo (op_eqlB Try.underlying4 rfl rfl ?_)
 refine wo (op_move rfl ?_)
 refine WL.yes rfl rfl rfl (eqB_of hQ.has) rfl (op_loadS (vs := [_, _, _, _]) rfl (H6.cells (i := 11) rfl rfl) Try.underlying59 rfl Fa.I59 rfl ?_)
 refine WL.yes rfl rfl rfl (eqB_of hQ.has) rfl (op_loadS (vs := [_, _, _, _]) rfl (H6.cells (i := 12) rfl rfl) Try.underlying59 rfl Fa.I59 rfl ?_)
 refine WL.yes rfl rfl rfl (eqB_of hQ.has) rfl (op_callF Fa.C70 rfl ((rmsame_ok ((obs l env).pg) ((obs l env).con) _ _ ((obs l env).xs) ((obs l env).ps) ((obs rl env).pg) ((obs rl env).con) _ _ ((obs rl env).xs) ((obs rl env).ps) _ (H6.arrR (i := 9) rfl) (H6.arrR (i := 10) rfl) ((GrD_xs (GrD_obs (H6.dpO (i := 8) rfl) env))) ((GrD_ps (GrD_obs (H6.dpO (i := 8) rfl) env))) (Nat.lt_of_lt_of_le (CapR.ofit hR env).2 (by decide)) (Nat.lt_of_lt_of_le (CapR.ofit hR env).1 (by decide))).mono (fun e w7 hq => ?_)))
 obtain ⟨rfl, hf7⟩ := hq
 refine ⟨_, rfl, ?_⟩
 have H7 := H6.fr' hf7
 refine wo (op_pickT rfl (eqB_of hQ.has) rfl ?_)
 refine wo (op_move rfl ?_)
 refine WL.yes rfl rfl rfl (sameM_iff.2 ⟨(by rw [hQ.obs]; rfl), (by rw [hQ.obs]; rfl), (by rw [hQ.obs]; rfl), (by rw [hQ.obs]; rfl)⟩) rfl (op_move rfl ?_)
 refine WL.yes rfl rfl rfl (sameM_iff.2 ⟨(by rw [hQ.obs]; rfl), (by rw [hQ.obs]; rfl), (by rw [hQ.obs]; rfl), (by rw [hQ.obs]; rfl)⟩) rfl (op_move rfl ?_)
 refine WL.yes rfl rfl rfl (sameM_iff.2 ⟨(by rw [hQ.obs]; rfl), (by rw [hQ.obs]; rfl), (by rw [hQ.obs]; rfl), (by rw [hQ.obs]; rfl)⟩) rfl (op_move rfl ?_)
 refine WL.yes rfl rfl rfl (sameM_iff.2 ⟨(by rw [hQ.obs]; rfl), (by rw [hQ.obs]; rfl), (by rw [hQ.obs]; rfl), (by rw [hQ.obs]; rfl)⟩) rfl (op_move rfl ?_)
 refine WL.yes rfl rfl rfl (sameM_iff.2 ⟨(by rw [hQ.obs]; rfl), (by rw [hQ.obs]; rfl), (by rw [hQ.obs]; rfl), (by rw [hQ.obs]; rfl)⟩) rfl (op_callF Fa.C29 rfl ((cblock_ok c pg hv he mb cn gs env id bk l _ (H7.cellsAtO (i := 0) rfl) (H7.arrO (i := 1) rfl) (H7.mpO (i := 2) rfl) (H7.bsR (i := 3) rfl) (H7.dpO (i := 4) rfl) hR).mono (fun e w8 hq => ?_)))
 obtain ⟨rfl, hf8⟩ := hq
 refine ⟨_, rfl, ?_⟩
 have H8 := H7.fr' hf8
 refine WL.yes rfl rfl rfl (sameM_iff.2 ⟨(by rw [hQ.obs]; rfl), (by rw [hQ.obs]; rfl), (by rw [hQ.obs]; rfl), (by rw [hQ.obs]; rfl)⟩) rfl (op_move rfl ?_)
 refine WL.yes rfl rfl rfl (sameM_iff.2 ⟨(by rw [hQ.obs]; rfl), (by rw [hQ.obs]; rfl), (by rw [hQ.obs]; rfl), (by rw [hQ.obs]; rfl)⟩) rfl (op_move rfl ?_)
 refine WL.yes rfl rfl rfl (sameM_iff.2 ⟨(by rw [hQ.obs]; rfl), (by rw [hQ.obs]; rfl), (by rw [hQ.obs]; rfl), (by rw [hQ.obs]; rfl)⟩) rfl (op_move rfl ?_)
 refine WL.yes rfl rfl rfl (sameM_iff.2 ⟨(by rw [hQ.obs]; rfl), (by rw [hQ.obs]; rfl), (by rw [hQ.obs]; rfl), (by rw [hQ.obs]; rfl)⟩) rfl (op_move rfl ?_)
 refine WL.yes rfl rfl rfl (sameM_iff.2 ⟨(by rw [hQ.obs]; rfl), (by rw [hQ.obs]; rfl), (by rw [hQ.obs]; rfl), (by rw [hQ.obs]; rfl)⟩) rfl (op_callF Fa.C71 rfl ((rcblk_ok r pg hv2 rv he rl env id bk _ (H8.cellsAtO (i := 5) rfl) (H8.arrO (i := 6) rfl) (H8.arrO (i := 7) rfl) (H8.dpO (i := 8) rfl) (by omega) hfit).mono (fun e w9 hq => ?_)))
 obtain ⟨rfl, hf9⟩ := hq
 refine ⟨_, rfl, ?_⟩
 have H9 := H8.fr' hf9
 refine WL.yes rfl rfl rfl (sameM_iff.2 ⟨(by rw [hQ.obs]; rfl), (by rw [hQ.obs]; rfl), (by rw [hQ.obs]; rfl), (by rw [hQ.obs]; rfl)⟩) rfl (op_eqlB Try.underlying4 rfl rfl ?_)
 refine wo (op_pickT rfl (sameM_iff.2 ⟨(by rw [hQ.obs]; rfl), (by rw [hQ.obs]; rfl), (by rw [hQ.obs]; rfl), (by rw [hQ.obs]; rfl)⟩) rfl ?_)
 refine wo (op_move rfl ?_)
 refine WL.yes rfl rfl rfl (eqB_of (by rw [hQ.obs]; rfl)) rfl (op_move rfl ?_)
 refine WL.yes rfl rfl rfl (eqB_of (by rw [hQ.obs]; rfl)) rfl (op_move rfl ?_)
 refine WL.yes rfl rfl rfl (eqB_of (by rw [hQ.obs]; rfl)) rfl (op_move rfl ?_)
 refine WL.yes rfl rfl rfl (eqB_of (by rw [hQ.obs]; rfl)) rfl (op_callF Fa.C28 rfl ((port_ok c pg hv he mb cn gs env y l _ (H9.cellsAtO (i := 0) rfl) (H9.arrO (i := 1) rfl) (H9.mpO (i := 2) rfl) (H9.bsR (i := 3) rfl) (H9.dpO (i := 4) rfl) hR).mono (fun e w10 hq => ?_)))
 obtain ⟨rfl, hf10⟩ := hq
 refine ⟨_, rfl, ?_⟩
 have H10 := H9.fr' hf10
 refine WL.yes rfl rfl rfl (eqB_of (by rw [hQ.obs]; rfl)) rfl (op_move rfl ?_)
 refine WL.yes rfl rfl rfl (eqB_of (by rw [hQ.obs]; rfl)) rfl (op_move rfl ?_)
 refine WL.yes rfl rfl rfl (eqB_of (by rw [hQ.obs]; rfl)) rfl (op_move rfl ?_)
 refine WL.yes rfl rfl rfl (eqB_of (by rw [hQ.obs]; rfl)) rfl (op_callF Fa.C72 rfl ((rport_ok r pg hv2 rv he rl env y _ (H10.cellsAtO (i := 5) rfl) (H10.arrO (i := 6) rfl) (H10.arrO (i := 7) rfl) (H10.dpO (i := 8) rfl) (by omega) hfit).mono (fun e w11 hq => ?_)))
 obtain ⟨rfl, hf11⟩ := hq
 refine ⟨_, rfl, ?_⟩
 have H11 := H10.fr' hf11
 refine WL.yes rfl rfl rfl (eqB_of (by rw [hQ.obs]; rfl)) rfl (op_eqlB Try.underlying4 rfl rfl ?_)
 refine wo (op_pickT rfl (eqB_of (by rw [hQ.obs]; rfl)) rfl ?_)
 refine wo (op_move rfl ?_)
 refine WL.yes rfl rfl rfl (eqB_of (by rw [hQ.obs]; rfl)) rfl (op_move rfl ?_)
 refine WL.yes rfl rfl rfl (eqB_of (by rw [hQ.obs]; rfl)) rfl (op_move rfl ?_)
 refine WL.yes rfl rfl rfl (eqB_of (by rw [hQ.obs]; rfl)) rfl (op_callF Fa.C31 rfl ((console_ok c pg hv he mb cn gs env l _ (H11.cellsAtO (i := 0) rfl) (H11.arrO (i := 1) rfl) (H11.mpO (i := 2) rfl) (H11.bsR (i := 3) rfl) (H11.dpO (i := 4) rfl) hR).mono (fun e w12 hq => ?_)))
 obtain ⟨rfl, hf12⟩ := hq
 refine ⟨_, rfl, ?_⟩
 have H12 := H11.fr' hf12
 refine WL.yes rfl rfl rfl (eqB_of (by rw [hQ.obs]; rfl)) rfl (op_move rfl ?_)
 refine WL.yes rfl rfl rfl (eqB_of (by rw [hQ.obs]; rfl)) rfl (op_move rfl ?_)
 refine WL.yes rfl rfl rfl (eqB_of (by rw [hQ.obs]; rfl)) rfl (op_callF Fa.C73 rfl ((rconsole_ok r pg hv2 rv he rl env _ (H12.cellsAtO (i := 5) rfl) (H12.arrO (i := 6) rfl) (H12.arrO (i := 7) rfl) (H12.dpO (i := 8) rfl) (by omega) hfit).mono (fun e w13 hq => ?_)))
 obtain ⟨rfl, hf13⟩ := hq
 refine ⟨_, rfl, ?_⟩
 have H13 := H12.fr' hf13
 refine WL.yes rfl rfl rfl (eqB_of (by rw [hQ.obs]; rfl)) rfl (op_eqlB Try.underlying4 rfl rfl ?_)
 refine wo (op_pickT rfl (eqB_of (by rw [hQ.obs]; rfl)) rfl ?_)
 refine wo (op_move rfl ?_)
 refine WL.yes rfl rfl rfl (eqB_of (by rw [hQ.obs]; rfl)) rfl (op_move rfl ?_)
 refine WL.yes rfl rfl rfl (eqB_of (by rw [hQ.obs]; rfl)) rfl (op_move rfl ?_)
 refine WL.yes rfl rfl rfl (eqB_of (by rw [hQ.obs]; rfl)) rfl (op_callF Fa.C27 rfl ((left_ok c pg hv he mb cn gs env l _ (H13.cellsAtO (i := 0) rfl) (H13.arrO (i := 1) rfl) (H13.mpO (i := 2) rfl) (H13.bsR (i := 3) rfl) (H13.dpO (i := 4) rfl) hR).mono (fun e w14 hq => ?_)))
 obtain ⟨rfl, hf14⟩ := hq
 refine ⟨_, rfl, ?_⟩
 have H14 := H13.fr' hf14
 refine WL.yes rfl rfl rfl (eqB_of (by rw [hQ.obs]; rfl)) rfl (op_move rfl ?_)
 refine WL.yes rfl rfl rfl (eqB_of (by rw [hQ.obs]; rfl)) rfl (op_move rfl ?_)
 refine WL.yes rfl rfl rfl (eqB_of (by rw [hQ.obs]; rfl)) rfl (op_callF Fa.C74 rfl ((rleft_ok r pg hv2 rv he rl env _ (H14.cellsAtO (i := 5) rfl) (H14.arrO (i := 6) rfl) (H14.arrO (i := 7) rfl) (H14.dpO (i := 8) rfl) (by omega) hfit).mono (fun e w15 hq => ?_)))
 obtain ⟨rfl, hf15⟩ := hq
 refine ⟨_, rfl, ?_⟩
 have H15 := H14.fr' hf15
 refine WL.yes rfl rfl rfl (eqB_of (by rw [hQ.obs]; rfl)) rfl (op_eqlU32 rfl rfl ?_)
 refine wo (op_pickT rfl (eqB_of (by rw [hQ.obs]; rfl)) rfl ?_)
 refine wo (op_assign rfl ?_)
 refine wn ?_
 refine WC.ret ?_
 refine WQ.out (.tmp rfl .nil) ?_
 exact ⟨by rw [((decide_eq_true (by rw [hQ.obs]; rfl)) : (decide (((obs l env).pg - (obs l env).tk) = ((obs rl env).pg - (obs rl env).tk))) = true)]; rfl, H15.fr⟩
set_option maxHeartbeats 20000000 in
set_option maxRecDepth 100000 in
theorem does_ok (c : Nat) (pg : UInt32) (hv : Value) (he : List UInt32) (mb cn : Nat) (gs : List Gr) (r : Nat) (hv2 rv : Value) (rl l : List Gr) (d en : Int) (mp : UInt32) (ev pv : Value) (xs : List Xt) (ps : List UInt16) (con : Bool) (pages : UInt32) (T : List Nat) (w : World) (H : Owl.Own T w w [Ent.ar ev 2 xs.length (List.flatMap xtc xs), Ent.ar pv 1 ps.length (List.map vU16 ps), .blk c [(vU32 pg), hv, (.map (some mb))] 112, Ent.ar hv 1 he.length (List.map vU32 he), .obj mb (mP .i64 (List.map Gr.me gs) cn), Ent.bs 120 Gr.cells Gr.b gs, Ent.dp grD.list gs, .blk r [(vU32 pg), hv2, rv] 81, Ent.ar hv2 1 he.length (List.map vU32 he), .row rv 86 7 rl.length (List.flatMap rgc rl), Ent.dp grD.list rl]) (hR : CapR gs cn l) (hQ : Rel l rl) (hn : xs.length < 2 ^ 40) (hm : ps.length < 2 ^ 40) (hhe : he.length < 2 ^ 32) (hl : rl.length < 2 ^ 30) (hfit : ∀ g ∈ rl, g.ps.length < 2 ^ 40 ∧ g.xs.length < 2 ^ 40) :
  Calls Try.prog 36 #[(ptr c 0), (ptr r 0), (.agg #[(vI d), (vI en), (vU32 mp), ev, pv, (.bool con), (vU32 pages)])] w (fun e w' => ∃ cn' gs' rv' rl' l', e = .returned (.bool true) ∧ CapR gs' cn' l' ∧ Rel l' rl' ∧ DpTo w gs gs' ∧ DpTo w rl rl' ∧ Owl.Own T w w' [Ent.ar ev 2 xs.length (List.flatMap xtc xs), Ent.ar pv 1 ps.length (List.map vU16 ps), .blk c [(vU32 pg), hv, (.map (some mb))] 112, Ent.ar hv 1 he.length (List.map vU32 he), .obj mb (mP .i64 (List.map Gr.me gs') cn'), Ent.bs 120 Gr.cells Gr.b gs', Ent.dp grD.list gs', .blk r [(vU32 pg), hv2, rv'] 81, Ent.ar hv2 1 he.length (List.map vU32 he), .row rv' 86 7 rl'.length (List.flatMap rgc rl'), Ent.dp grD.list rl']) := by
 refine enter (args := [(ptr c 0), (ptr r 0), (.agg #[(vI d), (vI en), (vU32 mp), ev, pv, (.bool con), (vU32 pages)])]) Try.func36 rfl rfl ?_
 refine ws ?_
 refine wo (op_box H rfl rfl (fun b1 w1 H1 => ?_))
 refine wo (op_assign rfl ?_)
 refine wn ?_
 refine WC.seq ?_
 refine ws ?_
 have H2 : Owl.Own T w w1 [.blk b1 [(vI d), (vI en), (vU32 mp), ev, pv, (.bool con), (vU32 pages)] 61, Ent.ar ev 2 xs.length (List.flatMap xtc xs), Ent.ar pv 1 ps.length (List.map vU16 ps), .blk c [(vU32 pg), hv, (.map (some mb))] 112, Ent.ar hv 1 he.length (List.map vU32 he), .obj mb (mP .i64 (List.map Gr.me gs) cn), Ent.bs 120 Gr.cells Gr.b gs, Ent.dp grD.list gs, .blk r [(vU32 pg), hv2, rv] 81, Ent.ar hv2 1 he.length (List.map vU32 he), .row rv 86 7 rl.length (List.flatMap rgc rl), Ent.dp grD.list rl] := H1.sel [11, 0, 1, 2, 3, 4, 5, 6, 7, 8, 9, 10] rfl rfl
 refine wo (op_fieldAddr rfl Fa.F61_0 ?_)
 refine wo (op_load rfl (H2.cell (i := 0) rfl rfl) Try.underlying3 rfl ?_)
 refine wn ?_
 refine WC.block ?_
 refine ws ?_
 refine wo (op_eqlI (b := (0 : Int)) rfl rfl ?_)
 refine wo (op_assign rfl ?_)
 refine wn ?_
 refine WC.cond rfl (fun (hb3 : (decide (d = (0 : Int))) = true) => ?_) (fun (hb3 : (decide (d = (0 : Int))) = false) => ?_)
 ·
  have hc3 := of_decide_eq_true hb3
  refine WC.seq ?_
  refine WC.held 19 rfl Fa.M H2 (fun w' => ∃ L', Owl.Own T w w' ([.blk b1 [(vI d), (vI en), (vU32 mp), ev, pv, (.bool con), (vU32 pages)] 61, Ent.ar ev 2 xs.length (List.flatMap xtc xs), Ent.ar pv 1 ps.length (List.map vU16 ps)] ++ L')) ?_
  intro w4 H4
  refine WH.take (i := 0) (v := (ptr c 0)) rfl rfl (.inl rfl) rfl (by kernel_rfl) ⟨[.blk c [(vU32 pg), hv, (.map (some mb))] 112, Ent.ar hv 1 he.length (List.map vU32 he), .obj mb (mP .i64 (List.map Gr.me gs) cn), Ent.bs 120 Gr.cells Gr.b gs, Ent.dp grD.list gs, .blk r [(vU32 pg), hv2, rv] 81, Ent.ar hv2 1 he.length (List.map vU32 he), .row rv 86 7 rl.length (List.flatMap rgc rl), Ent.dp grD.list rl], H4⟩ (fun wX hSX => hSX.elim fun LX HX => op_move rfl ⟨rfl, rfl⟩) ?_
  refine WH.take (i := 1) (v := (ptr b1 1)) rfl rfl (.inl rfl) rfl (by kernel_rfl) ⟨[.blk c [(vU32 pg), hv, (.map (some mb))] 112, Ent.ar hv 1 he.length (List.map vU32 he), .obj mb (mP .i64 (List.map Gr.me gs) cn), Ent.bs 120 Gr.cells Gr.b gs, Ent.dp grD.list gs, .blk r [(vU32 pg), hv2, rv] 81, Ent.ar hv2 1 he.length (List.map vU32 he), .row rv 86 7 rl.length (List.flatMap rgc rl), Ent.dp grD.list rl], H4⟩ (fun wX hSX => hSX.elim fun LX HX => op_fieldAddr rfl Fa.F61_1 ⟨rfl, rfl⟩) ?_
  refine WH.take (i := 2) (v := (vI en)) rfl rfl (.inl rfl) rfl (by kernel_rfl) ⟨[.blk c [(vU32 pg), hv, (.map (some mb))] 112, Ent.ar hv 1 he.length (List.map vU32 he), .obj mb (mP .i64 (List.map Gr.me gs) cn), Ent.bs 120 Gr.cells Gr.b gs, Ent.dp grD.list gs, .blk r [(vU32 pg), hv2, rv] 81, Ent.ar hv2 1 he.length (List.map vU32 he), .row rv 86 7 rl.length (List.flatMap rgc rl), Ent.dp grD.list rl], H4⟩ (fun wX hSX => hSX.elim fun LX HX => op_load rfl (HX.cell (i := 0) rfl rfl) Try.underlying3 rfl ⟨rfl, rfl⟩) ?_
  refine WH.take (i := 3) (v := (ptr b1 2)) rfl rfl (.inl rfl) rfl (by kernel_rfl) ⟨[.blk c [(vU32 pg), hv, (.map (some mb))] 112, Ent.ar hv 1 he.length (List.map vU32 he), .obj mb (mP .i64 (List.map Gr.me gs) cn), Ent.bs 120 Gr.cells Gr.b gs, Ent.dp grD.list gs, .blk r [(vU32 pg), hv2, rv] 81, Ent.ar hv2 1 he.length (List.map vU32 he), .row rv 86 7 rl.length (List.flatMap rgc rl), Ent.dp grD.list rl], H4⟩ (fun wX hSX => hSX.elim fun LX HX => op_fieldAddr rfl Fa.F61_2 ⟨rfl, rfl⟩) ?_
  refine WH.take (i := 4) (v := (.agg #[(vU32 mp), ev, pv, (.bool con)])) rfl rfl (.inl rfl) rfl (by kernel_rfl) ⟨[.blk c [(vU32 pg), hv, (.map (some mb))] 112, Ent.ar hv 1 he.length (List.map vU32 he), .obj mb (mP .i64 (List.map Gr.me gs) cn), Ent.bs 120 Gr.cells Gr.b gs, Ent.dp grD.list gs, .blk r [(vU32 pg), hv2, rv] 81, Ent.ar hv2 1 he.length (List.map vU32 he), .row rv 86 7 rl.length (List.flatMap rgc rl), Ent.dp grD.list rl], H4⟩ (fun wX hSX => hSX.elim fun LX HX => op_loadS (vs := [_, _, _, _]) rfl (HX.cells (i := 0) rfl rfl) Try.underlying59 rfl Fa.I59 rfl ⟨rfl, rfl⟩) ?_
  refine WH.take (i := 6) (v := (ptr b1 6)) rfl rfl (.inl rfl) rfl (by kernel_rfl) ⟨[.blk c [(vU32 pg), hv, (.map (some mb))] 112, Ent.ar hv 1 he.length (List.map vU32 he), .obj mb (mP .i64 (List.map Gr.me gs) cn), Ent.bs 120 Gr.cells Gr.b gs, Ent.dp grD.list gs, .blk r [(vU32 pg), hv2, rv] 81, Ent.ar hv2 1 he.length (List.map vU32 he), .row rv 86 7 rl.length (List.flatMap rgc rl), Ent.dp grD.list rl], H4⟩ (fun wX hSX => hSX.elim fun LX HX => op_fieldAddr rfl Fa.F61_3 ⟨rfl, rfl⟩) ?_
  refine WH.take (i := 7) (v := (vU32 pages)) rfl rfl (.inl rfl) rfl (by kernel_rfl) ⟨[.blk c [(vU32 pg), hv, (.map (some mb))] 112, Ent.ar hv 1 he.length (List.map vU32 he), .obj mb (mP .i64 (List.map Gr.me gs) cn), Ent.bs 120 Gr.cells Gr.b gs, Ent.dp grD.list gs, .blk r [(vU32 pg), hv2, rv] 81, Ent.ar hv2 1 he.length (List.map vU32 he), .row rv 86 7 rl.length (List.flatMap rgc rl), Ent.dp grD.list rl], H4⟩ (fun wX hSX => hSX.elim fun LX HX => op_load rfl (HX.cell (i := 0) rfl rfl) Try.underlying29 rfl ⟨rfl, rfl⟩) ?_
  refine WH.take (i := 9) (v := (ptr r 0)) rfl rfl (.inl rfl) rfl (by kernel_rfl) ⟨[.blk c [(vU32 pg), hv, (.map (some mb))] 112, Ent.ar hv 1 he.length (List.map vU32 he), .obj mb (mP .i64 (List.map Gr.me gs) cn), Ent.bs 120 Gr.cells Gr.b gs, Ent.dp grD.list gs, .blk r [(vU32 pg), hv2, rv] 81, Ent.ar hv2 1 he.length (List.map vU32 he), .row rv 86 7 rl.length (List.flatMap rgc rl), Ent.dp grD.list rl], H4⟩ (fun wX hSX => hSX.elim fun LX HX => op_move rfl ⟨rfl, rfl⟩) ?_
  refine WH.take (i := 10) (v := (ptr b1 1)) rfl rfl (.inl rfl) rfl (by kernel_rfl) ⟨[.blk c [(vU32 pg), hv, (.map (some mb))] 112, Ent.ar hv 1 he.length (List.map vU32 he), .obj mb (mP .i64 (List.map Gr.me gs) cn), Ent.bs 120 Gr.cells Gr.b gs, Ent.dp grD.list gs, .blk r [(vU32 pg), hv2, rv] 81, Ent.ar hv2 1 he.length (List.map vU32 he), .row rv 86 7 rl.length (List.flatMap rgc rl), Ent.dp grD.list rl], H4⟩ (fun wX hSX => hSX.elim fun LX HX => op_fieldAddr rfl Fa.F61_1 ⟨rfl, rfl⟩) ?_
  refine WH.take (i := 11) (v := (vI en)) rfl rfl (.inl rfl) rfl (by kernel_rfl) ⟨[.blk c [(vU32 pg), hv, (.map (some mb))] 112, Ent.ar hv 1 he.length (List.map vU32 he), .obj mb (mP .i64 (List.map Gr.me gs) cn), Ent.bs 120 Gr.cells Gr.b gs, Ent.dp grD.list gs, .blk r [(vU32 pg), hv2, rv] 81, Ent.ar hv2 1 he.length (List.map vU32 he), .row rv 86 7 rl.length (List.flatMap rgc rl), Ent.dp grD.list rl], H4⟩ (fun wX hSX => hSX.elim fun LX HX => op_load rfl (HX.cell (i := 0) rfl rfl) Try.underlying3 rfl ⟨rfl, rfl⟩) ?_
  refine WH.take (i := 12) (v := (ptr b1 2)) rfl rfl (.inl rfl) rfl (by kernel_rfl) ⟨[.blk c [(vU32 pg), hv, (.map (some mb))] 112, Ent.ar hv 1 he.length (List.map vU32 he), .obj mb (mP .i64 (List.map Gr.me gs) cn), Ent.bs 120 Gr.cells Gr.b gs, Ent.dp grD.list gs, .blk r [(vU32 pg), hv2, rv] 81, Ent.ar hv2 1 he.length (List.map vU32 he), .row rv 86 7 rl.length (List.flatMap rgc rl), Ent.dp grD.list rl], H4⟩ (fun wX hSX => hSX.elim fun LX HX => op_fieldAddr rfl Fa.F61_2 ⟨rfl, rfl⟩) ?_
  refine WH.take (i := 13) (v := (.agg #[(vU32 mp), ev, pv, (.bool con)])) rfl rfl (.inl rfl) rfl (by kernel_rfl) ⟨[.blk c [(vU32 pg), hv, (.map (some mb))] 112, Ent.ar hv 1 he.length (List.map vU32 he), .obj mb (mP .i64 (List.map Gr.me gs) cn), Ent.bs 120 Gr.cells Gr.b gs, Ent.dp grD.list gs, .blk r [(vU32 pg), hv2, rv] 81, Ent.ar hv2 1 he.length (List.map vU32 he), .row rv 86 7 rl.length (List.flatMap rgc rl), Ent.dp grD.list rl], H4⟩ (fun wX hSX => hSX.elim fun LX HX => op_loadS (vs := [_, _, _, _]) rfl (HX.cells (i := 0) rfl rfl) Try.underlying59 rfl Fa.I59 rfl ⟨rfl, rfl⟩) ?_
  refine WH.take (i := 14) (v := (ptr b1 6)) rfl rfl (.inl rfl) rfl (by kernel_rfl) ⟨[.blk c [(vU32 pg), hv, (.map (some mb))] 112, Ent.ar hv 1 he.length (List.map vU32 he), .obj mb (mP .i64 (List.map Gr.me gs) cn), Ent.bs 120 Gr.cells Gr.b gs, Ent.dp grD.list gs, .blk r [(vU32 pg), hv2, rv] 81, Ent.ar hv2 1 he.length (List.map vU32 he), .row rv 86 7 rl.length (List.flatMap rgc rl), Ent.dp grD.list rl], H4⟩ (fun wX hSX => hSX.elim fun LX HX => op_fieldAddr rfl Fa.F61_3 ⟨rfl, rfl⟩) ?_
  refine WH.take (i := 15) (v := (vU32 pages)) rfl rfl (.inl rfl) rfl (by kernel_rfl) ⟨[.blk c [(vU32 pg), hv, (.map (some mb))] 112, Ent.ar hv 1 he.length (List.map vU32 he), .obj mb (mP .i64 (List.map Gr.me gs) cn), Ent.bs 120 Gr.cells Gr.b gs, Ent.dp grD.list gs, .blk r [(vU32 pg), hv2, rv] 81, Ent.ar hv2 1 he.length (List.map vU32 he), .row rv 86 7 rl.length (List.flatMap rgc rl), Ent.dp grD.list rl], H4⟩ (fun wX hSX => hSX.elim fun LX HX => op_load rfl (HX.cell (i := 0) rfl rfl) Try.underlying29 rfl ⟨rfl, rfl⟩) ?_
  refine WH.named (fun W hW => ?_)
  have st3_3 : ∀ (v15101 : Value) (u15101 : Value) (gs15163 : List Gr) (cn15163 : Nat) (rv15321 : Value) (rl15321 : List Gr) (hi15163 : CapR gs15163 cn15163 (grantG pg he l en mp xs ps con pages)) (hd15163 : DpTo w gs gs15163) (hj15321 : ∀ l, Rel l rl → Rel (grantG pg he l en mp xs ps con pages) rl15321) (hd15321 : DpTo w rl rl15321) (wS : World), Owl.Own T w wS [.blk b1 [(vI d), (vI en), (vU32 mp), ev, pv, (.bool con), (vU32 pages)] 61, Ent.ar ev 2 xs.length (List.flatMap xtc xs), Ent.ar pv 1 ps.length (List.map vU16 ps), .blk c [(vU32 pg), hv, (.map (some mb))] 112, Ent.ar hv 1 he.length (List.map vU32 he), .obj mb (mP .i64 (List.map Gr.me gs15163) cn15163), Ent.bs 120 Gr.cells Gr.b gs15163, Ent.dp grD.list gs15163, .blk r [(vU32 pg), hv2, rv15321] 81, Ent.ar hv2 1 he.length (List.map vU32 he), .row rv15321 86 7 rl15321.length (List.flatMap rgc rl15321), Ent.dp grD.list rl15321, Ent.ar v15101 2 xs.length (List.flatMap xtc xs), Ent.ar u15101 1 ps.length (List.map vU16 ps)] → W 0 #[tt, tt, tt, tt, tt, tt, tt, tt, tt, tt, tt, tt, tt, tt, tt, tt, tt, tt, tt] [(0, (ptr c 0)), (1, (ptr r 0)), (2, (.agg #[(vI d), (vI en), (vU32 mp), ev, pv, (.bool con), (vU32 pages)])), (5, (ptr b1 0)), (6, (.bool (decide ((grantE pg he l en mp xs ps pages) = (rgE pg he rl en mp xs ps pages))))), (7, (ptr b1 0)), (8, (vI d)), (9, (.bool (decide (d = (0 : Int))))), (10, (.bool (decide (d = (0 : Int))))), (11, (ptr c 0)), (12, (ptr b1 1)), (13, (vI en)), (14, (ptr b1 2)), (15, (.agg #[(vU32 mp), ev, pv, (.bool con)])), (16, (.agg #[(vU32 mp), v15101, u15101, (.bool con)])), (17, (ptr b1 6)), (18, (vU32 pages)), (19, (vN (grantE pg he l en mp xs ps pages))), (20, (ptr r 0)), (21, (ptr b1 1)), (22, (vI en)), (23, (ptr b1 2)), (24, (.agg #[(vU32 mp), ev, pv, (.bool con)])), (25, (ptr b1 6)), (26, (vU32 pages)), (27, (vN (rgE pg he rl en mp xs ps pages))), (28, (.bool (decide ((grantE pg he l en mp xs ps pages) = (rgE pg he rl en mp xs ps pages)))))] wS := by
   intro v15101 u15101 gs15163 cn15163 rv15321 rl15321 hi15163 hd15163 hj15321 hd15321 wS HS
   rw [hW]
   refine WH.done (by kernel_rfl) ?_
   refine WQ.next ?_
   refine WC.ret ?_
   refine WQ.inRet ?_
   refine WQ.thenRet ?_
   refine WQ.out (.tmp rfl .nil) ?_
   exact ⟨_, _, _, _, _, by rw [((decide_eq_true hQ.grantE) : (decide ((grantE pg he l en mp xs ps pages) = (rgE pg he rl en mp xs ps pages))) = true)]; rfl, hi15163, hj15321 _ hQ, hd15163, hd15321, HS.sel [1, 2, 3, 4, 5, 6, 7, 8, 9, 10, 11] rfl rfl⟩
  have st3_2 : ∀ (v15101 : Value) (u15101 : Value) (gs15163 : List Gr) (cn15163 : Nat) (hi15163 : CapR gs15163 cn15163 (grantG pg he l en mp xs ps con pages)) (hd15163 : DpTo w gs gs15163) (wS : World), Owl.Own T w wS [.blk b1 [(vI d), (vI en), (vU32 mp), ev, pv, (.bool con), (vU32 pages)] 61, Ent.ar ev 2 xs.length (List.flatMap xtc xs), Ent.ar pv 1 ps.length (List.map vU16 ps), .blk c [(vU32 pg), hv, (.map (some mb))] 112, Ent.ar hv 1 he.length (List.map vU32 he), .obj mb (mP .i64 (List.map Gr.me gs15163) cn15163), Ent.bs 120 Gr.cells Gr.b gs15163, Ent.dp grD.list gs15163, .blk r [(vU32 pg), hv2, rv] 81, Ent.ar hv2 1 he.length (List.map vU32 he), .row rv 86 7 rl.length (List.flatMap rgc rl), Ent.dp grD.list rl, Ent.ar v15101 2 xs.length (List.flatMap xtc xs), Ent.ar u15101 1 ps.length (List.map vU16 ps)] → W 3 #[tt, tt, tt, tt, tt, tt, tt, tt, tt, tt, tt, tt, tt, tt, tt, tt, ff, ff, ff] [(0, (ptr c 0)), (1, (ptr r 0)), (2, (.agg #[(vI d), (vI en), (vU32 mp), ev, pv, (.bool con), (vU32 pages)])), (5, (ptr b1 0)), (6, (.bool false)), (7, (ptr b1 0)), (8, (vI d)), (9, (.bool (decide (d = (0 : Int))))), (10, (.bool (decide (d = (0 : Int))))), (11, (ptr c 0)), (12, (ptr b1 1)), (13, (vI en)), (14, (ptr b1 2)), (15, (.agg #[(vU32 mp), ev, pv, (.bool con)])), (16, (.agg #[(vU32 mp), v15101, u15101, (.bool con)])), (17, (ptr b1 6)), (18, (vU32 pages)), (19, (vN (grantE pg he l en mp xs ps pages))), (20, (ptr r 0)), (21, (ptr b1 1)), (22, (vI en)), (23, (ptr b1 2)), (24, (.agg #[(vU32 mp), ev, pv, (.bool con)])), (25, (ptr b1 6)), (26, (vU32 pages))] wS := by
   intro v15101 u15101 gs15163 cn15163 hi15163 hd15163 wS HS
   rw [hW]
   refine WH.all1 (i := 16) (by kernel_rfl) ?_
   ·
    refine WHS.op (i := 16) rfl (.inl rfl) rfl (op_callF Fa.C65 rfl ((rgrantG_ok r pg hv2 rv he rl en mp ev pv xs ps con pages _ _ (HS.part [8, 9, 10, 11, 1, 2] rfl rfl) capTr6 hn hm hhe (by omega) hfit).mono (fun e w15321 hq => ?_)))
    obtain ⟨rv15321, rl15321, rfl, hj15321, hd15321, hq15321⟩ := hq
    refine ⟨_, rfl, ?_⟩
    have H15321 : Owl.Own T w w15321 [.blk b1 [(vI d), (vI en), (vU32 mp), ev, pv, (.bool con), (vU32 pages)] 61, Ent.ar ev 2 xs.length (List.flatMap xtc xs), Ent.ar pv 1 ps.length (List.map vU16 ps), .blk c [(vU32 pg), hv, (.map (some mb))] 112, Ent.ar hv 1 he.length (List.map vU32 he), .obj mb (mP .i64 (List.map Gr.me gs15163) cn15163), Ent.bs 120 Gr.cells Gr.b gs15163, Ent.dp grD.list gs15163, .blk r [(vU32 pg), hv2, rv15321] 81, Ent.ar hv2 1 he.length (List.map vU32 he), .row rv15321 86 7 rl15321.length (List.flatMap rgc rl15321), Ent.dp grD.list rl15321, Ent.ar v15101 2 xs.length (List.flatMap xtc xs), Ent.ar u15101 1 ps.length (List.map vU16 ps)] := HS.splice [8, 9, 10, 11, 1, 2] [.blk r [(vU32 pg), hv2, rv15321] 81, Ent.ar hv2 1 he.length (List.map vU32 he), .row rv15321 86 7 rl15321.length (List.flatMap rgc rl15321), Ent.dp grD.list rl15321, Ent.ar ev 2 xs.length (List.flatMap xtc xs), Ent.ar pv 1 ps.length (List.map vU16 ps)] [] rfl rfl hq15321 (Fits.solid True.intro (Fits.same (j := 1) rfl (Fits.solid True.intro (Fits.dpTo 3 rfl hd15321 (Fits.same (j := 4) rfl (Fits.same (j := 5) rfl Fits.nil))))))
    have hd15321 : DpTo w rl rl15321 := hd15321.mono HS.fr.size
    refine ⟨⟨[.blk c [(vU32 pg), hv, (.map (some mb))] 112, Ent.ar hv 1 he.length (List.map vU32 he), .obj mb (mP .i64 (List.map Gr.me gs15163) cn15163), Ent.bs 120 Gr.cells Gr.b gs15163, Ent.dp grD.list gs15163, .blk r [(vU32 pg), hv2, rv15321] 81, Ent.ar hv2 1 he.length (List.map vU32 he), .row rv15321 86 7 rl15321.length (List.flatMap rgc rl15321), Ent.dp grD.list rl15321, Ent.ar v15101 2 xs.length (List.flatMap xtc xs), Ent.ar u15101 1 ps.length (List.map vU16 ps)], H15321⟩, ?_⟩
    refine WH.take (i := 17) (v := (.bool (decide ((grantE pg he l en mp xs ps pages) = (rgE pg he rl en mp xs ps pages))))) rfl rfl (.inl rfl) rfl (by kernel_rfl) ⟨[.blk c [(vU32 pg), hv, (.map (some mb))] 112, Ent.ar hv 1 he.length (List.map vU32 he), .obj mb (mP .i64 (List.map Gr.me gs15163) cn15163), Ent.bs 120 Gr.cells Gr.b gs15163, Ent.dp grD.list gs15163, .blk r [(vU32 pg), hv2, rv15321] 81, Ent.ar hv2 1 he.length (List.map vU32 he), .row rv15321 86 7 rl15321.length (List.flatMap rgc rl15321), Ent.dp grD.list rl15321, Ent.ar v15101 2 xs.length (List.flatMap xtc xs), Ent.ar u15101 1 ps.length (List.map vU16 ps)], H15321⟩ (fun wX hSX => hSX.elim fun LX HX => op_eqlN rfl rfl ⟨rfl, rfl⟩) ?_
    refine WH.take (i := 18) (v := (.bool (decide ((grantE pg he l en mp xs ps pages) = (rgE pg he rl en mp xs ps pages))))) rfl rfl (.inl rfl) rfl (by kernel_rfl) ⟨[.blk c [(vU32 pg), hv, (.map (some mb))] 112, Ent.ar hv 1 he.length (List.map vU32 he), .obj mb (mP .i64 (List.map Gr.me gs15163) cn15163), Ent.bs 120 Gr.cells Gr.b gs15163, Ent.dp grD.list gs15163, .blk r [(vU32 pg), hv2, rv15321] 81, Ent.ar hv2 1 he.length (List.map vU32 he), .row rv15321 86 7 rl15321.length (List.flatMap rgc rl15321), Ent.dp grD.list rl15321, Ent.ar v15101 2 xs.length (List.flatMap xtc xs), Ent.ar u15101 1 ps.length (List.map vU16 ps)], H15321⟩ (fun wX hSX => hSX.elim fun LX HX => op_assign rfl ⟨rfl, rfl⟩) ?_
    have hq := st3_3 v15101 u15101 gs15163 cn15163 rv15321 rl15321 hi15163 hd15163 hj15321 hd15321 w15321 H15321
    rw [hW] at hq
    exact WH.cv hq
  have st3_1 : ∀ (v15101 : Value) (u15101 : Value) (wS : World), Owl.Own T w wS [.blk b1 [(vI d), (vI en), (vU32 mp), ev, pv, (.bool con), (vU32 pages)] 61, Ent.ar ev 2 xs.length (List.flatMap xtc xs), Ent.ar pv 1 ps.length (List.map vU16 ps), .blk c [(vU32 pg), hv, (.map (some mb))] 112, Ent.ar hv 1 he.length (List.map vU32 he), .obj mb (mP .i64 (List.map Gr.me gs) cn), Ent.bs 120 Gr.cells Gr.b gs, Ent.dp grD.list gs, .blk r [(vU32 pg), hv2, rv] 81, Ent.ar hv2 1 he.length (List.map vU32 he), .row rv 86 7 rl.length (List.flatMap rgc rl), Ent.dp grD.list rl, .row v15101 108 2 xs.length (List.flatMap xtc xs), .row u15101 50 1 ps.length (List.map vU16 ps)] → W 4 #[tt, tt, tt, tt, tt, tt, tt, tt, ff, tt, tt, tt, tt, tt, tt, tt, ff, ff, ff] [(0, (ptr c 0)), (1, (ptr r 0)), (2, (.agg #[(vI d), (vI en), (vU32 mp), ev, pv, (.bool con), (vU32 pages)])), (5, (ptr b1 0)), (6, (.bool false)), (7, (ptr b1 0)), (8, (vI d)), (9, (.bool (decide (d = (0 : Int))))), (10, (.bool (decide (d = (0 : Int))))), (11, (ptr c 0)), (12, (ptr b1 1)), (13, (vI en)), (14, (ptr b1 2)), (15, (.agg #[(vU32 mp), ev, pv, (.bool con)])), (16, (.agg #[(vU32 mp), v15101, u15101, (.bool con)])), (17, (ptr b1 6)), (18, (vU32 pages)), (20, (ptr r 0)), (21, (ptr b1 1)), (22, (vI en)), (23, (ptr b1 2)), (24, (.agg #[(vU32 mp), ev, pv, (.bool con)])), (25, (ptr b1 6)), (26, (vU32 pages))] wS := by
   intro v15101 u15101 wS HS
   rw [hW]
   refine WH.all1 (i := 8) (by kernel_rfl) ?_
   ·
    have H15161 : Owl.Own T w wS [.blk b1 [(vI d), (vI en), (vU32 mp), ev, pv, (.bool con), (vU32 pages)] 61, Ent.ar ev 2 xs.length (List.flatMap xtc xs), Ent.ar pv 1 ps.length (List.map vU16 ps), .blk c [(vU32 pg), hv, (.map (some mb))] 112, Ent.ar hv 1 he.length (List.map vU32 he), .obj mb (mP .i64 (List.map Gr.me gs) cn), Ent.bs 120 Gr.cells Gr.b gs, Ent.dp grD.list gs, .blk r [(vU32 pg), hv2, rv] 81, Ent.ar hv2 1 he.length (List.map vU32 he), .row rv 86 7 rl.length (List.flatMap rgc rl), Ent.dp grD.list rl, Ent.ar v15101 2 xs.length (List.flatMap xtc xs), .row u15101 50 1 ps.length (List.map vU16 ps)] := HS.freeze (i := 12) rfl
    have H15162 : Owl.Own T w wS [.blk b1 [(vI d), (vI en), (vU32 mp), ev, pv, (.bool con), (vU32 pages)] 61, Ent.ar ev 2 xs.length (List.flatMap xtc xs), Ent.ar pv 1 ps.length (List.map vU16 ps), .blk c [(vU32 pg), hv, (.map (some mb))] 112, Ent.ar hv 1 he.length (List.map vU32 he), .obj mb (mP .i64 (List.map Gr.me gs) cn), Ent.bs 120 Gr.cells Gr.b gs, Ent.dp grD.list gs, .blk r [(vU32 pg), hv2, rv] 81, Ent.ar hv2 1 he.length (List.map vU32 he), .row rv 86 7 rl.length (List.flatMap rgc rl), Ent.dp grD.list rl, Ent.ar v15101 2 xs.length (List.flatMap xtc xs), Ent.ar u15101 1 ps.length (List.map vU16 ps)] := H15161.freeze (i := 13) rfl
    refine WHS.op (i := 8) rfl (.inl rfl) rfl (op_callF Fa.C19 rfl ((capG_ok c pg hv he mb cn gs en mp v15101 u15101 xs ps con pages l _ _ (H15162.part [3, 4, 5, 6, 7, 12, 13] rfl rfl) hR capT7 hn hm hhe).mono (fun e w15163 hq => ?_)))
    obtain ⟨cn15163, gs15163, rfl, hi15163, hd15163, hq15163⟩ := hq
    refine ⟨_, rfl, ?_⟩
    have H15163 : Owl.Own T w w15163 [.blk b1 [(vI d), (vI en), (vU32 mp), ev, pv, (.bool con), (vU32 pages)] 61, Ent.ar ev 2 xs.length (List.flatMap xtc xs), Ent.ar pv 1 ps.length (List.map vU16 ps), .blk c [(vU32 pg), hv, (.map (some mb))] 112, Ent.ar hv 1 he.length (List.map vU32 he), .obj mb (mP .i64 (List.map Gr.me gs15163) cn15163), Ent.bs 120 Gr.cells Gr.b gs15163, Ent.dp grD.list gs15163, .blk r [(vU32 pg), hv2, rv] 81, Ent.ar hv2 1 he.length (List.map vU32 he), .row rv 86 7 rl.length (List.flatMap rgc rl), Ent.dp grD.list rl, Ent.ar v15101 2 xs.length (List.flatMap xtc xs), Ent.ar u15101 1 ps.length (List.map vU16 ps)] := H15162.splice [3, 4, 5, 6, 7, 12, 13] [.blk c [(vU32 pg), hv, (.map (some mb))] 112, Ent.ar hv 1 he.length (List.map vU32 he), .obj mb (mP .i64 (List.map Gr.me gs15163) cn15163), Ent.bs 120 Gr.cells Gr.b gs15163, Ent.dp grD.list gs15163, Ent.ar v15101 2 xs.length (List.flatMap xtc xs), Ent.ar u15101 1 ps.length (List.map vU16 ps)] [] rfl rfl hq15163 (Fits.solid True.intro (Fits.same (j := 1) rfl (Fits.solid True.intro (Fits.solid True.intro (Fits.dpTo 4 rfl hd15163 (Fits.same (j := 5) rfl (Fits.same (j := 6) rfl Fits.nil)))))))
    have hd15163 : DpTo w gs gs15163 := hd15163.mono H15162.fr.size
    refine ⟨⟨[.blk c [(vU32 pg), hv, (.map (some mb))] 112, Ent.ar hv 1 he.length (List.map vU32 he), .obj mb (mP .i64 (List.map Gr.me gs15163) cn15163), Ent.bs 120 Gr.cells Gr.b gs15163, Ent.dp grD.list gs15163, .blk r [(vU32 pg), hv2, rv] 81, Ent.ar hv2 1 he.length (List.map vU32 he), .row rv 86 7 rl.length (List.flatMap rgc rl), Ent.dp grD.list rl, Ent.ar v15101 2 xs.length (List.flatMap xtc xs), Ent.ar u15101 1 ps.length (List.map vU16 ps)], H15163⟩, ?_⟩
    have hq := st3_2 v15101 u15101 gs15163 cn15163 hi15163 hd15163 w15163 H15163
    rw [hW] at hq
    exact WH.cv hq
  have st3_0 : ∀ (wS : World), Owl.Own T w wS [.blk b1 [(vI d), (vI en), (vU32 mp), ev, pv, (.bool con), (vU32 pages)] 61, Ent.ar ev 2 xs.length (List.flatMap xtc xs), Ent.ar pv 1 ps.length (List.map vU16 ps), .blk c [(vU32 pg), hv, (.map (some mb))] 112, Ent.ar hv 1 he.length (List.map vU32 he), .obj mb (mP .i64 (List.map Gr.me gs) cn), Ent.bs 120 Gr.cells Gr.b gs, Ent.dp grD.list gs, .blk r [(vU32 pg), hv2, rv] 81, Ent.ar hv2 1 he.length (List.map vU32 he), .row rv 86 7 rl.length (List.flatMap rgc rl), Ent.dp grD.list rl] → W 5 #[tt, tt, tt, tt, tt, ff, tt, tt, ff, tt, tt, tt, tt, tt, tt, tt, ff, ff, ff] [(0, (ptr c 0)), (1, (ptr r 0)), (2, (.agg #[(vI d), (vI en), (vU32 mp), ev, pv, (.bool con), (vU32 pages)])), (5, (ptr b1 0)), (6, (.bool false)), (7, (ptr b1 0)), (8, (vI d)), (9, (.bool (decide (d = (0 : Int))))), (10, (.bool (decide (d = (0 : Int))))), (11, (ptr c 0)), (12, (ptr b1 1)), (13, (vI en)), (14, (ptr b1 2)), (15, (.agg #[(vU32 mp), ev, pv, (.bool con)])), (17, (ptr b1 6)), (18, (vU32 pages)), (20, (ptr r 0)), (21, (ptr b1 1)), (22, (vI en)), (23, (ptr b1 2)), (24, (.agg #[(vU32 mp), ev, pv, (.bool con)])), (25, (ptr b1 6)), (26, (vU32 pages))] wS := by
   intro wS HS
   rw [hW]
   refine WH.all1 (i := 5) (by kernel_rfl) ?_
   ·
    refine WHS.op (i := 5) rfl (.inl rfl) rfl (op_callF Fa.C20 rfl ((copy11_ok mp _ _ xs ps con _ (HS.arrO (i := 1) rfl) (HS.arrO (i := 2) rfl) hn hm).mono (fun e w15101 hq => ?_)))
    obtain ⟨v15101, u15101, rfl, hq15101⟩ := hq
    refine ⟨_, rfl, ?_⟩
    have H15101 : Owl.Own T w w15101 [.blk b1 [(vI d), (vI en), (vU32 mp), ev, pv, (.bool con), (vU32 pages)] 61, Ent.ar ev 2 xs.length (List.flatMap xtc xs), Ent.ar pv 1 ps.length (List.map vU16 ps), .blk c [(vU32 pg), hv, (.map (some mb))] 112, Ent.ar hv 1 he.length (List.map vU32 he), .obj mb (mP .i64 (List.map Gr.me gs) cn), Ent.bs 120 Gr.cells Gr.b gs, Ent.dp grD.list gs, .blk r [(vU32 pg), hv2, rv] 81, Ent.ar hv2 1 he.length (List.map vU32 he), .row rv 86 7 rl.length (List.flatMap rgc rl), Ent.dp grD.list rl, .row v15101 108 2 xs.length (List.flatMap xtc xs), .row u15101 50 1 ps.length (List.map vU16 ps)] := HS.splice [] [] [.row v15101 108 2 xs.length (List.flatMap xtc xs), .row u15101 50 1 ps.length (List.map vU16 ps)] rfl rfl hq15101 (Fits.solid True.intro (Fits.solid True.intro Fits.nil))
    refine ⟨⟨[.blk c [(vU32 pg), hv, (.map (some mb))] 112, Ent.ar hv 1 he.length (List.map vU32 he), .obj mb (mP .i64 (List.map Gr.me gs) cn), Ent.bs 120 Gr.cells Gr.b gs, Ent.dp grD.list gs, .blk r [(vU32 pg), hv2, rv] 81, Ent.ar hv2 1 he.length (List.map vU32 he), .row rv 86 7 rl.length (List.flatMap rgc rl), Ent.dp grD.list rl, .row v15101 108 2 xs.length (List.flatMap xtc xs), .row u15101 50 1 ps.length (List.map vU16 ps)], H15101⟩, ?_⟩
    have hq := st3_1 v15101 u15101 w15101 H15101
    rw [hW] at hq
    exact WH.cv hq
  have hq := st3_0 w4 H4
  rw [hW] at hq ⊢
  exact WH.cv hq
 ·
  have hc3 := of_decide_eq_false hb3
  refine ws ?_
  refine wo (op_eqlI (b := (1 : Int)) rfl rfl ?_)
  refine wo (op_assign rfl ?_)
  refine wn ?_
  refine WC.cond rfl (fun (hb6 : (decide (d = (1 : Int))) = true) => ?_) (fun (hb6 : (decide (d = (1 : Int))) = false) => ?_)
  ·
   have hc6 := of_decide_eq_true hb6
   refine WC.seq ?_
   refine WC.held 10 rfl Fa.M H2 (fun w' => ∃ L', Owl.Own T w w' ([.blk b1 [(vI d), (vI en), (vU32 mp), ev, pv, (.bool con), (vU32 pages)] 61, Ent.ar ev 2 xs.length (List.flatMap xtc xs), Ent.ar pv 1 ps.length (List.map vU16 ps)] ++ L')) ?_
   intro w7 H7
   refine WH.take (i := 0) (v := (ptr c 0)) rfl rfl (.inl rfl) rfl (by kernel_rfl) ⟨[.blk c [(vU32 pg), hv, (.map (some mb))] 112, Ent.ar hv 1 he.length (List.map vU32 he), .obj mb (mP .i64 (List.map Gr.me gs) cn), Ent.bs 120 Gr.cells Gr.b gs, Ent.dp grD.list gs, .blk r [(vU32 pg), hv2, rv] 81, Ent.ar hv2 1 he.length (List.map vU32 he), .row rv 86 7 rl.length (List.flatMap rgc rl), Ent.dp grD.list rl], H7⟩ (fun wX hSX => hSX.elim fun LX HX => op_move rfl ⟨rfl, rfl⟩) ?_
   refine WH.take (i := 1) (v := (ptr b1 1)) rfl rfl (.inl rfl) rfl (by kernel_rfl) ⟨[.blk c [(vU32 pg), hv, (.map (some mb))] 112, Ent.ar hv 1 he.length (List.map vU32 he), .obj mb (mP .i64 (List.map Gr.me gs) cn), Ent.bs 120 Gr.cells Gr.b gs, Ent.dp grD.list gs, .blk r [(vU32 pg), hv2, rv] 81, Ent.ar hv2 1 he.length (List.map vU32 he), .row rv 86 7 rl.length (List.flatMap rgc rl), Ent.dp grD.list rl], H7⟩ (fun wX hSX => hSX.elim fun LX HX => op_fieldAddr rfl Fa.F61_1 ⟨rfl, rfl⟩) ?_
   refine WH.take (i := 2) (v := (vI en)) rfl rfl (.inl rfl) rfl (by kernel_rfl) ⟨[.blk c [(vU32 pg), hv, (.map (some mb))] 112, Ent.ar hv 1 he.length (List.map vU32 he), .obj mb (mP .i64 (List.map Gr.me gs) cn), Ent.bs 120 Gr.cells Gr.b gs, Ent.dp grD.list gs, .blk r [(vU32 pg), hv2, rv] 81, Ent.ar hv2 1 he.length (List.map vU32 he), .row rv 86 7 rl.length (List.flatMap rgc rl), Ent.dp grD.list rl], H7⟩ (fun wX hSX => hSX.elim fun LX HX => op_load rfl (HX.cell (i := 0) rfl rfl) Try.underlying3 rfl ⟨rfl, rfl⟩) ?_
   refine WH.take (i := 4) (v := (ptr r 0)) rfl rfl (.inl rfl) rfl (by kernel_rfl) ⟨[.blk c [(vU32 pg), hv, (.map (some mb))] 112, Ent.ar hv 1 he.length (List.map vU32 he), .obj mb (mP .i64 (List.map Gr.me gs) cn), Ent.bs 120 Gr.cells Gr.b gs, Ent.dp grD.list gs, .blk r [(vU32 pg), hv2, rv] 81, Ent.ar hv2 1 he.length (List.map vU32 he), .row rv 86 7 rl.length (List.flatMap rgc rl), Ent.dp grD.list rl], H7⟩ (fun wX hSX => hSX.elim fun LX HX => op_move rfl ⟨rfl, rfl⟩) ?_
   refine WH.take (i := 5) (v := (ptr b1 1)) rfl rfl (.inl rfl) rfl (by kernel_rfl) ⟨[.blk c [(vU32 pg), hv, (.map (some mb))] 112, Ent.ar hv 1 he.length (List.map vU32 he), .obj mb (mP .i64 (List.map Gr.me gs) cn), Ent.bs 120 Gr.cells Gr.b gs, Ent.dp grD.list gs, .blk r [(vU32 pg), hv2, rv] 81, Ent.ar hv2 1 he.length (List.map vU32 he), .row rv 86 7 rl.length (List.flatMap rgc rl), Ent.dp grD.list rl], H7⟩ (fun wX hSX => hSX.elim fun LX HX => op_fieldAddr rfl Fa.F61_1 ⟨rfl, rfl⟩) ?_
   refine WH.take (i := 6) (v := (vI en)) rfl rfl (.inl rfl) rfl (by kernel_rfl) ⟨[.blk c [(vU32 pg), hv, (.map (some mb))] 112, Ent.ar hv 1 he.length (List.map vU32 he), .obj mb (mP .i64 (List.map Gr.me gs) cn), Ent.bs 120 Gr.cells Gr.b gs, Ent.dp grD.list gs, .blk r [(vU32 pg), hv2, rv] 81, Ent.ar hv2 1 he.length (List.map vU32 he), .row rv 86 7 rl.length (List.flatMap rgc rl), Ent.dp grD.list rl], H7⟩ (fun wX hSX => hSX.elim fun LX HX => op_load rfl (HX.cell (i := 0) rfl rfl) Try.underlying3 rfl ⟨rfl, rfl⟩) ?_
   refine WH.named (fun W hW => ?_)
   have st5_2 : ∀ (gs18061 : List Gr) (rv18141 : Value) (rl18141 : List Gr) (hi18061 : CapR gs18061 cn (relG l en)) (hd18061 : DpTo w gs gs18061) (hj18141 : ∀ l, Rel l rl → Rel (relG l en) rl18141) (hd18141 : DpTo w rl rl18141) (wS : World), Owl.Own T w wS [.blk b1 [(vI d), (vI en), (vU32 mp), ev, pv, (.bool con), (vU32 pages)] 61, Ent.ar ev 2 xs.length (List.flatMap xtc xs), Ent.ar pv 1 ps.length (List.map vU16 ps), .blk c [(vU32 pg), hv, (.map (some mb))] 112, Ent.ar hv 1 he.length (List.map vU32 he), .obj mb (mP .i64 (List.map Gr.me gs18061) cn), Ent.bs 120 Gr.cells Gr.b gs18061, Ent.dp grD.list gs18061, .blk r [(vU32 pg), hv2, rv18141] 81, Ent.ar hv2 1 he.length (List.map vU32 he), .row rv18141 86 7 rl18141.length (List.flatMap rgc rl18141), Ent.dp grD.list rl18141] → W 0 #[tt, tt, tt, tt, tt, tt, tt, tt, tt, tt] [(0, (ptr c 0)), (1, (ptr r 0)), (2, (.agg #[(vI d), (vI en), (vU32 mp), ev, pv, (.bool con), (vU32 pages)])), (5, (ptr b1 0)), (6, (.bool (decide ((relE l en) = (relE rl en))))), (7, (ptr b1 0)), (8, (vI d)), (9, (.bool (decide (d = (0 : Int))))), (10, (.bool (decide (d = (0 : Int))))), (29, (.bool (decide (d = (1 : Int))))), (30, (.bool (decide (d = (1 : Int))))), (31, (ptr c 0)), (32, (ptr b1 1)), (33, (vI en)), (34, (vN (relE l en))), (35, (ptr r 0)), (36, (ptr b1 1)), (37, (vI en)), (38, (vN (relE rl en))), (39, (.bool (decide ((relE l en) = (relE rl en)))))] wS := by
    intro gs18061 rv18141 rl18141 hi18061 hd18061 hj18141 hd18141 wS HS
    rw [hW]
    refine WH.done (by kernel_rfl) ?_
    refine WQ.next ?_
    refine WC.ret ?_
    refine WQ.inRet ?_
    refine WQ.thenRet ?_
    refine WQ.out (.tmp rfl .nil) ?_
    exact ⟨_, _, _, _, _, by rw [((decide_eq_true hQ.relE) : (decide ((relE l en) = (relE rl en))) = true)]; rfl, hi18061, hj18141 _ hQ, hd18061, hd18141, HS.sel [1, 2, 3, 4, 5, 6, 7, 8, 9, 10, 11] rfl rfl⟩
   have st5_1 : ∀ (gs18061 : List Gr) (hi18061 : CapR gs18061 cn (relG l en)) (hd18061 : DpTo w gs gs18061) (wS : World), Owl.Own T w wS [.blk b1 [(vI d), (vI en), (vU32 mp), ev, pv, (.bool con), (vU32 pages)] 61, Ent.ar ev 2 xs.length (List.flatMap xtc xs), Ent.ar pv 1 ps.length (List.map vU16 ps), .blk c [(vU32 pg), hv, (.map (some mb))] 112, Ent.ar hv 1 he.length (List.map vU32 he), .obj mb (mP .i64 (List.map Gr.me gs18061) cn), Ent.bs 120 Gr.cells Gr.b gs18061, Ent.dp grD.list gs18061, .blk r [(vU32 pg), hv2, rv] 81, Ent.ar hv2 1 he.length (List.map vU32 he), .row rv 86 7 rl.length (List.flatMap rgc rl), Ent.dp grD.list rl] → W 3 #[tt, tt, tt, tt, tt, tt, tt, ff, ff, ff] [(0, (ptr c 0)), (1, (ptr r 0)), (2, (.agg #[(vI d), (vI en), (vU32 mp), ev, pv, (.bool con), (vU32 pages)])), (5, (ptr b1 0)), (6, (.bool false)), (7, (ptr b1 0)), (8, (vI d)), (9, (.bool (decide (d = (0 : Int))))), (10, (.bool (decide (d = (0 : Int))))), (29, (.bool (decide (d = (1 : Int))))), (30, (.bool (decide (d = (1 : Int))))), (31, (ptr c 0)), (32, (ptr b1 1)), (33, (vI en)), (34, (vN (relE l en))), (35, (ptr r 0)), (36, (ptr b1 1)), (37, (vI en))] wS := by
    intro gs18061 hi18061 hd18061 wS HS
    rw [hW]
    refine WH.all1 (i := 7) (by kernel_rfl) ?_
    ·
     refine WHS.op (i := 7) rfl (.inl rfl) rfl (op_callF Fa.C66 rfl ((rrelease_ok r pg hv2 rv he rl en _ _ (HS.part [8, 9, 10, 11] rfl rfl) (by omega) hfit).mono (fun e w18141 hq => ?_)))
     obtain ⟨rv18141, rl18141, rfl, hj18141, hd18141, hq18141⟩ := hq
     refine ⟨_, rfl, ?_⟩
     have H18141 : Owl.Own T w w18141 [.blk b1 [(vI d), (vI en), (vU32 mp), ev, pv, (.bool con), (vU32 pages)] 61, Ent.ar ev 2 xs.length (List.flatMap xtc xs), Ent.ar pv 1 ps.length (List.map vU16 ps), .blk c [(vU32 pg), hv, (.map (some mb))] 112, Ent.ar hv 1 he.length (List.map vU32 he), .obj mb (mP .i64 (List.map Gr.me gs18061) cn), Ent.bs 120 Gr.cells Gr.b gs18061, Ent.dp grD.list gs18061, .blk r [(vU32 pg), hv2, rv18141] 81, Ent.ar hv2 1 he.length (List.map vU32 he), .row rv18141 86 7 rl18141.length (List.flatMap rgc rl18141), Ent.dp grD.list rl18141] := HS.splice [8, 9, 10, 11] [.blk r [(vU32 pg), hv2, rv18141] 81, Ent.ar hv2 1 he.length (List.map vU32 he), .row rv18141 86 7 rl18141.length (List.flatMap rgc rl18141), Ent.dp grD.list rl18141] [] rfl rfl hq18141 (Fits.solid True.intro (Fits.same (j := 1) rfl (Fits.solid True.intro (Fits.dpTo 3 rfl hd18141 Fits.nil))))
     have hd18141 : DpTo w rl rl18141 := hd18141.mono HS.fr.size
     refine ⟨⟨[.blk c [(vU32 pg), hv, (.map (some mb))] 112, Ent.ar hv 1 he.length (List.map vU32 he), .obj mb (mP .i64 (List.map Gr.me gs18061) cn), Ent.bs 120 Gr.cells Gr.b gs18061, Ent.dp grD.list gs18061, .blk r [(vU32 pg), hv2, rv18141] 81, Ent.ar hv2 1 he.length (List.map vU32 he), .row rv18141 86 7 rl18141.length (List.flatMap rgc rl18141), Ent.dp grD.list rl18141], H18141⟩, ?_⟩
     refine WH.take (i := 8) (v := (.bool (decide ((relE l en) = (relE rl en))))) rfl rfl (.inl rfl) rfl (by kernel_rfl) ⟨[.blk c [(vU32 pg), hv, (.map (some mb))] 112, Ent.ar hv 1 he.length (List.map vU32 he), .obj mb (mP .i64 (List.map Gr.me gs18061) cn), Ent.bs 120 Gr.cells Gr.b gs18061, Ent.dp grD.list gs18061, .blk r [(vU32 pg), hv2, rv18141] 81, Ent.ar hv2 1 he.length (List.map vU32 he), .row rv18141 86 7 rl18141.length (List.flatMap rgc rl18141), Ent.dp grD.list rl18141], H18141⟩ (fun wX hSX => hSX.elim fun LX HX => op_eqlN rfl rfl ⟨rfl, rfl⟩) ?_
     refine WH.take (i := 9) (v := (.bool (decide ((relE l en) = (relE rl en))))) rfl rfl (.inl rfl) rfl (by kernel_rfl) ⟨[.blk c [(vU32 pg), hv, (.map (some mb))] 112, Ent.ar hv 1 he.length (List.map vU32 he), .obj mb (mP .i64 (List.map Gr.me gs18061) cn), Ent.bs 120 Gr.cells Gr.b gs18061, Ent.dp grD.list gs18061, .blk r [(vU32 pg), hv2, rv18141] 81, Ent.ar hv2 1 he.length (List.map vU32 he), .row rv18141 86 7 rl18141.length (List.flatMap rgc rl18141), Ent.dp grD.list rl18141], H18141⟩ (fun wX hSX => hSX.elim fun LX HX => op_assign rfl ⟨rfl, rfl⟩) ?_
     have hq := st5_2 gs18061 rv18141 rl18141 hi18061 hd18061 hj18141 hd18141 w18141 H18141
     rw [hW] at hq
     exact WH.cv hq
   have st5_0 : ∀ (wS : World), Owl.Own T w wS [.blk b1 [(vI d), (vI en), (vU32 mp), ev, pv, (.bool con), (vU32 pages)] 61, Ent.ar ev 2 xs.length (List.flatMap xtc xs), Ent.ar pv 1 ps.length (List.map vU16 ps), .blk c [(vU32 pg), hv, (.map (some mb))] 112, Ent.ar hv 1 he.length (List.map vU32 he), .obj mb (mP .i64 (List.map Gr.me gs) cn), Ent.bs 120 Gr.cells Gr.b gs, Ent.dp grD.list gs, .blk r [(vU32 pg), hv2, rv] 81, Ent.ar hv2 1 he.length (List.map vU32 he), .row rv 86 7 rl.length (List.flatMap rgc rl), Ent.dp grD.list rl] → W 4 #[tt, tt, tt, ff, tt, tt, tt, ff, ff, ff] [(0, (ptr c 0)), (1, (ptr r 0)), (2, (.agg #[(vI d), (vI en), (vU32 mp), ev, pv, (.bool con), (vU32 pages)])), (5, (ptr b1 0)), (6, (.bool false)), (7, (ptr b1 0)), (8, (vI d)), (9, (.bool (decide (d = (0 : Int))))), (10, (.bool (decide (d = (0 : Int))))), (29, (.bool (decide (d = (1 : Int))))), (30, (.bool (decide (d = (1 : Int))))), (31, (ptr c 0)), (32, (ptr b1 1)), (33, (vI en)), (35, (ptr r 0)), (36, (ptr b1 1)), (37, (vI en))] wS := by
    intro wS HS
    rw [hW]
    refine WH.all1 (i := 3) (by kernel_rfl) ?_
    ·
     refine WHS.op (i := 3) rfl (.inl rfl) rfl (op_callF Fa.C21 rfl ((capR_ok c pg hv he mb cn gs en l _ _ (HS.part [3, 4, 5, 6, 7] rfl rfl) hR).mono (fun e w18061 hq => ?_)))
     obtain ⟨gs18061, rfl, hi18061, hd18061, hq18061⟩ := hq
     refine ⟨_, rfl, ?_⟩
     have H18061 : Owl.Own T w w18061 [.blk b1 [(vI d), (vI en), (vU32 mp), ev, pv, (.bool con), (vU32 pages)] 61, Ent.ar ev 2 xs.length (List.flatMap xtc xs), Ent.ar pv 1 ps.length (List.map vU16 ps), .blk c [(vU32 pg), hv, (.map (some mb))] 112, Ent.ar hv 1 he.length (List.map vU32 he), .obj mb (mP .i64 (List.map Gr.me gs18061) cn), Ent.bs 120 Gr.cells Gr.b gs18061, Ent.dp grD.list gs18061, .blk r [(vU32 pg), hv2, rv] 81, Ent.ar hv2 1 he.length (List.map vU32 he), .row rv 86 7 rl.length (List.flatMap rgc rl), Ent.dp grD.list rl] := HS.splice [3, 4, 5, 6, 7] [.blk c [(vU32 pg), hv, (.map (some mb))] 112, Ent.ar hv 1 he.length (List.map vU32 he), .obj mb (mP .i64 (List.map Gr.me gs18061) cn), Ent.bs 120 Gr.cells Gr.b gs18061, Ent.dp grD.list gs18061] [] rfl rfl hq18061 (Fits.solid True.intro (Fits.same (j := 1) rfl (Fits.solid True.intro (Fits.solid True.intro (Fits.dpTo 4 rfl hd18061 Fits.nil)))))
     have hd18061 : DpTo w gs gs18061 := hd18061.mono HS.fr.size
     refine ⟨⟨[.blk c [(vU32 pg), hv, (.map (some mb))] 112, Ent.ar hv 1 he.length (List.map vU32 he), .obj mb (mP .i64 (List.map Gr.me gs18061) cn), Ent.bs 120 Gr.cells Gr.b gs18061, Ent.dp grD.list gs18061, .blk r [(vU32 pg), hv2, rv] 81, Ent.ar hv2 1 he.length (List.map vU32 he), .row rv 86 7 rl.length (List.flatMap rgc rl), Ent.dp grD.list rl], H18061⟩, ?_⟩
     have hq := st5_1 gs18061 hi18061 hd18061 w18061 H18061
     rw [hW] at hq
     exact WH.cv hq
   have hq := st5_0 w7 H7
   rw [hW] at hq ⊢
   exact WH.cv hq
  ·
   have hc6 := of_decide_eq_false hb6
   refine ws ?_
   refine wo (op_eqlI (b := (2 : Int)) rfl rfl ?_)
   refine wo (op_assign rfl ?_)
   refine wn ?_
   refine WC.cond rfl (fun (hb9 : (decide (d = (2 : Int))) = true) => ?_) (fun (hb9 : (decide (d = (2 : Int))) = false) => ?_)
   ·
    have hc9 := of_decide_eq_true hb9
    refine WC.seq ?_
    refine WC.held 10 rfl Fa.M H2 (fun w' => ∃ L', Owl.Own T w w' ([.blk b1 [(vI d), (vI en), (vU32 mp), ev, pv, (.bool con), (vU32 pages)] 61, Ent.ar ev 2 xs.length (List.flatMap xtc xs), Ent.ar pv 1 ps.length (List.map vU16 ps)] ++ L')) ?_
    intro w10 H10
    refine WH.take (i := 0) (v := (ptr c 0)) rfl rfl (.inl rfl) rfl (by kernel_rfl) ⟨[.blk c [(vU32 pg), hv, (.map (some mb))] 112, Ent.ar hv 1 he.length (List.map vU32 he), .obj mb (mP .i64 (List.map Gr.me gs) cn), Ent.bs 120 Gr.cells Gr.b gs, Ent.dp grD.list gs, .blk r [(vU32 pg), hv2, rv] 81, Ent.ar hv2 1 he.length (List.map vU32 he), .row rv 86 7 rl.length (List.flatMap rgc rl), Ent.dp grD.list rl], H10⟩ (fun wX hSX => hSX.elim fun LX HX => op_move rfl ⟨rfl, rfl⟩) ?_
    refine WH.take (i := 1) (v := (ptr b1 1)) rfl rfl (.inl rfl) rfl (by kernel_rfl) ⟨[.blk c [(vU32 pg), hv, (.map (some mb))] 112, Ent.ar hv 1 he.length (List.map vU32 he), .obj mb (mP .i64 (List.map Gr.me gs) cn), Ent.bs 120 Gr.cells Gr.b gs, Ent.dp grD.list gs, .blk r [(vU32 pg), hv2, rv] 81, Ent.ar hv2 1 he.length (List.map vU32 he), .row rv 86 7 rl.length (List.flatMap rgc rl), Ent.dp grD.list rl], H10⟩ (fun wX hSX => hSX.elim fun LX HX => op_fieldAddr rfl Fa.F61_1 ⟨rfl, rfl⟩) ?_
    refine WH.take (i := 2) (v := (vI en)) rfl rfl (.inl rfl) rfl (by kernel_rfl) ⟨[.blk c [(vU32 pg), hv, (.map (some mb))] 112, Ent.ar hv 1 he.length (List.map vU32 he), .obj mb (mP .i64 (List.map Gr.me gs) cn), Ent.bs 120 Gr.cells Gr.b gs, Ent.dp grD.list gs, .blk r [(vU32 pg), hv2, rv] 81, Ent.ar hv2 1 he.length (List.map vU32 he), .row rv 86 7 rl.length (List.flatMap rgc rl), Ent.dp grD.list rl], H10⟩ (fun wX hSX => hSX.elim fun LX HX => op_load rfl (HX.cell (i := 0) rfl rfl) Try.underlying3 rfl ⟨rfl, rfl⟩) ?_
    refine WH.take (i := 4) (v := (ptr r 0)) rfl rfl (.inl rfl) rfl (by kernel_rfl) ⟨[.blk c [(vU32 pg), hv, (.map (some mb))] 112, Ent.ar hv 1 he.length (List.map vU32 he), .obj mb (mP .i64 (List.map Gr.me gs) cn), Ent.bs 120 Gr.cells Gr.b gs, Ent.dp grD.list gs, .blk r [(vU32 pg), hv2, rv] 81, Ent.ar hv2 1 he.length (List.map vU32 he), .row rv 86 7 rl.length (List.flatMap rgc rl), Ent.dp grD.list rl], H10⟩ (fun wX hSX => hSX.elim fun LX HX => op_move rfl ⟨rfl, rfl⟩) ?_
    refine WH.take (i := 5) (v := (ptr b1 1)) rfl rfl (.inl rfl) rfl (by kernel_rfl) ⟨[.blk c [(vU32 pg), hv, (.map (some mb))] 112, Ent.ar hv 1 he.length (List.map vU32 he), .obj mb (mP .i64 (List.map Gr.me gs) cn), Ent.bs 120 Gr.cells Gr.b gs, Ent.dp grD.list gs, .blk r [(vU32 pg), hv2, rv] 81, Ent.ar hv2 1 he.length (List.map vU32 he), .row rv 86 7 rl.length (List.flatMap rgc rl), Ent.dp grD.list rl], H10⟩ (fun wX hSX => hSX.elim fun LX HX => op_fieldAddr rfl Fa.F61_1 ⟨rfl, rfl⟩) ?_
    refine WH.take (i := 6) (v := (vI en)) rfl rfl (.inl rfl) rfl (by kernel_rfl) ⟨[.blk c [(vU32 pg), hv, (.map (some mb))] 112, Ent.ar hv 1 he.length (List.map vU32 he), .obj mb (mP .i64 (List.map Gr.me gs) cn), Ent.bs 120 Gr.cells Gr.b gs, Ent.dp grD.list gs, .blk r [(vU32 pg), hv2, rv] 81, Ent.ar hv2 1 he.length (List.map vU32 he), .row rv 86 7 rl.length (List.flatMap rgc rl), Ent.dp grD.list rl], H10⟩ (fun wX hSX => hSX.elim fun LX HX => op_load rfl (HX.cell (i := 0) rfl rfl) Try.underlying3 rfl ⟨rfl, rfl⟩) ?_
    refine WH.named (fun W hW => ?_)
    have st7_2 : ∀ (gs21061 : List Gr) (rv21141 : Value) (rl21141 : List Gr) (hi21061 : CapR gs21061 cn (takeG l en)) (hd21061 : DpTo w gs gs21061) (hj21141 : ∀ l, Rel l rl → Rel (takeG l en) rl21141) (hd21141 : DpTo w rl rl21141) (wS : World), Owl.Own T w wS [.blk b1 [(vI d), (vI en), (vU32 mp), ev, pv, (.bool con), (vU32 pages)] 61, Ent.ar ev 2 xs.length (List.flatMap xtc xs), Ent.ar pv 1 ps.length (List.map vU16 ps), .blk c [(vU32 pg), hv, (.map (some mb))] 112, Ent.ar hv 1 he.length (List.map vU32 he), .obj mb (mP .i64 (List.map Gr.me gs21061) cn), Ent.bs 120 Gr.cells Gr.b gs21061, Ent.dp grD.list gs21061, .blk r [(vU32 pg), hv2, rv21141] 81, Ent.ar hv2 1 he.length (List.map vU32 he), .row rv21141 86 7 rl21141.length (List.flatMap rgc rl21141), Ent.dp grD.list rl21141] → W 0 #[tt, tt, tt, tt, tt, tt, tt, tt, tt, tt] [(0, (ptr c 0)), (1, (ptr r 0)), (2, (.agg #[(vI d), (vI en), (vU32 mp), ev, pv, (.bool con), (vU32 pages)])), (5, (ptr b1 0)), (6, (.bool (decide ((takeE l en) = (takeE rl en))))), (7, (ptr b1 0)), (8, (vI d)), (9, (.bool (decide (d = (0 : Int))))), (10, (.bool (decide (d = (0 : Int))))), (29, (.bool (decide (d = (1 : Int))))), (30, (.bool (decide (d = (1 : Int))))), (40, (.bool (decide (d = (2 : Int))))), (41, (.bool (decide (d = (2 : Int))))), (42, (ptr c 0)), (43, (ptr b1 1)), (44, (vI en)), (45, (vN (takeE l en))), (46, (ptr r 0)), (47, (ptr b1 1)), (48, (vI en)), (49, (vN (takeE rl en))), (50, (.bool (decide ((takeE l en) = (takeE rl en)))))] wS := by
     intro gs21061 rv21141 rl21141 hi21061 hd21061 hj21141 hd21141 wS HS
     rw [hW]
     refine WH.done (by kernel_rfl) ?_
     refine WQ.next ?_
     refine WC.ret ?_
     refine WQ.inRet ?_
     refine WQ.thenRet ?_
     refine WQ.out (.tmp rfl .nil) ?_
     exact ⟨_, _, _, _, _, by rw [((decide_eq_true hQ.takeE) : (decide ((takeE l en) = (takeE rl en))) = true)]; rfl, hi21061, hj21141 _ hQ, hd21061, hd21141, HS.sel [1, 2, 3, 4, 5, 6, 7, 8, 9, 10, 11] rfl rfl⟩
    have st7_1 : ∀ (gs21061 : List Gr) (hi21061 : CapR gs21061 cn (takeG l en)) (hd21061 : DpTo w gs gs21061) (wS : World), Owl.Own T w wS [.blk b1 [(vI d), (vI en), (vU32 mp), ev, pv, (.bool con), (vU32 pages)] 61, Ent.ar ev 2 xs.length (List.flatMap xtc xs), Ent.ar pv 1 ps.length (List.map vU16 ps), .blk c [(vU32 pg), hv, (.map (some mb))] 112, Ent.ar hv 1 he.length (List.map vU32 he), .obj mb (mP .i64 (List.map Gr.me gs21061) cn), Ent.bs 120 Gr.cells Gr.b gs21061, Ent.dp grD.list gs21061, .blk r [(vU32 pg), hv2, rv] 81, Ent.ar hv2 1 he.length (List.map vU32 he), .row rv 86 7 rl.length (List.flatMap rgc rl), Ent.dp grD.list rl] → W 3 #[tt, tt, tt, tt, tt, tt, tt, ff, ff, ff] [(0, (ptr c 0)), (1, (ptr r 0)), (2, (.agg #[(vI d), (vI en), (vU32 mp), ev, pv, (.bool con), (vU32 pages)])), (5, (ptr b1 0)), (6, (.bool false)), (7, (ptr b1 0)), (8, (vI d)), (9, (.bool (decide (d = (0 : Int))))), (10, (.bool (decide (d = (0 : Int))))), (29, (.bool (decide (d = (1 : Int))))), (30, (.bool (decide (d = (1 : Int))))), (40, (.bool (decide (d = (2 : Int))))), (41, (.bool (decide (d = (2 : Int))))), (42, (ptr c 0)), (43, (ptr b1 1)), (44, (vI en)), (45, (vN (takeE l en))), (46, (ptr r 0)), (47, (ptr b1 1)), (48, (vI en))] wS := by
     intro gs21061 hi21061 hd21061 wS HS
     rw [hW]
     refine WH.all1 (i := 7) (by kernel_rfl) ?_
     ·
      refine WHS.op (i := 7) rfl (.inl rfl) rfl (op_callF Fa.C67 rfl ((rtake_ok r pg hv2 rv he rl en _ _ (HS.part [8, 9, 10, 11] rfl rfl) (by omega) hfit hQ.tk).mono (fun e w21141 hq => ?_)))
      obtain ⟨rv21141, rl21141, rfl, hj21141, hd21141, hq21141⟩ := hq
      refine ⟨_, rfl, ?_⟩
      have H21141 : Owl.Own T w w21141 [.blk b1 [(vI d), (vI en), (vU32 mp), ev, pv, (.bool con), (vU32 pages)] 61, Ent.ar ev 2 xs.length (List.flatMap xtc xs), Ent.ar pv 1 ps.length (List.map vU16 ps), .blk c [(vU32 pg), hv, (.map (some mb))] 112, Ent.ar hv 1 he.length (List.map vU32 he), .obj mb (mP .i64 (List.map Gr.me gs21061) cn), Ent.bs 120 Gr.cells Gr.b gs21061, Ent.dp grD.list gs21061, .blk r [(vU32 pg), hv2, rv21141] 81, Ent.ar hv2 1 he.length (List.map vU32 he), .row rv21141 86 7 rl21141.length (List.flatMap rgc rl21141), Ent.dp grD.list rl21141] := HS.splice [8, 9, 10, 11] [.blk r [(vU32 pg), hv2, rv21141] 81, Ent.ar hv2 1 he.length (List.map vU32 he), .row rv21141 86 7 rl21141.length (List.flatMap rgc rl21141), Ent.dp grD.list rl21141] [] rfl rfl hq21141 (Fits.solid True.intro (Fits.same (j := 1) rfl (Fits.solid True.intro (Fits.dpTo 3 rfl hd21141 Fits.nil))))
      have hd21141 : DpTo w rl rl21141 := hd21141.mono HS.fr.size
      refine ⟨⟨[.blk c [(vU32 pg), hv, (.map (some mb))] 112, Ent.ar hv 1 he.length (List.map vU32 he), .obj mb (mP .i64 (List.map Gr.me gs21061) cn), Ent.bs 120 Gr.cells Gr.b gs21061, Ent.dp grD.list gs21061, .blk r [(vU32 pg), hv2, rv21141] 81, Ent.ar hv2 1 he.length (List.map vU32 he), .row rv21141 86 7 rl21141.length (List.flatMap rgc rl21141), Ent.dp grD.list rl21141], H21141⟩, ?_⟩
      refine WH.take (i := 8) (v := (.bool (decide ((takeE l en) = (takeE rl en))))) rfl rfl (.inl rfl) rfl (by kernel_rfl) ⟨[.blk c [(vU32 pg), hv, (.map (some mb))] 112, Ent.ar hv 1 he.length (List.map vU32 he), .obj mb (mP .i64 (List.map Gr.me gs21061) cn), Ent.bs 120 Gr.cells Gr.b gs21061, Ent.dp grD.list gs21061, .blk r [(vU32 pg), hv2, rv21141] 81, Ent.ar hv2 1 he.length (List.map vU32 he), .row rv21141 86 7 rl21141.length (List.flatMap rgc rl21141), Ent.dp grD.list rl21141], H21141⟩ (fun wX hSX => hSX.elim fun LX HX => op_eqlN rfl rfl ⟨rfl, rfl⟩) ?_
      refine WH.take (i := 9) (v := (.bool (decide ((takeE l en) = (takeE rl en))))) rfl rfl (.inl rfl) rfl (by kernel_rfl) ⟨[.blk c [(vU32 pg), hv, (.map (some mb))] 112, Ent.ar hv 1 he.length (List.map vU32 he), .obj mb (mP .i64 (List.map Gr.me gs21061) cn), Ent.bs 120 Gr.cells Gr.b gs21061, Ent.dp grD.list gs21061, .blk r [(vU32 pg), hv2, rv21141] 81, Ent.ar hv2 1 he.length (List.map vU32 he), .row rv21141 86 7 rl21141.length (List.flatMap rgc rl21141), Ent.dp grD.list rl21141], H21141⟩ (fun wX hSX => hSX.elim fun LX HX => op_assign rfl ⟨rfl, rfl⟩) ?_
      have hq := st7_2 gs21061 rv21141 rl21141 hi21061 hd21061 hj21141 hd21141 w21141 H21141
      rw [hW] at hq
      exact WH.cv hq
    have st7_0 : ∀ (wS : World), Owl.Own T w wS [.blk b1 [(vI d), (vI en), (vU32 mp), ev, pv, (.bool con), (vU32 pages)] 61, Ent.ar ev 2 xs.length (List.flatMap xtc xs), Ent.ar pv 1 ps.length (List.map vU16 ps), .blk c [(vU32 pg), hv, (.map (some mb))] 112, Ent.ar hv 1 he.length (List.map vU32 he), .obj mb (mP .i64 (List.map Gr.me gs) cn), Ent.bs 120 Gr.cells Gr.b gs, Ent.dp grD.list gs, .blk r [(vU32 pg), hv2, rv] 81, Ent.ar hv2 1 he.length (List.map vU32 he), .row rv 86 7 rl.length (List.flatMap rgc rl), Ent.dp grD.list rl] → W 4 #[tt, tt, tt, ff, tt, tt, tt, ff, ff, ff] [(0, (ptr c 0)), (1, (ptr r 0)), (2, (.agg #[(vI d), (vI en), (vU32 mp), ev, pv, (.bool con), (vU32 pages)])), (5, (ptr b1 0)), (6, (.bool false)), (7, (ptr b1 0)), (8, (vI d)), (9, (.bool (decide (d = (0 : Int))))), (10, (.bool (decide (d = (0 : Int))))), (29, (.bool (decide (d = (1 : Int))))), (30, (.bool (decide (d = (1 : Int))))), (40, (.bool (decide (d = (2 : Int))))), (41, (.bool (decide (d = (2 : Int))))), (42, (ptr c 0)), (43, (ptr b1 1)), (44, (vI en)), (46, (ptr r 0)), (47, (ptr b1 1)), (48, (vI en))] wS := by
     intro wS HS
     rw [hW]
     refine WH.all1 (i := 3) (by kernel_rfl) ?_
     ·
      refine WHS.op (i := 3) rfl (.inl rfl) rfl (op_callF Fa.C22 rfl ((capT_ok c pg hv he mb cn gs en l _ _ (HS.part [3, 4, 5, 6, 7] rfl rfl) hR).mono (fun e w21061 hq => ?_)))
      obtain ⟨gs21061, rfl, hi21061, hd21061, hq21061⟩ := hq
      refine ⟨_, rfl, ?_⟩
      have H21061 : Owl.Own T w w21061 [.blk b1 [(vI d), (vI en), (vU32 mp), ev, pv, (.bool con), (vU32 pages)] 61, Ent.ar ev 2 xs.length (List.flatMap xtc xs), Ent.ar pv 1 ps.length (List.map vU16 ps), .blk c [(vU32 pg), hv, (.map (some mb))] 112, Ent.ar hv 1 he.length (List.map vU32 he), .obj mb (mP .i64 (List.map Gr.me gs21061) cn), Ent.bs 120 Gr.cells Gr.b gs21061, Ent.dp grD.list gs21061, .blk r [(vU32 pg), hv2, rv] 81, Ent.ar hv2 1 he.length (List.map vU32 he), .row rv 86 7 rl.length (List.flatMap rgc rl), Ent.dp grD.list rl] := HS.splice [3, 4, 5, 6, 7] [.blk c [(vU32 pg), hv, (.map (some mb))] 112, Ent.ar hv 1 he.length (List.map vU32 he), .obj mb (mP .i64 (List.map Gr.me gs21061) cn), Ent.bs 120 Gr.cells Gr.b gs21061, Ent.dp grD.list gs21061] [] rfl rfl hq21061 (Fits.solid True.intro (Fits.same (j := 1) rfl (Fits.solid True.intro (Fits.solid True.intro (Fits.dpTo 4 rfl hd21061 Fits.nil)))))
      have hd21061 : DpTo w gs gs21061 := hd21061.mono HS.fr.size
      refine ⟨⟨[.blk c [(vU32 pg), hv, (.map (some mb))] 112, Ent.ar hv 1 he.length (List.map vU32 he), .obj mb (mP .i64 (List.map Gr.me gs21061) cn), Ent.bs 120 Gr.cells Gr.b gs21061, Ent.dp grD.list gs21061, .blk r [(vU32 pg), hv2, rv] 81, Ent.ar hv2 1 he.length (List.map vU32 he), .row rv 86 7 rl.length (List.flatMap rgc rl), Ent.dp grD.list rl], H21061⟩, ?_⟩
      have hq := st7_1 gs21061 hi21061 hd21061 w21061 H21061
      rw [hW] at hq
      exact WH.cv hq
    have hq := st7_0 w10 H10
    rw [hW] at hq ⊢
    exact WH.cv hq
   ·
    have hc9 := of_decide_eq_false hb9
    refine ws ?_
    refine wo (op_eqlI (b := (3 : Int)) rfl rfl ?_)
    refine wo (op_assign rfl ?_)
    refine wn ?_
    refine WC.cond rfl (fun (hb12 : (decide (d = (3 : Int))) = true) => ?_) (fun (hb12 : (decide (d = (3 : Int))) = false) => ?_)
    ·
     have hc12 := of_decide_eq_true hb12
     refine WC.seq ?_
     refine WC.held 10 rfl Fa.M H2 (fun w' => ∃ L', Owl.Own T w w' ([.blk b1 [(vI d), (vI en), (vU32 mp), ev, pv, (.bool con), (vU32 pages)] 61, Ent.ar ev 2 xs.length (List.flatMap xtc xs), Ent.ar pv 1 ps.length (List.map vU16 ps)] ++ L')) ?_
     intro w13 H13
     refine WH.take (i := 0) (v := (ptr c 0)) rfl rfl (.inl rfl) rfl (by kernel_rfl) ⟨[.blk c [(vU32 pg), hv, (.map (some mb))] 112, Ent.ar hv 1 he.length (List.map vU32 he), .obj mb (mP .i64 (List.map Gr.me gs) cn), Ent.bs 120 Gr.cells Gr.b gs, Ent.dp grD.list gs, .blk r [(vU32 pg), hv2, rv] 81, Ent.ar hv2 1 he.length (List.map vU32 he), .row rv 86 7 rl.length (List.flatMap rgc rl), Ent.dp grD.list rl], H13⟩ (fun wX hSX => hSX.elim fun LX HX => op_move rfl ⟨rfl, rfl⟩) ?_
     refine WH.take (i := 1) (v := (ptr b1 1)) rfl rfl (.inl rfl) rfl (by kernel_rfl) ⟨[.blk c [(vU32 pg), hv, (.map (some mb))] 112, Ent.ar hv 1 he.length (List.map vU32 he), .obj mb (mP .i64 (List.map Gr.me gs) cn), Ent.bs 120 Gr.cells Gr.b gs, Ent.dp grD.list gs, .blk r [(vU32 pg), hv2, rv] 81, Ent.ar hv2 1 he.length (List.map vU32 he), .row rv 86 7 rl.length (List.flatMap rgc rl), Ent.dp grD.list rl], H13⟩ (fun wX hSX => hSX.elim fun LX HX => op_fieldAddr rfl Fa.F61_1 ⟨rfl, rfl⟩) ?_
     refine WH.take (i := 2) (v := (vI en)) rfl rfl (.inl rfl) rfl (by kernel_rfl) ⟨[.blk c [(vU32 pg), hv, (.map (some mb))] 112, Ent.ar hv 1 he.length (List.map vU32 he), .obj mb (mP .i64 (List.map Gr.me gs) cn), Ent.bs 120 Gr.cells Gr.b gs, Ent.dp grD.list gs, .blk r [(vU32 pg), hv2, rv] 81, Ent.ar hv2 1 he.length (List.map vU32 he), .row rv 86 7 rl.length (List.flatMap rgc rl), Ent.dp grD.list rl], H13⟩ (fun wX hSX => hSX.elim fun LX HX => op_load rfl (HX.cell (i := 0) rfl rfl) Try.underlying3 rfl ⟨rfl, rfl⟩) ?_
     refine WH.take (i := 4) (v := (ptr r 0)) rfl rfl (.inl rfl) rfl (by kernel_rfl) ⟨[.blk c [(vU32 pg), hv, (.map (some mb))] 112, Ent.ar hv 1 he.length (List.map vU32 he), .obj mb (mP .i64 (List.map Gr.me gs) cn), Ent.bs 120 Gr.cells Gr.b gs, Ent.dp grD.list gs, .blk r [(vU32 pg), hv2, rv] 81, Ent.ar hv2 1 he.length (List.map vU32 he), .row rv 86 7 rl.length (List.flatMap rgc rl), Ent.dp grD.list rl], H13⟩ (fun wX hSX => hSX.elim fun LX HX => op_move rfl ⟨rfl, rfl⟩) ?_
     refine WH.take (i := 5) (v := (ptr b1 1)) rfl rfl (.inl rfl) rfl (by kernel_rfl) ⟨[.blk c [(vU32 pg), hv, (.map (some mb))] 112, Ent.ar hv 1 he.length (List.map vU32 he), .obj mb (mP .i64 (List.map Gr.me gs) cn), Ent.bs 120 Gr.cells Gr.b gs, Ent.dp grD.list gs, .blk r [(vU32 pg), hv2, rv] 81, Ent.ar hv2 1 he.length (List.map vU32 he), .row rv 86 7 rl.length (List.flatMap rgc rl), Ent.dp grD.list rl], H13⟩ (fun wX hSX => hSX.elim fun LX HX => op_fieldAddr rfl Fa.F61_1 ⟨rfl, rfl⟩) ?_
     refine WH.take (i := 6) (v := (vI en)) rfl rfl (.inl rfl) rfl (by kernel_rfl) ⟨[.blk c [(vU32 pg), hv, (.map (some mb))] 112, Ent.ar hv 1 he.length (List.map vU32 he), .obj mb (mP .i64 (List.map Gr.me gs) cn), Ent.bs 120 Gr.cells Gr.b gs, Ent.dp grD.list gs, .blk r [(vU32 pg), hv2, rv] 81, Ent.ar hv2 1 he.length (List.map vU32 he), .row rv 86 7 rl.length (List.flatMap rgc rl), Ent.dp grD.list rl], H13⟩ (fun wX hSX => hSX.elim fun LX HX => op_load rfl (HX.cell (i := 0) rfl rfl) Try.underlying3 rfl ⟨rfl, rfl⟩) ?_
     refine WH.named (fun W hW => ?_)
     have st9_2 : ∀ (gs24061 : List Gr) (rv24141 : Value) (rl24141 : List Gr) (hi24061 : CapR gs24061 cn (giveG l en)) (hd24061 : DpTo w gs gs24061) (hj24141 : ∀ l, Rel l rl → Rel (giveG l en) rl24141) (hd24141 : DpTo w rl rl24141) (wS : World), Owl.Own T w wS [.blk b1 [(vI d), (vI en), (vU32 mp), ev, pv, (.bool con), (vU32 pages)] 61, Ent.ar ev 2 xs.length (List.flatMap xtc xs), Ent.ar pv 1 ps.length (List.map vU16 ps), .blk c [(vU32 pg), hv, (.map (some mb))] 112, Ent.ar hv 1 he.length (List.map vU32 he), .obj mb (mP .i64 (List.map Gr.me gs24061) cn), Ent.bs 120 Gr.cells Gr.b gs24061, Ent.dp grD.list gs24061, .blk r [(vU32 pg), hv2, rv24141] 81, Ent.ar hv2 1 he.length (List.map vU32 he), .row rv24141 86 7 rl24141.length (List.flatMap rgc rl24141), Ent.dp grD.list rl24141] → W 0 #[tt, tt, tt, tt, tt, tt, tt, tt, tt, tt] [(0, (ptr c 0)), (1, (ptr r 0)), (2, (.agg #[(vI d), (vI en), (vU32 mp), ev, pv, (.bool con), (vU32 pages)])), (5, (ptr b1 0)), (6, (.bool (decide ((giveE l en) = (giveE rl en))))), (7, (ptr b1 0)), (8, (vI d)), (9, (.bool (decide (d = (0 : Int))))), (10, (.bool (decide (d = (0 : Int))))), (29, (.bool (decide (d = (1 : Int))))), (30, (.bool (decide (d = (1 : Int))))), (40, (.bool (decide (d = (2 : Int))))), (41, (.bool (decide (d = (2 : Int))))), (51, (.bool (decide (d = (3 : Int))))), (52, (.bool (decide (d = (3 : Int))))), (53, (ptr c 0)), (54, (ptr b1 1)), (55, (vI en)), (56, (vN (giveE l en))), (57, (ptr r 0)), (58, (ptr b1 1)), (59, (vI en)), (60, (vN (giveE rl en))), (61, (.bool (decide ((giveE l en) = (giveE rl en)))))] wS := by
      intro gs24061 rv24141 rl24141 hi24061 hd24061 hj24141 hd24141 wS HS
      rw [hW]
      refine WH.done (by kernel_rfl) ?_
      refine WQ.next ?_
      refine WC.ret ?_
      refine WQ.inRet ?_
      refine WQ.thenRet ?_
      refine WQ.out (.tmp rfl .nil) ?_
      exact ⟨_, _, _, _, _, by rw [((decide_eq_true hQ.giveE) : (decide ((giveE l en) = (giveE rl en))) = true)]; rfl, hi24061, hj24141 _ hQ, hd24061, hd24141, HS.sel [1, 2, 3, 4, 5, 6, 7, 8, 9, 10, 11] rfl rfl⟩
     have st9_1 : ∀ (gs24061 : List Gr) (hi24061 : CapR gs24061 cn (giveG l en)) (hd24061 : DpTo w gs gs24061) (wS : World), Owl.Own T w wS [.blk b1 [(vI d), (vI en), (vU32 mp), ev, pv, (.bool con), (vU32 pages)] 61, Ent.ar ev 2 xs.length (List.flatMap xtc xs), Ent.ar pv 1 ps.length (List.map vU16 ps), .blk c [(vU32 pg), hv, (.map (some mb))] 112, Ent.ar hv 1 he.length (List.map vU32 he), .obj mb (mP .i64 (List.map Gr.me gs24061) cn), Ent.bs 120 Gr.cells Gr.b gs24061, Ent.dp grD.list gs24061, .blk r [(vU32 pg), hv2, rv] 81, Ent.ar hv2 1 he.length (List.map vU32 he), .row rv 86 7 rl.length (List.flatMap rgc rl), Ent.dp grD.list rl] → W 3 #[tt, tt, tt, tt, tt, tt, tt, ff, ff, ff] [(0, (ptr c 0)), (1, (ptr r 0)), (2, (.agg #[(vI d), (vI en), (vU32 mp), ev, pv, (.bool con), (vU32 pages)])), (5, (ptr b1 0)), (6, (.bool false)), (7, (ptr b1 0)), (8, (vI d)), (9, (.bool (decide (d = (0 : Int))))), (10, (.bool (decide (d = (0 : Int))))), (29, (.bool (decide (d = (1 : Int))))), (30, (.bool (decide (d = (1 : Int))))), (40, (.bool (decide (d = (2 : Int))))), (41, (.bool (decide (d = (2 : Int))))), (51, (.bool (decide (d = (3 : Int))))), (52, (.bool (decide (d = (3 : Int))))), (53, (ptr c 0)), (54, (ptr b1 1)), (55, (vI en)), (56, (vN (giveE l en))), (57, (ptr r 0)), (58, (ptr b1 1)), (59, (vI en))] wS := by
      intro gs24061 hi24061 hd24061 wS HS
      rw [hW]
      refine WH.all1 (i := 7) (by kernel_rfl) ?_
      ·
       refine WHS.op (i := 7) rfl (.inl rfl) rfl (op_callF Fa.C68 rfl ((rgive_ok r pg hv2 rv he rl en _ _ (HS.part [8, 9, 10, 11] rfl rfl) (by omega) hfit).mono (fun e w24141 hq => ?_)))
       obtain ⟨rv24141, rl24141, rfl, hj24141, hd24141, hq24141⟩ := hq
       refine ⟨_, rfl, ?_⟩
       have H24141 : Owl.Own T w w24141 [.blk b1 [(vI d), (vI en), (vU32 mp), ev, pv, (.bool con), (vU32 pages)] 61, Ent.ar ev 2 xs.length (List.flatMap xtc xs), Ent.ar pv 1 ps.length (List.map vU16 ps), .blk c [(vU32 pg), hv, (.map (some mb))] 112, Ent.ar hv 1 he.length (List.map vU32 he), .obj mb (mP .i64 (List.map Gr.me gs24061) cn), Ent.bs 120 Gr.cells Gr.b gs24061, Ent.dp grD.list gs24061, .blk r [(vU32 pg), hv2, rv24141] 81, Ent.ar hv2 1 he.length (List.map vU32 he), .row rv24141 86 7 rl24141.length (List.flatMap rgc rl24141), Ent.dp grD.list rl24141] := HS.splice [8, 9, 10, 11] [.blk r [(vU32 pg), hv2, rv24141] 81, Ent.ar hv2 1 he.length (List.map vU32 he), .row rv24141 86 7 rl24141.length (List.flatMap rgc rl24141), Ent.dp grD.list rl24141] [] rfl rfl hq24141 (Fits.solid True.intro (Fits.same (j := 1) rfl (Fits.solid True.intro (Fits.dpTo 3 rfl hd24141 Fits.nil))))
       have hd24141 : DpTo w rl rl24141 := hd24141.mono HS.fr.size
       refine ⟨⟨[.blk c [(vU32 pg), hv, (.map (some mb))] 112, Ent.ar hv 1 he.length (List.map vU32 he), .obj mb (mP .i64 (List.map Gr.me gs24061) cn), Ent.bs 120 Gr.cells Gr.b gs24061, Ent.dp grD.list gs24061, .blk r [(vU32 pg), hv2, rv24141] 81, Ent.ar hv2 1 he.length (List.map vU32 he), .row rv24141 86 7 rl24141.length (List.flatMap rgc rl24141), Ent.dp grD.list rl24141], H24141⟩, ?_⟩
       refine WH.take (i := 8) (v := (.bool (decide ((giveE l en) = (giveE rl en))))) rfl rfl (.inl rfl) rfl (by kernel_rfl) ⟨[.blk c [(vU32 pg), hv, (.map (some mb))] 112, Ent.ar hv 1 he.length (List.map vU32 he), .obj mb (mP .i64 (List.map Gr.me gs24061) cn), Ent.bs 120 Gr.cells Gr.b gs24061, Ent.dp grD.list gs24061, .blk r [(vU32 pg), hv2, rv24141] 81, Ent.ar hv2 1 he.length (List.map vU32 he), .row rv24141 86 7 rl24141.length (List.flatMap rgc rl24141), Ent.dp grD.list rl24141], H24141⟩ (fun wX hSX => hSX.elim fun LX HX => op_eqlN rfl rfl ⟨rfl, rfl⟩) ?_
       refine WH.take (i := 9) (v := (.bool (decide ((giveE l en) = (giveE rl en))))) rfl rfl (.inl rfl) rfl (by kernel_rfl) ⟨[.blk c [(vU32 pg), hv, (.map (some mb))] 112, Ent.ar hv 1 he.length (List.map vU32 he), .obj mb (mP .i64 (List.map Gr.me gs24061) cn), Ent.bs 120 Gr.cells Gr.b gs24061, Ent.dp grD.list gs24061, .blk r [(vU32 pg), hv2, rv24141] 81, Ent.ar hv2 1 he.length (List.map vU32 he), .row rv24141 86 7 rl24141.length (List.flatMap rgc rl24141), Ent.dp grD.list rl24141], H24141⟩ (fun wX hSX => hSX.elim fun LX HX => op_assign rfl ⟨rfl, rfl⟩) ?_
       have hq := st9_2 gs24061 rv24141 rl24141 hi24061 hd24061 hj24141 hd24141 w24141 H24141
       rw [hW] at hq
       exact WH.cv hq
     have st9_0 : ∀ (wS : World), Owl.Own T w wS [.blk b1 [(vI d), (vI en), (vU32 mp), ev, pv, (.bool con), (vU32 pages)] 61, Ent.ar ev 2 xs.length (List.flatMap xtc xs), Ent.ar pv 1 ps.length (List.map vU16 ps), .blk c [(vU32 pg), hv, (.map (some mb))] 112, Ent.ar hv 1 he.length (List.map vU32 he), .obj mb (mP .i64 (List.map Gr.me gs) cn), Ent.bs 120 Gr.cells Gr.b gs, Ent.dp grD.list gs, .blk r [(vU32 pg), hv2, rv] 81, Ent.ar hv2 1 he.length (List.map vU32 he), .row rv 86 7 rl.length (List.flatMap rgc rl), Ent.dp grD.list rl] → W 4 #[tt, tt, tt, ff, tt, tt, tt, ff, ff, ff] [(0, (ptr c 0)), (1, (ptr r 0)), (2, (.agg #[(vI d), (vI en), (vU32 mp), ev, pv, (.bool con), (vU32 pages)])), (5, (ptr b1 0)), (6, (.bool false)), (7, (ptr b1 0)), (8, (vI d)), (9, (.bool (decide (d = (0 : Int))))), (10, (.bool (decide (d = (0 : Int))))), (29, (.bool (decide (d = (1 : Int))))), (30, (.bool (decide (d = (1 : Int))))), (40, (.bool (decide (d = (2 : Int))))), (41, (.bool (decide (d = (2 : Int))))), (51, (.bool (decide (d = (3 : Int))))), (52, (.bool (decide (d = (3 : Int))))), (53, (ptr c 0)), (54, (ptr b1 1)), (55, (vI en)), (57, (ptr r 0)), (58, (ptr b1 1)), (59, (vI en))] wS := by
      intro wS HS
      rw [hW]
      refine WH.all1 (i := 3) (by kernel_rfl) ?_
      ·
       refine WHS.op (i := 3) rfl (.inl rfl) rfl (op_callF Fa.C23 rfl ((capGv_ok c pg hv he mb cn gs en l _ _ (HS.part [3, 4, 5, 6, 7] rfl rfl) hR).mono (fun e w24061 hq => ?_)))
       obtain ⟨gs24061, rfl, hi24061, hd24061, hq24061⟩ := hq
       refine ⟨_, rfl, ?_⟩
       have H24061 : Owl.Own T w w24061 [.blk b1 [(vI d), (vI en), (vU32 mp), ev, pv, (.bool con), (vU32 pages)] 61, Ent.ar ev 2 xs.length (List.flatMap xtc xs), Ent.ar pv 1 ps.length (List.map vU16 ps), .blk c [(vU32 pg), hv, (.map (some mb))] 112, Ent.ar hv 1 he.length (List.map vU32 he), .obj mb (mP .i64 (List.map Gr.me gs24061) cn), Ent.bs 120 Gr.cells Gr.b gs24061, Ent.dp grD.list gs24061, .blk r [(vU32 pg), hv2, rv] 81, Ent.ar hv2 1 he.length (List.map vU32 he), .row rv 86 7 rl.length (List.flatMap rgc rl), Ent.dp grD.list rl] := HS.splice [3, 4, 5, 6, 7] [.blk c [(vU32 pg), hv, (.map (some mb))] 112, Ent.ar hv 1 he.length (List.map vU32 he), .obj mb (mP .i64 (List.map Gr.me gs24061) cn), Ent.bs 120 Gr.cells Gr.b gs24061, Ent.dp grD.list gs24061] [] rfl rfl hq24061 (Fits.solid True.intro (Fits.same (j := 1) rfl (Fits.solid True.intro (Fits.solid True.intro (Fits.dpTo 4 rfl hd24061 Fits.nil)))))
       have hd24061 : DpTo w gs gs24061 := hd24061.mono HS.fr.size
       refine ⟨⟨[.blk c [(vU32 pg), hv, (.map (some mb))] 112, Ent.ar hv 1 he.length (List.map vU32 he), .obj mb (mP .i64 (List.map Gr.me gs24061) cn), Ent.bs 120 Gr.cells Gr.b gs24061, Ent.dp grD.list gs24061, .blk r [(vU32 pg), hv2, rv] 81, Ent.ar hv2 1 he.length (List.map vU32 he), .row rv 86 7 rl.length (List.flatMap rgc rl), Ent.dp grD.list rl], H24061⟩, ?_⟩
       have hq := st9_1 gs24061 hi24061 hd24061 w24061 H24061
       rw [hW] at hq
       exact WH.cv hq
     have hq := st9_0 w13 H13
     rw [hW] at hq ⊢
     exact WH.cv hq
    ·
     have hc12 := of_decide_eq_false hb12
     refine WC.skip ?_
     refine WQ.inNormal ?_
     refine WQ.next ?_
     refine ws ?_
     refine wo (op_assign rfl ?_)
     refine wn ?_
     refine WC.ret ?_
     refine WQ.out (.tmp rfl .nil) ?_
     exact ⟨cn, gs, rv, rl, l, rfl, hR, hQ, DpTo.sub (fun _ h => h), DpTo.sub (fun _ h => h), H2.sel [1, 2, 3, 4, 5, 6, 7, 8, 9, 10, 11] rfl rfl⟩
end Go.Proofs.Ytbjhccnffacbcaa
