/- General lemmas and walks: EDem8, EDem9, EDem11. No condition but what each theorem names. -/
import Derived.Test.YtnngbnenekjffaaQbdc801ab
import Derived.Test.YtnngbnenekjffaaQef0c5d76
import Derived.Test.YtnngbnenekjffaaQbd256a09
/-! from EDem8 -/
namespace Go.Proofs.Ytnngbnenekjffaa
open Go.Owl Go.Spec
set_option maxRecDepth 100000 in
theorem dnote_ok (m : Mf) (ev pv : Value) (x : Nt) (w : World) (hE : Arr w ev 2 m.xs.length (List.flatMap xtc m.xs)) (hP : Arr w pv 1 m.ps.length (List.map vU16 m.ps)) (hn : m.xs.length < 2 ^ 45) (hm : m.ps.length < 2 ^ 45) :
    Calls Try.prog 18 #[(.agg #[(vU32 m.pg), ev, pv, (.bool m.con)]), (.agg #[(vU8 x.kind), (vU32 x.n), (vU32 x.m)])] w (fun e w' => e = .returned (.bool (rNote m x)) ∧ Fr [] w w') := by
  refine enter (args := [(.agg #[(vU32 m.pg), ev, pv, (.bool m.con)]), (.agg #[(vU8 x.kind), (vU32 x.n), (vU32 x.m)])]) Try.func18 rfl rfl ?_
  have H0 : Own [] w w [] := Own.start w []
  refine WC.seq ?_
  refine WC.region ?_
  refine WL.op rfl rfl (op_box H0 rfl rfl (fun b1 w1 H1 => ?_))
  refine WL.op rfl rfl (op_box H1 rfl rfl (fun b2 w2 H2 => ?_))
  refine WL.op rfl rfl (op_assign rfl ?_)
  refine WL.nil ?_
  refine WQ.next ?_
  refine WC.seq ?_
  refine WC.region ?_
  refine WL.op rfl rfl (op_loadS (vs := [_, _, _, _]) rfl (H2.cells (i := 0) rfl rfl) Try.underlying30 rfl Fa.I30 rfl ?_)
  refine WL.op rfl rfl (op_callF Fa.C15 rfl ((dcheck_ok m.pg _ _ m.xs m.ps m.con _ (H2.arr hE) (H2.arr hP) (by omega) (by omega)).mono (fun e w3 hq => ?_)))
  obtain ⟨rfl, hf3⟩ := hq
  refine ⟨_, rfl, ?_⟩
  have H3 := H2.fr' hf3
  refine WL.op rfl rfl (op_eqlN (b := 0) rfl rfl ?_)
  refine WL.op rfl rfl (op_move rfl ?_)
  refine WL.split (t := 8) rfl (fun (hb4 : (decide ((mfE m.pg m.xs m.ps) = 0)) = true) => ?_) (fun (hb4 : (decide ((mfE m.pg m.xs m.ps) = 0)) = false) => ?_)
  ·
    have hc4 := of_decide_eq_true hb4
    refine WL.yes rfl rfl rfl hb4 rfl (op_loadS (vs := [_, _, _]) rfl (H3.cells (i := 1) rfl rfl) Try.underlying36 rfl Fa.I36 rfl ?_)
    refine WL.yes rfl rfl rfl hb4 rfl (op_callF Fa.C24 rfl ((onote_ok x _).mono (fun e w5 hq => ?_)))
    obtain ⟨rfl, hf5⟩ := hq
    refine ⟨_, rfl, ?_⟩
    have H5 := H3.fr' hf5
    refine WL.yes rfl rfl rfl hb4 rfl (op_eqlN (b := 0) rfl rfl ?_)
    refine WL.op rfl rfl (op_pickT rfl hb4 rfl ?_)
    refine WL.op rfl rfl (op_move rfl ?_)
    refine WL.split (t := 13) rfl (fun (hb6 : (decide ((noteE x) = 0)) = true) => ?_) (fun (hb6 : (decide ((noteE x) = 0)) = false) => ?_)
    ·
      have hc6 := of_decide_eq_true hb6
      refine WL.yes rfl rfl rfl hb6 rfl (op_loadS (vs := [_, _, _, _]) rfl (H5.cells (i := 0) rfl rfl) Try.underlying30 rfl Fa.I30 rfl ?_)
      refine WL.yes rfl rfl rfl hb6 rfl (op_loadS (vs := [_, _, _]) rfl (H5.cells (i := 1) rfl rfl) Try.underlying36 rfl Fa.I36 rfl ?_)
      refine WL.yes rfl rfl rfl hb6 rfl (op_callF Fa.C31 rfl ((dcovers_ok m _ _ x _ (H5.arr hE) (H5.arr hP) (by omega) (by omega)).mono (fun e w7 hq => ?_)))
      obtain ⟨rfl, hf7⟩ := hq
      refine ⟨_, rfl, ?_⟩
      have H7 := H5.fr' hf7
      refine WL.op rfl rfl (op_pickT rfl hb6 rfl ?_)
      refine WL.op rfl rfl (op_assign rfl ?_)
      refine WL.nil ?_
      refine WQ.next ?_
      refine WC.ret ?_
      refine WQ.out (.tmp rfl .nil) ?_
      exact ⟨by (rw [rNote, ← mfE_dec, ← noteE_dec, hb4, hb6]) <;> rfl, H7.fr⟩
    ·
      have hc6 := of_decide_eq_false hb6
      refine WL.no rfl rfl rfl hb6 rfl ?_
      refine WL.no rfl rfl rfl hb6 rfl ?_
      refine WL.no rfl rfl rfl hb6 rfl ?_
      refine WL.op rfl rfl (op_pickF rfl hb6 rfl ?_)
      refine WL.op rfl rfl (op_assign rfl ?_)
      refine WL.nil ?_
      refine WQ.next ?_
      refine WC.ret ?_
      refine WQ.out (.tmp rfl .nil) ?_
      exact ⟨by (rw [rNote, ← mfE_dec, ← noteE_dec, hb4, hb6]) <;> rfl, H5.fr⟩
  ·
    have hc4 := of_decide_eq_false hb4
    refine WL.no rfl rfl rfl hb4 rfl ?_
    refine WL.no rfl rfl rfl hb4 rfl ?_
    refine WL.no rfl rfl rfl hb4 rfl ?_
    refine WL.op rfl rfl (op_pickF rfl hb4 rfl ?_)
    refine WL.op rfl rfl (op_move rfl ?_)
    refine WL.no rfl rfl rfl rfl rfl ?_
    refine WL.no rfl rfl rfl rfl rfl ?_
    refine WL.no rfl rfl rfl rfl rfl ?_
    refine WL.op rfl rfl (op_pickF rfl rfl rfl ?_)
    refine WL.op rfl rfl (op_assign rfl ?_)
    refine WL.nil ?_
    refine WQ.next ?_
    refine WC.ret ?_
    refine WQ.out (.tmp rfl .nil) ?_
    exact ⟨by (rw [rNote, ← mfE_dec, ← noteE_dec, hb4]) <;> rfl, H3.fr⟩
set_option maxRecDepth 100000 in
theorem dcov_ok (m m' : Mf) (ev pv ev' pv' : Value) (w : World) (hE : Arr w ev 2 m.xs.length (List.flatMap xtc m.xs)) (hP : Arr w pv 1 m.ps.length (List.map vU16 m.ps)) (hF : Arr w ev' 2 m'.xs.length (List.flatMap xtc m'.xs)) (hQ : Arr w pv' 1 m'.ps.length (List.map vU16 m'.ps)) (hn : m.xs.length < 2 ^ 42) (hm : m.ps.length < 2 ^ 42) (hn' : m'.xs.length < 2 ^ 42) (hm' : m'.ps.length < 2 ^ 42) :
    Calls Try.prog 14 #[(.agg #[(vU32 m.pg), ev, pv, (.bool m.con)]), (.agg #[(vU32 m'.pg), ev', pv', (.bool m'.con)])] w (fun e w' => e = .returned (.bool (covM m m')) ∧ Fr [] w w') := by
  refine enter (args := [(.agg #[(vU32 m.pg), ev, pv, (.bool m.con)]), (.agg #[(vU32 m'.pg), ev', pv', (.bool m'.con)])]) Try.func14 rfl rfl ?_
  have H0 : Own [] w w [] := Own.start w []
  refine WC.seq ?_
  refine WC.region ?_
  refine WL.op rfl rfl (op_box H0 rfl rfl (fun b1 w1 H1 => ?_))
  refine WL.op rfl rfl (op_box H1 rfl rfl (fun b2 w2 H2 => ?_))
  refine WL.op rfl rfl (op_assign rfl ?_)
  refine WL.nil ?_
  refine WQ.next ?_
  refine WC.seq ?_
  refine WC.region ?_
  refine WL.op rfl rfl (op_loadS (vs := [_, _, _, _]) rfl (H2.cells (i := 0) rfl rfl) Try.underlying30 rfl Fa.I30 rfl ?_)
  refine WL.op rfl rfl (op_callF Fa.C15 rfl ((dcheck_ok m.pg _ _ m.xs m.ps m.con _ (H2.arr hE) (H2.arr hP) (by omega) (by omega)).mono (fun e w3 hq => ?_)))
  obtain ⟨rfl, hf3⟩ := hq
  refine ⟨_, rfl, ?_⟩
  have H3 := H2.fr' hf3
  refine WL.op rfl rfl (op_eqlN (b := 0) rfl rfl ?_)
  refine WL.op rfl rfl (op_move rfl ?_)
  refine WL.split (t := 8) rfl (fun (hb4 : (decide ((mfE m.pg m.xs m.ps) = 0)) = true) => ?_) (fun (hb4 : (decide ((mfE m.pg m.xs m.ps) = 0)) = false) => ?_)
  ·
    have hc4 := of_decide_eq_true hb4
    refine WL.yes rfl rfl rfl hb4 rfl (op_loadS (vs := [_, _, _, _]) rfl (H3.cells (i := 1) rfl rfl) Try.underlying30 rfl Fa.I30 rfl ?_)
    refine WL.yes rfl rfl rfl hb4 rfl (op_callF Fa.C15 rfl ((dcheck_ok m'.pg _ _ m'.xs m'.ps m'.con _ (H3.arr hF) (H3.arr hQ) (by omega) (by omega)).mono (fun e w5 hq => ?_)))
    obtain ⟨rfl, hf5⟩ := hq
    refine ⟨_, rfl, ?_⟩
    have H5 := H3.fr' hf5
    refine WL.yes rfl rfl rfl hb4 rfl (op_eqlN (b := 0) rfl rfl ?_)
    refine WL.op rfl rfl (op_pickT rfl hb4 rfl ?_)
    refine WL.op rfl rfl (op_move rfl ?_)
    refine WL.split (t := 13) rfl (fun (hb6 : (decide ((mfE m'.pg m'.xs m'.ps) = 0)) = true) => ?_) (fun (hb6 : (decide ((mfE m'.pg m'.xs m'.ps) = 0)) = false) => ?_)
    ·
      have hc6 := of_decide_eq_true hb6
      refine WL.yes rfl rfl rfl hb6 rfl (op_loadS (vs := [_, _, _, _]) rfl (H5.cells (i := 1) rfl rfl) Try.underlying30 rfl Fa.I30 rfl ?_)
      refine WL.yes rfl rfl rfl hb6 rfl (op_callF Fa.C22 rfl ((dnotes_ok m' _ _ _ (H5.arr hF) (H5.arr hQ) (by omega) (by omega)).mono (fun e w7 hq => ?_)))
      obtain ⟨v7, rfl, hq7⟩ := hq
      refine ⟨_, rfl, ?_⟩
      have H7 : Own [] w w7 [.blk b1 [(vU32 m.pg), ev, pv, (.bool m.con)] 30, .blk b2 [(vU32 m'.pg), ev', pv', (.bool m'.con)] 30, .row v7 36 3 (notesM m').length (List.flatMap ntc (notesM m'))] := H5.splice [] [] [.row v7 36 3 (notesM m').length (List.flatMap ntc (notesM m'))] rfl rfl hq7 (Fits.solid True.intro Fits.nil)
      refine WL.yes rfl rfl rfl hb6 rfl (op_makeFunc rfl rfl ?_)
      refine WL.yes rfl rfl rfl hb6 rfl (op_callF Fa.C29 rfl ((conN2_ok _ (notesM m') m _ _ b1 _ (H7.arrR (i := 2) rfl) (H7.cellsAt (i := 0) rfl) (H7.arr hE) (H7.arr hP) (by omega) (by omega) (by have h := nP_len (m := m') m'.ps.length; have h2 := notesM_len (m := m'); omega)).mono (fun e w8 hq => ?_)))
      obtain ⟨rfl, hf8⟩ := hq
      refine ⟨_, rfl, ?_⟩
      have H8 := H7.fr' hf8
      refine WL.yes rfl rfl rfl hb6 rfl (op_not rfl ?_)
      refine WL.op rfl rfl (op_pickT rfl hb6 rfl ?_)
      refine WL.op rfl rfl (op_assign rfl ?_)
      refine WL.nil ?_
      refine WQ.next ?_
      refine WC.ret ?_
      refine WQ.out (.tmp rfl .nil) ?_
      exact ⟨by (rw [covM, ← mfE_dec (m := m), ← mfE_dec (m := m'), hb4, hb6]) <;> rfl, H8.fr⟩
    ·
      have hc6 := of_decide_eq_false hb6
      refine WL.no rfl rfl rfl hb6 rfl ?_
      refine WL.no rfl rfl rfl hb6 rfl ?_
      refine WL.no rfl rfl rfl hb6 rfl ?_
      refine WL.no rfl rfl rfl hb6 rfl ?_
      refine WL.no rfl rfl rfl hb6 rfl ?_
      refine WL.op rfl rfl (op_pickF rfl hb6 rfl ?_)
      refine WL.op rfl rfl (op_assign rfl ?_)
      refine WL.nil ?_
      refine WQ.next ?_
      refine WC.ret ?_
      refine WQ.out (.tmp rfl .nil) ?_
      exact ⟨by (rw [covM, ← mfE_dec (m := m), ← mfE_dec (m := m'), hb4, hb6]) <;> rfl, H5.fr⟩
  ·
    have hc4 := of_decide_eq_false hb4
    refine WL.no rfl rfl rfl hb4 rfl ?_
    refine WL.no rfl rfl rfl hb4 rfl ?_
    refine WL.no rfl rfl rfl hb4 rfl ?_
    refine WL.op rfl rfl (op_pickF rfl hb4 rfl ?_)
    refine WL.op rfl rfl (op_move rfl ?_)
    refine WL.no rfl rfl rfl rfl rfl ?_
    refine WL.no rfl rfl rfl rfl rfl ?_
    refine WL.no rfl rfl rfl rfl rfl ?_
    refine WL.no rfl rfl rfl rfl rfl ?_
    refine WL.no rfl rfl rfl rfl rfl ?_
    refine WL.op rfl rfl (op_pickF rfl rfl rfl ?_)
    refine WL.op rfl rfl (op_assign rfl ?_)
    refine WL.nil ?_
    refine WQ.next ?_
    refine WC.ret ?_
    refine WQ.out (.tmp rfl .nil) ?_
    exact ⟨by (rw [covM, ← mfE_dec (m := m), ← mfE_dec (m := m'), hb4]) <;> rfl, H3.fr⟩
set_option maxHeartbeats 1000000 in
set_option maxRecDepth 100000 in
theorem dun_ok (lv : Value) (ms : List Mm) (w : World) (hA : Arr w lv 4 ms.length (List.flatMap mmc ms)) (hI : MmD.list.ok w ms) (hl : ms.length ≤ 600) (hfx : ∀ x ∈ ms, x.xs.length ≤ 2 ^ 46) (hfp : ∀ x ∈ ms, x.ps.length ≤ 2 ^ 46) :
    Calls Try.prog 11 #[lv] w (fun e w' => ∃ v u, e = .returned (.tuple #[.agg #[vU32 (unM (ms.map Mm.f)).pg, v, u, .bool (unM (ms.map Mm.f)).con], vN (unE (ms.map Mm.f))]) ∧ Own [] w w' [.row v 50 2 ((unM (ms.map Mm.f)).xs).length (List.flatMap xtc (unM (ms.map Mm.f)).xs), .row u 51 1 ((unM (ms.map Mm.f)).ps).length (List.map vU16 (unM (ms.map Mm.f)).ps)]) := by
  refine enter (args := [lv]) Try.func11 rfl rfl ?_
  have H0 : Own [] w w [] := Own.start w []
  refine WC.seq ?_
  refine WC.region ?_
  refine WL.op rfl rfl (op_alloc H0 Fa.I30 (fun b1 w1 H1 => ?_))
  refine WL.op rfl rfl (op_assign rfl ?_)
  refine WL.nil ?_
  refine WQ.next ?_
  refine WC.seq ?_
  refine WC.region ?_
  refine WL.op rfl rfl (op_assign rfl ?_)
  have H2 := H1.nilRow 36 3
  refine WL.nil ?_
  refine WQ.next ?_
  refine WC.seq ?_
  refine WC.seq ?_
  refine WC.region ?_
  refine WL.op rfl rfl (op_move rfl ?_)
  refine WL.op rfl rfl (op_lenA Try.underlying23 rfl (H2.arr hA) ?_)
  refine WL.op rfl rfl (op_move rfl ?_)
  refine WL.nil ?_
  refine WQ.next ?_
  refine WC.block ?_
  refine WC.loop (α := Nat × Value) (fun (k, v) => [(0, lv), (2, (ptr b1 0)), (4, v), (8, lv), (9, (vN ms.length)), (10, (vN k))]) (fun (k, v) w' => (k ≤ ms.length ∧ (∀ j, j < k → (ms.getD j Mm.zero).f.may = true)) ∧ Own [] w w' [.blk b1 [(vU32 0), (.slice none 0 0), (.slice none 0 0), (.bool false)] 30, .row v 36 3 (unL ms k).length (List.flatMap ntc (unL ms k))]) (fun (k, v) => ms.length - k) (0, .slice none 0 0) ⟨⟨Nat.zero_le _, fun j h => by omega⟩, H2⟩ ⟨rfl, rfl, rfl, rfl, rfl, rfl, trivial⟩ ?_
  rintro ⟨k, v⟩ w3 ⟨⟨hk1, hok⟩, H3⟩
  show WC _ _ _ _ _ [(0, lv), (2, (ptr b1 0)), (4, v), (8, lv), (9, (vN ms.length)), (10, (vN k))] _
  have hul := unL_len hok
  have hgx := get_prop (p := fun x : Mm => x.xs.length ≤ 2 ^ 46) (d := Mm.zero) hfx (Nat.zero_le _) k
  have hgp := get_prop (p := fun x : Mm => x.ps.length ≤ 2 ^ 46) (d := Mm.zero) hfp (Nat.zero_le _) k
  refine WC.seq ?_
  refine WC.region ?_
  refine WL.op rfl rfl (op_lssN rfl rfl ?_)
  refine WL.nil ?_
  refine WQ.next ?_
  refine WC.seq ?_
  refine WC.cond rfl (fun (hb4 : (decide (k < ms.length)) = true) => ?_) (fun (hb4 : (decide (k < ms.length)) = false) => ?_)
  ·
    have hc4 := of_decide_eq_true hb4
    refine WC.skip ?_
    refine WQ.next ?_
    refine WC.seq ?_
    refine WC.block ?_
    refine WC.seq ?_
    refine WC.region ?_
    refine WL.op rfl rfl (op_indexAddr Try.underlying23 Fa.I30 rfl (H3.arr hA) rfl (by omega) ?_)
    refine WL.op rfl rfl (op_loadSP (vs := mmc (ms.getD k Mm.zero)) rfl (Arr.atsF (H3.arr hA) (fun _ => rfl) (by decide) Mm.zero (by omega)) Try.underlying30 rfl Fa.I30 rfl ?_)
    refine WL.op rfl rfl (op_alloc H3 Fa.I30 (fun b5 w5 H5 => ?_))
    refine WL.op rfl rfl (op_storeBW (i := 2) H5 rfl rfl rfl rfl (one_cons rfl (one_cons (Arr.one ((MmD_xs (Deep.getD MmD (MmD.list.fr0 hI H5.fr) Mm.zero (MmD_zero _) k)))) (one_cons (Arr.one ((MmD_ps (Deep.getD MmD (MmD.list.fr0 hI H5.fr) Mm.zero (MmD_zero _) k)))) (one_cons rfl one_nil)))) Fa.I30 (fun w6 H6 => ?_))
    refine WL.nil ?_
    refine WQ.next ?_
    refine WC.seq ?_
    refine WC.seq ?_
    refine WC.region ?_
    refine WL.op rfl rfl (op_loadS (vs := [_, _, _, _]) rfl (H6.cells (i := 2) rfl rfl) Try.underlying30 rfl Fa.I30 rfl ?_)
    refine WL.op rfl rfl (op_callF Fa.C15 rfl ((dcheck_ok ((ms.getD k Mm.zero).pg) _ _ ((ms.getD k Mm.zero).xs) ((ms.getD k Mm.zero).ps) ((ms.getD k Mm.zero).con) _ ((MmD_xs (Deep.getD MmD (MmD.list.fr0 hI H6.fr) Mm.zero (MmD_zero _) k))) ((MmD_ps (Deep.getD MmD (MmD.list.fr0 hI H6.fr) Mm.zero (MmD_zero _) k))) (by omega) (by omega)).mono (fun e w7 hq => ?_)))
    obtain ⟨rfl, hf7⟩ := hq
    refine ⟨_, rfl, ?_⟩
    have H7 := H6.fr' hf7
    refine WL.op rfl rfl (op_assign rfl ?_)
    refine WL.nil ?_
    refine WQ.next ?_
    refine WC.seq ?_
    refine WC.region ?_
    refine WL.op rfl rfl (op_move rfl ?_)
    refine WL.op rfl rfl (op_neqN (b := 0) rfl rfl ?_)
    refine WL.nil ?_
    refine WQ.next ?_
    refine WC.cond rfl (fun (hb8 : (decide ((mfE ((ms.getD k Mm.zero).pg) ((ms.getD k Mm.zero).xs) ((ms.getD k Mm.zero).ps)) ≠ 0)) = true) => ?_) (fun (hb8 : (decide ((mfE ((ms.getD k Mm.zero).pg) ((ms.getD k Mm.zero).xs) ((ms.getD k Mm.zero).ps)) ≠ 0)) = false) => ?_)
    ·
      have hc8 := of_decide_eq_true hb8
      refine WC.seq ?_
      refine WC.region ?_
      refine WL.op rfl rfl (op_build (cs := [_, _, _, _]) Fa.I30 Fa.PL30 rfl rfl ?_)
      refine WL.op rfl rfl (op_move rfl ?_)
      refine WL.op rfl rfl (op_storeBW (i := 0) H7 rfl rfl rfl rfl rfl Fa.I30 (fun w9 H9 => ?_))
      refine WL.op rfl rfl (op_assign rfl ?_)
      refine WL.nil ?_
      refine WQ.next ?_
      refine WC.ret ?_
      refine WQ.thenRet ?_
      refine WQ.inRet ?_
      refine WQ.thenRet ?_
      refine WQ.thenRet ?_
      refine WQ.inRet ?_
      refine WQ.thenRet ?_
      refine WQ.out (.cell rfl (run_loadVarS (vs := [_, _, _, _]) (H9.cells (i := 0) rfl rfl) Try.underlying30 rfl Fa.I30 rfl) (.tmp rfl .nil)) ?_
      have hnm := mfE_not (m := (ms.getD k Mm.zero).f) hb8
      have hub := un_bad (k := k) (by omega) hnm.1
      rw [hub.1, hub.2, show mfE (ms.getD k Mm.zero).pg (ms.getD k Mm.zero).xs (ms.getD k Mm.zero).ps = 2 from hnm.2]
      exact ⟨_, _, rfl, ((H9.nilRow 50 2).nilRow 51 1).sel [3, 4] rfl rfl⟩
    ·
      have hc8 := of_decide_eq_false hb8
      refine WC.skip ?_
      refine WQ.next ?_
      refine WC.region ?_
      refine WL.op rfl rfl (op_move rfl ?_)
      have hml : (ms.getD k Mm.zero).f.xs.length ≤ 16 ∧ (ms.getD k Mm.zero).f.ps.length ≤ 16 := may_len (m := (ms.getD k Mm.zero).f) (mfE_may (m := (ms.getD k Mm.zero).f) hb8)
      have hnl : (notesM (ms.getD k Mm.zero).f).length ≤ 34 := by rw [notes_may (mfE_may (m := (ms.getD k Mm.zero).f) hb8)]; exact notes_len (mfE_may (m := (ms.getD k Mm.zero).f) hb8)
      refine WL.op rfl rfl (op_loadS (vs := [_, _, _, _]) rfl (H7.cells (i := 2) rfl rfl) Try.underlying30 rfl Fa.I30 rfl ?_)
      refine WL.op rfl rfl (op_callF Fa.C22 rfl ((dnotes_ok (ms.getD k Mm.zero).f _ _ _ ((MmD_xs (Deep.getD MmD (MmD.list.fr0 hI H7.fr) Mm.zero (MmD_zero _) k))) ((MmD_ps (Deep.getD MmD (MmD.list.fr0 hI H7.fr) Mm.zero (MmD_zero _) k))) (by omega) (by omega)).mono (fun e w10 hq => ?_)))
      obtain ⟨v10, rfl, hq10⟩ := hq
      refine ⟨_, rfl, ?_⟩
      have H10 : Own [] w w10 [.blk b1 [(vU32 0), (.slice none 0 0), (.slice none 0 0), (.bool false)] 30, .row v 36 3 (unL ms k).length (List.flatMap ntc (unL ms k)), .blk b5 [(vU32 (ms.getD k Mm.zero).pg), (ms.getD k Mm.zero).ev, (ms.getD k Mm.zero).pv, (.bool (ms.getD k Mm.zero).con)] 30, .row v10 36 3 (notesM (ms.getD k Mm.zero).f).length (List.flatMap ntc (notesM (ms.getD k Mm.zero).f))] := H7.splice [] [] [.row v10 36 3 (notesM (ms.getD k Mm.zero).f).length (List.flatMap ntc (notesM (ms.getD k Mm.zero).f))] rfl rfl hq10 (Fits.solid True.intro Fits.nil)
      refine WL.op rfl rfl (op_appendF (f := ntc) (l := (unL ms k)) (l' := (notesM (ms.getD k Mm.zero).f)) (i := 1) H10 Try.underlying22 Fa.I36 rfl rfl rfl rfl (Src.ofArr Try.underlying22 (H10.arrR (i := 3) rfl)) (one_flat (fun _ => by simp [ntc, Value.oneCell'])) (by omega) (by omega) (fun v11 w11 H11 => ?_))
      refine WL.op rfl rfl (op_assign rfl ?_)
      refine WL.nil ?_
      refine WQ.inNormal ?_
      refine WQ.next ?_
      refine WC.region ?_
      refine WL.op rfl rfl (op_addN (b := 1) rfl rfl (by omega) ?_)
      refine WL.op rfl rfl (op_move rfl ?_)
      refine WL.nil ?_
      have hmy := (mfE_may (m := (ms.getD k Mm.zero).f) hb8)
      exact WQ.round (k + 1, v11) ⟨⟨by omega, allPrev hok hmy⟩, (Own.rowEqF (i := 1) (f := ntc) (show Own [] w w11 [.blk b1 [(vU32 0), (.slice none 0 0), (.slice none 0 0), (.bool false)] 30, .row v11 36 3 ((unL ms k).length + (notesM (ms.getD k Mm.zero).f).length) (List.flatMap ntc ((unL ms k) ++ (notesM (ms.getD k Mm.zero).f)))] from (H11.take 2)) rfl (by rw [notes_may hmy]; try rfl) (by rw [notes_may hmy, unL, List.length_append]; try rfl))⟩ ⟨rfl, rfl, rfl, rfl, rfl, rfl, trivial⟩ (by show ms.length - (k + 1) < ms.length - k; omega)
  ·
    have hc4 := of_decide_eq_false hb4
    refine WC.exit ?_
    refine WQ.thenExit ?_
    refine WQ.thenExit ?_
    refine WQ.inHere ?_
    refine WQ.next ?_
    refine WC.seq ?_
    refine WC.region ?_
    refine WL.op rfl rfl (op_move rfl ?_)
    refine WL.op rfl rfl (op_callF Fa.C9 rfl ((dof_ok _ (unL ms k) _ (H3.arrR (i := 1) rfl) (by omega)).mono (fun e w12 hq => ?_)))
    obtain ⟨v12, u12, rfl, hq12⟩ := hq
    refine ⟨_, rfl, ?_⟩
    have H12 : Own [] w w12 [.blk b1 [(vU32 0), (.slice none 0 0), (.slice none 0 0), (.bool false)] 30, .row v 36 3 (unL ms k).length (List.flatMap ntc (unL ms k)), .row v12 50 2 ((ofM (unL ms k)).xs).length (List.flatMap xtc (ofM (unL ms k)).xs), .row u12 51 1 ((ofM (unL ms k)).ps).length (List.map vU16 (ofM (unL ms k)).ps)] := H3.splice [] [] [.row v12 50 2 ((ofM (unL ms k)).xs).length (List.flatMap xtc (ofM (unL ms k)).xs), .row u12 51 1 ((ofM (unL ms k)).ps).length (List.map vU16 (ofM (unL ms k)).ps)] rfl rfl hq12 (Fits.solid True.intro (Fits.solid True.intro Fits.nil))
    refine WL.op rfl rfl (op_extract rfl rfl ?_)
    refine WL.op rfl rfl (op_extract rfl rfl ?_)
    refine WL.op rfl rfl (op_storeBW (i := 0) H12 rfl rfl rfl rfl (one_cons rfl (one_cons (Arr.one (H12.arrR (i := 2) rfl)) (one_cons (Arr.one (H12.arrR (i := 3) rfl)) (one_cons rfl one_nil)))) Fa.I30 (fun w13 H13 => ?_))
    refine WL.op rfl rfl (op_assign rfl ?_)
    refine WL.nil ?_
    refine WQ.next ?_
    refine WC.ret ?_
    refine WQ.out (.cell rfl (run_loadVarS (vs := [_, _, _, _]) (H13.cells (i := 0) rfl rfl) Try.underlying30 rfl Fa.I30 rfl) (.tmp rfl .nil)) ?_
    have h := (show Own [] w w13 [.blk b1 [(vU32 (ofM (unL ms k)).pg), v12, u12, (.bool (ofM (unL ms k)).con)] 30, .row v 36 3 (unL ms k).length (List.flatMap ntc (unL ms k)), .row v12 50 2 ((ofM (unL ms k)).xs).length (List.flatMap xtc (ofM (unL ms k)).xs), .row u12 51 1 ((ofM (unL ms k)).ps).length (List.map vU16 (ofM (unL ms k)).ps)] from H13)
    obtain rfl : k = ms.length := by omega
    have hue := un_end (fun j hj => hok j (by omega))
    rw [hue.1, hue.2]
    exact ⟨_, _, rfl, h.sel [2, 3] rfl rfl⟩
set_option maxRecDepth 100000 in
theorem large11_ok (lv : Value) (ms : List Mm) (w : World) (hA : Arr w lv 4 ms.length (List.flatMap mmc ms)) (hI : MmD.list.ok w ms) (hl : ms.length ≤ 2 ^ 47) (hfx : ∀ x ∈ ms, x.xs.length ≤ 2 ^ 46) (hfp : ∀ x ∈ ms, x.ps.length ≤ 2 ^ 46) :
    Calls Try.prog 7 #[lv] w (fun e w' => e = .returned (.bool (large11 ms)) ∧ Fr [] w w') := by
  refine enter (args := [lv]) Try.func7 rfl rfl ?_
  have H0 : Own [] w w [] := Own.start w []
  refine WC.seq ?_
  refine WC.region ?_
  refine WL.op rfl rfl (op_assign rfl ?_)
  refine WL.nil ?_
  refine WQ.next ?_
  refine WC.seq ?_
  refine WC.region ?_
  refine WL.op rfl rfl (op_move rfl ?_)
  refine WL.op rfl rfl (op_lenA Try.underlying23 rfl (H0.arr hA) ?_)
  refine WL.op rfl rfl (op_assign rfl ?_)
  refine WL.nil ?_
  refine WQ.next ?_
  refine WC.seq ?_
  refine WC.seq ?_
  refine WC.region ?_
  refine WL.op rfl rfl (op_assign rfl ?_)
  refine WL.nil ?_
  refine WQ.next ?_
  refine WC.block ?_
  refine WC.loop (α := Nat) (fun k => [(0, lv), (3, (vN (largeN ms k))), (4, (vN k))]) (fun k w' => (k ≤ min ms.length 100) ∧ Own [] w w' []) (fun k => ms.length - k) 0 ⟨(Nat.zero_le _), H0⟩ ⟨rfl, rfl, rfl, trivial⟩ ?_
  rintro k w1 ⟨hk1, H1⟩
  show WC _ _ _ _ _ [(0, lv), (3, (vN (largeN ms k))), (4, (vN k))] _
  have hln := largeN_le hfx hfp k
  have hgx := get_prop (p := fun x : Mm => x.xs.length ≤ 2 ^ 46) (d := Mm.zero) hfx (Nat.zero_le _) k
  have hgp := get_prop (p := fun x : Mm => x.ps.length ≤ 2 ^ 46) (d := Mm.zero) hfp (Nat.zero_le _) k
  refine WC.seq ?_
  refine WC.seq ?_
  refine WC.region ?_
  refine WL.op rfl rfl (op_move rfl ?_)
  refine WL.op rfl rfl (op_move rfl ?_)
  refine WL.op rfl rfl (op_lenA Try.underlying23 rfl (H1.arr hA) ?_)
  refine WL.op rfl rfl (op_lssN rfl rfl ?_)
  refine WL.op rfl rfl (op_move rfl ?_)
  refine WL.split (t := 11) rfl (fun (hb2 : (decide (k < ms.length)) = true) => ?_) (fun (hb2 : (decide (k < ms.length)) = false) => ?_)
  ·
    have hc2 := of_decide_eq_true hb2
    refine WL.yes rfl rfl rfl hb2 rfl (op_move rfl ?_)
    refine WL.yes rfl rfl rfl hb2 rfl (op_lssN (b := 100) rfl rfl ?_)
    refine WL.op rfl rfl (op_pickT rfl hb2 rfl ?_)
    refine WL.nil ?_
    refine WQ.next ?_
    refine WC.cond rfl (fun (hb3 : (decide (k < 100)) = true) => ?_) (fun (hb3 : (decide (k < 100)) = false) => ?_)
    ·
      have hc3 := of_decide_eq_true hb3
      refine WC.skip ?_
      refine WQ.next ?_
      refine WC.seq ?_
      refine WC.block ?_
      refine WC.draw 16 Fa.M H1 (HW.op rfl (fun w1 H1 => op_move rfl ⟨rfl, Fr.refl _ _⟩) (HW.op rfl (fun w1 H1 => op_move rfl ⟨rfl, Fr.refl _ _⟩) (HW.op rfl (fun w1 H1 => op_move rfl ⟨rfl, Fr.refl _ _⟩) (HW.op rfl (fun w1 H1 => op_indexAddr Try.underlying23 Fa.I30 rfl (H1.arr hA) rfl (by omega) ⟨rfl, Fr.refl _ _⟩) (HW.op rfl (fun w1 H1 => op_fieldAddrS rfl Fa.F30_1 ⟨rfl, Fr.refl _ _⟩) (HW.op rfl (fun w1 H1 => op_load rfl (Arr.atF (k := 1) (H1.arr hA) (fun _ => rfl) (by decide) Mm.zero (by omega) rfl) Try.underlying27 rfl ⟨rfl, Fr.refl _ _⟩) (HW.op rfl (fun w1 H1 => op_lenA Try.underlying27 rfl ((MmD_xs (Deep.getD MmD (MmD.list.fr0 hI H1.fr) Mm.zero (MmD_zero _) k))) ⟨rfl, Fr.refl _ _⟩) (HW.op rfl (fun w1 H1 => op_addN rfl rfl (by omega) ⟨rfl, Fr.refl _ _⟩) (HW.op rfl (fun w1 H1 => op_move rfl ⟨rfl, Fr.refl _ _⟩) (HW.op rfl (fun w1 H1 => op_move rfl ⟨rfl, Fr.refl _ _⟩) (HW.op rfl (fun w1 H1 => op_indexAddr Try.underlying23 Fa.I30 rfl (H1.arr hA) rfl (by omega) ⟨rfl, Fr.refl _ _⟩) (HW.op rfl (fun w1 H1 => op_fieldAddrS rfl Fa.F30_2 ⟨rfl, Fr.refl _ _⟩) (HW.op rfl (fun w1 H1 => op_load rfl (Arr.atF (k := 2) (H1.arr hA) (fun _ => rfl) (by decide) Mm.zero (by omega) rfl) Try.underlying28 rfl ⟨rfl, Fr.refl _ _⟩) (HW.op rfl (fun w1 H1 => op_lenA Try.underlying28 rfl ((MmD_ps (Deep.getD MmD (MmD.list.fr0 hI H1.fr) Mm.zero (MmD_zero _) k))) ⟨rfl, Fr.refl _ _⟩) (HW.op rfl (fun w1 H1 => op_addN rfl rfl (by omega) ⟨rfl, Fr.refl _ _⟩) (HW.op rfl (fun w1 H1 => op_assign rfl ⟨rfl, Fr.refl _ _⟩)  HW.nil)))))))))))))))) (by kernel_rfl) ?_
      intro β4 w4 H4
      refine WL.nil ?_
      refine WQ.inNormal ?_
      refine WQ.next ?_
      refine WC.region ?_
      refine WL.op rfl rfl (op_move rfl ?_)
      refine WL.op rfl rfl (op_addN (b := 1) rfl rfl (by omega) ?_)
      refine WL.op rfl rfl (op_assign rfl ?_)
      refine WL.nil ?_
      exact WQ.round (k + 1) ⟨(by omega), H4⟩ ⟨rfl, rfl, rfl, trivial⟩ (by omega)
    ·
      have hc3 := of_decide_eq_false hb3
      refine WC.exit ?_
      refine WQ.thenExit ?_
      refine WQ.thenExit ?_
      refine WQ.inHere ?_
      refine WQ.next ?_
      refine WC.seq ?_
      refine WC.region ?_
      refine WL.op rfl rfl (op_move rfl ?_)
      refine WL.op rfl rfl (op_gtrN (b := 600) rfl rfl ?_)
      refine WL.op rfl rfl (op_assign rfl ?_)
      refine WL.nil ?_
      refine WQ.next ?_
      refine WC.ret ?_
      refine WQ.out (.tmp rfl .nil) ?_
      exact ⟨by rw [large11, show min ms.length 100 = k by omega]; rfl, H1.fr⟩
  ·
    have hc2 := of_decide_eq_false hb2
    refine WL.no rfl rfl rfl hb2 rfl ?_
    refine WL.no rfl rfl rfl hb2 rfl ?_
    refine WL.op rfl rfl (op_pickF rfl hb2 rfl ?_)
    refine WL.nil ?_
    refine WQ.next ?_
    refine WC.no rfl rfl ?_
    refine WC.exit ?_
    refine WQ.thenExit ?_
    refine WQ.thenExit ?_
    refine WQ.inHere ?_
    refine WQ.next ?_
    refine WC.seq ?_
    refine WC.region ?_
    refine WL.op rfl rfl (op_move rfl ?_)
    refine WL.op rfl rfl (op_gtrN (b := 600) rfl rfl ?_)
    refine WL.op rfl rfl (op_assign rfl ?_)
    refine WL.nil ?_
    refine WQ.next ?_
    refine WC.ret ?_
    refine WQ.out (.tmp rfl .nil) ?_
    exact ⟨by rw [large11, show min ms.length 100 = k by omega]; rfl, H1.fr⟩
end Go.Proofs.Ytnngbnenekjffaa
/-! from EDem9 -/
namespace Go.Proofs.Ytnngbnenekjffaa
open Go.Owl Go.Spec
set_option maxHeartbeats 1000000 in
set_option maxRecDepth 100000 in
theorem alive11_ok  (w : World) :
    Calls Try.prog 8 #[] w (fun e w' => e = .returned (.bool true) ∧ Fr [] w w') := by
  refine enter (args := []) Try.func8 rfl rfl ?_
  have H0 : Own [] w w [] := Own.start w []
  refine WC.seq ?_
  refine WC.region ?_
  refine WL.op rfl rfl (op_assign rfl ?_)
  refine WL.nil ?_
  refine WQ.next ?_
  refine WC.seq ?_
  refine WC.region ?_
  refine WL.op rfl rfl (op_build (cs := [_, _, _]) Fa.I36 Fa.PL36 rfl rfl ?_)
  refine WL.op rfl rfl (op_build (cs := [_, _, _]) Fa.I36 Fa.PL36 rfl rfl ?_)
  refine WL.op rfl rfl (op_build (cs := [_, _, _]) Fa.I36 Fa.PL36 rfl rfl ?_)
  refine WL.op rfl rfl (op_build (cs := [_, _, _]) Fa.I36 Fa.PL36 rfl rfl ?_)
  refine WL.op rfl rfl (op_buildSlice (cs := [_, _, _, _, _, _, _, _, _, _, _, _]) H0 Try.underlying22 Fa.I36 rfl rfl rfl rfl (by decide) (by decide) (fun b1 w1 H1 => ?_))
  refine WL.op rfl rfl (op_callF Fa.C9 rfl ((dof_ok _ ([(Nt.mk 2 2 3), (Nt.mk 3 9 0), (Nt.mk 2 2 5), (Nt.mk 3 7 0)]) _ (H1.arrR (i := 0) rfl) (by decide)).mono (fun e w2 hq => ?_)))
  obtain ⟨v2, u2, rfl, hq2⟩ := hq
  refine ⟨_, rfl, ?_⟩
  have H2 : Own [] w w2 [.row (.slice (some ⟨b1, 0, none⟩) 4 4) 36 3 4 (List.flatMap ntc [(Nt.mk 2 2 3), (Nt.mk 3 9 0), (Nt.mk 2 2 5), (Nt.mk 3 7 0)]), .row v2 50 2 ((ofM ([(Nt.mk 2 2 3), (Nt.mk 3 9 0), (Nt.mk 2 2 5), (Nt.mk 3 7 0)])).xs).length (List.flatMap xtc (ofM ([(Nt.mk 2 2 3), (Nt.mk 3 9 0), (Nt.mk 2 2 5), (Nt.mk 3 7 0)])).xs), .row u2 51 1 ((ofM ([(Nt.mk 2 2 3), (Nt.mk 3 9 0), (Nt.mk 2 2 5), (Nt.mk 3 7 0)])).ps).length (List.map vU16 (ofM ([(Nt.mk 2 2 3), (Nt.mk 3 9 0), (Nt.mk 2 2 5), (Nt.mk 3 7 0)])).ps)] := H1.splice [] [] [.row v2 50 2 ((ofM ([(Nt.mk 2 2 3), (Nt.mk 3 9 0), (Nt.mk 2 2 5), (Nt.mk 3 7 0)])).xs).length (List.flatMap xtc (ofM ([(Nt.mk 2 2 3), (Nt.mk 3 9 0), (Nt.mk 2 2 5), (Nt.mk 3 7 0)])).xs), .row u2 51 1 ((ofM ([(Nt.mk 2 2 3), (Nt.mk 3 9 0), (Nt.mk 2 2 5), (Nt.mk 3 7 0)])).ps).length (List.map vU16 (ofM ([(Nt.mk 2 2 3), (Nt.mk 3 9 0), (Nt.mk 2 2 5), (Nt.mk 3 7 0)])).ps)] rfl rfl hq2 (Fits.solid True.intro (Fits.solid True.intro Fits.nil))
  refine WL.op rfl rfl (op_move rfl ?_)
  refine WL.op rfl rfl (op_extract rfl rfl ?_)
  refine WL.op rfl rfl (op_extract rfl rfl ?_)
  refine WL.op rfl rfl (op_alloc H2 Fa.I30 (fun b3 w3 H3 => ?_))
  refine WL.op rfl rfl (op_storeBW (i := 3) H3 rfl rfl rfl rfl (one_cons rfl (one_cons (Arr.one (H3.arrR (i := 1) rfl)) (one_cons (Arr.one (H3.arrR (i := 2) rfl)) (one_cons rfl one_nil)))) Fa.I30 (fun w4 H4 => ?_))
  refine WL.op rfl rfl (op_assign rfl ?_)
  refine WL.nil ?_
  refine WQ.next ?_
  refine WC.seq ?_
  refine WC.region ?_
  refine WL.op rfl rfl (op_build (cs := [_, _, _]) Fa.I36 Fa.PL36 rfl rfl ?_)
  refine WL.op rfl rfl (op_buildSlice (cs := [_, _, _]) H4 Try.underlying22 Fa.I36 rfl rfl rfl rfl (by decide) (by decide) (fun b5 w5 H5 => ?_))
  refine WL.op rfl rfl (op_callF Fa.C9 rfl ((dof_ok _ ([(Nt.mk 0 0 0)]) _ (H5.arrR (i := 4) rfl) (by decide)).mono (fun e w6 hq => ?_)))
  obtain ⟨v6, u6, rfl, hq6⟩ := hq
  refine ⟨_, rfl, ?_⟩
  have H6 : Own [] w w6 [.row (.slice (some ⟨b1, 0, none⟩) 4 4) 36 3 4 (List.flatMap ntc [(Nt.mk 2 2 3), (Nt.mk 3 9 0), (Nt.mk 2 2 5), (Nt.mk 3 7 0)]), .row v2 50 2 ((ofM ([(Nt.mk 2 2 3), (Nt.mk 3 9 0), (Nt.mk 2 2 5), (Nt.mk 3 7 0)])).xs).length (List.flatMap xtc (ofM ([(Nt.mk 2 2 3), (Nt.mk 3 9 0), (Nt.mk 2 2 5), (Nt.mk 3 7 0)])).xs), .row u2 51 1 ((ofM ([(Nt.mk 2 2 3), (Nt.mk 3 9 0), (Nt.mk 2 2 5), (Nt.mk 3 7 0)])).ps).length (List.map vU16 (ofM ([(Nt.mk 2 2 3), (Nt.mk 3 9 0), (Nt.mk 2 2 5), (Nt.mk 3 7 0)])).ps), .blk b3 [(vU32 (ofM ([(Nt.mk 2 2 3), (Nt.mk 3 9 0), (Nt.mk 2 2 5), (Nt.mk 3 7 0)])).pg), v2, u2, (.bool (ofM ([(Nt.mk 2 2 3), (Nt.mk 3 9 0), (Nt.mk 2 2 5), (Nt.mk 3 7 0)])).con)] 30, .row (.slice (some ⟨b5, 0, none⟩) 1 1) 36 3 1 (List.flatMap ntc [(Nt.mk 0 0 0)]), .row v6 50 2 ((ofM ([(Nt.mk 0 0 0)])).xs).length (List.flatMap xtc (ofM ([(Nt.mk 0 0 0)])).xs), .row u6 51 1 ((ofM ([(Nt.mk 0 0 0)])).ps).length (List.map vU16 (ofM ([(Nt.mk 0 0 0)])).ps)] := H5.splice [] [] [.row v6 50 2 ((ofM ([(Nt.mk 0 0 0)])).xs).length (List.flatMap xtc (ofM ([(Nt.mk 0 0 0)])).xs), .row u6 51 1 ((ofM ([(Nt.mk 0 0 0)])).ps).length (List.map vU16 (ofM ([(Nt.mk 0 0 0)])).ps)] rfl rfl hq6 (Fits.solid True.intro (Fits.solid True.intro Fits.nil))
  refine WL.op rfl rfl (op_move rfl ?_)
  refine WL.op rfl rfl (op_extract rfl rfl ?_)
  refine WL.op rfl rfl (op_extract rfl rfl ?_)
  refine WL.op rfl rfl (op_alloc H6 Fa.I30 (fun b7 w7 H7 => ?_))
  refine WL.op rfl rfl (op_storeBW (i := 7) H7 rfl rfl rfl rfl (one_cons rfl (one_cons (Arr.one (H7.arrR (i := 5) rfl)) (one_cons (Arr.one (H7.arrR (i := 6) rfl)) (one_cons rfl one_nil)))) Fa.I30 (fun w8 H8 => ?_))
  refine WL.op rfl rfl (op_assign rfl ?_)
  refine WL.nil ?_
  refine WQ.next ?_
  refine WC.seq ?_
  refine WC.region ?_
  refine WL.op rfl rfl (op_move rfl ?_)
  refine WL.op rfl rfl (op_eqlN (b := 0) rfl rfl ?_)
  refine WL.op rfl rfl (op_move rfl ?_)
  refine WL.yes rfl rfl rfl al1 rfl (op_loadS (vs := [_, _, _, _]) rfl (H8.cells (i := 3) rfl rfl) Try.underlying30 rfl Fa.I30 rfl ?_)
  refine WL.yes rfl rfl rfl al1 rfl (op_build (cs := [_, _]) Fa.I50 Fa.PL50 rfl rfl ?_)
  refine WL.yes rfl rfl rfl al1 rfl (op_buildSlice (cs := [_, _]) H8 Try.underlying27 Fa.I50 rfl rfl rfl rfl (by decide) (by decide) (fun b9 w9 H9 => ?_))
  refine WL.yes rfl rfl rfl al1 rfl (op_buildSlice (cs := [_, _]) H9 Try.underlying28 Fa.I51 rfl rfl rfl rfl (by decide) (by decide) (fun b10 w10 H10 => ?_))
  refine WL.yes rfl rfl rfl al1 rfl (op_build (cs := [_, _, _, _]) Fa.I30 Fa.PL30 rfl rfl ?_)
  refine WL.yes rfl rfl rfl al1 rfl (op_callF Fa.C13 rfl (((same_of (a := (ofM ([(Nt.mk 2 2 3), (Nt.mk 3 9 0), (Nt.mk 2 2 5), (Nt.mk 3 7 0)]))) (b := (Mf.mk 0 ([(Xt.mk 2 5)]) ([7, 9]) false)) (rmsame_ok ((ofM ([(Nt.mk 2 2 3), (Nt.mk 3 9 0), (Nt.mk 2 2 5), (Nt.mk 3 7 0)])).pg) ((ofM ([(Nt.mk 2 2 3), (Nt.mk 3 9 0), (Nt.mk 2 2 5), (Nt.mk 3 7 0)])).con) _ _ ((ofM ([(Nt.mk 2 2 3), (Nt.mk 3 9 0), (Nt.mk 2 2 5), (Nt.mk 3 7 0)])).xs) ((ofM ([(Nt.mk 2 2 3), (Nt.mk 3 9 0), (Nt.mk 2 2 5), (Nt.mk 3 7 0)])).ps) 0 false _ _ ([(Xt.mk 2 5)]) ([7, 9]) _ (H10.arrR (i := 1) rfl) (H10.arrR (i := 2) rfl) (H10.arrR (i := 8) rfl) (H10.arrR (i := 9) rfl) (Nat.lt_trans al8 (by decide)) (Nat.lt_trans al9 (by decide))))).mono (fun e w11 hq => ?_)))
  obtain ⟨rfl, hf11⟩ := hq
  refine ⟨_, rfl, ?_⟩
  have H11 := H10.fr' hf11
  refine WL.op rfl rfl (op_pickT rfl al1 rfl ?_)
  refine WL.op rfl rfl (op_move rfl ?_)
  refine WL.yes rfl rfl rfl al2 rfl (op_move rfl ?_)
  refine WL.yes rfl rfl rfl al2 rfl (op_eqlN (b := 2) rfl rfl ?_)
  refine WL.op rfl rfl (op_pickT rfl al2 rfl ?_)
  refine WL.op rfl rfl (op_move rfl ?_)
  refine WL.yes rfl rfl rfl al3 rfl (op_loadS (vs := [_, _, _, _]) rfl (H11.cells (i := 3) rfl rfl) Try.underlying30 rfl Fa.I30 rfl ?_)
  refine WL.yes rfl rfl rfl al3 rfl (op_callF Fa.C15 rfl ((dcheck_ok ((ofM ([(Nt.mk 2 2 3), (Nt.mk 3 9 0), (Nt.mk 2 2 5), (Nt.mk 3 7 0)])).pg) _ _ ((ofM ([(Nt.mk 2 2 3), (Nt.mk 3 9 0), (Nt.mk 2 2 5), (Nt.mk 3 7 0)])).xs) ((ofM ([(Nt.mk 2 2 3), (Nt.mk 3 9 0), (Nt.mk 2 2 5), (Nt.mk 3 7 0)])).ps) ((ofM ([(Nt.mk 2 2 3), (Nt.mk 3 9 0), (Nt.mk 2 2 5), (Nt.mk 3 7 0)])).con) _ (H11.arrR (i := 1) rfl) (H11.arrR (i := 2) rfl) (Nat.lt_trans al8 (by decide)) (Nat.lt_trans al9 (by decide))).mono (fun e w12 hq => ?_)))
  obtain ⟨rfl, hf12⟩ := hq
  refine ⟨_, rfl, ?_⟩
  have H12 := H11.fr' hf12
  refine WL.yes rfl rfl rfl al3 rfl (op_eqlN (b := 0) rfl rfl ?_)
  refine WL.op rfl rfl (op_pickT rfl al3 rfl ?_)
  refine WL.op rfl rfl (op_move rfl ?_)
  refine WL.yes rfl rfl rfl al4 rfl (op_loadS (vs := [_, _, _, _]) rfl (H12.cells (i := 3) rfl rfl) Try.underlying30 rfl Fa.I30 rfl ?_)
  refine WL.yes rfl rfl rfl al4 rfl (op_build (cs := [_, _, _]) Fa.I36 Fa.PL36 rfl rfl ?_)
  refine WL.yes rfl rfl rfl al4 rfl (op_callF Fa.C18 rfl ((dnote_ok (ofM ([(Nt.mk 2 2 3), (Nt.mk 3 9 0), (Nt.mk 2 2 5), (Nt.mk 3 7 0)])) _ _ (Nt.mk 3 7 0) _ (H12.arrR (i := 1) rfl) (H12.arrR (i := 2) rfl) (Nat.lt_trans al8 (by decide)) (Nat.lt_trans al9 (by decide))).mono (fun e w13 hq => ?_)))
  obtain ⟨rfl, hf13⟩ := hq
  refine ⟨_, rfl, ?_⟩
  have H13 := H12.fr' hf13
  refine WL.op rfl rfl (op_pickT rfl al4 rfl ?_)
  refine WL.op rfl rfl (op_move rfl ?_)
  refine WL.yes rfl rfl rfl al5 rfl (op_loadS (vs := [_, _, _, _]) rfl (H13.cells (i := 3) rfl rfl) Try.underlying30 rfl Fa.I30 rfl ?_)
  refine WL.yes rfl rfl rfl al5 rfl (op_build (cs := [_, _, _]) Fa.I36 Fa.PL36 rfl rfl ?_)
  refine WL.yes rfl rfl rfl al5 rfl (op_callF Fa.C18 rfl ((dnote_ok (ofM ([(Nt.mk 2 2 3), (Nt.mk 3 9 0), (Nt.mk 2 2 5), (Nt.mk 3 7 0)])) _ _ (Nt.mk 4 0 0) _ (H13.arrR (i := 1) rfl) (H13.arrR (i := 2) rfl) (Nat.lt_trans al8 (by decide)) (Nat.lt_trans al9 (by decide))).mono (fun e w14 hq => ?_)))
  obtain ⟨rfl, hf14⟩ := hq
  refine ⟨_, rfl, ?_⟩
  have H14 := H13.fr' hf14
  refine WL.yes rfl rfl rfl al5 rfl (op_not rfl ?_)
  refine WL.op rfl rfl (op_pickT rfl al5 rfl ?_)
  refine WL.op rfl rfl (op_move rfl ?_)
  refine WL.yes rfl rfl rfl (congrArg Bool.not al6) rfl (op_loadS (vs := [_, _, _, _]) rfl (H14.cells (i := 3) rfl rfl) Try.underlying30 rfl Fa.I30 rfl ?_)
  refine WL.yes rfl rfl rfl (congrArg Bool.not al6) rfl (op_loadS (vs := [_, _, _, _]) rfl (H14.cells (i := 3) rfl rfl) Try.underlying30 rfl Fa.I30 rfl ?_)
  refine WL.yes rfl rfl rfl (congrArg Bool.not al6) rfl (op_callF Fa.C14 rfl ((dcov_ok (ofM ([(Nt.mk 2 2 3), (Nt.mk 3 9 0), (Nt.mk 2 2 5), (Nt.mk 3 7 0)])) (ofM ([(Nt.mk 2 2 3), (Nt.mk 3 9 0), (Nt.mk 2 2 5), (Nt.mk 3 7 0)])) _ _ _ _ _ (H14.arrR (i := 1) rfl) (H14.arrR (i := 2) rfl) (H14.arrR (i := 1) rfl) (H14.arrR (i := 2) rfl) al8 al9 al8 al9).mono (fun e w15 hq => ?_)))
  obtain ⟨rfl, hf15⟩ := hq
  refine ⟨_, rfl, ?_⟩
  have H15 := H14.fr' hf15
  refine WL.op rfl rfl (op_pickT rfl (congrArg Bool.not al6) rfl ?_)
  refine WL.op rfl rfl (op_assign rfl ?_)
  refine WL.nil ?_
  refine WQ.next ?_
  refine WC.ret ?_
  refine WQ.out (.tmp rfl .nil) ?_
  exact ⟨by rw [al7]; rfl, H15.fr⟩
end Go.Proofs.Ytnngbnenekjffaa
/-! from EDem11 -/
namespace Go.Proofs.Ytnngbnenekjffaa
open Go.Owl Go.Spec
set_option maxHeartbeats 2000000 in
set_option maxRecDepth 100000 in
theorem demandLeast_ok (mv ev pv : Value) (ms : List Mm) (x : Mf) (w : World) (hM : Arr w mv 4 ms.length (List.flatMap mmc ms)) (hI : MmD.list.ok w ms) (hl : ms.length ≤ 2 ^ 47) (hfx : ∀ x ∈ ms, x.xs.length ≤ 2 ^ 46) (hfp : ∀ x ∈ ms, x.ps.length ≤ 2 ^ 46) (hE : Arr w ev 2 x.xs.length (List.flatMap xtc x.xs)) (hP : Arr w pv 1 x.ps.length (List.map vU16 x.ps)) (hn : x.xs.length ≤ 2 ^ 46) (hm : x.ps.length ≤ 2 ^ 46) :
    Calls Try.prog 4 #[mv, (.agg #[(vU32 x.pg), ev, pv, (.bool x.con)])] w (fun e w' => e = .returned (.bool true) ∧ Fr [] w w') := by
  refine enter (args := [mv, (.agg #[(vU32 x.pg), ev, pv, (.bool x.con)])]) Try.func4 rfl rfl ?_
  have H0 : Own [] w w [] := Own.start w []
  refine WC.seq ?_
  refine WC.region ?_
  refine WL.op rfl rfl (op_box H0 rfl rfl (fun b1 w1 H1 => ?_))
  refine WL.op rfl rfl (op_assign rfl ?_)
  refine WL.nil ?_
  refine WQ.next ?_
  refine WC.seq ?_
  refine WC.seq ?_
  refine WC.region ?_
  refine WL.op rfl rfl (op_move rfl ?_)
  refine WL.op rfl rfl (op_callF Fa.C7 rfl ((large11_ok _ ms _ (H1.arr hM) (MmD.list.fr0 hI H1.fr) (by omega) hfx hfp).mono (fun e w2 hq => ?_)))
  obtain ⟨rfl, hf2⟩ := hq
  refine ⟨_, rfl, ?_⟩
  have H2 := H1.fr' hf2
  refine WL.op rfl rfl (op_move rfl ?_)
  refine WL.split (t := 11) rfl (fun (hb3 : (large11 ms) = true) => ?_) (fun (hb3 : (large11 ms) = false) => ?_)
  ·
    refine WL.no rfl rfl rfl hb3 rfl ?_
    refine WL.no rfl rfl rfl hb3 rfl ?_
    refine WL.no rfl rfl rfl hb3 rfl ?_
    refine WL.op rfl rfl (op_pickT rfl hb3 rfl ?_)
    refine WL.nil ?_
    refine WQ.next ?_
    refine WC.yes rfl rfl ?_
    refine WC.seq ?_
    refine WC.region ?_
    refine WL.op rfl rfl (op_callF Fa.C8 rfl ((alive11_ok _).mono (fun e w4 hq => ?_)))
    obtain ⟨rfl, hf4⟩ := hq
    refine ⟨_, rfl, ?_⟩
    have H4 := H2.fr' hf4
    refine WL.op rfl rfl (op_assign rfl ?_)
    refine WL.nil ?_
    refine WQ.next ?_
    refine WC.ret ?_
    refine WQ.thenRet ?_
    refine WQ.out (.tmp rfl .nil) ?_
    exact ⟨rfl, H4.fr⟩
  ·
    refine WL.yes rfl rfl rfl hb3 rfl (op_loadS (vs := [_, _, _, _]) rfl (H2.cells (i := 0) rfl rfl) Try.underlying30 rfl Fa.I30 rfl ?_)
    refine WL.yes rfl rfl rfl hb3 rfl (op_buildSlice (cs := [_, _, _, _]) H2 Try.underlying23 Fa.I30 rfl rfl rfl rfl (by decide) (by decide) (fun b5 w5 H5 => ?_))
    refine WL.yes rfl rfl rfl hb3 rfl (op_callF Fa.C7 rfl ((large11_ok _ ([(Mm.mk x.pg ev x.xs pv x.ps x.con)]) _ (H5.arrR (i := 1) rfl) (MmL_cons (MmD_mk (x := (Mm.mk x.pg ev x.xs pv x.ps x.con)) (H5.arr hE) (H5.arr hP)) MmL_nil) (by show 1 ≤ 2 ^ 47; decide) (all1 (p := fun x : Mm => x.xs.length ≤ 2 ^ 46) (show x.xs.length ≤ 2 ^ 46 by omega)) (all1 (p := fun x : Mm => x.ps.length ≤ 2 ^ 46) (show x.ps.length ≤ 2 ^ 46 by omega))).mono (fun e w6 hq => ?_)))
    obtain ⟨rfl, hf6⟩ := hq
    refine ⟨_, rfl, ?_⟩
    have H6 := H5.fr' hf6
    refine WL.op rfl rfl (op_pickF rfl hb3 rfl ?_)
    refine WL.nil ?_
    refine WQ.next ?_
    refine WC.cond rfl (fun (hb7 : (large11 ([(Mm.mk x.pg ev x.xs pv x.ps x.con)])) = true) => ?_) (fun (hb7 : (large11 ([(Mm.mk x.pg ev x.xs pv x.ps x.con)])) = false) => ?_)
    ·
      refine WC.seq ?_
      refine WC.region ?_
      refine WL.op rfl rfl (op_callF Fa.C8 rfl ((alive11_ok _).mono (fun e w8 hq => ?_)))
      obtain ⟨rfl, hf8⟩ := hq
      refine ⟨_, rfl, ?_⟩
      have H8 := H6.fr' hf8
      refine WL.op rfl rfl (op_assign rfl ?_)
      refine WL.nil ?_
      refine WQ.next ?_
      refine WC.ret ?_
      refine WQ.thenRet ?_
      refine WQ.out (.tmp rfl .nil) ?_
      exact ⟨rfl, H8.fr⟩
    ·
      have hl6 := large_len hb3
      have h0 : x.xs.length ≤ 600 ∧ x.ps.length ≤ 600 := large_at (k := 0) hb7 (by show 0 < 1; decide) (by decide)
      have hul := un_len' (ms := ms)
      refine WC.skip ?_
      refine WQ.next ?_
      refine WC.seq ?_
      refine WC.region ?_
      refine WL.op rfl rfl (op_move rfl ?_)
      refine WL.op rfl rfl (op_callF Fa.C11 rfl ((dun_ok _ ms _ (H6.arr hM) (MmD.list.fr0 hI H6.fr) (by omega) hfx hfp).mono (fun e w9 hq => ?_)))
      obtain ⟨v9, u9, rfl, hq9⟩ := hq
      refine ⟨_, rfl, ?_⟩
      have H9 : Own [] w w9 [.blk b1 [(vU32 x.pg), ev, pv, (.bool x.con)] 30, .row (.slice (some ⟨b5, 0, none⟩) 1 1) 30 4 1 (List.flatMap mmc [(Mm.mk x.pg ev x.xs pv x.ps x.con)]), .row v9 50 2 ((unM (ms.map Mm.f)).xs).length (List.flatMap xtc (unM (ms.map Mm.f)).xs), .row u9 51 1 ((unM (ms.map Mm.f)).ps).length (List.map vU16 (unM (ms.map Mm.f)).ps)] := H6.splice [] [] [.row v9 50 2 ((unM (ms.map Mm.f)).xs).length (List.flatMap xtc (unM (ms.map Mm.f)).xs), .row u9 51 1 ((unM (ms.map Mm.f)).ps).length (List.map vU16 (unM (ms.map Mm.f)).ps)] rfl rfl hq9 (Fits.solid True.intro (Fits.solid True.intro Fits.nil))
      refine WL.op rfl rfl (op_move rfl ?_)
      refine WL.op rfl rfl (op_extract rfl rfl ?_)
      refine WL.op rfl rfl (op_extract rfl rfl ?_)
      refine WL.op rfl rfl (op_alloc H9 Fa.I30 (fun b10 w10 H10 => ?_))
      refine WL.op rfl rfl (op_storeBW (i := 4) H10 rfl rfl rfl rfl (one_cons rfl (one_cons (Arr.one (H10.arrR (i := 2) rfl)) (one_cons (Arr.one (H10.arrR (i := 3) rfl)) (one_cons rfl one_nil)))) Fa.I30 (fun w11 H11 => ?_))
      refine WL.op rfl rfl (op_assign rfl ?_)
      refine WL.nil ?_
      refine WQ.next ?_
      refine WC.seq ?_
      refine WC.seq ?_
      refine WC.region ?_
      refine WL.op rfl rfl (op_move rfl ?_)
      refine WL.op rfl rfl (op_neqN (b := 0) rfl rfl ?_)
      refine WL.nil ?_
      refine WQ.next ?_
      refine WC.cond rfl (fun (hb12 : (decide ((unE (ms.map Mm.f)) ≠ 0)) = true) => ?_) (fun (hb12 : (decide ((unE (ms.map Mm.f)) ≠ 0)) = false) => ?_)
      ·
        have hc12 := of_decide_eq_true hb12
        refine WC.seq ?_
        refine WC.region ?_
        refine WL.op rfl rfl (op_callF Fa.C8 rfl ((alive11_ok _).mono (fun e w13 hq => ?_)))
        obtain ⟨rfl, hf13⟩ := hq
        refine ⟨_, rfl, ?_⟩
        have H13 := H11.fr' hf13
        refine WL.op rfl rfl (op_assign rfl ?_)
        refine WL.nil ?_
        refine WQ.next ?_
        refine WC.ret ?_
        refine WQ.thenRet ?_
        refine WQ.out (.tmp rfl .nil) ?_
        exact ⟨rfl, H13.fr⟩
      ·
        have hc12 := of_decide_eq_false hb12
        have hue := Decidable.not_not.mp (of_decide_eq_false hb12)
        refine WC.skip ?_
        refine WQ.next ?_
        refine WC.seq ?_
        refine WC.region ?_
        refine WL.op rfl rfl (op_assign rfl ?_)
        refine WL.nil ?_
        refine WQ.next ?_
        refine WC.seq ?_
        refine WC.seq ?_
        refine WC.region ?_
        refine WL.op rfl rfl (op_assign rfl ?_)
        refine WL.nil ?_
        refine WQ.next ?_
        refine WC.block ?_
        refine WC.loop (α := Nat) (fun k => [(0, mv), (3, (ptr b1 0)), (5, (ptr b10 0)), (6, (vN (unE (ms.map Mm.f)))), (7, (.bool (alT x ms k))), (8, (vN k))]) (fun k w' => (k ≤ ms.length) ∧ Own [] w w' [.blk b1 [(vU32 x.pg), ev, pv, (.bool x.con)] 30, .row (.slice (some ⟨b5, 0, none⟩) 1 1) 30 4 1 (List.flatMap mmc [(Mm.mk x.pg ev x.xs pv x.ps x.con)]), .row v9 50 2 ((unM (ms.map Mm.f)).xs).length (List.flatMap xtc (unM (ms.map Mm.f)).xs), .row u9 51 1 ((unM (ms.map Mm.f)).ps).length (List.map vU16 (unM (ms.map Mm.f)).ps), .blk b10 [(vU32 (unM (ms.map Mm.f)).pg), v9, u9, (.bool (unM (ms.map Mm.f)).con)] 30]) (fun k => ms.length - k) 0 ⟨(Nat.zero_le _), H11⟩ ⟨rfl, rfl, rfl, rfl, rfl, rfl, trivial⟩ ?_
        rintro k w14 ⟨hinv, H14⟩
        show WC _ _ _ _ _ [(0, mv), (3, (ptr b1 0)), (5, (ptr b10 0)), (6, (vN (unE (ms.map Mm.f)))), (7, (.bool (alT x ms k))), (8, (vN k))] _
        refine WC.seq ?_
        refine WC.seq ?_
        refine WC.region ?_
        refine WL.op rfl rfl (op_move rfl ?_)
        refine WL.op rfl rfl (op_move rfl ?_)
        refine WL.op rfl rfl (op_lenA Try.underlying23 rfl (H14.arr hM) ?_)
        refine WL.op rfl rfl (op_lssN rfl rfl ?_)
        refine WL.nil ?_
        refine WQ.next ?_
        refine WC.cond rfl (fun (hb15 : (decide (k < ms.length)) = true) => ?_) (fun (hb15 : (decide (k < ms.length)) = false) => ?_)
        ·
          have hc15 := of_decide_eq_true hb15
          have hml := may_len (un_mem (k := k) hue (by omega))
          refine WC.skip ?_
          refine WQ.next ?_
          refine WC.seq ?_
          refine WC.block ?_
          refine WC.seq ?_
          refine WC.seq ?_
          refine WC.draw 7 Fa.M H14 (HW.op rfl (fun w1 H1 => op_loadS (vs := [_, _, _, _]) rfl (H1.cells (i := 4) rfl rfl) Try.underlying30 rfl Fa.I30 rfl ⟨rfl, Fr.refl _ _⟩) (HW.op rfl (fun w1 H1 => op_move rfl ⟨rfl, Fr.refl _ _⟩) (HW.op rfl (fun w1 H1 => op_move rfl ⟨rfl, Fr.refl _ _⟩) (HW.op rfl (fun w1 H1 => op_indexAddr Try.underlying23 Fa.I30 rfl (H1.arr hM) rfl (by omega) ⟨rfl, Fr.refl _ _⟩) (HW.op rfl (fun w1 H1 => op_loadSP (vs := mmc (ms.getD k Mm.zero)) rfl (Arr.atsF (H1.arr hM) (fun _ => rfl) (by decide) Mm.zero (by omega)) Try.underlying30 rfl Fa.I30 rfl ⟨rfl, Fr.refl _ _⟩) (HW.op rfl (fun w1 H1 => op_callF Fa.C14 rfl ((dcov_ok (unM (ms.map Mm.f)) (ms.getD k Mm.zero).f _ _ _ _ _ (H1.arrR (i := 2) rfl) (H1.arrR (i := 3) rfl) ((MmD_xs (Deep.getD MmD (MmD.list.fr0 hI H1.fr) Mm.zero (MmD_zero _) k))) ((MmD_ps (Deep.getD MmD (MmD.list.fr0 hI H1.fr) Mm.zero (MmD_zero _) k))) (by omega) (by omega) (by omega) (by omega)).mono (fun e w2 hq => ⟨_, hq.1, rfl, hq.2⟩))) (HW.op rfl (fun w1 H1 => op_not rfl ⟨rfl, Fr.refl _ _⟩)  HW.nil))))))) (by kernel_rfl) ?_
          intro β17 w17 H17
          refine WL.nil ?_
          refine WQ.next ?_
          refine WC.no rfl (le_each hue (by omega)) ?_
          refine WC.skip ?_
          refine WQ.next ?_
          refine bsplit (fun (hb18 : (alT x ms k) = true) => ?_) (fun (hb18 : (alT x ms k) = false) => ?_)
          ·
            refine WC.draw 10 Fa.M H17 (HW.op rfl (fun w1 H1 => op_move rfl ⟨rfl, Fr.refl _ _⟩) (HW.op rfl (fun w1 H1 => op_move rfl ⟨rfl, Fr.refl _ _⟩) (HW.yes rfl rfl rfl hb18 (fun w1 H1 => op_loadS (vs := [_, _, _, _]) rfl (H1.cells (i := 0) rfl rfl) Try.underlying30 rfl Fa.I30 rfl ⟨rfl, Fr.refl _ _⟩) (HW.yes rfl rfl rfl hb18 (fun w1 H1 => op_move rfl ⟨rfl, Fr.refl _ _⟩) (HW.yes rfl rfl rfl hb18 (fun w1 H1 => op_move rfl ⟨rfl, Fr.refl _ _⟩) (HW.yes rfl rfl rfl hb18 (fun w1 H1 => op_indexAddr Try.underlying23 Fa.I30 rfl (H1.arr hM) rfl (by omega) ⟨rfl, Fr.refl _ _⟩) (HW.yes rfl rfl rfl hb18 (fun w1 H1 => op_loadSP (vs := mmc (ms.getD k Mm.zero)) rfl (Arr.atsF (H1.arr hM) (fun _ => rfl) (by decide) Mm.zero (by omega)) Try.underlying30 rfl Fa.I30 rfl ⟨rfl, Fr.refl _ _⟩) (HW.yes rfl rfl rfl hb18 (fun w1 H1 => op_callF Fa.C14 rfl ((dcov_ok x (ms.getD k Mm.zero).f _ _ _ _ _ (H1.arr hE) (H1.arr hP) ((MmD_xs (Deep.getD MmD (MmD.list.fr0 hI H1.fr) Mm.zero (MmD_zero _) k))) ((MmD_ps (Deep.getD MmD (MmD.list.fr0 hI H1.fr) Mm.zero (MmD_zero _) k))) (by omega) (by omega) (by omega) (by omega)).mono (fun e w2 hq => ⟨_, hq.1, rfl, hq.2⟩))) (HW.op rfl (fun w1 H1 => op_pickT rfl hb18 rfl ⟨rfl, Fr.refl _ _⟩) (HW.op rfl (fun w1 H1 => op_assign rfl ⟨rfl, Fr.refl _ _⟩)  HW.nil)))))))))) (by kernel_rfl) ?_
            intro β20 w20 H20
            refine WL.nil ?_
            refine WQ.inNormal ?_
            refine WQ.next ?_
            refine WC.region ?_
            refine WL.op rfl rfl (op_move rfl ?_)
            refine WL.op rfl rfl (op_addN (b := 1) rfl rfl (by omega) ?_)
            refine WL.op rfl rfl (op_assign rfl ?_)
            refine WL.nil ?_
            exact WQ.round (k + 1) ⟨(by omega), H20⟩ ⟨rfl, rfl, rfl, rfl, (by rw [alT, hb18]; rfl), rfl, trivial⟩ (by omega)
          ·
            refine WC.draw 10 Fa.M H17 (HW.op rfl (fun w1 H1 => op_move rfl ⟨rfl, Fr.refl _ _⟩) (HW.op rfl (fun w1 H1 => op_move rfl ⟨rfl, Fr.refl _ _⟩) (HW.no rfl rfl rfl hb18 (HW.no rfl rfl rfl hb18 (HW.no rfl rfl rfl hb18 (HW.no rfl rfl rfl hb18 (HW.no rfl rfl rfl hb18 (HW.no rfl rfl rfl hb18 (HW.op rfl (fun w1 H1 => op_pickF rfl hb18 rfl ⟨rfl, Fr.refl _ _⟩) (HW.op rfl (fun w1 H1 => op_assign rfl ⟨rfl, Fr.refl _ _⟩)  HW.nil)))))))))) (by kernel_rfl) ?_
            intro β21 w21 H21
            refine WL.nil ?_
            refine WQ.inNormal ?_
            refine WQ.next ?_
            refine WC.region ?_
            refine WL.op rfl rfl (op_move rfl ?_)
            refine WL.op rfl rfl (op_addN (b := 1) rfl rfl (by omega) ?_)
            refine WL.op rfl rfl (op_assign rfl ?_)
            refine WL.nil ?_
            exact WQ.round (k + 1) ⟨(by omega), H21⟩ ⟨rfl, rfl, rfl, rfl, (by rw [alT, hb18]; rfl), rfl, trivial⟩ (by omega)
        ·
          have hc15 := of_decide_eq_false hb15
          refine WC.exit ?_
          refine WQ.thenExit ?_
          refine WQ.thenExit ?_
          refine WQ.inHere ?_
          refine WQ.next ?_
          refine WC.seq ?_
          refine WC.seq ?_
          refine WC.region ?_
          refine WL.op rfl rfl (op_loadS (vs := [_, _, _, _]) rfl (H14.cells (i := 0) rfl rfl) Try.underlying30 rfl Fa.I30 rfl ?_)
          refine WL.op rfl rfl (op_callF Fa.C15 rfl ((dcheck_ok x.pg _ _ x.xs x.ps x.con _ (H14.arr hE) (H14.arr hP) (by omega) (by omega)).mono (fun e w22 hq => ?_)))
          obtain ⟨rfl, hf22⟩ := hq
          refine ⟨_, rfl, ?_⟩
          have H22 := H14.fr' hf22
          refine WL.op rfl rfl (op_eqlN (b := 0) rfl rfl ?_)
          refine WL.op rfl rfl (op_move rfl ?_)
          refine WL.split (t := 50) rfl (fun (hb23 : (decide ((mfE x.pg x.xs x.ps) = 0)) = true) => ?_) (fun (hb23 : (decide ((mfE x.pg x.xs x.ps) = 0)) = false) => ?_)
          ·
            have hc23 := of_decide_eq_true hb23
            refine WL.yes rfl rfl rfl hb23 rfl (op_move rfl ?_)
            refine WL.yes rfl rfl rfl hb23 rfl (op_loadS (vs := [_, _, _, _]) rfl (H22.cells (i := 0) rfl rfl) Try.underlying30 rfl Fa.I30 rfl ?_)
            refine WL.yes rfl rfl rfl hb23 rfl (op_loadS (vs := [_, _, _, _]) rfl (H22.cells (i := 4) rfl rfl) Try.underlying30 rfl Fa.I30 rfl ?_)
            refine WL.yes rfl rfl rfl hb23 rfl (op_callF Fa.C14 rfl ((dcov_ok x (unM (ms.map Mm.f)) _ _ _ _ _ (H22.arr hE) (H22.arr hP) (H22.arrR (i := 2) rfl) (H22.arrR (i := 3) rfl) (by omega) (by omega) (by omega) (by omega)).mono (fun e w24 hq => ?_)))
            obtain ⟨rfl, hf24⟩ := hq
            refine ⟨_, rfl, ?_⟩
            have H24 := H22.fr' hf24
            refine WL.yes rfl rfl rfl hb23 rfl (op_neqB Try.underlying4 rfl rfl ?_)
            refine WL.op rfl rfl (op_pickT rfl hb23 rfl ?_)
            refine WL.nil ?_
            refine WQ.next ?_
            refine WC.no rfl (by rw [show k = ms.length by omega]; exact le_all hue hb23) ?_
            refine WC.skip ?_
            refine WQ.next ?_
            refine WC.seq ?_
            refine WC.region ?_
            refine WL.op rfl rfl (op_loadS (vs := [_, _, _, _]) rfl (H24.cells (i := 4) rfl rfl) Try.underlying30 rfl Fa.I30 rfl ?_)
            refine WL.op rfl rfl (op_callF Fa.C15 rfl ((dcheck_ok ((unM (ms.map Mm.f)).pg) _ _ ((unM (ms.map Mm.f)).xs) ((unM (ms.map Mm.f)).ps) ((unM (ms.map Mm.f)).con) _ (H24.arrR (i := 2) rfl) (H24.arrR (i := 3) rfl) (by omega) (by omega)).mono (fun e w25 hq => ?_)))
            obtain ⟨rfl, hf25⟩ := hq
            refine ⟨_, rfl, ?_⟩
            have H25 := H24.fr' hf25
            refine WL.op rfl rfl (op_eqlN (b := 0) rfl rfl ?_)
            refine WL.op rfl rfl (op_move rfl ?_)
            refine WL.yes rfl rfl rfl (un_chk hue) rfl (op_callF Fa.C8 rfl ((alive11_ok _).mono (fun e w26 hq => ?_)))
            obtain ⟨rfl, hf26⟩ := hq
            refine ⟨_, rfl, ?_⟩
            have H26 := H25.fr' hf26
            refine WL.op rfl rfl (op_pickT rfl (un_chk hue) rfl ?_)
            refine WL.op rfl rfl (op_assign rfl ?_)
            refine WL.nil ?_
            refine WQ.next ?_
            refine WC.ret ?_
            refine WQ.out (.tmp rfl .nil) ?_
            exact ⟨rfl, H26.fr⟩
          ·
            have hc23 := of_decide_eq_false hb23
            refine WL.no rfl rfl rfl hb23 rfl ?_
            refine WL.no rfl rfl rfl hb23 rfl ?_
            refine WL.no rfl rfl rfl hb23 rfl ?_
            refine WL.no rfl rfl rfl hb23 rfl ?_
            refine WL.no rfl rfl rfl hb23 rfl ?_
            refine WL.op rfl rfl (op_pickF rfl hb23 rfl ?_)
            refine WL.nil ?_
            refine WQ.next ?_
            refine WC.no rfl rfl ?_
            refine WC.skip ?_
            refine WQ.next ?_
            refine WC.seq ?_
            refine WC.region ?_
            refine WL.op rfl rfl (op_loadS (vs := [_, _, _, _]) rfl (H22.cells (i := 4) rfl rfl) Try.underlying30 rfl Fa.I30 rfl ?_)
            refine WL.op rfl rfl (op_callF Fa.C15 rfl ((dcheck_ok ((unM (ms.map Mm.f)).pg) _ _ ((unM (ms.map Mm.f)).xs) ((unM (ms.map Mm.f)).ps) ((unM (ms.map Mm.f)).con) _ (H22.arrR (i := 2) rfl) (H22.arrR (i := 3) rfl) (by omega) (by omega)).mono (fun e w27 hq => ?_)))
            obtain ⟨rfl, hf27⟩ := hq
            refine ⟨_, rfl, ?_⟩
            have H27 := H22.fr' hf27
            refine WL.op rfl rfl (op_eqlN (b := 0) rfl rfl ?_)
            refine WL.op rfl rfl (op_move rfl ?_)
            refine WL.yes rfl rfl rfl (un_chk hue) rfl (op_callF Fa.C8 rfl ((alive11_ok _).mono (fun e w28 hq => ?_)))
            obtain ⟨rfl, hf28⟩ := hq
            refine ⟨_, rfl, ?_⟩
            have H28 := H27.fr' hf28
            refine WL.op rfl rfl (op_pickT rfl (un_chk hue) rfl ?_)
            refine WL.op rfl rfl (op_assign rfl ?_)
            refine WL.nil ?_
            refine WQ.next ?_
            refine WC.ret ?_
            refine WQ.out (.tmp rfl .nil) ?_
            exact ⟨rfl, H28.fr⟩
end Go.Proofs.Ytnngbnenekjffaa
