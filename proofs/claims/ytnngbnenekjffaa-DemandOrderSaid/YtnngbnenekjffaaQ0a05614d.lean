/- General lemmas and walks: EDem8, EDem9, EDem12. No condition but what each theorem names. -/
import Derived.Test.YtnngbnenekjffaaQ9e090d5b
import Derived.Test.YtnngbnenekjffaaQ7afbeb9a
import Derived.Test.YtnngbnenekjffaaQa2c405e1
/-! from EDem8 -/
namespace Go.Proofs.Ytnngbnenekjffaa
open Go.Owl Go.Spec
set_option maxRecDepth 100000 in
theorem dnote_ok (m : Mf) (ev pv : Value) (x : Nt) (w : World) (hE : Arr w ev 2 m.xs.length (List.flatMap xtc m.xs)) (hP : Arr w pv 1 m.ps.length (List.map vU16 m.ps)) (hn : m.xs.length < 2 ^ 45) (hm : m.ps.length < 2 ^ 45) :
    Calls Try.prog 18 #[(.agg #[(vU32 m.pg), ev, pv, (.bool m.con)]), (.agg #[(vU8 x.kind), (vU32 x.n), (vU32 x.m)])] w (fun e w' => e = .returned (.bool (rNote m x)) ∧ Fr [] w w') := by
  refine enter (args := [(.agg #[(vU32 m.pg), ev, pv, (.bool m.con)]), (.agg #[(vU8 x.kind), (vU32 x.n), (vU32 x.m)])]) Try.func18 rfl rfl ?_
  have H0 : Own [] w w [] := Own.start w []
  refine WC.seq ?_
  refine WC.region ?_
  refine WL.op rfl rfl (op_box H0 rfl rfl (fun b1 w1 H1 => ?_))
  refine WL.op rfl rfl (op_box H1 rfl rfl (fun b2 w2 H2 => ?_))
  refine WL.op rfl rfl (op_assign rfl ?_)
  refine WL.nil ?_
  refine WQ.next ?_
  refine WC.seq ?_
  refine WC.region ?_
  refine WL.op rfl rfl (op_loadS (vs := [_, _, _, _]) rfl (H2.cells (i := 0) rfl rfl) Try.underlying30 rfl Fa.I30 rfl ?_)
  refine WL.op rfl rfl (op_callF Fa.C15 rfl ((dcheck_ok m.pg _ _ m.xs m.ps m.con _ (H2.arr hE) (H2.arr hP) (by omega) (by omega)).mono (fun e w3 hq => ?_)))
  obtain ⟨rfl, hf3⟩ := hq
  refine ⟨_, rfl, ?_⟩
  have H3 := H2.fr' hf3
  refine WL.op rfl rfl (op_eqlN (b := 0) rfl rfl ?_)
  refine WL.op rfl rfl (op_move rfl ?_)
  refine WL.split (t := 8) rfl (fun (hb4 : (decide ((mfE m.pg m.xs m.ps) = 0)) = true) => ?_) (fun (hb4 : (decide ((mfE m.pg m.xs m.ps) = 0)) = false) => ?_)
  ·
    have hc4 := of_decide_eq_true hb4
    refine WL.yes rfl rfl rfl hb4 rfl (op_loadS (vs := [_, _, _]) rfl (H3.cells (i := 1) rfl rfl) Try.underlying36 rfl Fa.I36 rfl ?_)
    refine WL.yes rfl rfl rfl hb4 rfl (op_callF Fa.C24 rfl ((onote_ok x _).mono (fun e w5 hq => ?_)))
    obtain ⟨rfl, hf5⟩ := hq
    refine ⟨_, rfl, ?_⟩
    have H5 := H3.fr' hf5
    refine WL.yes rfl rfl rfl hb4 rfl (op_eqlN (b := 0) rfl rfl ?_)
    refine WL.op rfl rfl (op_pickT rfl hb4 rfl ?_)
    refine WL.op rfl rfl (op_move rfl ?_)
    refine WL.split (t := 13) rfl (fun (hb6 : (decide ((noteE x) = 0)) = true) => ?_) (fun (hb6 : (decide ((noteE x) = 0)) = false) => ?_)
    ·
      have hc6 := of_decide_eq_true hb6
      refine WL.yes rfl rfl rfl hb6 rfl (op_loadS (vs := [_, _, _, _]) rfl (H5.cells (i := 0) rfl rfl) Try.underlying30 rfl Fa.I30 rfl ?_)
      refine WL.yes rfl rfl rfl hb6 rfl (op_loadS (vs := [_, _, _]) rfl (H5.cells (i := 1) rfl rfl) Try.underlying36 rfl Fa.I36 rfl ?_)
      refine WL.yes rfl rfl rfl hb6 rfl (op_callF Fa.C31 rfl ((dcovers_ok m _ _ x _ (H5.arr hE) (H5.arr hP) (by omega) (by omega)).mono (fun e w7 hq => ?_)))
      obtain ⟨rfl, hf7⟩ := hq
      refine ⟨_, rfl, ?_⟩
      have H7 := H5.fr' hf7
      refine WL.op rfl rfl (op_pickT rfl hb6 rfl ?_)
      refine WL.op rfl rfl (op_assign rfl ?_)
      refine WL.nil ?_
      refine WQ.next ?_
      refine WC.ret ?_
      refine WQ.out (.tmp rfl .nil) ?_
      exact ⟨by (rw [rNote, ← mfE_dec, ← noteE_dec, hb4, hb6]) <;> rfl, H7.fr⟩
    ·
      have hc6 := of_decide_eq_false hb6
      refine WL.no rfl rfl rfl hb6 rfl ?_
      refine WL.no rfl rfl rfl hb6 rfl ?_
      refine WL.no rfl rfl rfl hb6 rfl ?_
      refine WL.op rfl rfl (op_pickF rfl hb6 rfl ?_)
      refine WL.op rfl rfl (op_assign rfl ?_)
      refine WL.nil ?_
      refine WQ.next ?_
      refine WC.ret ?_
      refine WQ.out (.tmp rfl .nil) ?_
      exact ⟨by (rw [rNote, ← mfE_dec, ← noteE_dec, hb4, hb6]) <;> rfl, H5.fr⟩
  ·
    have hc4 := of_decide_eq_false hb4
    refine WL.no rfl rfl rfl hb4 rfl ?_
    refine WL.no rfl rfl rfl hb4 rfl ?_
    refine WL.no rfl rfl rfl hb4 rfl ?_
    refine WL.op rfl rfl (op_pickF rfl hb4 rfl ?_)
    refine WL.op rfl rfl (op_move rfl ?_)
    refine WL.no rfl rfl rfl rfl rfl ?_
    refine WL.no rfl rfl rfl rfl rfl ?_
    refine WL.no rfl rfl rfl rfl rfl ?_
    refine WL.op rfl rfl (op_pickF rfl rfl rfl ?_)
    refine WL.op rfl rfl (op_assign rfl ?_)
    refine WL.nil ?_
    refine WQ.next ?_
    refine WC.ret ?_
    refine WQ.out (.tmp rfl .nil) ?_
    exact ⟨by (rw [rNote, ← mfE_dec, ← noteE_dec, hb4]) <;> rfl, H3.fr⟩
set_option maxRecDepth 100000 in
theorem dcov_ok (m m' : Mf) (ev pv ev' pv' : Value) (w : World) (hE : Arr w ev 2 m.xs.length (List.flatMap xtc m.xs)) (hP : Arr w pv 1 m.ps.length (List.map vU16 m.ps)) (hF : Arr w ev' 2 m'.xs.length (List.flatMap xtc m'.xs)) (hQ : Arr w pv' 1 m'.ps.length (List.map vU16 m'.ps)) (hn : m.xs.length < 2 ^ 42) (hm : m.ps.length < 2 ^ 42) (hn' : m'.xs.length < 2 ^ 42) (hm' : m'.ps.length < 2 ^ 42) :
    Calls Try.prog 14 #[(.agg #[(vU32 m.pg), ev, pv, (.bool m.con)]), (.agg #[(vU32 m'.pg), ev', pv', (.bool m'.con)])] w (fun e w' => e = .returned (.bool (covM m m')) ∧ Fr [] w w') := by
  refine enter (args := [(.agg #[(vU32 m.pg), ev, pv, (.bool m.con)]), (.agg #[(vU32 m'.pg), ev', pv', (.bool m'.con)])]) Try.func14 rfl rfl ?_
  have H0 : Own [] w w [] := Own.start w []
  refine WC.seq ?_
  refine WC.region ?_
  refine WL.op rfl rfl (op_box H0 rfl rfl (fun b1 w1 H1 => ?_))
  refine WL.op rfl rfl (op_box H1 rfl rfl (fun b2 w2 H2 => ?_))
  refine WL.op rfl rfl (op_assign rfl ?_)
  refine WL.nil ?_
  refine WQ.next ?_
  refine WC.seq ?_
  refine WC.region ?_
  refine WL.op rfl rfl (op_loadS (vs := [_, _, _, _]) rfl (H2.cells (i := 0) rfl rfl) Try.underlying30 rfl Fa.I30 rfl ?_)
  refine WL.op rfl rfl (op_callF Fa.C15 rfl ((dcheck_ok m.pg _ _ m.xs m.ps m.con _ (H2.arr hE) (H2.arr hP) (by omega) (by omega)).mono (fun e w3 hq => ?_)))
  obtain ⟨rfl, hf3⟩ := hq
  refine ⟨_, rfl, ?_⟩
  have H3 := H2.fr' hf3
  refine WL.op rfl rfl (op_eqlN (b := 0) rfl rfl ?_)
  refine WL.op rfl rfl (op_move rfl ?_)
  refine WL.split (t := 8) rfl (fun (hb4 : (decide ((mfE m.pg m.xs m.ps) = 0)) = true) => ?_) (fun (hb4 : (decide ((mfE m.pg m.xs m.ps) = 0)) = false) => ?_)
  ·
    have hc4 := of_decide_eq_true hb4
    refine WL.yes rfl rfl rfl hb4 rfl (op_loadS (vs := [_, _, _, _]) rfl (H3.cells (i := 1) rfl rfl) Try.underlying30 rfl Fa.I30 rfl ?_)
    refine WL.yes rfl rfl rfl hb4 rfl (op_callF Fa.C15 rfl ((dcheck_ok m'.pg _ _ m'.xs m'.ps m'.con _ (H3.arr hF) (H3.arr hQ) (by omega) (by omega)).mono (fun e w5 hq => ?_)))
    obtain ⟨rfl, hf5⟩ := hq
    refine ⟨_, rfl, ?_⟩
    have H5 := H3.fr' hf5
    refine WL.yes rfl rfl rfl hb4 rfl (op_eqlN (b := 0) rfl rfl ?_)
    refine WL.op rfl rfl (op_pickT rfl hb4 rfl ?_)
    refine WL.op rfl rfl (op_move rfl ?_)
    refine WL.split (t := 13) rfl (fun (hb6 : (decide ((mfE m'.pg m'.xs m'.ps) = 0)) = true) => ?_) (fun (hb6 : (decide ((mfE m'.pg m'.xs m'.ps) = 0)) = false) => ?_)
    ·
      have hc6 := of_decide_eq_true hb6
      refine WL.yes rfl rfl rfl hb6 rfl (op_loadS (vs := [_, _, _, _]) rfl (H5.cells (i := 1) rfl rfl) Try.underlying30 rfl Fa.I30 rfl ?_)
      refine WL.yes rfl rfl rfl hb6 rfl (op_callF Fa.C22 rfl ((dnotes_ok m' _ _ _ (H5.arr hF) (H5.arr hQ) (by omega) (by omega)).mono (fun e w7 hq => ?_)))
      obtain ⟨v7, rfl, hq7⟩ := hq
      refine ⟨_, rfl, ?_⟩
      have H7 : Own [] w w7 [.blk b1 [(vU32 m.pg), ev, pv, (.bool m.con)] 30, .blk b2 [(vU32 m'.pg), ev', pv', (.bool m'.con)] 30, .row v7 36 3 (notesM m').length (List.flatMap ntc (notesM m'))] := H5.splice [] [] [.row v7 36 3 (notesM m').length (List.flatMap ntc (notesM m'))] rfl rfl hq7 (Fits.solid True.intro Fits.nil)
      refine WL.yes rfl rfl rfl hb6 rfl (op_makeFunc rfl rfl ?_)
      refine WL.yes rfl rfl rfl hb6 rfl (op_callF Fa.C29 rfl ((conN2_ok _ (notesM m') m _ _ b1 _ (H7.arrR (i := 2) rfl) (H7.cellsAt (i := 0) rfl) (H7.arr hE) (H7.arr hP) (by omega) (by omega) (by have h := nP_len (m := m') m'.ps.length; have h2 := notesM_len (m := m'); omega)).mono (fun e w8 hq => ?_)))
      obtain ⟨rfl, hf8⟩ := hq
      refine ⟨_, rfl, ?_⟩
      have H8 := H7.fr' hf8
      refine WL.yes rfl rfl rfl hb6 rfl (op_not rfl ?_)
      refine WL.op rfl rfl (op_pickT rfl hb6 rfl ?_)
      refine WL.op rfl rfl (op_assign rfl ?_)
      refine WL.nil ?_
      refine WQ.next ?_
      refine WC.ret ?_
      refine WQ.out (.tmp rfl .nil) ?_
      exact ⟨by (rw [covM, ← mfE_dec (m := m), ← mfE_dec (m := m'), hb4, hb6]) <;> rfl, H8.fr⟩
    ·
      have hc6 := of_decide_eq_false hb6
      refine WL.no rfl rfl rfl hb6 rfl ?_
      refine WL.no rfl rfl rfl hb6 rfl ?_
      refine WL.no rfl rfl rfl hb6 rfl ?_
      refine WL.no rfl rfl rfl hb6 rfl ?_
      refine WL.no rfl rfl rfl hb6 rfl ?_
      refine WL.op rfl rfl (op_pickF rfl hb6 rfl ?_)
      refine WL.op rfl rfl (op_assign rfl ?_)
      refine WL.nil ?_
      refine WQ.next ?_
      refine WC.ret ?_
      refine WQ.out (.tmp rfl .nil) ?_
      exact ⟨by (rw [covM, ← mfE_dec (m := m), ← mfE_dec (m := m'), hb4, hb6]) <;> rfl, H5.fr⟩
  ·
    have hc4 := of_decide_eq_false hb4
    refine WL.no rfl rfl rfl hb4 rfl ?_
    refine WL.no rfl rfl rfl hb4 rfl ?_
    refine WL.no rfl rfl rfl hb4 rfl ?_
    refine WL.op rfl rfl (op_pickF rfl hb4 rfl ?_)
    refine WL.op rfl rfl (op_move rfl ?_)
    refine WL.no rfl rfl rfl rfl rfl ?_
    refine WL.no rfl rfl rfl rfl rfl ?_
    refine WL.no rfl rfl rfl rfl rfl ?_
    refine WL.no rfl rfl rfl rfl rfl ?_
    refine WL.no rfl rfl rfl rfl rfl ?_
    refine WL.op rfl rfl (op_pickF rfl rfl rfl ?_)
    refine WL.op rfl rfl (op_assign rfl ?_)
    refine WL.nil ?_
    refine WQ.next ?_
    refine WC.ret ?_
    refine WQ.out (.tmp rfl .nil) ?_
    exact ⟨by (rw [covM, ← mfE_dec (m := m), ← mfE_dec (m := m'), hb4]) <;> rfl, H3.fr⟩
set_option maxHeartbeats 1000000 in
set_option maxRecDepth 100000 in
theorem dun_ok (lv : Value) (ms : List Mm) (w : World) (hA : Arr w lv 4 ms.length (List.flatMap mmc ms)) (hI : MmD.list.ok w ms) (hl : ms.length ≤ 600) (hfx : ∀ x ∈ ms, x.xs.length ≤ 2 ^ 46) (hfp : ∀ x ∈ ms, x.ps.length ≤ 2 ^ 46) :
    Calls Try.prog 11 #[lv] w (fun e w' => ∃ v u, e = .returned (.tuple #[.agg #[vU32 (unM (ms.map Mm.f)).pg, v, u, .bool (unM (ms.map Mm.f)).con], vN (unE (ms.map Mm.f))]) ∧ Own [] w w' [.row v 50 2 ((unM (ms.map Mm.f)).xs).length (List.flatMap xtc (unM (ms.map Mm.f)).xs), .row u 51 1 ((unM (ms.map Mm.f)).ps).length (List.map vU16 (unM (ms.map Mm.f)).ps)]) := by
  refine enter (args := [lv]) Try.func11 rfl rfl ?_
  have H0 : Own [] w w [] := Own.start w []
  refine WC.seq ?_
  refine WC.region ?_
  refine WL.op rfl rfl (op_alloc H0 Fa.I30 (fun b1 w1 H1 => ?_))
  refine WL.op rfl rfl (op_assign rfl ?_)
  refine WL.nil ?_
  refine WQ.next ?_
  refine WC.seq ?_
  refine WC.region ?_
  refine WL.op rfl rfl (op_assign rfl ?_)
  have H2 := H1.nilRow 36 3
  refine WL.nil ?_
  refine WQ.next ?_
  refine WC.seq ?_
  refine WC.seq ?_
  refine WC.region ?_
  refine WL.op rfl rfl (op_move rfl ?_)
  refine WL.op rfl rfl (op_lenA Try.underlying23 rfl (H2.arr hA) ?_)
  refine WL.op rfl rfl (op_move rfl ?_)
  refine WL.nil ?_
  refine WQ.next ?_
  refine WC.block ?_
  refine WC.loop (α := Nat × Value) (fun (k, v) => [(0, lv), (2, (ptr b1 0)), (4, v), (8, lv), (9, (vN ms.length)), (10, (vN k))]) (fun (k, v) w' => (k ≤ ms.length ∧ (∀ j, j < k → (ms.getD j Mm.zero).f.may = true)) ∧ Own [] w w' [.blk b1 [(vU32 0), (.slice none 0 0), (.slice none 0 0), (.bool false)] 30, .row v 36 3 (unL ms k).length (List.flatMap ntc (unL ms k))]) (fun (k, v) => ms.length - k) (0, .slice none 0 0) ⟨⟨Nat.zero_le _, fun j h => by omega⟩, H2⟩ ⟨rfl, rfl, rfl, rfl, rfl, rfl, trivial⟩ ?_
  rintro ⟨k, v⟩ w3 ⟨⟨hk1, hok⟩, H3⟩
  show WC _ _ _ _ _ [(0, lv), (2, (ptr b1 0)), (4, v), (8, lv), (9, (vN ms.length)), (10, (vN k))] _
  have hul := unL_len hok
  have hgx := get_prop (p := fun x : Mm => x.xs.length ≤ 2 ^ 46) (d := Mm.zero) hfx (Nat.zero_le _) k
  have hgp := get_prop (p := fun x : Mm => x.ps.length ≤ 2 ^ 46) (d := Mm.zero) hfp (Nat.zero_le _) k
  refine WC.seq ?_
  refine WC.region ?_
  refine WL.op rfl rfl (op_lssN rfl rfl ?_)
  refine WL.nil ?_
  refine WQ.next ?_
  refine WC.seq ?_
  refine WC.cond rfl (fun (hb4 : (decide (k < ms.length)) = true) => ?_) (fun (hb4 : (decide (k < ms.length)) = false) => ?_)
  ·
    have hc4 := of_decide_eq_true hb4
    refine WC.skip ?_
    refine WQ.next ?_
    refine WC.seq ?_
    refine WC.block ?_
    refine WC.seq ?_
    refine WC.region ?_
    refine WL.op rfl rfl (op_indexAddr Try.underlying23 Fa.I30 rfl (H3.arr hA) rfl (by omega) ?_)
    refine WL.op rfl rfl (op_loadSP (vs := mmc (ms.getD k Mm.zero)) rfl (Arr.atsF (H3.arr hA) (fun _ => rfl) (by decide) Mm.zero (by omega)) Try.underlying30 rfl Fa.I30 rfl ?_)
    refine WL.op rfl rfl (op_alloc H3 Fa.I30 (fun b5 w5 H5 => ?_))
    refine WL.op rfl rfl (op_storeBW (i := 2) H5 rfl rfl rfl rfl (one_cons rfl (one_cons (Arr.one ((MmD_xs (Deep.getD MmD (MmD.list.fr0 hI H5.fr) Mm.zero (MmD_zero _) k)))) (one_cons (Arr.one ((MmD_ps (Deep.getD MmD (MmD.list.fr0 hI H5.fr) Mm.zero (MmD_zero _) k)))) (one_cons rfl one_nil)))) Fa.I30 (fun w6 H6 => ?_))
    refine WL.nil ?_
    refine WQ.next ?_
    refine WC.seq ?_
    refine WC.seq ?_
    refine WC.region ?_
    refine WL.op rfl rfl (op_loadS (vs := [_, _, _, _]) rfl (H6.cells (i := 2) rfl rfl) Try.underlying30 rfl Fa.I30 rfl ?_)
    refine WL.op rfl rfl (op_callF Fa.C15 rfl ((dcheck_ok ((ms.getD k Mm.zero).pg) _ _ ((ms.getD k Mm.zero).xs) ((ms.getD k Mm.zero).ps) ((ms.getD k Mm.zero).con) _ ((MmD_xs (Deep.getD MmD (MmD.list.fr0 hI H6.fr) Mm.zero (MmD_zero _) k))) ((MmD_ps (Deep.getD MmD (MmD.list.fr0 hI H6.fr) Mm.zero (MmD_zero _) k))) (by omega) (by omega)).mono (fun e w7 hq => ?_)))
    obtain ⟨rfl, hf7⟩ := hq
    refine ⟨_, rfl, ?_⟩
    have H7 := H6.fr' hf7
    refine WL.op rfl rfl (op_assign rfl ?_)
    refine WL.nil ?_
    refine WQ.next ?_
    refine WC.seq ?_
    refine WC.region ?_
    refine WL.op rfl rfl (op_move rfl ?_)
    refine WL.op rfl rfl (op_neqN (b := 0) rfl rfl ?_)
    refine WL.nil ?_
    refine WQ.next ?_
    refine WC.cond rfl (fun (hb8 : (decide ((mfE ((ms.getD k Mm.zero).pg) ((ms.getD k Mm.zero).xs) ((ms.getD k Mm.zero).ps)) ≠ 0)) = true) => ?_) (fun (hb8 : (decide ((mfE ((ms.getD k Mm.zero).pg) ((ms.getD k Mm.zero).xs) ((ms.getD k Mm.zero).ps)) ≠ 0)) = false) => ?_)
    ·
      have hc8 := of_decide_eq_true hb8
      refine WC.seq ?_
      refine WC.region ?_
      refine WL.op rfl rfl (op_build (cs := [_, _, _, _]) Fa.I30 Fa.PL30 rfl rfl ?_)
      refine WL.op rfl rfl (op_move rfl ?_)
      refine WL.op rfl rfl (op_storeBW (i := 0) H7 rfl rfl rfl rfl rfl Fa.I30 (fun w9 H9 => ?_))
      refine WL.op rfl rfl (op_assign rfl ?_)
      refine WL.nil ?_
      refine WQ.next ?_
      refine WC.ret ?_
      refine WQ.thenRet ?_
      refine WQ.inRet ?_
      refine WQ.thenRet ?_
      refine WQ.thenRet ?_
      refine WQ.inRet ?_
      refine WQ.thenRet ?_
      refine WQ.out (.cell rfl (run_loadVarS (vs := [_, _, _, _]) (H9.cells (i := 0) rfl rfl) Try.underlying30 rfl Fa.I30 rfl) (.tmp rfl .nil)) ?_
      have hnm := mfE_not (m := (ms.getD k Mm.zero).f) hb8
      have hub := un_bad (k := k) (by omega) hnm.1
      rw [hub.1, hub.2, show mfE (ms.getD k Mm.zero).pg (ms.getD k Mm.zero).xs (ms.getD k Mm.zero).ps = 2 from hnm.2]
      exact ⟨_, _, rfl, ((H9.nilRow 50 2).nilRow 51 1).sel [3, 4] rfl rfl⟩
    ·
      have hc8 := of_decide_eq_false hb8
      refine WC.skip ?_
      refine WQ.next ?_
      refine WC.region ?_
      refine WL.op rfl rfl (op_move rfl ?_)
      have hml : (ms.getD k Mm.zero).f.xs.length ≤ 16 ∧ (ms.getD k Mm.zero).f.ps.length ≤ 16 := may_len (m := (ms.getD k Mm.zero).f) (mfE_may (m := (ms.getD k Mm.zero).f) hb8)
      have hnl : (notesM (ms.getD k Mm.zero).f).length ≤ 34 := by rw [notes_may (mfE_may (m := (ms.getD k Mm.zero).f) hb8)]; exact notes_len (mfE_may (m := (ms.getD k Mm.zero).f) hb8)
      refine WL.op rfl rfl (op_loadS (vs := [_, _, _, _]) rfl (H7.cells (i := 2) rfl rfl) Try.underlying30 rfl Fa.I30 rfl ?_)
      refine WL.op rfl rfl (op_callF Fa.C22 rfl ((dnotes_ok (ms.getD k Mm.zero).f _ _ _ ((MmD_xs (Deep.getD MmD (MmD.list.fr0 hI H7.fr) Mm.zero (MmD_zero _) k))) ((MmD_ps (Deep.getD MmD (MmD.list.fr0 hI H7.fr) Mm.zero (MmD_zero _) k))) (by omega) (by omega)).mono (fun e w10 hq => ?_)))
      obtain ⟨v10, rfl, hq10⟩ := hq
      refine ⟨_, rfl, ?_⟩
      have H10 : Own [] w w10 [.blk b1 [(vU32 0), (.slice none 0 0), (.slice none 0 0), (.bool false)] 30, .row v 36 3 (unL ms k).length (List.flatMap ntc (unL ms k)), .blk b5 [(vU32 (ms.getD k Mm.zero).pg), (ms.getD k Mm.zero).ev, (ms.getD k Mm.zero).pv, (.bool (ms.getD k Mm.zero).con)] 30, .row v10 36 3 (notesM (ms.getD k Mm.zero).f).length (List.flatMap ntc (notesM (ms.getD k Mm.zero).f))] := H7.splice [] [] [.row v10 36 3 (notesM (ms.getD k Mm.zero).f).length (List.flatMap ntc (notesM (ms.getD k Mm.zero).f))] rfl rfl hq10 (Fits.solid True.intro Fits.nil)
      refine WL.op rfl rfl (op_appendF (f := ntc) (l := (unL ms k)) (l' := (notesM (ms.getD k Mm.zero).f)) (i := 1) H10 Try.underlying22 Fa.I36 rfl rfl rfl rfl (Src.ofArr Try.underlying22 (H10.arrR (i := 3) rfl)) (one_flat (fun _ => by simp [ntc, Value.oneCell'])) (by omega) (by omega) (fun v11 w11 H11 => ?_))
      refine WL.op rfl rfl (op_assign rfl ?_)
      refine WL.nil ?_
      refine WQ.inNormal ?_
      refine WQ.next ?_
      refine WC.region ?_
      refine WL.op rfl rfl (op_addN (b := 1) rfl rfl (by omega) ?_)
      refine WL.op rfl rfl (op_move rfl ?_)
      refine WL.nil ?_
      have hmy := (mfE_may (m := (ms.getD k Mm.zero).f) hb8)
      exact WQ.round (k + 1, v11) ⟨⟨by omega, allPrev hok hmy⟩, (Own.rowEqF (i := 1) (f := ntc) (show Own [] w w11 [.blk b1 [(vU32 0), (.slice none 0 0), (.slice none 0 0), (.bool false)] 30, .row v11 36 3 ((unL ms k).length + (notesM (ms.getD k Mm.zero).f).length) (List.flatMap ntc ((unL ms k) ++ (notesM (ms.getD k Mm.zero).f)))] from (H11.take 2)) rfl (by rw [notes_may hmy]; try rfl) (by rw [notes_may hmy, unL, List.length_append]; try rfl))⟩ ⟨rfl, rfl, rfl, rfl, rfl, rfl, trivial⟩ (by show ms.length - (k + 1) < ms.length - k; omega)
  ·
    have hc4 := of_decide_eq_false hb4
    refine WC.exit ?_
    refine WQ.thenExit ?_
    refine WQ.thenExit ?_
    refine WQ.inHere ?_
    refine WQ.next ?_
    refine WC.seq ?_
    refine WC.region ?_
    refine WL.op rfl rfl (op_move rfl ?_)
    refine WL.op rfl rfl (op_callF Fa.C9 rfl ((dof_ok _ (unL ms k) _ (H3.arrR (i := 1) rfl) (by omega)).mono (fun e w12 hq => ?_)))
    obtain ⟨v12, u12, rfl, hq12⟩ := hq
    refine ⟨_, rfl, ?_⟩
    have H12 : Own [] w w12 [.blk b1 [(vU32 0), (.slice none 0 0), (.slice none 0 0), (.bool false)] 30, .row v 36 3 (unL ms k).length (List.flatMap ntc (unL ms k)), .row v12 50 2 ((ofM (unL ms k)).xs).length (List.flatMap xtc (ofM (unL ms k)).xs), .row u12 51 1 ((ofM (unL ms k)).ps).length (List.map vU16 (ofM (unL ms k)).ps)] := H3.splice [] [] [.row v12 50 2 ((ofM (unL ms k)).xs).length (List.flatMap xtc (ofM (unL ms k)).xs), .row u12 51 1 ((ofM (unL ms k)).ps).length (List.map vU16 (ofM (unL ms k)).ps)] rfl rfl hq12 (Fits.solid True.intro (Fits.solid True.intro Fits.nil))
    refine WL.op rfl rfl (op_extract rfl rfl ?_)
    refine WL.op rfl rfl (op_extract rfl rfl ?_)
    refine WL.op rfl rfl (op_storeBW (i := 0) H12 rfl rfl rfl rfl (one_cons rfl (one_cons (Arr.one (H12.arrR (i := 2) rfl)) (one_cons (Arr.one (H12.arrR (i := 3) rfl)) (one_cons rfl one_nil)))) Fa.I30 (fun w13 H13 => ?_))
    refine WL.op rfl rfl (op_assign rfl ?_)
    refine WL.nil ?_
    refine WQ.next ?_
    refine WC.ret ?_
    refine WQ.out (.cell rfl (run_loadVarS (vs := [_, _, _, _]) (H13.cells (i := 0) rfl rfl) Try.underlying30 rfl Fa.I30 rfl) (.tmp rfl .nil)) ?_
    have h := (show Own [] w w13 [.blk b1 [(vU32 (ofM (unL ms k)).pg), v12, u12, (.bool (ofM (unL ms k)).con)] 30, .row v 36 3 (unL ms k).length (List.flatMap ntc (unL ms k)), .row v12 50 2 ((ofM (unL ms k)).xs).length (List.flatMap xtc (ofM (unL ms k)).xs), .row u12 51 1 ((ofM (unL ms k)).ps).length (List.map vU16 (ofM (unL ms k)).ps)] from H13)
    obtain rfl : k = ms.length := by omega
    have hue := un_end (fun j hj => hok j (by omega))
    rw [hue.1, hue.2]
    exact ⟨_, _, rfl, h.sel [2, 3] rfl rfl⟩
end Go.Proofs.Ytnngbnenekjffaa
/-! from EDem9 -/
namespace Go.Proofs.Ytnngbnenekjffaa
open Go.Owl Go.Spec
set_option maxHeartbeats 1000000 in
set_option maxRecDepth 100000 in
theorem alive11_ok  (w : World) :
    Calls Try.prog 8 #[] w (fun e w' => e = .returned (.bool true) ∧ Fr [] w w') := by
  refine enter (args := []) Try.func8 rfl rfl ?_
  have H0 : Own [] w w [] := Own.start w []
  refine WC.seq ?_
  refine WC.region ?_
  refine WL.op rfl rfl (op_assign rfl ?_)
  refine WL.nil ?_
  refine WQ.next ?_
  refine WC.seq ?_
  refine WC.region ?_
  refine WL.op rfl rfl (op_build (cs := [_, _, _]) Fa.I36 Fa.PL36 rfl rfl ?_)
  refine WL.op rfl rfl (op_build (cs := [_, _, _]) Fa.I36 Fa.PL36 rfl rfl ?_)
  refine WL.op rfl rfl (op_build (cs := [_, _, _]) Fa.I36 Fa.PL36 rfl rfl ?_)
  refine WL.op rfl rfl (op_build (cs := [_, _, _]) Fa.I36 Fa.PL36 rfl rfl ?_)
  refine WL.op rfl rfl (op_buildSlice (cs := [_, _, _, _, _, _, _, _, _, _, _, _]) H0 Try.underlying22 Fa.I36 rfl rfl rfl rfl (by decide) (by decide) (fun b1 w1 H1 => ?_))
  refine WL.op rfl rfl (op_callF Fa.C9 rfl ((dof_ok _ ([(Nt.mk 2 2 3), (Nt.mk 3 9 0), (Nt.mk 2 2 5), (Nt.mk 3 7 0)]) _ (H1.arrR (i := 0) rfl) (by decide)).mono (fun e w2 hq => ?_)))
  obtain ⟨v2, u2, rfl, hq2⟩ := hq
  refine ⟨_, rfl, ?_⟩
  have H2 : Own [] w w2 [.row (.slice (some ⟨b1, 0, none⟩) 4 4) 36 3 4 (List.flatMap ntc [(Nt.mk 2 2 3), (Nt.mk 3 9 0), (Nt.mk 2 2 5), (Nt.mk 3 7 0)]), .row v2 50 2 ((ofM ([(Nt.mk 2 2 3), (Nt.mk 3 9 0), (Nt.mk 2 2 5), (Nt.mk 3 7 0)])).xs).length (List.flatMap xtc (ofM ([(Nt.mk 2 2 3), (Nt.mk 3 9 0), (Nt.mk 2 2 5), (Nt.mk 3 7 0)])).xs), .row u2 51 1 ((ofM ([(Nt.mk 2 2 3), (Nt.mk 3 9 0), (Nt.mk 2 2 5), (Nt.mk 3 7 0)])).ps).length (List.map vU16 (ofM ([(Nt.mk 2 2 3), (Nt.mk 3 9 0), (Nt.mk 2 2 5), (Nt.mk 3 7 0)])).ps)] := H1.splice [] [] [.row v2 50 2 ((ofM ([(Nt.mk 2 2 3), (Nt.mk 3 9 0), (Nt.mk 2 2 5), (Nt.mk 3 7 0)])).xs).length (List.flatMap xtc (ofM ([(Nt.mk 2 2 3), (Nt.mk 3 9 0), (Nt.mk 2 2 5), (Nt.mk 3 7 0)])).xs), .row u2 51 1 ((ofM ([(Nt.mk 2 2 3), (Nt.mk 3 9 0), (Nt.mk 2 2 5), (Nt.mk 3 7 0)])).ps).length (List.map vU16 (ofM ([(Nt.mk 2 2 3), (Nt.mk 3 9 0), (Nt.mk 2 2 5), (Nt.mk 3 7 0)])).ps)] rfl rfl hq2 (Fits.solid True.intro (Fits.solid True.intro Fits.nil))
  refine WL.op rfl rfl (op_move rfl ?_)
  refine WL.op rfl rfl (op_extract rfl rfl ?_)
  refine WL.op rfl rfl (op_extract rfl rfl ?_)
  refine WL.op rfl rfl (op_alloc H2 Fa.I30 (fun b3 w3 H3 => ?_))
  refine WL.op rfl rfl (op_storeBW (i := 3) H3 rfl rfl rfl rfl (one_cons rfl (one_cons (Arr.one (H3.arrR (i := 1) rfl)) (one_cons (Arr.one (H3.arrR (i := 2) rfl)) (one_cons rfl one_nil)))) Fa.I30 (fun w4 H4 => ?_))
  refine WL.op rfl rfl (op_assign rfl ?_)
  refine WL.nil ?_
  refine WQ.next ?_
  refine WC.seq ?_
  refine WC.region ?_
  refine WL.op rfl rfl (op_build (cs := [_, _, _]) Fa.I36 Fa.PL36 rfl rfl ?_)
  refine WL.op rfl rfl (op_buildSlice (cs := [_, _, _]) H4 Try.underlying22 Fa.I36 rfl rfl rfl rfl (by decide) (by decide) (fun b5 w5 H5 => ?_))
  refine WL.op rfl rfl (op_callF Fa.C9 rfl ((dof_ok _ ([(Nt.mk 0 0 0)]) _ (H5.arrR (i := 4) rfl) (by decide)).mono (fun e w6 hq => ?_)))
  obtain ⟨v6, u6, rfl, hq6⟩ := hq
  refine ⟨_, rfl, ?_⟩
  have H6 : Own [] w w6 [.row (.slice (some ⟨b1, 0, none⟩) 4 4) 36 3 4 (List.flatMap ntc [(Nt.mk 2 2 3), (Nt.mk 3 9 0), (Nt.mk 2 2 5), (Nt.mk 3 7 0)]), .row v2 50 2 ((ofM ([(Nt.mk 2 2 3), (Nt.mk 3 9 0), (Nt.mk 2 2 5), (Nt.mk 3 7 0)])).xs).length (List.flatMap xtc (ofM ([(Nt.mk 2 2 3), (Nt.mk 3 9 0), (Nt.mk 2 2 5), (Nt.mk 3 7 0)])).xs), .row u2 51 1 ((ofM ([(Nt.mk 2 2 3), (Nt.mk 3 9 0), (Nt.mk 2 2 5), (Nt.mk 3 7 0)])).ps).length (List.map vU16 (ofM ([(Nt.mk 2 2 3), (Nt.mk 3 9 0), (Nt.mk 2 2 5), (Nt.mk 3 7 0)])).ps), .blk b3 [(vU32 (ofM ([(Nt.mk 2 2 3), (Nt.mk 3 9 0), (Nt.mk 2 2 5), (Nt.mk 3 7 0)])).pg), v2, u2, (.bool (ofM ([(Nt.mk 2 2 3), (Nt.mk 3 9 0), (Nt.mk 2 2 5), (Nt.mk 3 7 0)])).con)] 30, .row (.slice (some ⟨b5, 0, none⟩) 1 1) 36 3 1 (List.flatMap ntc [(Nt.mk 0 0 0)]), .row v6 50 2 ((ofM ([(Nt.mk 0 0 0)])).xs).length (List.flatMap xtc (ofM ([(Nt.mk 0 0 0)])).xs), .row u6 51 1 ((ofM ([(Nt.mk 0 0 0)])).ps).length (List.map vU16 (ofM ([(Nt.mk 0 0 0)])).ps)] := H5.splice [] [] [.row v6 50 2 ((ofM ([(Nt.mk 0 0 0)])).xs).length (List.flatMap xtc (ofM ([(Nt.mk 0 0 0)])).xs), .row u6 51 1 ((ofM ([(Nt.mk 0 0 0)])).ps).length (List.map vU16 (ofM ([(Nt.mk 0 0 0)])).ps)] rfl rfl hq6 (Fits.solid True.intro (Fits.solid True.intro Fits.nil))
  refine WL.op rfl rfl (op_move rfl ?_)
  refine WL.op rfl rfl (op_extract rfl rfl ?_)
  refine WL.op rfl rfl (op_extract rfl rfl ?_)
  refine WL.op rfl rfl (op_alloc H6 Fa.I30 (fun b7 w7 H7 => ?_))
  refine WL.op rfl rfl (op_storeBW (i := 7) H7 rfl rfl rfl rfl (one_cons rfl (one_cons (Arr.one (H7.arrR (i := 5) rfl)) (one_cons (Arr.one (H7.arrR (i := 6) rfl)) (one_cons rfl one_nil)))) Fa.I30 (fun w8 H8 => ?_))
  refine WL.op rfl rfl (op_assign rfl ?_)
  refine WL.nil ?_
  refine WQ.next ?_
  refine WC.seq ?_
  refine WC.region ?_
  refine WL.op rfl rfl (op_move rfl ?_)
  refine WL.op rfl rfl (op_eqlN (b := 0) rfl rfl ?_)
  refine WL.op rfl rfl (op_move rfl ?_)
  refine WL.yes rfl rfl rfl al1 rfl (op_loadS (vs := [_, _, _, _]) rfl (H8.cells (i := 3) rfl rfl) Try.underlying30 rfl Fa.I30 rfl ?_)
  refine WL.yes rfl rfl rfl al1 rfl (op_build (cs := [_, _]) Fa.I50 Fa.PL50 rfl rfl ?_)
  refine WL.yes rfl rfl rfl al1 rfl (op_buildSlice (cs := [_, _]) H8 Try.underlying27 Fa.I50 rfl rfl rfl rfl (by decide) (by decide) (fun b9 w9 H9 => ?_))
  refine WL.yes rfl rfl rfl al1 rfl (op_buildSlice (cs := [_, _]) H9 Try.underlying28 Fa.I51 rfl rfl rfl rfl (by decide) (by decide) (fun b10 w10 H10 => ?_))
  refine WL.yes rfl rfl rfl al1 rfl (op_build (cs := [_, _, _, _]) Fa.I30 Fa.PL30 rfl rfl ?_)
  refine WL.yes rfl rfl rfl al1 rfl (op_callF Fa.C13 rfl (((same_of (a := (ofM ([(Nt.mk 2 2 3), (Nt.mk 3 9 0), (Nt.mk 2 2 5), (Nt.mk 3 7 0)]))) (b := (Mf.mk 0 ([(Xt.mk 2 5)]) ([7, 9]) false)) (rmsame_ok ((ofM ([(Nt.mk 2 2 3), (Nt.mk 3 9 0), (Nt.mk 2 2 5), (Nt.mk 3 7 0)])).pg) ((ofM ([(Nt.mk 2 2 3), (Nt.mk 3 9 0), (Nt.mk 2 2 5), (Nt.mk 3 7 0)])).con) _ _ ((ofM ([(Nt.mk 2 2 3), (Nt.mk 3 9 0), (Nt.mk 2 2 5), (Nt.mk 3 7 0)])).xs) ((ofM ([(Nt.mk 2 2 3), (Nt.mk 3 9 0), (Nt.mk 2 2 5), (Nt.mk 3 7 0)])).ps) 0 false _ _ ([(Xt.mk 2 5)]) ([7, 9]) _ (H10.arrR (i := 1) rfl) (H10.arrR (i := 2) rfl) (H10.arrR (i := 8) rfl) (H10.arrR (i := 9) rfl) (Nat.lt_trans al8 (by decide)) (Nat.lt_trans al9 (by decide))))).mono (fun e w11 hq => ?_)))
  obtain ⟨rfl, hf11⟩ := hq
  refine ⟨_, rfl, ?_⟩
  have H11 := H10.fr' hf11
  refine WL.op rfl rfl (op_pickT rfl al1 rfl ?_)
  refine WL.op rfl rfl (op_move rfl ?_)
  refine WL.yes rfl rfl rfl al2 rfl (op_move rfl ?_)
  refine WL.yes rfl rfl rfl al2 rfl (op_eqlN (b := 2) rfl rfl ?_)
  refine WL.op rfl rfl (op_pickT rfl al2 rfl ?_)
  refine WL.op rfl rfl (op_move rfl ?_)
  refine WL.yes rfl rfl rfl al3 rfl (op_loadS (vs := [_, _, _, _]) rfl (H11.cells (i := 3) rfl rfl) Try.underlying30 rfl Fa.I30 rfl ?_)
  refine WL.yes rfl rfl rfl al3 rfl (op_callF Fa.C15 rfl ((dcheck_ok ((ofM ([(Nt.mk 2 2 3), (Nt.mk 3 9 0), (Nt.mk 2 2 5), (Nt.mk 3 7 0)])).pg) _ _ ((ofM ([(Nt.mk 2 2 3), (Nt.mk 3 9 0), (Nt.mk 2 2 5), (Nt.mk 3 7 0)])).xs) ((ofM ([(Nt.mk 2 2 3), (Nt.mk 3 9 0), (Nt.mk 2 2 5), (Nt.mk 3 7 0)])).ps) ((ofM ([(Nt.mk 2 2 3), (Nt.mk 3 9 0), (Nt.mk 2 2 5), (Nt.mk 3 7 0)])).con) _ (H11.arrR (i := 1) rfl) (H11.arrR (i := 2) rfl) (Nat.lt_trans al8 (by decide)) (Nat.lt_trans al9 (by decide))).mono (fun e w12 hq => ?_)))
  obtain ⟨rfl, hf12⟩ := hq
  refine ⟨_, rfl, ?_⟩
  have H12 := H11.fr' hf12
  refine WL.yes rfl rfl rfl al3 rfl (op_eqlN (b := 0) rfl rfl ?_)
  refine WL.op rfl rfl (op_pickT rfl al3 rfl ?_)
  refine WL.op rfl rfl (op_move rfl ?_)
  refine WL.yes rfl rfl rfl al4 rfl (op_loadS (vs := [_, _, _, _]) rfl (H12.cells (i := 3) rfl rfl) Try.underlying30 rfl Fa.I30 rfl ?_)
  refine WL.yes rfl rfl rfl al4 rfl (op_build (cs := [_, _, _]) Fa.I36 Fa.PL36 rfl rfl ?_)
  refine WL.yes rfl rfl rfl al4 rfl (op_callF Fa.C18 rfl ((dnote_ok (ofM ([(Nt.mk 2 2 3), (Nt.mk 3 9 0), (Nt.mk 2 2 5), (Nt.mk 3 7 0)])) _ _ (Nt.mk 3 7 0) _ (H12.arrR (i := 1) rfl) (H12.arrR (i := 2) rfl) (Nat.lt_trans al8 (by decide)) (Nat.lt_trans al9 (by decide))).mono (fun e w13 hq => ?_)))
  obtain ⟨rfl, hf13⟩ := hq
  refine ⟨_, rfl, ?_⟩
  have H13 := H12.fr' hf13
  refine WL.op rfl rfl (op_pickT rfl al4 rfl ?_)
  refine WL.op rfl rfl (op_move rfl ?_)
  refine WL.yes rfl rfl rfl al5 rfl (op_loadS (vs := [_, _, _, _]) rfl (H13.cells (i := 3) rfl rfl) Try.underlying30 rfl Fa.I30 rfl ?_)
  refine WL.yes rfl rfl rfl al5 rfl (op_build (cs := [_, _, _]) Fa.I36 Fa.PL36 rfl rfl ?_)
  refine WL.yes rfl rfl rfl al5 rfl (op_callF Fa.C18 rfl ((dnote_ok (ofM ([(Nt.mk 2 2 3), (Nt.mk 3 9 0), (Nt.mk 2 2 5), (Nt.mk 3 7 0)])) _ _ (Nt.mk 4 0 0) _ (H13.arrR (i := 1) rfl) (H13.arrR (i := 2) rfl) (Nat.lt_trans al8 (by decide)) (Nat.lt_trans al9 (by decide))).mono (fun e w14 hq => ?_)))
  obtain ⟨rfl, hf14⟩ := hq
  refine ⟨_, rfl, ?_⟩
  have H14 := H13.fr' hf14
  refine WL.yes rfl rfl rfl al5 rfl (op_not rfl ?_)
  refine WL.op rfl rfl (op_pickT rfl al5 rfl ?_)
  refine WL.op rfl rfl (op_move rfl ?_)
  refine WL.yes rfl rfl rfl (congrArg Bool.not al6) rfl (op_loadS (vs := [_, _, _, _]) rfl (H14.cells (i := 3) rfl rfl) Try.underlying30 rfl Fa.I30 rfl ?_)
  refine WL.yes rfl rfl rfl (congrArg Bool.not al6) rfl (op_loadS (vs := [_, _, _, _]) rfl (H14.cells (i := 3) rfl rfl) Try.underlying30 rfl Fa.I30 rfl ?_)
  refine WL.yes rfl rfl rfl (congrArg Bool.not al6) rfl (op_callF Fa.C14 rfl ((dcov_ok (ofM ([(Nt.mk 2 2 3), (Nt.mk 3 9 0), (Nt.mk 2 2 5), (Nt.mk 3 7 0)])) (ofM ([(Nt.mk 2 2 3), (Nt.mk 3 9 0), (Nt.mk 2 2 5), (Nt.mk 3 7 0)])) _ _ _ _ _ (H14.arrR (i := 1) rfl) (H14.arrR (i := 2) rfl) (H14.arrR (i := 1) rfl) (H14.arrR (i := 2) rfl) al8 al9 al8 al9).mono (fun e w15 hq => ?_)))
  obtain ⟨rfl, hf15⟩ := hq
  refine ⟨_, rfl, ?_⟩
  have H15 := H14.fr' hf15
  refine WL.op rfl rfl (op_pickT rfl (congrArg Bool.not al6) rfl ?_)
  refine WL.op rfl rfl (op_assign rfl ?_)
  refine WL.nil ?_
  refine WQ.next ?_
  refine WC.ret ?_
  refine WQ.out (.tmp rfl .nil) ?_
  exact ⟨by rw [al7]; rfl, H15.fr⟩
end Go.Proofs.Ytnngbnenekjffaa
/-! from EDem12 -/
namespace Go.Proofs.Ytnngbnenekjffaa
open Go.Owl Go.Spec
set_option maxHeartbeats 4000000 in
set_option maxRecDepth 100000 in
theorem demandOrder_ok (lv : Value) (l : List Nt) (at_ turn : UInt8) (w : World) (hA : Arr w lv 3 l.length (List.flatMap ntc l)) (hn : l.length ≤ 2 ^ 46) :
    Calls Try.prog 6 #[lv, (vU8 at_), (vU8 turn)] w (fun e w' => e = .returned (.bool true) ∧ Fr [] w w') := by
  refine enter (args := [lv, (vU8 at_), (vU8 turn)]) Try.func6 rfl rfl ?_
  have H0 : Own [] w w [] := Own.start w []
  refine WC.seq ?_
  refine WC.region ?_
  refine WL.op rfl rfl (op_assign rfl ?_)
  refine WL.nil ?_
  refine WQ.next ?_
  refine WC.seq ?_
  refine WC.seq ?_
  refine WC.region ?_
  refine WL.op rfl rfl (op_move rfl ?_)
  refine WL.op rfl rfl (op_lenA Try.underlying22 rfl (H0.arr hA) ?_)
  refine WL.op rfl rfl (op_gtrN (b := 100) rfl rfl ?_)
  refine WL.nil ?_
  refine WQ.next ?_
  refine WC.cond rfl (fun (hb1 : (decide (l.length > 100)) = true) => ?_) (fun (hb1 : (decide (l.length > 100)) = false) => ?_)
  ·
    have hc1 := of_decide_eq_true hb1
    refine WC.seq ?_
    refine WC.region ?_
    refine WL.op rfl rfl (op_callF Fa.C8 rfl ((alive11_ok _).mono (fun e w2 hq => ?_)))
    obtain ⟨rfl, hf2⟩ := hq
    refine ⟨_, rfl, ?_⟩
    have H2 := H0.fr' hf2
    refine WL.op rfl rfl (op_assign rfl ?_)
    refine WL.nil ?_
    refine WQ.next ?_
    refine WC.ret ?_
    refine WQ.thenRet ?_
    refine WQ.out (.tmp rfl .nil) ?_
    exact ⟨rfl, H2.fr⟩
  ·
    have hc1 := of_decide_eq_false hb1
    refine WC.skip ?_
    refine WQ.next ?_
    refine WC.seq ?_
    refine WC.region ?_
    refine WL.op rfl rfl (op_move rfl ?_)
    refine WL.op rfl rfl (op_callF Fa.C9 rfl ((dof_ok _ l _ (H0.arr hA) (by first | omega | (rw [List.length_append, turn_len]; omega) | (simp only [List.length_take, List.length_drop]; omega))).mono (fun e w3 hq => ?_)))
    obtain ⟨v3, u3, rfl, hq3⟩ := hq
    refine ⟨_, rfl, ?_⟩
    have H3 : Own [] w w3 [.row v3 50 2 ((ofM l).xs).length (List.flatMap xtc (ofM l).xs), .row u3 51 1 ((ofM l).ps).length (List.map vU16 (ofM l).ps)] := H0.splice [] [] [.row v3 50 2 ((ofM l).xs).length (List.flatMap xtc (ofM l).xs), .row u3 51 1 ((ofM l).ps).length (List.map vU16 (ofM l).ps)] rfl rfl hq3 (Fits.solid True.intro (Fits.solid True.intro Fits.nil))
    refine WL.op rfl rfl (op_move rfl ?_)
    refine WL.op rfl rfl (op_extract rfl rfl ?_)
    refine WL.op rfl rfl (op_extract rfl rfl ?_)
    refine WL.op rfl rfl (op_alloc H3 Fa.I30 (fun b4 w4 H4 => ?_))
    refine WL.op rfl rfl (op_storeBW (i := 2) H4 rfl rfl rfl rfl (one_cons rfl (one_cons (Arr.one (H4.arrR (i := 0) rfl)) (one_cons (Arr.one (H4.arrR (i := 1) rfl)) (one_cons rfl one_nil)))) Fa.I30 (fun w5 H5 => ?_))
    refine WL.op rfl rfl (op_assign rfl ?_)
    refine WL.nil ?_
    refine WQ.next ?_
    refine WC.seq ?_
    refine WC.region ?_
    refine WL.op rfl rfl (op_assign rfl ?_)
    have H6 := H5.nilRow 36 3
    refine WL.nil ?_
    refine WQ.next ?_
    refine WC.seq ?_
    refine WC.seq ?_
    refine WC.region ?_
    refine WL.op rfl rfl (op_assign rfl ?_)
    refine WL.nil ?_
    refine WQ.next ?_
    refine WC.block ?_
    refine WC.loop (α := Nat × Value) (fun (k, v) => [(0, lv), (1, (vU8 at_)), (2, (vU8 turn)), (7, (ptr b4 0)), (8, (vN (ofE l))), (9, v), (10, (vN k))]) (fun (k, v) w' => (k ≤ l.length) ∧ Own [] w w' [.row v3 50 2 ((ofM l).xs).length (List.flatMap xtc (ofM l).xs), .row u3 51 1 ((ofM l).ps).length (List.map vU16 (ofM l).ps), .blk b4 [(vU32 (ofM l).pg), v3, u3, (.bool (ofM l).con)] 30, .row v 36 3 (turnL l turn.toNat k).length (List.flatMap ntc (turnL l turn.toNat k))]) (fun (k, v) => l.length - k) (0, .slice none 0 0) ⟨(Nat.zero_le _), H6⟩ ⟨rfl, rfl, rfl, rfl, rfl, rfl, rfl, trivial⟩ ?_
    rintro ⟨k, v⟩ w7 ⟨hk1, H7⟩
    show WC _ _ _ _ _ [(0, lv), (1, (vU8 at_)), (2, (vU8 turn)), (7, (ptr b4 0)), (8, (vN (ofE l))), (9, v), (10, (vN k))] _
    have htl := turn_len (l := l) (t := turn.toNat) k
    have htt := turn.toNat_lt
    refine WC.seq ?_
    refine WC.seq ?_
    refine WC.region ?_
    refine WL.op rfl rfl (op_move rfl ?_)
    refine WL.op rfl rfl (op_move rfl ?_)
    refine WL.op rfl rfl (op_lenA Try.underlying22 rfl (H7.arr hA) ?_)
    refine WL.op rfl rfl (op_lssN rfl rfl ?_)
    refine WL.nil ?_
    refine WQ.next ?_
    refine WC.cond rfl (fun (hb8 : (decide (k < l.length)) = true) => ?_) (fun (hb8 : (decide (k < l.length)) = false) => ?_)
    ·
      have hc8 := of_decide_eq_true hb8
      refine WC.skip ?_
      refine WQ.next ?_
      refine WC.seq ?_
      refine WC.block ?_
      refine WC.region ?_
      refine WL.op rfl rfl (op_move rfl ?_)
      refine WL.op rfl rfl (op_move rfl ?_)
      refine WL.op rfl rfl (op_move rfl ?_)
      refine WL.op rfl rfl (op_move rfl ?_)
      refine WL.op rfl rfl (op_convU8N (hs := Try.underlying5) (hd := Try.underlying3) rfl ?_)
      refine WL.op rfl rfl (op_addN rfl rfl (by omega) ?_)
      refine WL.op rfl rfl (op_move rfl ?_)
      refine WL.op rfl rfl (op_lenA Try.underlying22 rfl (H7.arr hA) ?_)
      refine WL.op rfl rfl (op_remN rfl rfl (by omega) ?_)
      refine WL.op rfl rfl (op_indexAddr Try.underlying22 Fa.I36 rfl (H7.arr hA) rfl (Nat.mod_lt _ (by omega)) ?_)
      refine WL.op rfl rfl (op_loadSP (vs := ntc (l.getD ((k + turn.toNat) % l.length) Nt.zero)) rfl (Arr.atsF (H7.arr hA) (fun _ => rfl) (by decide) Nt.zero (Nat.mod_lt _ (by omega))) Try.underlying36 rfl Fa.I36 rfl ?_)
      refine WL.op rfl rfl (op_buildSlice (cs := [_, _, _]) H7 Try.underlying22 Fa.I36 rfl rfl rfl rfl (by decide) (by decide) (fun b9 w9 H9 => ?_))
      refine WL.op rfl rfl (op_appendF (f := ntc) (l := (turnL l turn.toNat k)) (l' := [(l.getD ((k + turn.toNat) % l.length) Nt.zero)]) (i := 3) H9 Try.underlying22 Fa.I36 rfl rfl rfl rfl (Src.ofArr Try.underlying22 (H9.arrR (i := 4) rfl)) (one_flat (fun _ => by simp [ntc, Value.oneCell'])) (by omega) (by omega) (fun v10 w10 H10 => ?_))
      refine WL.op rfl rfl (op_assign rfl ?_)
      refine WL.nil ?_
      refine WQ.inNormal ?_
      refine WQ.next ?_
      refine WC.region ?_
      refine WL.op rfl rfl (op_move rfl ?_)
      refine WL.op rfl rfl (op_addN (b := 1) rfl rfl (by omega) ?_)
      refine WL.op rfl rfl (op_assign rfl ?_)
      refine WL.nil ?_
      exact WQ.round (k + 1, v10) ⟨(by omega), (Own.rowEqF (i := 3) (f := ntc) (show Own [] w w10 [.row v3 50 2 ((ofM l).xs).length (List.flatMap xtc (ofM l).xs), .row u3 51 1 ((ofM l).ps).length (List.map vU16 (ofM l).ps), .blk b4 [(vU32 (ofM l).pg), v3, u3, (.bool (ofM l).con)] 30, .row v10 36 3 ((turnL l turn.toNat k).length + 1) (List.flatMap ntc ((turnL l turn.toNat k) ++ [(l.getD ((k + turn.toNat) % l.length) Nt.zero)]))] from (H10.take 4)) rfl rfl (by rw [turnL, List.length_append]; rfl))⟩ ⟨rfl, rfl, rfl, rfl, rfl, rfl, rfl, trivial⟩ (by show l.length - (k + 1) < l.length - k; omega)
    ·
      have hc8 := of_decide_eq_false hb8
      refine WC.exit ?_
      refine WQ.thenExit ?_
      refine WQ.thenExit ?_
      refine WQ.inHere ?_
      refine WQ.next ?_
      refine WC.seq ?_
      refine WC.region ?_
      refine WL.op rfl rfl (op_move rfl ?_)
      refine WL.op rfl rfl (op_move rfl ?_)
      refine WL.op rfl rfl (op_appendF (f := ntc) (l := (turnL l turn.toNat k)) (l' := l) (i := 3) H7 Try.underlying22 Fa.I36 rfl rfl rfl rfl (Src.ofArr Try.underlying22 (H7.arr hA)) (one_flat (fun _ => by simp [ntc, Value.oneCell'])) (by omega) (by omega) (fun v11 w11 H11 => ?_))
      have hke : k = l.length := by omega
      have H12 : Own [] w w11 [.row v3 50 2 ((ofM l).xs).length (List.flatMap xtc (ofM l).xs), .row u3 51 1 ((ofM l).ps).length (List.map vU16 (ofM l).ps), .blk b4 [(vU32 (ofM l).pg), v3, u3, (.bool (ofM l).con)] 30, .row v11 36 3 (turnL l turn.toNat l.length ++ l).length (List.flatMap ntc (turnL l turn.toNat l.length ++ l))] := Own.rowEqF (i := 3) (f := ntc) H11 rfl (by rw [hke]) (by rw [List.length_append, hke])
      refine WL.op rfl rfl (op_callF Fa.C9 rfl ((dof_ok _ (turnL l turn.toNat l.length ++ l) _ (H12.arrR (i := 3) rfl) (by first | omega | (rw [List.length_append, turn_len]; omega) | (simp only [List.length_take, List.length_drop]; omega))).mono (fun e w13 hq => ?_)))
      obtain ⟨v13, u13, rfl, hq13⟩ := hq
      refine ⟨_, rfl, ?_⟩
      have H13 : Own [] w w13 [.row v3 50 2 ((ofM l).xs).length (List.flatMap xtc (ofM l).xs), .row u3 51 1 ((ofM l).ps).length (List.map vU16 (ofM l).ps), .blk b4 [(vU32 (ofM l).pg), v3, u3, (.bool (ofM l).con)] 30, .row v11 36 3 (turnL l turn.toNat l.length ++ l).length (List.flatMap ntc (turnL l turn.toNat l.length ++ l)), .row v13 50 2 ((ofM (turnL l turn.toNat l.length ++ l)).xs).length (List.flatMap xtc (ofM (turnL l turn.toNat l.length ++ l)).xs), .row u13 51 1 ((ofM (turnL l turn.toNat l.length ++ l)).ps).length (List.map vU16 (ofM (turnL l turn.toNat l.length ++ l)).ps)] := H12.splice [] [] [.row v13 50 2 ((ofM (turnL l turn.toNat l.length ++ l)).xs).length (List.flatMap xtc (ofM (turnL l turn.toNat l.length ++ l)).xs), .row u13 51 1 ((ofM (turnL l turn.toNat l.length ++ l)).ps).length (List.map vU16 (ofM (turnL l turn.toNat l.length ++ l)).ps)] rfl rfl hq13 (Fits.solid True.intro (Fits.solid True.intro Fits.nil))
      refine WL.op rfl rfl (op_move rfl ?_)
      refine WL.op rfl rfl (op_extract rfl rfl ?_)
      refine WL.op rfl rfl (op_extract rfl rfl ?_)
      refine WL.op rfl rfl (op_alloc H13 Fa.I30 (fun b14 w14 H14 => ?_))
      refine WL.op rfl rfl (op_storeBW (i := 6) H14 rfl rfl rfl rfl (one_cons rfl (one_cons (Arr.one (H14.arrR (i := 4) rfl)) (one_cons (Arr.one (H14.arrR (i := 5) rfl)) (one_cons rfl one_nil)))) Fa.I30 (fun w15 H15 => ?_))
      refine WL.op rfl rfl (op_assign rfl ?_)
      refine WL.nil ?_
      refine WQ.next ?_
      refine WC.seq ?_
      refine WC.seq ?_
      refine WC.region ?_
      refine WL.op rfl rfl (op_move rfl ?_)
      refine WL.op rfl rfl (op_move rfl ?_)
      refine WL.op rfl rfl (op_neqN rfl rfl ?_)
      refine WL.op rfl rfl (op_move rfl ?_)
      refine WL.yes rfl rfl rfl (decide_eq_false (fun h => h turn_of.1.symm)) rfl (op_loadS (vs := [_, _, _, _]) rfl (H15.cells (i := 2) rfl rfl) Try.underlying30 rfl Fa.I30 rfl ?_)
      refine WL.yes rfl rfl rfl (decide_eq_false (fun h => h turn_of.1.symm)) rfl (op_loadS (vs := [_, _, _, _]) rfl (H15.cells (i := 6) rfl rfl) Try.underlying30 rfl Fa.I30 rfl ?_)
      refine WL.yes rfl rfl rfl (decide_eq_false (fun h => h turn_of.1.symm)) rfl (op_callF Fa.C21 rfl (((same_of (a := (ofM l)) (b := (ofM (turnL l turn.toNat l.length ++ l))) (dsame_ok ((ofM l).pg) ((ofM l).con) _ _ ((ofM l).xs) ((ofM l).ps) ((ofM (turnL l turn.toNat l.length ++ l)).pg) ((ofM (turnL l turn.toNat l.length ++ l)).con) _ _ ((ofM (turnL l turn.toNat l.length ++ l)).xs) ((ofM (turnL l turn.toNat l.length ++ l)).ps) _ (H15.arrR (i := 0) rfl) (H15.arrR (i := 1) rfl) (H15.arrR (i := 4) rfl) (H15.arrR (i := 5) rfl) (by first | omega | exact Nat.lt_of_le_of_lt un_len'.1 (by decide) | exact Nat.lt_of_le_of_lt of_len.1 (by decide)) (by first | omega | exact Nat.lt_of_le_of_lt un_len'.2 (by decide) | exact Nat.lt_of_le_of_lt of_len.2 (by decide))))).mono (fun e w16 hq => ?_)))
      obtain ⟨rfl, hf16⟩ := hq
      refine ⟨_, rfl, ?_⟩
      have H16 := H15.fr' hf16
      refine WL.yes rfl rfl rfl (decide_eq_false (fun h => h turn_of.1.symm)) rfl (op_not rfl ?_)
      refine WL.op rfl rfl (op_pickF rfl (decide_eq_false (fun h => h turn_of.1.symm)) rfl ?_)
      refine WL.nil ?_
      refine WQ.next ?_
      refine WC.no rfl (congrArg Bool.not (decide_eq_true turn_of.2.symm)) ?_
      refine WC.skip ?_
      refine WQ.next ?_
      refine WC.seq ?_
      refine WC.seq ?_
      refine WC.region ?_
      refine WL.op rfl rfl (op_move rfl ?_)
      refine WL.op rfl rfl (op_neqN (b := 0) rfl rfl ?_)
      refine WL.nil ?_
      refine WQ.next ?_
      refine WC.cond rfl (fun (hb17 : (decide ((ofE l) ≠ 0)) = true) => ?_) (fun (hb17 : (decide ((ofE l) ≠ 0)) = false) => ?_)
      ·
        have hc17 := of_decide_eq_true hb17
        refine WC.seq ?_
        refine WC.region ?_
        refine WL.op rfl rfl (op_callF Fa.C8 rfl ((alive11_ok _).mono (fun e w18 hq => ?_)))
        obtain ⟨rfl, hf18⟩ := hq
        refine ⟨_, rfl, ?_⟩
        have H18 := H16.fr' hf18
        refine WL.op rfl rfl (op_assign rfl ?_)
        refine WL.nil ?_
        refine WQ.next ?_
        refine WC.ret ?_
        refine WQ.thenRet ?_
        refine WQ.out (.tmp rfl .nil) ?_
        exact ⟨rfl, H18.fr⟩
      ·
        have hc17 := of_decide_eq_false hb17
        have hoe := Decidable.not_not.mp (of_decide_eq_false hb17)
        have hol := of_len (l := l)
        have hn34 := notesM_34 (ofM l)
        refine WC.skip ?_
        refine WQ.next ?_
        refine WC.seq ?_
        refine WC.region ?_
        refine WL.op rfl rfl (op_assign rfl ?_)
        refine WL.nil ?_
        refine WQ.next ?_
        refine WC.cut (α := Nat) (fun j => [(0, lv), (7, (ptr b4 0)), (8, (vN (ofE l))), (13, (vN j))]) (fun j w' => (j ≤ l.length) ∧ Own [] w w' [.row v3 50 2 ((ofM l).xs).length (List.flatMap xtc (ofM l).xs), .row u3 51 1 ((ofM l).ps).length (List.map vU16 (ofM l).ps), .blk b4 [(vU32 (ofM l).pg), v3, u3, (.bool (ofM l).con)] 30, .row v11 36 3 (turnL l turn.toNat l.length ++ l).length (List.flatMap ntc (turnL l turn.toNat l.length ++ l)), .row v13 50 2 ((ofM (turnL l turn.toNat l.length ++ l)).xs).length (List.flatMap xtc (ofM (turnL l turn.toNat l.length ++ l)).xs), .row u13 51 1 ((ofM (turnL l turn.toNat l.length ++ l)).ps).length (List.map vU16 (ofM (turnL l turn.toNat l.length ++ l)).ps), .blk b14 [(vU32 (ofM (turnL l turn.toNat l.length ++ l)).pg), v13, u13, (.bool (ofM (turnL l turn.toNat l.length ++ l)).con)] 30]) ?_ ?_
        ·
          refine WC.seq ?_
          refine WC.region ?_
          refine WL.op rfl rfl (op_move rfl ?_)
          refine WL.op rfl rfl (op_lenA Try.underlying22 rfl (H16.arr hA) ?_)
          refine WL.op rfl rfl (op_gtrN (b := 0) rfl rfl ?_)
          refine WL.nil ?_
          refine WQ.next ?_
          refine WC.cond rfl (fun (hb19 : (decide (l.length > 0)) = true) => ?_) (fun (hb19 : (decide (l.length > 0)) = false) => ?_)
          ·
            have hc19 := of_decide_eq_true hb19
            refine WC.region ?_
            refine WL.op rfl rfl (op_move rfl ?_)
            refine WL.op rfl rfl (op_convU8N (hs := Try.underlying5) (hd := Try.underlying3) rfl ?_)
            refine WL.op rfl rfl (op_move rfl ?_)
            refine WL.op rfl rfl (op_lenA Try.underlying22 rfl (H16.arr hA) ?_)
            refine WL.op rfl rfl (op_remN rfl rfl (by omega) ?_)
            refine WL.op rfl rfl (op_assign rfl ?_)
            refine WL.nil ?_
            exact WQ.here (at_.toNat % l.length) ⟨(Nat.le_of_lt (Nat.mod_lt _ (by omega))), H16⟩ ⟨rfl, rfl, rfl, rfl, trivial⟩
          ·
            have hc19 := of_decide_eq_false hb19
            refine WC.skip ?_
            exact WQ.here 0 ⟨(Nat.zero_le _), H16⟩ ⟨rfl, rfl, rfl, rfl, trivial⟩
        ·
          rintro j w20 ⟨hj, H20⟩
          show WC _ _ _ _ _ [(0, lv), (7, (ptr b4 0)), (8, (vN (ofE l))), (13, (vN j))] _
          have holt := of_len (l := l.take j)
          have hold := of_len (l := l.drop j)
          refine WC.seq ?_
          refine WC.region ?_
          refine WL.op rfl rfl (op_move rfl ?_)
          refine WL.op rfl rfl (op_move rfl ?_)
          refine WL.op rfl rfl (op_cutHi Try.underlying22 Fa.I36 rfl (H20.arr hA) rfl (by omega) ?_)
          refine WL.op rfl rfl (op_callF Fa.C9 rfl ((dof_ok _ (l.take j) _ (Arr.lenF ((((H20.arr hA)).cutHiF (fun _ => rfl) (b := j) (by omega))) (fun _ => rfl) (by decide)) (by first | omega | (rw [List.length_append, turn_len]; omega) | (simp only [List.length_take, List.length_drop]; omega))).mono (fun e w21 hq => ?_)))
          obtain ⟨v21, u21, rfl, hq21⟩ := hq
          refine ⟨_, rfl, ?_⟩
          have H21 : Own [] w w21 [.row v3 50 2 ((ofM l).xs).length (List.flatMap xtc (ofM l).xs), .row u3 51 1 ((ofM l).ps).length (List.map vU16 (ofM l).ps), .blk b4 [(vU32 (ofM l).pg), v3, u3, (.bool (ofM l).con)] 30, .row v11 36 3 (turnL l turn.toNat l.length ++ l).length (List.flatMap ntc (turnL l turn.toNat l.length ++ l)), .row v13 50 2 ((ofM (turnL l turn.toNat l.length ++ l)).xs).length (List.flatMap xtc (ofM (turnL l turn.toNat l.length ++ l)).xs), .row u13 51 1 ((ofM (turnL l turn.toNat l.length ++ l)).ps).length (List.map vU16 (ofM (turnL l turn.toNat l.length ++ l)).ps), .blk b14 [(vU32 (ofM (turnL l turn.toNat l.length ++ l)).pg), v13, u13, (.bool (ofM (turnL l turn.toNat l.length ++ l)).con)] 30, .row v21 50 2 ((ofM (l.take j)).xs).length (List.flatMap xtc (ofM (l.take j)).xs), .row u21 51 1 ((ofM (l.take j)).ps).length (List.map vU16 (ofM (l.take j)).ps)] := H20.splice [] [] [.row v21 50 2 ((ofM (l.take j)).xs).length (List.flatMap xtc (ofM (l.take j)).xs), .row u21 51 1 ((ofM (l.take j)).ps).length (List.map vU16 (ofM (l.take j)).ps)] rfl rfl hq21 (Fits.solid True.intro (Fits.solid True.intro Fits.nil))
          refine WL.op rfl rfl (op_move rfl ?_)
          refine WL.op rfl rfl (op_extract rfl rfl ?_)
          refine WL.op rfl rfl (op_extract rfl rfl ?_)
          refine WL.op rfl rfl (op_alloc H21 Fa.I30 (fun b22 w22 H22 => ?_))
          refine WL.op rfl rfl (op_storeBW (i := 9) H22 rfl rfl rfl rfl (one_cons rfl (one_cons (Arr.one (H22.arrR (i := 7) rfl)) (one_cons (Arr.one (H22.arrR (i := 8) rfl)) (one_cons rfl one_nil)))) Fa.I30 (fun w23 H23 => ?_))
          refine WL.op rfl rfl (op_assign rfl ?_)
          refine WL.nil ?_
          refine WQ.next ?_
          refine WC.seq ?_
          refine WC.region ?_
          refine WL.op rfl rfl (op_move rfl ?_)
          refine WL.op rfl rfl (op_move rfl ?_)
          refine WL.op rfl rfl (op_cutLo Try.underlying22 Fa.I36 rfl (H23.arr hA) rfl (by omega) ?_)
          refine WL.op rfl rfl (op_callF Fa.C9 rfl ((dof_ok _ (l.drop j) _ (Arr.lenF ((((H23.arr hA)).cutLoF (fun _ => rfl) (by decide) (a := j) (by omega))) (fun _ => rfl) (by decide)) (by first | omega | (rw [List.length_append, turn_len]; omega) | (simp only [List.length_take, List.length_drop]; omega))).mono (fun e w24 hq => ?_)))
          obtain ⟨v24, u24, rfl, hq24⟩ := hq
          refine ⟨_, rfl, ?_⟩
          have H24 : Own [] w w24 [.row v3 50 2 ((ofM l).xs).length (List.flatMap xtc (ofM l).xs), .row u3 51 1 ((ofM l).ps).length (List.map vU16 (ofM l).ps), .blk b4 [(vU32 (ofM l).pg), v3, u3, (.bool (ofM l).con)] 30, .row v11 36 3 (turnL l turn.toNat l.length ++ l).length (List.flatMap ntc (turnL l turn.toNat l.length ++ l)), .row v13 50 2 ((ofM (turnL l turn.toNat l.length ++ l)).xs).length (List.flatMap xtc (ofM (turnL l turn.toNat l.length ++ l)).xs), .row u13 51 1 ((ofM (turnL l turn.toNat l.length ++ l)).ps).length (List.map vU16 (ofM (turnL l turn.toNat l.length ++ l)).ps), .blk b14 [(vU32 (ofM (turnL l turn.toNat l.length ++ l)).pg), v13, u13, (.bool (ofM (turnL l turn.toNat l.length ++ l)).con)] 30, .row v21 50 2 ((ofM (l.take j)).xs).length (List.flatMap xtc (ofM (l.take j)).xs), .row u21 51 1 ((ofM (l.take j)).ps).length (List.map vU16 (ofM (l.take j)).ps), .blk b22 [(vU32 (ofM (l.take j)).pg), v21, u21, (.bool (ofM (l.take j)).con)] 30, .row v24 50 2 ((ofM (l.drop j)).xs).length (List.flatMap xtc (ofM (l.drop j)).xs), .row u24 51 1 ((ofM (l.drop j)).ps).length (List.map vU16 (ofM (l.drop j)).ps)] := H23.splice [] [] [.row v24 50 2 ((ofM (l.drop j)).xs).length (List.flatMap xtc (ofM (l.drop j)).xs), .row u24 51 1 ((ofM (l.drop j)).ps).length (List.map vU16 (ofM (l.drop j)).ps)] rfl rfl hq24 (Fits.solid True.intro (Fits.solid True.intro Fits.nil))
          refine WL.op rfl rfl (op_move rfl ?_)
          refine WL.op rfl rfl (op_extract rfl rfl ?_)
          refine WL.op rfl rfl (op_extract rfl rfl ?_)
          refine WL.op rfl rfl (op_alloc H24 Fa.I30 (fun b25 w25 H25 => ?_))
          refine WL.op rfl rfl (op_storeBW (i := 12) H25 rfl rfl rfl rfl (one_cons rfl (one_cons (Arr.one (H25.arrR (i := 10) rfl)) (one_cons (Arr.one (H25.arrR (i := 11) rfl)) (one_cons rfl one_nil)))) Fa.I30 (fun w26 H26 => ?_))
          refine WL.op rfl rfl (op_assign rfl ?_)
          refine WL.nil ?_
          refine WQ.next ?_
          refine WC.seq ?_
          refine WC.region ?_
          refine WL.op rfl rfl (op_loadS (vs := [_, _, _, _]) rfl (H26.cells (i := 12) rfl rfl) Try.underlying30 rfl Fa.I30 rfl ?_)
          refine WL.op rfl rfl (op_loadS (vs := [_, _, _, _]) rfl (H26.cells (i := 9) rfl rfl) Try.underlying30 rfl Fa.I30 rfl ?_)
          refine WL.op rfl rfl (op_loadS (vs := [_, _, _, _]) rfl (H26.cells (i := 2) rfl rfl) Try.underlying30 rfl Fa.I30 rfl ?_)
          refine WL.op rfl rfl (op_buildSlice (cs := [_, _, _, _, _, _, _, _, _, _, _, _]) H26 Try.underlying23 Fa.I30 rfl rfl rfl rfl (by decide) (by decide) (fun b27 w27 H27 => ?_))
          refine WL.op rfl rfl (op_callF Fa.C11 rfl ((dun_ok _ ([(Mm.mk ((ofM (l.drop j)).pg) v24 ((ofM (l.drop j)).xs) u24 ((ofM (l.drop j)).ps) ((ofM (l.drop j)).con)), (Mm.mk ((ofM (l.take j)).pg) v21 ((ofM (l.take j)).xs) u21 ((ofM (l.take j)).ps) ((ofM (l.take j)).con)), (Mm.mk ((ofM l).pg) v3 ((ofM l).xs) u3 ((ofM l).ps) ((ofM l).con))]) _ (H27.arrR (i := 13) rfl) (MmL_cons (MmD_mk (x := (Mm.mk ((ofM (l.drop j)).pg) v24 ((ofM (l.drop j)).xs) u24 ((ofM (l.drop j)).ps) ((ofM (l.drop j)).con))) (H27.arrR (i := 10) rfl) (H27.arrR (i := 11) rfl)) (MmL_cons (MmD_mk (x := (Mm.mk ((ofM (l.take j)).pg) v21 ((ofM (l.take j)).xs) u21 ((ofM (l.take j)).ps) ((ofM (l.take j)).con))) (H27.arrR (i := 7) rfl) (H27.arrR (i := 8) rfl)) (MmL_cons (MmD_mk (x := (Mm.mk ((ofM l).pg) v3 ((ofM l).xs) u3 ((ofM l).ps) ((ofM l).con))) (H27.arrR (i := 0) rfl) (H27.arrR (i := 1) rfl)) MmL_nil))) (by show 3 ≤ 600; decide) (all3 (p := fun x : Mm => x.xs.length ≤ 2 ^ 46) (Nat.le_trans of_len.1 (by decide)) (Nat.le_trans of_len.1 (by decide)) (Nat.le_trans of_len.1 (by decide))) (all3 (p := fun x : Mm => x.ps.length ≤ 2 ^ 46) (Nat.le_trans of_len.2 (by decide)) (Nat.le_trans of_len.2 (by decide)) (Nat.le_trans of_len.2 (by decide)))).mono (fun e w28 hq => ?_)))
          obtain ⟨v28, u28, rfl, hq28⟩ := hq
          refine ⟨_, rfl, ?_⟩
          have H28 : Own [] w w28 [.row v3 50 2 ((ofM l).xs).length (List.flatMap xtc (ofM l).xs), .row u3 51 1 ((ofM l).ps).length (List.map vU16 (ofM l).ps), .blk b4 [(vU32 (ofM l).pg), v3, u3, (.bool (ofM l).con)] 30, .row v11 36 3 (turnL l turn.toNat l.length ++ l).length (List.flatMap ntc (turnL l turn.toNat l.length ++ l)), .row v13 50 2 ((ofM (turnL l turn.toNat l.length ++ l)).xs).length (List.flatMap xtc (ofM (turnL l turn.toNat l.length ++ l)).xs), .row u13 51 1 ((ofM (turnL l turn.toNat l.length ++ l)).ps).length (List.map vU16 (ofM (turnL l turn.toNat l.length ++ l)).ps), .blk b14 [(vU32 (ofM (turnL l turn.toNat l.length ++ l)).pg), v13, u13, (.bool (ofM (turnL l turn.toNat l.length ++ l)).con)] 30, .row v21 50 2 ((ofM (l.take j)).xs).length (List.flatMap xtc (ofM (l.take j)).xs), .row u21 51 1 ((ofM (l.take j)).ps).length (List.map vU16 (ofM (l.take j)).ps), .blk b22 [(vU32 (ofM (l.take j)).pg), v21, u21, (.bool (ofM (l.take j)).con)] 30, .row v24 50 2 ((ofM (l.drop j)).xs).length (List.flatMap xtc (ofM (l.drop j)).xs), .row u24 51 1 ((ofM (l.drop j)).ps).length (List.map vU16 (ofM (l.drop j)).ps), .blk b25 [(vU32 (ofM (l.drop j)).pg), v24, u24, (.bool (ofM (l.drop j)).con)] 30, .row (.slice (some ⟨b27, 0, none⟩) 3 3) 30 4 3 (List.flatMap mmc [(Mm.mk ((ofM (l.drop j)).pg) v24 ((ofM (l.drop j)).xs) u24 ((ofM (l.drop j)).ps) ((ofM (l.drop j)).con)), (Mm.mk ((ofM (l.take j)).pg) v21 ((ofM (l.take j)).xs) u21 ((ofM (l.take j)).ps) ((ofM (l.take j)).con)), (Mm.mk ((ofM l).pg) v3 ((ofM l).xs) u3 ((ofM l).ps) ((ofM l).con))]), .row v28 50 2 ((unM (([(Mm.mk ((ofM (l.drop j)).pg) v24 ((ofM (l.drop j)).xs) u24 ((ofM (l.drop j)).ps) ((ofM (l.drop j)).con)), (Mm.mk ((ofM (l.take j)).pg) v21 ((ofM (l.take j)).xs) u21 ((ofM (l.take j)).ps) ((ofM (l.take j)).con)), (Mm.mk ((ofM l).pg) v3 ((ofM l).xs) u3 ((ofM l).ps) ((ofM l).con))]).map Mm.f)).xs).length (List.flatMap xtc (unM (([(Mm.mk ((ofM (l.drop j)).pg) v24 ((ofM (l.drop j)).xs) u24 ((ofM (l.drop j)).ps) ((ofM (l.drop j)).con)), (Mm.mk ((ofM (l.take j)).pg) v21 ((ofM (l.take j)).xs) u21 ((ofM (l.take j)).ps) ((ofM (l.take j)).con)), (Mm.mk ((ofM l).pg) v3 ((ofM l).xs) u3 ((ofM l).ps) ((ofM l).con))]).map Mm.f)).xs), .row u28 51 1 ((unM (([(Mm.mk ((ofM (l.drop j)).pg) v24 ((ofM (l.drop j)).xs) u24 ((ofM (l.drop j)).ps) ((ofM (l.drop j)).con)), (Mm.mk ((ofM (l.take j)).pg) v21 ((ofM (l.take j)).xs) u21 ((ofM (l.take j)).ps) ((ofM (l.take j)).con)), (Mm.mk ((ofM l).pg) v3 ((ofM l).xs) u3 ((ofM l).ps) ((ofM l).con))]).map Mm.f)).ps).length (List.map vU16 (unM (([(Mm.mk ((ofM (l.drop j)).pg) v24 ((ofM (l.drop j)).xs) u24 ((ofM (l.drop j)).ps) ((ofM (l.drop j)).con)), (Mm.mk ((ofM (l.take j)).pg) v21 ((ofM (l.take j)).xs) u21 ((ofM (l.take j)).ps) ((ofM (l.take j)).con)), (Mm.mk ((ofM l).pg) v3 ((ofM l).xs) u3 ((ofM l).ps) ((ofM l).con))]).map Mm.f)).ps)] := H27.splice [] [] [.row v28 50 2 ((unM (([(Mm.mk ((ofM (l.drop j)).pg) v24 ((ofM (l.drop j)).xs) u24 ((ofM (l.drop j)).ps) ((ofM (l.drop j)).con)), (Mm.mk ((ofM (l.take j)).pg) v21 ((ofM (l.take j)).xs) u21 ((ofM (l.take j)).ps) ((ofM (l.take j)).con)), (Mm.mk ((ofM l).pg) v3 ((ofM l).xs) u3 ((ofM l).ps) ((ofM l).con))]).map Mm.f)).xs).length (List.flatMap xtc (unM (([(Mm.mk ((ofM (l.drop j)).pg) v24 ((ofM (l.drop j)).xs) u24 ((ofM (l.drop j)).ps) ((ofM (l.drop j)).con)), (Mm.mk ((ofM (l.take j)).pg) v21 ((ofM (l.take j)).xs) u21 ((ofM (l.take j)).ps) ((ofM (l.take j)).con)), (Mm.mk ((ofM l).pg) v3 ((ofM l).xs) u3 ((ofM l).ps) ((ofM l).con))]).map Mm.f)).xs), .row u28 51 1 ((unM (([(Mm.mk ((ofM (l.drop j)).pg) v24 ((ofM (l.drop j)).xs) u24 ((ofM (l.drop j)).ps) ((ofM (l.drop j)).con)), (Mm.mk ((ofM (l.take j)).pg) v21 ((ofM (l.take j)).xs) u21 ((ofM (l.take j)).ps) ((ofM (l.take j)).con)), (Mm.mk ((ofM l).pg) v3 ((ofM l).xs) u3 ((ofM l).ps) ((ofM l).con))]).map Mm.f)).ps).length (List.map vU16 (unM (([(Mm.mk ((ofM (l.drop j)).pg) v24 ((ofM (l.drop j)).xs) u24 ((ofM (l.drop j)).ps) ((ofM (l.drop j)).con)), (Mm.mk ((ofM (l.take j)).pg) v21 ((ofM (l.take j)).xs) u21 ((ofM (l.take j)).ps) ((ofM (l.take j)).con)), (Mm.mk ((ofM l).pg) v3 ((ofM l).xs) u3 ((ofM l).ps) ((ofM l).con))]).map Mm.f)).ps)] rfl rfl hq28 (Fits.solid True.intro (Fits.solid True.intro Fits.nil))
          refine WL.op rfl rfl (op_move rfl ?_)
          refine WL.op rfl rfl (op_extract rfl rfl ?_)
          refine WL.op rfl rfl (op_extract rfl rfl ?_)
          refine WL.op rfl rfl (op_alloc H28 Fa.I30 (fun b29 w29 H29 => ?_))
          refine WL.op rfl rfl (op_storeBW (i := 16) H29 rfl rfl rfl rfl (one_cons rfl (one_cons (Arr.one (H29.arrR (i := 14) rfl)) (one_cons (Arr.one (H29.arrR (i := 15) rfl)) (one_cons rfl one_nil)))) Fa.I30 (fun w30 H30 => ?_))
          refine WL.op rfl rfl (op_assign rfl ?_)
          refine WL.nil ?_
          refine WQ.next ?_
          refine WC.seq ?_
          refine WC.region ?_
          refine WL.op rfl rfl (op_loadS (vs := [_, _, _, _]) rfl (H30.cells (i := 2) rfl rfl) Try.underlying30 rfl Fa.I30 rfl ?_)
          refine WL.op rfl rfl (op_callF Fa.C22 rfl ((dnotes_ok (ofM l) _ _ _ (H30.arrR (i := 0) rfl) (H30.arrR (i := 1) rfl) (by first | omega | exact Nat.lt_of_le_of_lt un_len'.1 (by decide) | exact Nat.lt_of_le_of_lt of_len.1 (by decide)) (by first | omega | exact Nat.lt_of_le_of_lt un_len'.2 (by decide) | exact Nat.lt_of_le_of_lt of_len.2 (by decide))).mono (fun e w31 hq => ?_)))
          obtain ⟨v31, rfl, hq31⟩ := hq
          refine ⟨_, rfl, ?_⟩
          have H31 : Own [] w w31 [.row v3 50 2 ((ofM l).xs).length (List.flatMap xtc (ofM l).xs), .row u3 51 1 ((ofM l).ps).length (List.map vU16 (ofM l).ps), .blk b4 [(vU32 (ofM l).pg), v3, u3, (.bool (ofM l).con)] 30, .row v11 36 3 (turnL l turn.toNat l.length ++ l).length (List.flatMap ntc (turnL l turn.toNat l.length ++ l)), .row v13 50 2 ((ofM (turnL l turn.toNat l.length ++ l)).xs).length (List.flatMap xtc (ofM (turnL l turn.toNat l.length ++ l)).xs), .row u13 51 1 ((ofM (turnL l turn.toNat l.length ++ l)).ps).length (List.map vU16 (ofM (turnL l turn.toNat l.length ++ l)).ps), .blk b14 [(vU32 (ofM (turnL l turn.toNat l.length ++ l)).pg), v13, u13, (.bool (ofM (turnL l turn.toNat l.length ++ l)).con)] 30, .row v21 50 2 ((ofM (l.take j)).xs).length (List.flatMap xtc (ofM (l.take j)).xs), .row u21 51 1 ((ofM (l.take j)).ps).length (List.map vU16 (ofM (l.take j)).ps), .blk b22 [(vU32 (ofM (l.take j)).pg), v21, u21, (.bool (ofM (l.take j)).con)] 30, .row v24 50 2 ((ofM (l.drop j)).xs).length (List.flatMap xtc (ofM (l.drop j)).xs), .row u24 51 1 ((ofM (l.drop j)).ps).length (List.map vU16 (ofM (l.drop j)).ps), .blk b25 [(vU32 (ofM (l.drop j)).pg), v24, u24, (.bool (ofM (l.drop j)).con)] 30, .row (.slice (some ⟨b27, 0, none⟩) 3 3) 30 4 3 (List.flatMap mmc [(Mm.mk ((ofM (l.drop j)).pg) v24 ((ofM (l.drop j)).xs) u24 ((ofM (l.drop j)).ps) ((ofM (l.drop j)).con)), (Mm.mk ((ofM (l.take j)).pg) v21 ((ofM (l.take j)).xs) u21 ((ofM (l.take j)).ps) ((ofM (l.take j)).con)), (Mm.mk ((ofM l).pg) v3 ((ofM l).xs) u3 ((ofM l).ps) ((ofM l).con))]), .row v28 50 2 ((unM (([(Mm.mk ((ofM (l.drop j)).pg) v24 ((ofM (l.drop j)).xs) u24 ((ofM (l.drop j)).ps) ((ofM (l.drop j)).con)), (Mm.mk ((ofM (l.take j)).pg) v21 ((ofM (l.take j)).xs) u21 ((ofM (l.take j)).ps) ((ofM (l.take j)).con)), (Mm.mk ((ofM l).pg) v3 ((ofM l).xs) u3 ((ofM l).ps) ((ofM l).con))]).map Mm.f)).xs).length (List.flatMap xtc (unM (([(Mm.mk ((ofM (l.drop j)).pg) v24 ((ofM (l.drop j)).xs) u24 ((ofM (l.drop j)).ps) ((ofM (l.drop j)).con)), (Mm.mk ((ofM (l.take j)).pg) v21 ((ofM (l.take j)).xs) u21 ((ofM (l.take j)).ps) ((ofM (l.take j)).con)), (Mm.mk ((ofM l).pg) v3 ((ofM l).xs) u3 ((ofM l).ps) ((ofM l).con))]).map Mm.f)).xs), .row u28 51 1 ((unM (([(Mm.mk ((ofM (l.drop j)).pg) v24 ((ofM (l.drop j)).xs) u24 ((ofM (l.drop j)).ps) ((ofM (l.drop j)).con)), (Mm.mk ((ofM (l.take j)).pg) v21 ((ofM (l.take j)).xs) u21 ((ofM (l.take j)).ps) ((ofM (l.take j)).con)), (Mm.mk ((ofM l).pg) v3 ((ofM l).xs) u3 ((ofM l).ps) ((ofM l).con))]).map Mm.f)).ps).length (List.map vU16 (unM (([(Mm.mk ((ofM (l.drop j)).pg) v24 ((ofM (l.drop j)).xs) u24 ((ofM (l.drop j)).ps) ((ofM (l.drop j)).con)), (Mm.mk ((ofM (l.take j)).pg) v21 ((ofM (l.take j)).xs) u21 ((ofM (l.take j)).ps) ((ofM (l.take j)).con)), (Mm.mk ((ofM l).pg) v3 ((ofM l).xs) u3 ((ofM l).ps) ((ofM l).con))]).map Mm.f)).ps), .blk b29 [(vU32 (unM (([(Mm.mk ((ofM (l.drop j)).pg) v24 ((ofM (l.drop j)).xs) u24 ((ofM (l.drop j)).ps) ((ofM (l.drop j)).con)), (Mm.mk ((ofM (l.take j)).pg) v21 ((ofM (l.take j)).xs) u21 ((ofM (l.take j)).ps) ((ofM (l.take j)).con)), (Mm.mk ((ofM l).pg) v3 ((ofM l).xs) u3 ((ofM l).ps) ((ofM l).con))]).map Mm.f)).pg), v28, u28, (.bool (unM (([(Mm.mk ((ofM (l.drop j)).pg) v24 ((ofM (l.drop j)).xs) u24 ((ofM (l.drop j)).ps) ((ofM (l.drop j)).con)), (Mm.mk ((ofM (l.take j)).pg) v21 ((ofM (l.take j)).xs) u21 ((ofM (l.take j)).ps) ((ofM (l.take j)).con)), (Mm.mk ((ofM l).pg) v3 ((ofM l).xs) u3 ((ofM l).ps) ((ofM l).con))]).map Mm.f)).con)] 30, .row v31 36 3 (notesM (ofM l)).length (List.flatMap ntc (notesM (ofM l)))] := H30.splice [] [] [.row v31 36 3 (notesM (ofM l)).length (List.flatMap ntc (notesM (ofM l)))] rfl rfl hq31 (Fits.solid True.intro Fits.nil)
          refine WL.op rfl rfl (op_callF Fa.C9 rfl ((dof_ok _ (notesM (ofM l)) _ (H31.arrR (i := 17) rfl) (by first | omega | (rw [List.length_append, turn_len]; omega) | (simp only [List.length_take, List.length_drop]; omega))).mono (fun e w32 hq => ?_)))
          obtain ⟨v32, u32, rfl, hq32⟩ := hq
          refine ⟨_, rfl, ?_⟩
          have H32 : Own [] w w32 [.row v3 50 2 ((ofM l).xs).length (List.flatMap xtc (ofM l).xs), .row u3 51 1 ((ofM l).ps).length (List.map vU16 (ofM l).ps), .blk b4 [(vU32 (ofM l).pg), v3, u3, (.bool (ofM l).con)] 30, .row v11 36 3 (turnL l turn.toNat l.length ++ l).length (List.flatMap ntc (turnL l turn.toNat l.length ++ l)), .row v13 50 2 ((ofM (turnL l turn.toNat l.length ++ l)).xs).length (List.flatMap xtc (ofM (turnL l turn.toNat l.length ++ l)).xs), .row u13 51 1 ((ofM (turnL l turn.toNat l.length ++ l)).ps).length (List.map vU16 (ofM (turnL l turn.toNat l.length ++ l)).ps), .blk b14 [(vU32 (ofM (turnL l turn.toNat l.length ++ l)).pg), v13, u13, (.bool (ofM (turnL l turn.toNat l.length ++ l)).con)] 30, .row v21 50 2 ((ofM (l.take j)).xs).length (List.flatMap xtc (ofM (l.take j)).xs), .row u21 51 1 ((ofM (l.take j)).ps).length (List.map vU16 (ofM (l.take j)).ps), .blk b22 [(vU32 (ofM (l.take j)).pg), v21, u21, (.bool (ofM (l.take j)).con)] 30, .row v24 50 2 ((ofM (l.drop j)).xs).length (List.flatMap xtc (ofM (l.drop j)).xs), .row u24 51 1 ((ofM (l.drop j)).ps).length (List.map vU16 (ofM (l.drop j)).ps), .blk b25 [(vU32 (ofM (l.drop j)).pg), v24, u24, (.bool (ofM (l.drop j)).con)] 30, .row (.slice (some ⟨b27, 0, none⟩) 3 3) 30 4 3 (List.flatMap mmc [(Mm.mk ((ofM (l.drop j)).pg) v24 ((ofM (l.drop j)).xs) u24 ((ofM (l.drop j)).ps) ((ofM (l.drop j)).con)), (Mm.mk ((ofM (l.take j)).pg) v21 ((ofM (l.take j)).xs) u21 ((ofM (l.take j)).ps) ((ofM (l.take j)).con)), (Mm.mk ((ofM l).pg) v3 ((ofM l).xs) u3 ((ofM l).ps) ((ofM l).con))]), .row v28 50 2 ((unM (([(Mm.mk ((ofM (l.drop j)).pg) v24 ((ofM (l.drop j)).xs) u24 ((ofM (l.drop j)).ps) ((ofM (l.drop j)).con)), (Mm.mk ((ofM (l.take j)).pg) v21 ((ofM (l.take j)).xs) u21 ((ofM (l.take j)).ps) ((ofM (l.take j)).con)), (Mm.mk ((ofM l).pg) v3 ((ofM l).xs) u3 ((ofM l).ps) ((ofM l).con))]).map Mm.f)).xs).length (List.flatMap xtc (unM (([(Mm.mk ((ofM (l.drop j)).pg) v24 ((ofM (l.drop j)).xs) u24 ((ofM (l.drop j)).ps) ((ofM (l.drop j)).con)), (Mm.mk ((ofM (l.take j)).pg) v21 ((ofM (l.take j)).xs) u21 ((ofM (l.take j)).ps) ((ofM (l.take j)).con)), (Mm.mk ((ofM l).pg) v3 ((ofM l).xs) u3 ((ofM l).ps) ((ofM l).con))]).map Mm.f)).xs), .row u28 51 1 ((unM (([(Mm.mk ((ofM (l.drop j)).pg) v24 ((ofM (l.drop j)).xs) u24 ((ofM (l.drop j)).ps) ((ofM (l.drop j)).con)), (Mm.mk ((ofM (l.take j)).pg) v21 ((ofM (l.take j)).xs) u21 ((ofM (l.take j)).ps) ((ofM (l.take j)).con)), (Mm.mk ((ofM l).pg) v3 ((ofM l).xs) u3 ((ofM l).ps) ((ofM l).con))]).map Mm.f)).ps).length (List.map vU16 (unM (([(Mm.mk ((ofM (l.drop j)).pg) v24 ((ofM (l.drop j)).xs) u24 ((ofM (l.drop j)).ps) ((ofM (l.drop j)).con)), (Mm.mk ((ofM (l.take j)).pg) v21 ((ofM (l.take j)).xs) u21 ((ofM (l.take j)).ps) ((ofM (l.take j)).con)), (Mm.mk ((ofM l).pg) v3 ((ofM l).xs) u3 ((ofM l).ps) ((ofM l).con))]).map Mm.f)).ps), .blk b29 [(vU32 (unM (([(Mm.mk ((ofM (l.drop j)).pg) v24 ((ofM (l.drop j)).xs) u24 ((ofM (l.drop j)).ps) ((ofM (l.drop j)).con)), (Mm.mk ((ofM (l.take j)).pg) v21 ((ofM (l.take j)).xs) u21 ((ofM (l.take j)).ps) ((ofM (l.take j)).con)), (Mm.mk ((ofM l).pg) v3 ((ofM l).xs) u3 ((ofM l).ps) ((ofM l).con))]).map Mm.f)).pg), v28, u28, (.bool (unM (([(Mm.mk ((ofM (l.drop j)).pg) v24 ((ofM (l.drop j)).xs) u24 ((ofM (l.drop j)).ps) ((ofM (l.drop j)).con)), (Mm.mk ((ofM (l.take j)).pg) v21 ((ofM (l.take j)).xs) u21 ((ofM (l.take j)).ps) ((ofM (l.take j)).con)), (Mm.mk ((ofM l).pg) v3 ((ofM l).xs) u3 ((ofM l).ps) ((ofM l).con))]).map Mm.f)).con)] 30, .row v31 36 3 (notesM (ofM l)).length (List.flatMap ntc (notesM (ofM l))), .row v32 50 2 ((ofM (notesM (ofM l))).xs).length (List.flatMap xtc (ofM (notesM (ofM l))).xs), .row u32 51 1 ((ofM (notesM (ofM l))).ps).length (List.map vU16 (ofM (notesM (ofM l))).ps)] := H31.splice [] [] [.row v32 50 2 ((ofM (notesM (ofM l))).xs).length (List.flatMap xtc (ofM (notesM (ofM l))).xs), .row u32 51 1 ((ofM (notesM (ofM l))).ps).length (List.map vU16 (ofM (notesM (ofM l))).ps)] rfl rfl hq32 (Fits.solid True.intro (Fits.solid True.intro Fits.nil))
          refine WL.op rfl rfl (op_move rfl ?_)
          refine WL.op rfl rfl (op_extract rfl rfl ?_)
          refine WL.op rfl rfl (op_extract rfl rfl ?_)
          refine WL.op rfl rfl (op_alloc H32 Fa.I30 (fun b33 w33 H33 => ?_))
          refine WL.op rfl rfl (op_storeBW (i := 20) H33 rfl rfl rfl rfl (one_cons rfl (one_cons (Arr.one (H33.arrR (i := 18) rfl)) (one_cons (Arr.one (H33.arrR (i := 19) rfl)) (one_cons rfl one_nil)))) Fa.I30 (fun w34 H34 => ?_))
          refine WL.op rfl rfl (op_assign rfl ?_)
          refine WL.nil ?_
          refine WQ.next ?_
          refine WC.seq ?_
          refine WC.region ?_
          refine WL.op rfl rfl (op_move rfl ?_)
          refine WL.op rfl rfl (op_eqlN (b := 0) rfl rfl ?_)
          refine WL.op rfl rfl (op_move rfl ?_)
          refine WL.yes rfl rfl rfl (decide_eq_true (part_of (k := j) hoe).1) rfl (op_move rfl ?_)
          refine WL.yes rfl rfl rfl (decide_eq_true (part_of (k := j) hoe).1) rfl (op_eqlN (b := 0) rfl rfl ?_)
          refine WL.op rfl rfl (op_pickT rfl (decide_eq_true (part_of (k := j) hoe).1) rfl ?_)
          refine WL.op rfl rfl (op_move rfl ?_)
          refine WL.yes rfl rfl rfl (decide_eq_true (part_of (k := j) hoe).2) rfl (op_move rfl ?_)
          refine WL.yes rfl rfl rfl (decide_eq_true (part_of (k := j) hoe).2) rfl (op_eqlN (b := 0) rfl rfl ?_)
          refine WL.op rfl rfl (op_pickT rfl (decide_eq_true (part_of (k := j) hoe).2) rfl ?_)
          refine WL.op rfl rfl (op_move rfl ?_)
          refine WL.yes rfl rfl rfl (decide_eq_true (union_of (k := j) hoe).1) rfl (op_loadS (vs := [_, _, _, _]) rfl (H34.cells (i := 16) rfl rfl) Try.underlying30 rfl Fa.I30 rfl ?_)
          refine WL.yes rfl rfl rfl (decide_eq_true (union_of (k := j) hoe).1) rfl (op_loadS (vs := [_, _, _, _]) rfl (H34.cells (i := 2) rfl rfl) Try.underlying30 rfl Fa.I30 rfl ?_)
          refine WL.yes rfl rfl rfl (decide_eq_true (union_of (k := j) hoe).1) rfl (op_callF Fa.C21 rfl (((same_of (a := (unM (([(Mm.mk ((ofM (l.drop j)).pg) v24 ((ofM (l.drop j)).xs) u24 ((ofM (l.drop j)).ps) ((ofM (l.drop j)).con)), (Mm.mk ((ofM (l.take j)).pg) v21 ((ofM (l.take j)).xs) u21 ((ofM (l.take j)).ps) ((ofM (l.take j)).con)), (Mm.mk ((ofM l).pg) v3 ((ofM l).xs) u3 ((ofM l).ps) ((ofM l).con))]).map Mm.f))) (b := (ofM l)) (dsame_ok ((unM (([(Mm.mk ((ofM (l.drop j)).pg) v24 ((ofM (l.drop j)).xs) u24 ((ofM (l.drop j)).ps) ((ofM (l.drop j)).con)), (Mm.mk ((ofM (l.take j)).pg) v21 ((ofM (l.take j)).xs) u21 ((ofM (l.take j)).ps) ((ofM (l.take j)).con)), (Mm.mk ((ofM l).pg) v3 ((ofM l).xs) u3 ((ofM l).ps) ((ofM l).con))]).map Mm.f)).pg) ((unM (([(Mm.mk ((ofM (l.drop j)).pg) v24 ((ofM (l.drop j)).xs) u24 ((ofM (l.drop j)).ps) ((ofM (l.drop j)).con)), (Mm.mk ((ofM (l.take j)).pg) v21 ((ofM (l.take j)).xs) u21 ((ofM (l.take j)).ps) ((ofM (l.take j)).con)), (Mm.mk ((ofM l).pg) v3 ((ofM l).xs) u3 ((ofM l).ps) ((ofM l).con))]).map Mm.f)).con) _ _ ((unM (([(Mm.mk ((ofM (l.drop j)).pg) v24 ((ofM (l.drop j)).xs) u24 ((ofM (l.drop j)).ps) ((ofM (l.drop j)).con)), (Mm.mk ((ofM (l.take j)).pg) v21 ((ofM (l.take j)).xs) u21 ((ofM (l.take j)).ps) ((ofM (l.take j)).con)), (Mm.mk ((ofM l).pg) v3 ((ofM l).xs) u3 ((ofM l).ps) ((ofM l).con))]).map Mm.f)).xs) ((unM (([(Mm.mk ((ofM (l.drop j)).pg) v24 ((ofM (l.drop j)).xs) u24 ((ofM (l.drop j)).ps) ((ofM (l.drop j)).con)), (Mm.mk ((ofM (l.take j)).pg) v21 ((ofM (l.take j)).xs) u21 ((ofM (l.take j)).ps) ((ofM (l.take j)).con)), (Mm.mk ((ofM l).pg) v3 ((ofM l).xs) u3 ((ofM l).ps) ((ofM l).con))]).map Mm.f)).ps) ((ofM l).pg) ((ofM l).con) _ _ ((ofM l).xs) ((ofM l).ps) _ (H34.arrR (i := 14) rfl) (H34.arrR (i := 15) rfl) (H34.arrR (i := 0) rfl) (H34.arrR (i := 1) rfl) (by first | omega | exact Nat.lt_of_le_of_lt un_len'.1 (by decide) | exact Nat.lt_of_le_of_lt of_len.1 (by decide)) (by first | omega | exact Nat.lt_of_le_of_lt un_len'.2 (by decide) | exact Nat.lt_of_le_of_lt of_len.2 (by decide))))).mono (fun e w35 hq => ?_)))
          obtain ⟨rfl, hf35⟩ := hq
          refine ⟨_, rfl, ?_⟩
          have H35 := H34.fr' hf35
          refine WL.op rfl rfl (op_pickT rfl (decide_eq_true (union_of (k := j) hoe).1) rfl ?_)
          refine WL.op rfl rfl (op_move rfl ?_)
          refine WL.yes rfl rfl rfl (decide_eq_true (union_of (k := j) hoe).2) rfl (op_move rfl ?_)
          refine WL.yes rfl rfl rfl (decide_eq_true (union_of (k := j) hoe).2) rfl (op_eqlN (b := 0) rfl rfl ?_)
          refine WL.op rfl rfl (op_pickT rfl (decide_eq_true (union_of (k := j) hoe).2) rfl ?_)
          refine WL.op rfl rfl (op_move rfl ?_)
          refine WL.yes rfl rfl rfl (decide_eq_true (notes_of hoe).1) rfl (op_loadS (vs := [_, _, _, _]) rfl (H35.cells (i := 20) rfl rfl) Try.underlying30 rfl Fa.I30 rfl ?_)
          refine WL.yes rfl rfl rfl (decide_eq_true (notes_of hoe).1) rfl (op_loadS (vs := [_, _, _, _]) rfl (H35.cells (i := 2) rfl rfl) Try.underlying30 rfl Fa.I30 rfl ?_)
          refine WL.yes rfl rfl rfl (decide_eq_true (notes_of hoe).1) rfl (op_callF Fa.C21 rfl (((same_of (a := (ofM (notesM (ofM l)))) (b := (ofM l)) (dsame_ok ((ofM (notesM (ofM l))).pg) ((ofM (notesM (ofM l))).con) _ _ ((ofM (notesM (ofM l))).xs) ((ofM (notesM (ofM l))).ps) ((ofM l).pg) ((ofM l).con) _ _ ((ofM l).xs) ((ofM l).ps) _ (H35.arrR (i := 18) rfl) (H35.arrR (i := 19) rfl) (H35.arrR (i := 0) rfl) (H35.arrR (i := 1) rfl) (by first | omega | exact Nat.lt_of_le_of_lt un_len'.1 (by decide) | exact Nat.lt_of_le_of_lt of_len.1 (by decide)) (by first | omega | exact Nat.lt_of_le_of_lt un_len'.2 (by decide) | exact Nat.lt_of_le_of_lt of_len.2 (by decide))))).mono (fun e w36 hq => ?_)))
          obtain ⟨rfl, hf36⟩ := hq
          refine ⟨_, rfl, ?_⟩
          have H36 := H35.fr' hf36
          refine WL.op rfl rfl (op_pickT rfl (decide_eq_true (notes_of hoe).1) rfl ?_)
          refine WL.op rfl rfl (op_move rfl ?_)
          refine WL.yes rfl rfl rfl (decide_eq_true (notes_of hoe).2) rfl (op_callF Fa.C8 rfl ((alive11_ok _).mono (fun e w37 hq => ?_)))
          obtain ⟨rfl, hf37⟩ := hq
          refine ⟨_, rfl, ?_⟩
          have H37 := H36.fr' hf37
          refine WL.op rfl rfl (op_pickT rfl (decide_eq_true (notes_of hoe).2) rfl ?_)
          refine WL.op rfl rfl (op_assign rfl ?_)
          refine WL.nil ?_
          refine WQ.next ?_
          refine WC.ret ?_
          refine WQ.out (.tmp rfl .nil) ?_
          exact ⟨rfl, H37.fr⟩
end Go.Proofs.Ytnngbnenekjffaa
