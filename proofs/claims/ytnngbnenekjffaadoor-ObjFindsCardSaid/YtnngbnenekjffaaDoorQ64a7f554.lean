/- General lemmas and walks: DOb7. No condition but what each theorem names. -/
import Derived.Test.YtnngbnenekjffaaDoorQ28a17d22
import Derived.Test.YtnngbnenekjffaaDoorQ9dcc186c
import Derived.Test.YtnngbnenekjffaaDoorQ82c75dc3
/-! from DOb7 -/
namespace Go.Proofs.YtnngbnenekjffaaDoor
open Go.Owl Go.Spec
set_option maxRecDepth 100000 in
theorem sizedA_ok (x : Sy) (w : World) (hI : SyD.ok w x) (hn : x.nm.length < 2 ^ 47) (hr : ∀ y ∈ x.rl, y.nm.length < 2 ^ 47) (hm : x.rl.length < 2 ^ 43) (hq : x.nt.length < 2 ^ 44) :
    Calls Tryd.prog 81 #[(.agg #[(str x.nm), (vU8 x.bind), (vU8 x.kind), (vU32 x.size), (str x.b), x.rv, x.nv])] w (fun e w' => e = .returned (.bool (sizedB x.cut)) ∧ Fr [] w w') := by
  refine enter (args := [(.agg #[(str x.nm), (vU8 x.bind), (vU8 x.kind), (vU32 x.size), (str x.b), x.rv, x.nv])]) Tryd.func81 rfl rfl ?_
  have H0 : Own [] w w [] := Own.start w []
  refine WC.seq ?_
  refine WC.region ?_
  refine WL.op rfl rfl (op_box H0 rfl rfl (fun b1 w1 H1 => ?_))
  refine WL.op rfl rfl (op_assign rfl ?_)
  refine WL.nil ?_
  refine WQ.next ?_
  refine WC.seq ?_
  refine WC.region ?_
  refine WL.op rfl rfl (op_fieldAddr rfl Fa.F111_0 ?_)
  refine WL.op rfl rfl (op_fieldAddr rfl Fa.F26_4 ?_)
  refine WL.op rfl rfl (op_load rfl (H1.cell (i := 0) rfl rfl) Tryd.underlying9 rfl ?_)
  refine WL.op rfl rfl (op_lenStr Tryd.underlying9 rfl ?_)
  refine WL.op rfl rfl (op_convNU32 (hs := Tryd.underlying3) (hd := Tryd.underlying22) rfl ?_)
  refine WL.op rfl rfl (op_assign rfl ?_)
  refine WL.nil ?_
  refine WQ.next ?_
  refine WC.seq ?_
  refine WC.seq ?_
  refine WC.region ?_
  refine WL.op rfl rfl (op_fieldAddr rfl Fa.F111_0 ?_)
  refine WL.op rfl rfl (op_fieldAddr rfl Fa.F26_3 ?_)
  refine WL.op rfl rfl (op_load rfl (H1.cell (i := 0) rfl rfl) Tryd.underlying22 rfl ?_)
  refine WL.op rfl rfl (op_lssU32 (b := 1) rfl rfl ?_)
  refine WL.op rfl rfl (op_move rfl ?_)
  refine WL.split (t := 13) rfl (fun (hb2 : (decide (x.size < (1 : UInt32))) = true) => ?_) (fun (hb2 : (decide (x.size < (1 : UInt32))) = false) => ?_)
  ·
    have hc2 := of_decide_eq_true hb2
    refine WL.no rfl rfl rfl hb2 rfl ?_
    refine WL.no rfl rfl rfl hb2 rfl ?_
    refine WL.no rfl rfl rfl hb2 rfl ?_
    refine WL.no rfl rfl rfl hb2 rfl ?_
    refine WL.op rfl rfl (op_pickT rfl hb2 rfl ?_)
    refine WL.op rfl rfl (op_move rfl ?_)
    refine WL.no rfl rfl rfl rfl rfl ?_
    refine WL.no rfl rfl rfl rfl rfl ?_
    refine WL.no rfl rfl rfl rfl rfl ?_
    refine WL.no rfl rfl rfl rfl rfl ?_
    refine WL.no rfl rfl rfl rfl rfl ?_
    refine WL.op rfl rfl (op_pickT rfl rfl rfl ?_)
    refine WL.nil ?_
    refine WQ.next ?_
    refine WC.yes rfl rfl ?_
    refine WC.seq ?_
    refine WC.region ?_
    refine WL.op rfl rfl (op_assign rfl ?_)
    refine WL.nil ?_
    refine WQ.next ?_
    refine WC.ret ?_
    refine WQ.thenRet ?_
    refine WQ.out (.tmp rfl .nil) ?_
    exact ⟨by (rw [sized_cut, sizedU, hb2]) <;> rfl, H1.fr⟩
  ·
    have hc2 := of_decide_eq_false hb2
    refine WL.yes rfl rfl rfl hb2 rfl (op_fieldAddr rfl Fa.F111_0 ?_)
    refine WL.yes rfl rfl rfl hb2 rfl (op_fieldAddr rfl Fa.F26_3 ?_)
    refine WL.yes rfl rfl rfl hb2 rfl (op_load rfl (H1.cell (i := 0) rfl rfl) Tryd.underlying22 rfl ?_)
    refine WL.yes rfl rfl rfl hb2 rfl (op_gtrU32 (b := 8192) rfl rfl ?_)
    refine WL.op rfl rfl (op_pickF rfl hb2 rfl ?_)
    refine WL.op rfl rfl (op_move rfl ?_)
    refine WL.split (t := 19) rfl (fun (hb3 : (decide (x.size > (8192 : UInt32))) = true) => ?_) (fun (hb3 : (decide (x.size > (8192 : UInt32))) = false) => ?_)
    ·
      have hc3 := of_decide_eq_true hb3
      refine WL.no rfl rfl rfl hb3 rfl ?_
      refine WL.no rfl rfl rfl hb3 rfl ?_
      refine WL.no rfl rfl rfl hb3 rfl ?_
      refine WL.no rfl rfl rfl hb3 rfl ?_
      refine WL.no rfl rfl rfl hb3 rfl ?_
      refine WL.op rfl rfl (op_pickT rfl hb3 rfl ?_)
      refine WL.nil ?_
      refine WQ.next ?_
      refine WC.yes rfl rfl ?_
      refine WC.seq ?_
      refine WC.region ?_
      refine WL.op rfl rfl (op_assign rfl ?_)
      refine WL.nil ?_
      refine WQ.next ?_
      refine WC.ret ?_
      refine WQ.thenRet ?_
      refine WQ.out (.tmp rfl .nil) ?_
      exact ⟨by (rw [sized_cut, sizedU, hb2, hb3]) <;> rfl, H1.fr⟩
    ·
      have hc3 := of_decide_eq_false hb3
      refine WL.yes rfl rfl rfl hb3 rfl (op_move rfl ?_)
      refine WL.yes rfl rfl rfl hb3 rfl (op_fieldAddr rfl Fa.F111_0 ?_)
      refine WL.yes rfl rfl rfl hb3 rfl (op_fieldAddr rfl Fa.F26_3 ?_)
      refine WL.yes rfl rfl rfl hb3 rfl (op_load rfl (H1.cell (i := 0) rfl rfl) Tryd.underlying22 rfl ?_)
      refine WL.yes rfl rfl rfl hb3 rfl (op_gtrU32 rfl rfl ?_)
      refine WL.op rfl rfl (op_pickF rfl hb3 rfl ?_)
      refine WL.nil ?_
      refine WQ.next ?_
      refine WC.cond rfl (fun (hb4 : (decide ((UInt32.ofNat x.b.length) > x.size)) = true) => ?_) (fun (hb4 : (decide ((UInt32.ofNat x.b.length) > x.size)) = false) => ?_)
      ·
        have hc4 := of_decide_eq_true hb4
        refine WC.seq ?_
        refine WC.region ?_
        refine WL.op rfl rfl (op_assign rfl ?_)
        refine WL.nil ?_
        refine WQ.next ?_
        refine WC.ret ?_
        refine WQ.thenRet ?_
        refine WQ.out (.tmp rfl .nil) ?_
        exact ⟨by (rw [sized_cut, sizedU, hb2, hb3, hb4]) <;> rfl, H1.fr⟩
      ·
        have hc4 := of_decide_eq_false hb4
        refine WC.skip ?_
        refine WQ.next ?_
        refine WC.seq ?_
        refine WC.region ?_
        refine WL.op rfl rfl (op_fieldAddr rfl Fa.F111_0 ?_)
        refine WL.op rfl rfl (op_fieldAddr rfl Fa.F26_2 ?_)
        refine WL.op rfl rfl (op_load rfl (H1.cell (i := 0) rfl rfl) Tryd.underlying5 rfl ?_)
        refine WL.op rfl rfl (op_neqU8 (b := 1) rfl rfl ?_)
        refine WL.op rfl rfl (op_move rfl ?_)
        refine WL.split (t := 30) rfl (fun (hb5 : (decide (x.kind ≠ (1 : UInt8))) = true) => ?_) (fun (hb5 : (decide (x.kind ≠ (1 : UInt8))) = false) => ?_)
        ·
          have hc5 := of_decide_eq_true hb5
          refine WL.no rfl rfl rfl hb5 rfl ?_
          refine WL.no rfl rfl rfl hb5 rfl ?_
          refine WL.no rfl rfl rfl hb5 rfl ?_
          refine WL.no rfl rfl rfl hb5 rfl ?_
          refine WL.no rfl rfl rfl hb5 rfl ?_
          refine WL.no rfl rfl rfl hb5 rfl ?_
          refine WL.non rfl rfl rfl rfl ?_
          refine WL.non rfl rfl rfl rfl ?_
          refine WL.non rfl rfl rfl rfl ?_
          refine WL.no rfl rfl rfl hb5 rfl ?_
          refine WL.op rfl rfl (op_pickT rfl hb5 rfl ?_)
          refine WL.op rfl rfl (op_assign rfl ?_)
          refine WL.nil ?_
          refine WQ.next ?_
          refine WC.ret ?_
          refine WQ.out (.tmp rfl .nil) ?_
          exact ⟨by (rw [sized_cut, sizedU, hb2, hb3, hb4, hb5]) <;> rfl, H1.fr⟩
        ·
          have hc5 := of_decide_eq_false hb5
          refine WL.yes rfl rfl rfl hb5 rfl (op_move rfl ?_)
          refine WL.yes rfl rfl rfl hb5 rfl (op_fieldAddr rfl Fa.F111_0 ?_)
          refine WL.yes rfl rfl rfl hb5 rfl (op_fieldAddr rfl Fa.F26_3 ?_)
          refine WL.yes rfl rfl rfl hb5 rfl (op_load rfl (H1.cell (i := 0) rfl rfl) Tryd.underlying22 rfl ?_)
          refine WL.yes rfl rfl rfl hb5 rfl (op_eqlU32 rfl rfl ?_)
          refine WL.yes rfl rfl rfl hb5 rfl (op_move rfl ?_)
          refine WL.split (t := 36) rfl (fun (hb6 : (decide ((UInt32.ofNat x.b.length) = x.size)) = true) => ?_) (fun (hb6 : (decide ((UInt32.ofNat x.b.length) = x.size)) = false) => ?_)
          ·
            have hc6 := of_decide_eq_true hb6
            refine WL.yes rfl rfl rfl hb6 rfl (op_move rfl ?_)
            refine WL.yes rfl rfl rfl hb6 rfl (op_remU32 (b := 8) rfl rfl (by decide) ?_)
            refine WL.yes rfl rfl rfl hb6 rfl (op_eqlU32 (b := 0) rfl rfl ?_)
            refine WL.yes rfl rfl rfl hb5 rfl (op_pickT rfl hb6 rfl ?_)
            refine WL.op rfl rfl (op_pickF rfl hb5 rfl ?_)
            refine WL.op rfl rfl (op_assign rfl ?_)
            refine WL.nil ?_
            refine WQ.next ?_
            refine WC.ret ?_
            refine WQ.out (.tmp rfl .nil) ?_
            exact ⟨by (rw [sized_cut, sizedU, hb2, hb3, hb4, hb5, hb6]) <;> rfl, H1.fr⟩
          ·
            have hc6 := of_decide_eq_false hb6
            refine WL.no rfl rfl rfl hb6 rfl ?_
            refine WL.no rfl rfl rfl hb6 rfl ?_
            refine WL.no rfl rfl rfl hb6 rfl ?_
            refine WL.yes rfl rfl rfl hb5 rfl (op_pickF rfl hb6 rfl ?_)
            refine WL.op rfl rfl (op_pickF rfl hb5 rfl ?_)
            refine WL.op rfl rfl (op_assign rfl ?_)
            refine WL.nil ?_
            refine WQ.next ?_
            refine WC.ret ?_
            refine WQ.out (.tmp rfl .nil) ?_
            exact ⟨by (rw [sized_cut, sizedU, hb2, hb3, hb4, hb5, hb6]) <;> rfl, H1.fr⟩
set_option maxRecDepth 100000 in
theorem placesA_ok (x : Sy) (w : World) (hI : SyD.ok w x) (hn : x.nm.length < 2 ^ 47) (hr : ∀ y ∈ x.rl, y.nm.length < 2 ^ 47) (hm : x.rl.length < 2 ^ 43) (hq : x.nt.length < 2 ^ 44) :
    Calls Tryd.prog 82 #[(.agg #[(str x.nm), (vU8 x.bind), (vU8 x.kind), (vU32 x.size), (str x.b), x.rv, x.nv])] w (fun e w' => e = .returned (.bool (relsB x.cut.b.length x.rl)) ∧ Fr [] w w') := by
  refine enter (args := [(.agg #[(str x.nm), (vU8 x.bind), (vU8 x.kind), (vU32 x.size), (str x.b), x.rv, x.nv])]) Tryd.func82 rfl rfl ?_
  have H0 : Own [] w w [] := Own.start w []
  refine WC.seq ?_
  refine WC.region ?_
  refine WL.op rfl rfl (op_box H0 rfl rfl (fun b1 w1 H1 => ?_))
  refine WL.op rfl rfl (op_assign rfl ?_)
  refine WL.nil ?_
  refine WQ.next ?_
  refine WC.seq ?_
  refine WC.region ?_
  refine WL.op rfl rfl (op_assign rfl ?_)
  refine WL.nil ?_
  refine WQ.next ?_
  refine WC.seq ?_
  refine WC.seq ?_
  refine WC.region ?_
  refine WL.op rfl rfl (op_fieldAddr rfl Fa.F111_0 ?_)
  refine WL.op rfl rfl (op_fieldAddr rfl Fa.F26_5 ?_)
  refine WL.op rfl rfl (op_load rfl (H1.cell (i := 0) rfl rfl) Tryd.underlying23 rfl ?_)
  refine WL.op rfl rfl (op_lenA Tryd.underlying23 rfl ((SyD_rl (SyD.fr0 hI H1.fr))) ?_)
  refine WL.op rfl rfl (op_move rfl ?_)
  refine WL.nil ?_
  refine WQ.next ?_
  refine WC.block ?_
  refine WC.loop (α := Nat) (fun k => [(1, (ptr b1 0)), (2, (.bool false)), (3, (vU32 (UInt32.ofNat (endAt x.rl k)))), (9, x.rv), (10, (vN x.rl.length)), (11, (vN k))]) (fun k w' => (k ≤ x.rl.length ∧ (∀ j, j < k → relOk x.cut.b.length (endAt x.rl j) (x.rl.getD j Rl.zero) = true)) ∧ Own [] w w' [.blk b1 [(str x.nm), (vU8 x.bind), (vU8 x.kind), (vU32 x.size), (str x.b), x.rv, x.nv] 111]) (fun k => x.rl.length - k) 0 ⟨⟨Nat.zero_le _, fun j h => by omega⟩, H1⟩ ⟨rfl, rfl, rfl, rfl, rfl, rfl, trivial⟩ ?_
  rintro k w2 ⟨⟨hk1, hok⟩, H2⟩
  show WC _ _ _ _ _ [(1, (ptr b1 0)), (2, (.bool false)), (3, (vU32 (UInt32.ofNat (endAt x.rl k)))), (9, x.rv), (10, (vN x.rl.length)), (11, (vN k))] _
  have he := endAt_lt hok
  have hrk := getD_name hr k
  refine WC.seq ?_
  refine WC.region ?_
  refine WL.op rfl rfl (op_lssN rfl rfl ?_)
  refine WL.nil ?_
  refine WQ.next ?_
  refine WC.seq ?_
  refine WC.cond rfl (fun (hb3 : (decide (k < x.rl.length)) = true) => ?_) (fun (hb3 : (decide (k < x.rl.length)) = false) => ?_)
  ·
    have hc3 := of_decide_eq_true hb3
    refine WC.skip ?_
    refine WQ.next ?_
    refine WC.seq ?_
    refine WC.block ?_
    refine WC.seq ?_
    refine WC.region ?_
    refine WL.op rfl rfl (op_indexAddr Tryd.underlying23 Fa.I44 rfl ((SyD_rl (SyD.fr0 hI H2.fr))) rfl (by omega) ?_)
    refine WL.op rfl rfl (op_loadSP (vs := rlc (x.rl.getD k Rl.zero)) rfl (Arr.atsF ((SyD_rl (SyD.fr0 hI H2.fr))) (fun _ => rfl) (by decide) Rl.zero (by omega)) Tryd.underlying44 rfl Fa.I44 rfl ?_)
    refine WL.op rfl rfl (op_alloc H2 Fa.I44 (fun b4 w4 H4 => ?_))
    refine WL.op rfl rfl (op_storeBW (i := 1) H4 rfl rfl rfl rfl rfl Fa.I44 (fun w5 H5 => ?_))
    refine WL.nil ?_
    refine WQ.next ?_
    refine WC.seq ?_
    refine WC.region ?_
    refine WL.op rfl rfl (op_assign rfl ?_)
    refine WL.nil ?_
    refine WQ.next ?_
    refine WC.seq ?_
    refine WC.seq ?_
    refine WC.region ?_
    refine WL.op rfl rfl (op_fieldAddr rfl Fa.F44_1 ?_)
    refine WL.op rfl rfl (op_load rfl (H5.cell (i := 1) rfl rfl) Tryd.underlying5 rfl ?_)
    refine WL.nil ?_
    refine WQ.next ?_
    refine WC.block ?_
    refine WC.seq ?_
    refine WC.region ?_
    refine WL.op rfl rfl (op_eqlU8 (b := 1) rfl rfl ?_)
    refine WL.op rfl rfl (op_assign rfl ?_)
    refine WL.nil ?_
    refine WQ.next ?_
    refine WC.cond rfl (fun (hb6 : (decide ((x.rl.getD k Rl.zero).kind = (1 : UInt8))) = true) => ?_) (fun (hb6 : (decide ((x.rl.getD k Rl.zero).kind = (1 : UInt8))) = false) => ?_)
    ·
      have hc6 := of_decide_eq_true hb6
      have hw : widthN (x.rl.getD k Rl.zero).kind = (4 : UInt32).toNat := by (rw [widthN, hb6]) <;> rfl
      refine WC.skip ?_
      refine WQ.inNormal ?_
      refine WQ.next ?_
      refine WC.seq ?_
      refine WC.seq ?_
      refine WC.region ?_
      refine WL.op rfl rfl (op_fieldAddr rfl Fa.F44_2 ?_)
      refine WL.op rfl rfl (op_load rfl (H5.cell (i := 1) rfl rfl) Tryd.underlying9 rfl ?_)
      refine WL.op rfl rfl (op_callF Fa.C80 rfl ((oname_ok ((x.rl.getD k Rl.zero).nm) _ (by exact hrk)).mono (fun e w7 hq => ?_)))
      obtain ⟨rfl, hf7⟩ := hq
      refine ⟨_, rfl, ?_⟩
      have H7 := H5.fr' hf7
      refine WL.op rfl rfl (op_not rfl ?_)
      refine WL.op rfl rfl (op_move rfl ?_)
      refine WL.split (t := 25) rfl (fun (hb8 : (!(nameB ((x.rl.getD k Rl.zero).nm))) = true) => ?_) (fun (hb8 : (!(nameB ((x.rl.getD k Rl.zero).nm))) = false) => ?_)
      ·
        have hn8 := (Bool.not_eq_true' _).mp hb8
        refine WL.no rfl rfl rfl hb8 rfl ?_
        refine WL.no rfl rfl rfl hb8 rfl ?_
        refine WL.no rfl rfl rfl hb8 rfl ?_
        refine WL.no rfl rfl rfl hb8 rfl ?_
        refine WL.op rfl rfl (op_pickT rfl hb8 rfl ?_)
        refine WL.op rfl rfl (op_move rfl ?_)
        refine WL.no rfl rfl rfl rfl rfl ?_
        refine WL.no rfl rfl rfl rfl rfl ?_
        refine WL.no rfl rfl rfl rfl rfl ?_
        refine WL.op rfl rfl (op_pickT rfl rfl rfl ?_)
        refine WL.op rfl rfl (op_move rfl ?_)
        refine WL.no rfl rfl rfl rfl rfl ?_
        refine WL.no rfl rfl rfl rfl rfl ?_
        refine WL.no rfl rfl rfl rfl rfl ?_
        refine WL.no rfl rfl rfl rfl rfl ?_
        refine WL.no rfl rfl rfl rfl rfl ?_
        refine WL.no rfl rfl rfl rfl rfl ?_
        refine WL.no rfl rfl rfl rfl rfl ?_
        refine WL.no rfl rfl rfl rfl rfl ?_
        refine WL.no rfl rfl rfl rfl rfl ?_
        refine WL.no rfl rfl rfl rfl rfl ?_
        refine WL.op rfl rfl (op_pickT rfl rfl rfl ?_)
        refine WL.nil ?_
        refine WQ.next ?_
        refine WC.yes rfl rfl ?_
        refine WC.seq ?_
        refine WC.region ?_
        refine WL.op rfl rfl (op_assign rfl ?_)
        refine WL.nil ?_
        refine WQ.next ?_
        refine WC.ret ?_
        refine WQ.thenRet ?_
        refine WQ.inRet ?_
        refine WQ.thenRet ?_
        refine WQ.thenRet ?_
        refine WQ.inRet ?_
        refine WQ.thenRet ?_
        refine WQ.out (.tmp rfl .nil) ?_
        exact ⟨by rw [rels_no (k := k) (by omega) (relOk_n hn8)]; rfl, H7.fr⟩
      ·
        have hn8 := (Bool.not_eq_false' _).mp hb8
        refine WL.yes rfl rfl rfl hb8 rfl (op_fieldAddr rfl Fa.F44_0 ?_)
        refine WL.yes rfl rfl rfl hb8 rfl (op_load rfl (H7.cell (i := 1) rfl rfl) Tryd.underlying22 rfl ?_)
        refine WL.yes rfl rfl rfl hb8 rfl (op_move rfl ?_)
        refine WL.yes rfl rfl rfl hb8 rfl (op_lssU32 rfl rfl ?_)
        refine WL.op rfl rfl (op_pickF rfl hb8 rfl ?_)
        refine WL.op rfl rfl (op_move rfl ?_)
        refine WL.split (t := 31) rfl (fun (hb9 : (decide ((x.rl.getD k Rl.zero).off < (UInt32.ofNat (endAt x.rl k)))) = true) => ?_) (fun (hb9 : (decide ((x.rl.getD k Rl.zero).off < (UInt32.ofNat (endAt x.rl k)))) = false) => ?_)
        ·
          have hc9 := of_decide_eq_true hb9
          refine WL.no rfl rfl rfl hb9 rfl ?_
          refine WL.no rfl rfl rfl hb9 rfl ?_
          refine WL.no rfl rfl rfl hb9 rfl ?_
          refine WL.op rfl rfl (op_pickT rfl hb9 rfl ?_)
          refine WL.op rfl rfl (op_move rfl ?_)
          refine WL.no rfl rfl rfl rfl rfl ?_
          refine WL.no rfl rfl rfl rfl rfl ?_
          refine WL.no rfl rfl rfl rfl rfl ?_
          refine WL.no rfl rfl rfl rfl rfl ?_
          refine WL.no rfl rfl rfl rfl rfl ?_
          refine WL.no rfl rfl rfl rfl rfl ?_
          refine WL.no rfl rfl rfl rfl rfl ?_
          refine WL.no rfl rfl rfl rfl rfl ?_
          refine WL.no rfl rfl rfl rfl rfl ?_
          refine WL.no rfl rfl rfl rfl rfl ?_
          refine WL.op rfl rfl (op_pickT rfl rfl rfl ?_)
          refine WL.nil ?_
          refine WQ.next ?_
          refine WC.yes rfl rfl ?_
          refine WC.seq ?_
          refine WC.region ?_
          refine WL.op rfl rfl (op_assign rfl ?_)
          refine WL.nil ?_
          refine WQ.next ?_
          refine WC.ret ?_
          refine WQ.thenRet ?_
          refine WQ.inRet ?_
          refine WQ.thenRet ?_
          refine WQ.thenRet ?_
          refine WQ.inRet ?_
          refine WQ.thenRet ?_
          refine WQ.out (.tmp rfl .nil) ?_
          exact ⟨by rw [rels_no (k := k) (by omega) (relOk_e hb9 (by omega))]; rfl, H7.fr⟩
        ·
          have hc9 := of_decide_eq_false hb9
          refine WL.yes rfl rfl rfl hb9 rfl (op_fieldAddr rfl Fa.F44_0 ?_)
          refine WL.yes rfl rfl rfl hb9 rfl (op_load rfl (H7.cell (i := 1) rfl rfl) Tryd.underlying22 rfl ?_)
          refine WL.yes rfl rfl rfl hb9 rfl (op_gtrU32 (b := 8192) rfl rfl ?_)
          refine WL.op rfl rfl (op_pickF rfl hb9 rfl ?_)
          refine WL.op rfl rfl (op_move rfl ?_)
          refine WL.split (t := 36) rfl (fun (hb10 : (decide ((x.rl.getD k Rl.zero).off > (8192 : UInt32))) = true) => ?_) (fun (hb10 : (decide ((x.rl.getD k Rl.zero).off > (8192 : UInt32))) = false) => ?_)
          ·
            have hc10 := of_decide_eq_true hb10
            refine WL.no rfl rfl rfl hb10 rfl ?_
            refine WL.no rfl rfl rfl hb10 rfl ?_
            refine WL.no rfl rfl rfl hb10 rfl ?_
            refine WL.no rfl rfl rfl hb10 rfl ?_
            refine WL.no rfl rfl rfl hb10 rfl ?_
            refine WL.no rfl rfl rfl hb10 rfl ?_
            refine WL.no rfl rfl rfl hb10 rfl ?_
            refine WL.no rfl rfl rfl hb10 rfl ?_
            refine WL.no rfl rfl rfl hb10 rfl ?_
            refine WL.no rfl rfl rfl hb10 rfl ?_
            refine WL.op rfl rfl (op_pickT rfl hb10 rfl ?_)
            refine WL.nil ?_
            refine WQ.next ?_
            refine WC.yes rfl rfl ?_
            refine WC.seq ?_
            refine WC.region ?_
            refine WL.op rfl rfl (op_assign rfl ?_)
            refine WL.nil ?_
            refine WQ.next ?_
            refine WC.ret ?_
            refine WQ.thenRet ?_
            refine WQ.inRet ?_
            refine WQ.thenRet ?_
            refine WQ.thenRet ?_
            refine WQ.inRet ?_
            refine WQ.thenRet ?_
            refine WQ.out (.tmp rfl .nil) ?_
            exact ⟨by rw [rels_no (k := k) (by omega) (relOk_b hb10)]; rfl, H7.fr⟩
          ·
            have hc10 := of_decide_eq_false hb10
            refine WL.yes rfl rfl rfl hb10 rfl (op_fieldAddr rfl Fa.F44_0 ?_)
            refine WL.yes rfl rfl rfl hb10 rfl (op_load rfl (H7.cell (i := 1) rfl rfl) Tryd.underlying22 rfl ?_)
            refine WL.yes rfl rfl rfl hb10 rfl (op_move rfl ?_)
            refine WL.yes rfl rfl rfl hb10 rfl (op_addU32 (b := 4) rfl rfl ?_)
            refine WL.yes rfl rfl rfl hb10 rfl (op_fieldAddr rfl Fa.F111_0 ?_)
            refine WL.yes rfl rfl rfl hb10 rfl (op_fieldAddr rfl Fa.F26_4 ?_)
            refine WL.yes rfl rfl rfl hb10 rfl (op_load rfl (H7.cell (i := 0) rfl rfl) Tryd.underlying9 rfl ?_)
            refine WL.yes rfl rfl rfl hb10 rfl (op_lenStr Tryd.underlying9 rfl ?_)
            refine WL.yes rfl rfl rfl hb10 rfl (op_convNU32 (hs := Tryd.underlying3) (hd := Tryd.underlying22) rfl ?_)
            refine WL.yes rfl rfl rfl hb10 rfl (op_gtrU32 rfl rfl ?_)
            refine WL.op rfl rfl (op_pickF rfl hb10 rfl ?_)
            refine WL.nil ?_
            refine WQ.next ?_
            refine WC.cond rfl (fun (hb11 : (decide (((x.rl.getD k Rl.zero).off + 4) > (UInt32.ofNat x.b.length))) = true) => ?_) (fun (hb11 : (decide (((x.rl.getD k Rl.zero).off + 4) > (UInt32.ofNat x.b.length))) = false) => ?_)
            ·
              have hc11 := of_decide_eq_true hb11
              refine WC.seq ?_
              refine WC.region ?_
              refine WL.op rfl rfl (op_assign rfl ?_)
              refine WL.nil ?_
              refine WQ.next ?_
              refine WC.ret ?_
              refine WQ.thenRet ?_
              refine WQ.inRet ?_
              refine WQ.thenRet ?_
              refine WQ.thenRet ?_
              refine WQ.inRet ?_
              refine WQ.thenRet ?_
              refine WQ.out (.tmp rfl .nil) ?_
              exact ⟨by rw [rels_no (k := k) (by omega) (relOk_o hw hb10 (cutU hb11) cut_lt)]; rfl, H7.fr⟩
            ·
              have hc11 := of_decide_eq_false hb11
              refine WC.skip ?_
              refine WQ.next ?_
              refine WC.region ?_
              refine WL.op rfl rfl (op_fieldAddr rfl Fa.F44_0 ?_)
              refine WL.op rfl rfl (op_load rfl (H7.cell (i := 1) rfl rfl) Tryd.underlying22 rfl ?_)
              refine WL.op rfl rfl (op_move rfl ?_)
              refine WL.op rfl rfl (op_addU32 (b := 4) rfl rfl ?_)
              refine WL.op rfl rfl (op_assign rfl ?_)
              refine WL.nil ?_
              refine WQ.inNormal ?_
              refine WQ.next ?_
              refine WC.region ?_
              refine WL.op rfl rfl (op_addN (b := 1) rfl rfl (by omega) ?_)
              refine WL.op rfl rfl (op_move rfl ?_)
              refine WL.nil ?_
              exact WQ.round (k + 1) ⟨⟨by omega, allPrev hok (relOk_yes hw hn8 hb9 hb10 (cutU hb11) (by omega) cut_lt)⟩, (H7.take 1)⟩ ⟨rfl, rfl, (congrArg (fun v => some (vU32 v)) (end_U hw hb10)), rfl, rfl, rfl, trivial⟩ (by omega)
    ·
      have hc6 := of_decide_eq_false hb6
      refine WC.seq ?_
      refine WC.region ?_
      refine WL.op rfl rfl (op_eqlU8 (b := 2) rfl rfl ?_)
      refine WL.op rfl rfl (op_assign rfl ?_)
      refine WL.nil ?_
      refine WQ.next ?_
      refine WC.cond rfl (fun (hb12 : (decide ((x.rl.getD k Rl.zero).kind = (2 : UInt8))) = true) => ?_) (fun (hb12 : (decide ((x.rl.getD k Rl.zero).kind = (2 : UInt8))) = false) => ?_)
      ·
        have hc12 := of_decide_eq_true hb12
        have hw : widthN (x.rl.getD k Rl.zero).kind = (2 : UInt32).toNat := by (rw [widthN, hb6, hb12]) <;> rfl
        refine WC.region ?_
        refine WL.op rfl rfl (op_assign rfl ?_)
        refine WL.nil ?_
        refine WQ.inNormal ?_
        refine WQ.next ?_
        refine WC.seq ?_
        refine WC.seq ?_
        refine WC.region ?_
        refine WL.op rfl rfl (op_fieldAddr rfl Fa.F44_2 ?_)
        refine WL.op rfl rfl (op_load rfl (H5.cell (i := 1) rfl rfl) Tryd.underlying9 rfl ?_)
        refine WL.op rfl rfl (op_callF Fa.C80 rfl ((oname_ok ((x.rl.getD k Rl.zero).nm) _ (by exact hrk)).mono (fun e w13 hq => ?_)))
        obtain ⟨rfl, hf13⟩ := hq
        refine ⟨_, rfl, ?_⟩
        have H13 := H5.fr' hf13
        refine WL.op rfl rfl (op_not rfl ?_)
        refine WL.op rfl rfl (op_move rfl ?_)
        refine WL.split (t := 25) rfl (fun (hb14 : (!(nameB ((x.rl.getD k Rl.zero).nm))) = true) => ?_) (fun (hb14 : (!(nameB ((x.rl.getD k Rl.zero).nm))) = false) => ?_)
        ·
          have hn14 := (Bool.not_eq_true' _).mp hb14
          refine WL.no rfl rfl rfl hb14 rfl ?_
          refine WL.no rfl rfl rfl hb14 rfl ?_
          refine WL.no rfl rfl rfl hb14 rfl ?_
          refine WL.no rfl rfl rfl hb14 rfl ?_
          refine WL.op rfl rfl (op_pickT rfl hb14 rfl ?_)
          refine WL.op rfl rfl (op_move rfl ?_)
          refine WL.no rfl rfl rfl rfl rfl ?_
          refine WL.no rfl rfl rfl rfl rfl ?_
          refine WL.no rfl rfl rfl rfl rfl ?_
          refine WL.op rfl rfl (op_pickT rfl rfl rfl ?_)
          refine WL.op rfl rfl (op_move rfl ?_)
          refine WL.no rfl rfl rfl rfl rfl ?_
          refine WL.no rfl rfl rfl rfl rfl ?_
          refine WL.no rfl rfl rfl rfl rfl ?_
          refine WL.no rfl rfl rfl rfl rfl ?_
          refine WL.no rfl rfl rfl rfl rfl ?_
          refine WL.no rfl rfl rfl rfl rfl ?_
          refine WL.no rfl rfl rfl rfl rfl ?_
          refine WL.no rfl rfl rfl rfl rfl ?_
          refine WL.no rfl rfl rfl rfl rfl ?_
          refine WL.no rfl rfl rfl rfl rfl ?_
          refine WL.op rfl rfl (op_pickT rfl rfl rfl ?_)
          refine WL.nil ?_
          refine WQ.next ?_
          refine WC.yes rfl rfl ?_
          refine WC.seq ?_
          refine WC.region ?_
          refine WL.op rfl rfl (op_assign rfl ?_)
          refine WL.nil ?_
          refine WQ.next ?_
          refine WC.ret ?_
          refine WQ.thenRet ?_
          refine WQ.inRet ?_
          refine WQ.thenRet ?_
          refine WQ.thenRet ?_
          refine WQ.inRet ?_
          refine WQ.thenRet ?_
          refine WQ.out (.tmp rfl .nil) ?_
          exact ⟨by rw [rels_no (k := k) (by omega) (relOk_n hn14)]; rfl, H13.fr⟩
        ·
          have hn14 := (Bool.not_eq_false' _).mp hb14
          refine WL.yes rfl rfl rfl hb14 rfl (op_fieldAddr rfl Fa.F44_0 ?_)
          refine WL.yes rfl rfl rfl hb14 rfl (op_load rfl (H13.cell (i := 1) rfl rfl) Tryd.underlying22 rfl ?_)
          refine WL.yes rfl rfl rfl hb14 rfl (op_move rfl ?_)
          refine WL.yes rfl rfl rfl hb14 rfl (op_lssU32 rfl rfl ?_)
          refine WL.op rfl rfl (op_pickF rfl hb14 rfl ?_)
          refine WL.op rfl rfl (op_move rfl ?_)
          refine WL.split (t := 31) rfl (fun (hb15 : (decide ((x.rl.getD k Rl.zero).off < (UInt32.ofNat (endAt x.rl k)))) = true) => ?_) (fun (hb15 : (decide ((x.rl.getD k Rl.zero).off < (UInt32.ofNat (endAt x.rl k)))) = false) => ?_)
          ·
            have hc15 := of_decide_eq_true hb15
            refine WL.no rfl rfl rfl hb15 rfl ?_
            refine WL.no rfl rfl rfl hb15 rfl ?_
            refine WL.no rfl rfl rfl hb15 rfl ?_
            refine WL.op rfl rfl (op_pickT rfl hb15 rfl ?_)
            refine WL.op rfl rfl (op_move rfl ?_)
            refine WL.no rfl rfl rfl rfl rfl ?_
            refine WL.no rfl rfl rfl rfl rfl ?_
            refine WL.no rfl rfl rfl rfl rfl ?_
            refine WL.no rfl rfl rfl rfl rfl ?_
            refine WL.no rfl rfl rfl rfl rfl ?_
            refine WL.no rfl rfl rfl rfl rfl ?_
            refine WL.no rfl rfl rfl rfl rfl ?_
            refine WL.no rfl rfl rfl rfl rfl ?_
            refine WL.no rfl rfl rfl rfl rfl ?_
            refine WL.no rfl rfl rfl rfl rfl ?_
            refine WL.op rfl rfl (op_pickT rfl rfl rfl ?_)
            refine WL.nil ?_
            refine WQ.next ?_
            refine WC.yes rfl rfl ?_
            refine WC.seq ?_
            refine WC.region ?_
            refine WL.op rfl rfl (op_assign rfl ?_)
            refine WL.nil ?_
            refine WQ.next ?_
            refine WC.ret ?_
            refine WQ.thenRet ?_
            refine WQ.inRet ?_
            refine WQ.thenRet ?_
            refine WQ.thenRet ?_
            refine WQ.inRet ?_
            refine WQ.thenRet ?_
            refine WQ.out (.tmp rfl .nil) ?_
            exact ⟨by rw [rels_no (k := k) (by omega) (relOk_e hb15 (by omega))]; rfl, H13.fr⟩
          ·
            have hc15 := of_decide_eq_false hb15
            refine WL.yes rfl rfl rfl hb15 rfl (op_fieldAddr rfl Fa.F44_0 ?_)
            refine WL.yes rfl rfl rfl hb15 rfl (op_load rfl (H13.cell (i := 1) rfl rfl) Tryd.underlying22 rfl ?_)
            refine WL.yes rfl rfl rfl hb15 rfl (op_gtrU32 (b := 8192) rfl rfl ?_)
            refine WL.op rfl rfl (op_pickF rfl hb15 rfl ?_)
            refine WL.op rfl rfl (op_move rfl ?_)
            refine WL.split (t := 36) rfl (fun (hb16 : (decide ((x.rl.getD k Rl.zero).off > (8192 : UInt32))) = true) => ?_) (fun (hb16 : (decide ((x.rl.getD k Rl.zero).off > (8192 : UInt32))) = false) => ?_)
            ·
              have hc16 := of_decide_eq_true hb16
              refine WL.no rfl rfl rfl hb16 rfl ?_
              refine WL.no rfl rfl rfl hb16 rfl ?_
              refine WL.no rfl rfl rfl hb16 rfl ?_
              refine WL.no rfl rfl rfl hb16 rfl ?_
              refine WL.no rfl rfl rfl hb16 rfl ?_
              refine WL.no rfl rfl rfl hb16 rfl ?_
              refine WL.no rfl rfl rfl hb16 rfl ?_
              refine WL.no rfl rfl rfl hb16 rfl ?_
              refine WL.no rfl rfl rfl hb16 rfl ?_
              refine WL.no rfl rfl rfl hb16 rfl ?_
              refine WL.op rfl rfl (op_pickT rfl hb16 rfl ?_)
              refine WL.nil ?_
              refine WQ.next ?_
              refine WC.yes rfl rfl ?_
              refine WC.seq ?_
              refine WC.region ?_
              refine WL.op rfl rfl (op_assign rfl ?_)
              refine WL.nil ?_
              refine WQ.next ?_
              refine WC.ret ?_
              refine WQ.thenRet ?_
              refine WQ.inRet ?_
              refine WQ.thenRet ?_
              refine WQ.thenRet ?_
              refine WQ.inRet ?_
              refine WQ.thenRet ?_
              refine WQ.out (.tmp rfl .nil) ?_
              exact ⟨by rw [rels_no (k := k) (by omega) (relOk_b hb16)]; rfl, H13.fr⟩
            ·
              have hc16 := of_decide_eq_false hb16
              refine WL.yes rfl rfl rfl hb16 rfl (op_fieldAddr rfl Fa.F44_0 ?_)
              refine WL.yes rfl rfl rfl hb16 rfl (op_load rfl (H13.cell (i := 1) rfl rfl) Tryd.underlying22 rfl ?_)
              refine WL.yes rfl rfl rfl hb16 rfl (op_move rfl ?_)
              refine WL.yes rfl rfl rfl hb16 rfl (op_addU32 (b := 2) rfl rfl ?_)
              refine WL.yes rfl rfl rfl hb16 rfl (op_fieldAddr rfl Fa.F111_0 ?_)
              refine WL.yes rfl rfl rfl hb16 rfl (op_fieldAddr rfl Fa.F26_4 ?_)
              refine WL.yes rfl rfl rfl hb16 rfl (op_load rfl (H13.cell (i := 0) rfl rfl) Tryd.underlying9 rfl ?_)
              refine WL.yes rfl rfl rfl hb16 rfl (op_lenStr Tryd.underlying9 rfl ?_)
              refine WL.yes rfl rfl rfl hb16 rfl (op_convNU32 (hs := Tryd.underlying3) (hd := Tryd.underlying22) rfl ?_)
              refine WL.yes rfl rfl rfl hb16 rfl (op_gtrU32 rfl rfl ?_)
              refine WL.op rfl rfl (op_pickF rfl hb16 rfl ?_)
              refine WL.nil ?_
              refine WQ.next ?_
              refine WC.cond rfl (fun (hb17 : (decide (((x.rl.getD k Rl.zero).off + 2) > (UInt32.ofNat x.b.length))) = true) => ?_) (fun (hb17 : (decide (((x.rl.getD k Rl.zero).off + 2) > (UInt32.ofNat x.b.length))) = false) => ?_)
              ·
                have hc17 := of_decide_eq_true hb17
                refine WC.seq ?_
                refine WC.region ?_
                refine WL.op rfl rfl (op_assign rfl ?_)
                refine WL.nil ?_
                refine WQ.next ?_
                refine WC.ret ?_
                refine WQ.thenRet ?_
                refine WQ.inRet ?_
                refine WQ.thenRet ?_
                refine WQ.thenRet ?_
                refine WQ.inRet ?_
                refine WQ.thenRet ?_
                refine WQ.out (.tmp rfl .nil) ?_
                exact ⟨by rw [rels_no (k := k) (by omega) (relOk_o hw hb16 (cutU hb17) cut_lt)]; rfl, H13.fr⟩
              ·
                have hc17 := of_decide_eq_false hb17
                refine WC.skip ?_
                refine WQ.next ?_
                refine WC.region ?_
                refine WL.op rfl rfl (op_fieldAddr rfl Fa.F44_0 ?_)
                refine WL.op rfl rfl (op_load rfl (H13.cell (i := 1) rfl rfl) Tryd.underlying22 rfl ?_)
                refine WL.op rfl rfl (op_move rfl ?_)
                refine WL.op rfl rfl (op_addU32 (b := 2) rfl rfl ?_)
                refine WL.op rfl rfl (op_assign rfl ?_)
                refine WL.nil ?_
                refine WQ.inNormal ?_
                refine WQ.next ?_
                refine WC.region ?_
                refine WL.op rfl rfl (op_addN (b := 1) rfl rfl (by omega) ?_)
                refine WL.op rfl rfl (op_move rfl ?_)
                refine WL.nil ?_
                exact WQ.round (k + 1) ⟨⟨by omega, allPrev hok (relOk_yes hw hn14 hb15 hb16 (cutU hb17) (by omega) cut_lt)⟩, (H13.take 1)⟩ ⟨rfl, rfl, (congrArg (fun v => some (vU32 v)) (end_U hw hb16)), rfl, rfl, rfl, trivial⟩ (by omega)
      ·
        have hc12 := of_decide_eq_false hb12
        refine WC.seq ?_
        refine WC.region ?_
        refine WL.op rfl rfl (op_assign rfl ?_)
        refine WL.nil ?_
        refine WQ.next ?_
        refine WC.ret ?_
        refine WQ.inRet ?_
        refine WQ.thenRet ?_
        refine WQ.inRet ?_
        refine WQ.thenRet ?_
        refine WQ.thenRet ?_
        refine WQ.inRet ?_
        refine WQ.thenRet ?_
        refine WQ.out (.tmp rfl .nil) ?_
        exact ⟨by rw [rels_no (k := k) (by omega) (relOk_k (by (rw [widthN, hb6, hb12]) <;> rfl))]; rfl, H5.fr⟩
  ·
    have hc3 := of_decide_eq_false hb3
    refine WC.exit ?_
    refine WQ.thenExit ?_
    refine WQ.thenExit ?_
    refine WQ.inHere ?_
    refine WQ.next ?_
    refine WC.seq ?_
    refine WC.region ?_
    refine WL.op rfl rfl (op_fieldAddr rfl Fa.F111_0 ?_)
    refine WL.op rfl rfl (op_fieldAddr rfl Fa.F26_5 ?_)
    refine WL.op rfl rfl (op_load rfl (H2.cell (i := 0) rfl rfl) Tryd.underlying23 rfl ?_)
    refine WL.op rfl rfl (op_lenA Tryd.underlying23 rfl ((SyD_rl (SyD.fr0 hI H2.fr))) ?_)
    refine WL.op rfl rfl (op_leqN (b := 1024) rfl rfl ?_)
    refine WL.op rfl rfl (op_assign rfl ?_)
    refine WL.nil ?_
    refine WQ.next ?_
    refine WC.ret ?_
    refine WQ.out (.tmp rfl .nil) ?_
    exact ⟨by rw [rels_all (fun j hj => hok j (by omega))]; rfl, H2.fr⟩
set_option maxRecDepth 100000 in
theorem omayA_ok (x : Sy) (w : World) (hI : SyD.ok w x) (hn : x.nm.length < 2 ^ 47) (hr : ∀ y ∈ x.rl, y.nm.length < 2 ^ 47) (hm : x.rl.length < 2 ^ 43) (hq : x.nt.length < 2 ^ 44) :
    Calls Tryd.prog 61 #[(.agg #[(str x.nm), (vU8 x.bind), (vU8 x.kind), (vU32 x.size), (str x.b), x.rv, x.nv])] w (fun e w' => e = .returned (.bool (symB x.cut)) ∧ Fr [] w w') := by
  refine enter (args := [(.agg #[(str x.nm), (vU8 x.bind), (vU8 x.kind), (vU32 x.size), (str x.b), x.rv, x.nv])]) Tryd.func61 rfl rfl ?_
  have H0 : Own [] w w [] := Own.start w []
  refine WC.seq ?_
  refine WC.region ?_
  refine WL.op rfl rfl (op_box H0 rfl rfl (fun b1 w1 H1 => ?_))
  refine WL.op rfl rfl (op_assign rfl ?_)
  refine WL.nil ?_
  refine WQ.next ?_
  refine WC.seq ?_
  refine WC.region ?_
  refine WL.op rfl rfl (op_fieldAddr rfl Fa.F111_0 ?_)
  refine WL.op rfl rfl (op_fieldAddr rfl Fa.F26_0 ?_)
  refine WL.op rfl rfl (op_load rfl (H1.cell (i := 0) rfl rfl) Tryd.underlying9 rfl ?_)
  refine WL.op rfl rfl (op_callF Fa.C80 rfl ((oname_ok x.nm _ hn).mono (fun e w2 hq => ?_)))
  obtain ⟨rfl, hf2⟩ := hq
  refine ⟨_, rfl, ?_⟩
  have H2 := H1.fr' hf2
  refine WL.op rfl rfl (op_move rfl ?_)
  refine WL.split (t := 7) rfl (fun (hb3 : (nameB x.nm) = true) => ?_) (fun (hb3 : (nameB x.nm) = false) => ?_)
  ·
    refine WL.yes rfl rfl rfl hb3 rfl (op_fieldAddr rfl Fa.F111_0 ?_)
    refine WL.yes rfl rfl rfl hb3 rfl (op_fieldAddr rfl Fa.F26_1 ?_)
    refine WL.yes rfl rfl rfl hb3 rfl (op_load rfl (H2.cell (i := 0) rfl rfl) Tryd.underlying5 rfl ?_)
    refine WL.yes rfl rfl rfl hb3 rfl (op_leqU8 (b := 2) rfl rfl ?_)
    refine WL.op rfl rfl (op_pickT rfl hb3 rfl ?_)
    refine WL.op rfl rfl (op_move rfl ?_)
    refine WL.split (t := 13) rfl (fun (hb4 : (decide (x.bind ≤ (2 : UInt8))) = true) => ?_) (fun (hb4 : (decide (x.bind ≤ (2 : UInt8))) = false) => ?_)
    ·
      have hc4 := of_decide_eq_true hb4
      refine WL.yes rfl rfl rfl hb4 rfl (op_fieldAddr rfl Fa.F111_0 ?_)
      refine WL.yes rfl rfl rfl hb4 rfl (op_fieldAddr rfl Fa.F26_2 ?_)
      refine WL.yes rfl rfl rfl hb4 rfl (op_load rfl (H2.cell (i := 0) rfl rfl) Tryd.underlying5 rfl ?_)
      refine WL.yes rfl rfl rfl hb4 rfl (op_geqU8 (b := 1) rfl rfl ?_)
      refine WL.op rfl rfl (op_pickT rfl hb4 rfl ?_)
      refine WL.op rfl rfl (op_move rfl ?_)
      refine WL.split (t := 19) rfl (fun (hb5 : (decide (x.kind ≥ (1 : UInt8))) = true) => ?_) (fun (hb5 : (decide (x.kind ≥ (1 : UInt8))) = false) => ?_)
      ·
        have hc5 := of_decide_eq_true hb5
        refine WL.yes rfl rfl rfl hb5 rfl (op_fieldAddr rfl Fa.F111_0 ?_)
        refine WL.yes rfl rfl rfl hb5 rfl (op_fieldAddr rfl Fa.F26_2 ?_)
        refine WL.yes rfl rfl rfl hb5 rfl (op_load rfl (H2.cell (i := 0) rfl rfl) Tryd.underlying5 rfl ?_)
        refine WL.yes rfl rfl rfl hb5 rfl (op_leqU8 (b := 3) rfl rfl ?_)
        refine WL.op rfl rfl (op_pickT rfl hb5 rfl ?_)
        refine WL.op rfl rfl (op_move rfl ?_)
        refine WL.split (t := 25) rfl (fun (hb6 : (decide (x.kind ≤ (3 : UInt8))) = true) => ?_) (fun (hb6 : (decide (x.kind ≤ (3 : UInt8))) = false) => ?_)
        ·
          have hc6 := of_decide_eq_true hb6
          refine WL.yes rfl rfl rfl hb6 rfl (op_loadS (vs := [_, _, _, _, _, _, _]) rfl (H2.cells (i := 0) rfl rfl) Tryd.underlying111 rfl Fa.I111 rfl ?_)
          refine WL.yes rfl rfl rfl hb6 rfl (op_callF Fa.C81 rfl ((sizedA_ok x _ (SyD_mk (x := x) ((SyD_rl (SyD.fr0 hI H2.fr))) ((SyD_nt (SyD.fr0 hI H2.fr)))) hn hr hm hq).mono (fun e w7 hq => ?_)))
          obtain ⟨rfl, hf7⟩ := hq
          refine ⟨_, rfl, ?_⟩
          have H7 := H2.fr' hf7
          refine WL.op rfl rfl (op_pickT rfl hb6 rfl ?_)
          refine WL.op rfl rfl (op_move rfl ?_)
          refine WL.split (t := 29) rfl (fun (hb8 : (sizedB x.cut) = true) => ?_) (fun (hb8 : (sizedB x.cut) = false) => ?_)
          ·
            refine WL.yes rfl rfl rfl hb8 rfl (op_loadS (vs := [_, _, _, _, _, _, _]) rfl (H7.cells (i := 0) rfl rfl) Tryd.underlying111 rfl Fa.I111 rfl ?_)
            refine WL.yes rfl rfl rfl hb8 rfl (op_callF Fa.C82 rfl ((placesA_ok x _ (SyD_mk (x := x) ((SyD_rl (SyD.fr0 hI H7.fr))) ((SyD_nt (SyD.fr0 hI H7.fr)))) hn hr hm hq).mono (fun e w9 hq => ?_)))
            obtain ⟨rfl, hf9⟩ := hq
            refine ⟨_, rfl, ?_⟩
            have H9 := H7.fr' hf9
            refine WL.op rfl rfl (op_pickT rfl hb8 rfl ?_)
            refine WL.op rfl rfl (op_move rfl ?_)
            refine WL.split (t := 33) rfl (fun (hb10 : (relsB x.cut.b.length x.rl) = true) => ?_) (fun (hb10 : (relsB x.cut.b.length x.rl) = false) => ?_)
            ·
              refine WL.yes rfl rfl rfl hb10 rfl (op_fieldAddr rfl Fa.F111_0 ?_)
              refine WL.yes rfl rfl rfl hb10 rfl (op_fieldAddr rfl Fa.F26_6 ?_)
              refine WL.yes rfl rfl rfl hb10 rfl (op_load rfl (H9.cell (i := 0) rfl rfl) Tryd.underlying24 rfl ?_)
              refine WL.yes rfl rfl rfl hb10 rfl (op_lenA Tryd.underlying24 rfl ((SyD_nt (SyD.fr0 hI H9.fr))) ?_)
              refine WL.yes rfl rfl rfl hb10 rfl (op_leqN (b := 8) rfl rfl ?_)
              refine WL.op rfl rfl (op_pickT rfl hb10 rfl ?_)
              refine WL.op rfl rfl (op_move rfl ?_)
              refine WL.split (t := 40) rfl (fun (hb11 : (decide (x.nt.length ≤ 8)) = true) => ?_) (fun (hb11 : (decide (x.nt.length ≤ 8)) = false) => ?_)
              ·
                have hc11 := of_decide_eq_true hb11
                refine WL.yes rfl rfl rfl hb11 rfl (op_fieldAddr rfl Fa.F111_0 ?_)
                refine WL.yes rfl rfl rfl hb11 rfl (op_fieldAddr rfl Fa.F26_6 ?_)
                refine WL.yes rfl rfl rfl hb11 rfl (op_load rfl (H9.cell (i := 0) rfl rfl) Tryd.underlying24 rfl ?_)
                refine WL.yes rfl rfl rfl hb11 rfl (op_callF Fa.C83 rfl ((conN_ok _ x.nt _ ((SyD_nt (SyD.fr0 hI H9.fr))) (by omega)).mono (fun e w12 hq => ?_)))
                obtain ⟨rfl, hf12⟩ := hq
                refine ⟨_, rfl, ?_⟩
                have H12 := H9.fr' hf12
                refine WL.yes rfl rfl rfl hb11 rfl (op_not rfl ?_)
                refine WL.op rfl rfl (op_pickT rfl hb11 rfl ?_)
                refine WL.op rfl rfl (op_assign rfl ?_)
                refine WL.nil ?_
                refine WQ.next ?_
                refine WC.ret ?_
                refine WQ.out (.tmp rfl .nil) ?_
                exact ⟨by (rw [sym_cut, symC, hb3, hb4, hb5, hb6, hb8, hb10, hb11]) <;> rfl, H12.fr⟩
              ·
                have hc11 := of_decide_eq_false hb11
                refine WL.no rfl rfl rfl hb11 rfl ?_
                refine WL.no rfl rfl rfl hb11 rfl ?_
                refine WL.no rfl rfl rfl hb11 rfl ?_
                refine WL.no rfl rfl rfl hb11 rfl ?_
                refine WL.no rfl rfl rfl hb11 rfl ?_
                refine WL.op rfl rfl (op_pickF rfl hb11 rfl ?_)
                refine WL.op rfl rfl (op_assign rfl ?_)
                refine WL.nil ?_
                refine WQ.next ?_
                refine WC.ret ?_
                refine WQ.out (.tmp rfl .nil) ?_
                exact ⟨by (rw [sym_cut, symC, hb3, hb4, hb5, hb6, hb8, hb10, hb11]) <;> rfl, H9.fr⟩
            ·
              refine WL.no rfl rfl rfl hb10 rfl ?_
              refine WL.no rfl rfl rfl hb10 rfl ?_
              refine WL.no rfl rfl rfl hb10 rfl ?_
              refine WL.no rfl rfl rfl hb10 rfl ?_
              refine WL.no rfl rfl rfl hb10 rfl ?_
              refine WL.op rfl rfl (op_pickF rfl hb10 rfl ?_)
              refine WL.op rfl rfl (op_move rfl ?_)
              refine WL.no rfl rfl rfl rfl rfl ?_
              refine WL.no rfl rfl rfl rfl rfl ?_
              refine WL.no rfl rfl rfl rfl rfl ?_
              refine WL.no rfl rfl rfl rfl rfl ?_
              refine WL.no rfl rfl rfl rfl rfl ?_
              refine WL.op rfl rfl (op_pickF rfl rfl rfl ?_)
              refine WL.op rfl rfl (op_assign rfl ?_)
              refine WL.nil ?_
              refine WQ.next ?_
              refine WC.ret ?_
              refine WQ.out (.tmp rfl .nil) ?_
              exact ⟨by (rw [sym_cut, symC, hb3, hb4, hb5, hb6, hb8, hb10]) <;> rfl, H9.fr⟩
          ·
            refine WL.no rfl rfl rfl hb8 rfl ?_
            refine WL.no rfl rfl rfl hb8 rfl ?_
            refine WL.op rfl rfl (op_pickF rfl hb8 rfl ?_)
            refine WL.op rfl rfl (op_move rfl ?_)
            refine WL.no rfl rfl rfl rfl rfl ?_
            refine WL.no rfl rfl rfl rfl rfl ?_
            refine WL.no rfl rfl rfl rfl rfl ?_
            refine WL.no rfl rfl rfl rfl rfl ?_
            refine WL.no rfl rfl rfl rfl rfl ?_
            refine WL.op rfl rfl (op_pickF rfl rfl rfl ?_)
            refine WL.op rfl rfl (op_move rfl ?_)
            refine WL.no rfl rfl rfl rfl rfl ?_
            refine WL.no rfl rfl rfl rfl rfl ?_
            refine WL.no rfl rfl rfl rfl rfl ?_
            refine WL.no rfl rfl rfl rfl rfl ?_
            refine WL.no rfl rfl rfl rfl rfl ?_
            refine WL.op rfl rfl (op_pickF rfl rfl rfl ?_)
            refine WL.op rfl rfl (op_assign rfl ?_)
            refine WL.nil ?_
            refine WQ.next ?_
            refine WC.ret ?_
            refine WQ.out (.tmp rfl .nil) ?_
            exact ⟨by (rw [sym_cut, symC, hb3, hb4, hb5, hb6, hb8]) <;> rfl, H7.fr⟩
        ·
          have hc6 := of_decide_eq_false hb6
          refine WL.no rfl rfl rfl hb6 rfl ?_
          refine WL.no rfl rfl rfl hb6 rfl ?_
          refine WL.op rfl rfl (op_pickF rfl hb6 rfl ?_)
          refine WL.op rfl rfl (op_move rfl ?_)
          refine WL.no rfl rfl rfl rfl rfl ?_
          refine WL.no rfl rfl rfl rfl rfl ?_
          refine WL.op rfl rfl (op_pickF rfl rfl rfl ?_)
          refine WL.op rfl rfl (op_move rfl ?_)
          refine WL.no rfl rfl rfl rfl rfl ?_
          refine WL.no rfl rfl rfl rfl rfl ?_
          refine WL.no rfl rfl rfl rfl rfl ?_
          refine WL.no rfl rfl rfl rfl rfl ?_
          refine WL.no rfl rfl rfl rfl rfl ?_
          refine WL.op rfl rfl (op_pickF rfl rfl rfl ?_)
          refine WL.op rfl rfl (op_move rfl ?_)
          refine WL.no rfl rfl rfl rfl rfl ?_
          refine WL.no rfl rfl rfl rfl rfl ?_
          refine WL.no rfl rfl rfl rfl rfl ?_
          refine WL.no rfl rfl rfl rfl rfl ?_
          refine WL.no rfl rfl rfl rfl rfl ?_
          refine WL.op rfl rfl (op_pickF rfl rfl rfl ?_)
          refine WL.op rfl rfl (op_assign rfl ?_)
          refine WL.nil ?_
          refine WQ.next ?_
          refine WC.ret ?_
          refine WQ.out (.tmp rfl .nil) ?_
          exact ⟨by (rw [sym_cut, symC, hb3, hb4, hb5, hb6]) <;> rfl, H2.fr⟩
      ·
        have hc5 := of_decide_eq_false hb5
        refine WL.no rfl rfl rfl hb5 rfl ?_
        refine WL.no rfl rfl rfl hb5 rfl ?_
        refine WL.no rfl rfl rfl hb5 rfl ?_
        refine WL.no rfl rfl rfl hb5 rfl ?_
        refine WL.op rfl rfl (op_pickF rfl hb5 rfl ?_)
        refine WL.op rfl rfl (op_move rfl ?_)
        refine WL.no rfl rfl rfl rfl rfl ?_
        refine WL.no rfl rfl rfl rfl rfl ?_
        refine WL.op rfl rfl (op_pickF rfl rfl rfl ?_)
        refine WL.op rfl rfl (op_move rfl ?_)
        refine WL.no rfl rfl rfl rfl rfl ?_
        refine WL.no rfl rfl rfl rfl rfl ?_
        refine WL.op rfl rfl (op_pickF rfl rfl rfl ?_)
        refine WL.op rfl rfl (op_move rfl ?_)
        refine WL.no rfl rfl rfl rfl rfl ?_
        refine WL.no rfl rfl rfl rfl rfl ?_
        refine WL.no rfl rfl rfl rfl rfl ?_
        refine WL.no rfl rfl rfl rfl rfl ?_
        refine WL.no rfl rfl rfl rfl rfl ?_
        refine WL.op rfl rfl (op_pickF rfl rfl rfl ?_)
        refine WL.op rfl rfl (op_move rfl ?_)
        refine WL.no rfl rfl rfl rfl rfl ?_
        refine WL.no rfl rfl rfl rfl rfl ?_
        refine WL.no rfl rfl rfl rfl rfl ?_
        refine WL.no rfl rfl rfl rfl rfl ?_
        refine WL.no rfl rfl rfl rfl rfl ?_
        refine WL.op rfl rfl (op_pickF rfl rfl rfl ?_)
        refine WL.op rfl rfl (op_assign rfl ?_)
        refine WL.nil ?_
        refine WQ.next ?_
        refine WC.ret ?_
        refine WQ.out (.tmp rfl .nil) ?_
        exact ⟨by (rw [sym_cut, symC, hb3, hb4, hb5]) <;> rfl, H2.fr⟩
    ·
      have hc4 := of_decide_eq_false hb4
      refine WL.no rfl rfl rfl hb4 rfl ?_
      refine WL.no rfl rfl rfl hb4 rfl ?_
      refine WL.no rfl rfl rfl hb4 rfl ?_
      refine WL.no rfl rfl rfl hb4 rfl ?_
      refine WL.op rfl rfl (op_pickF rfl hb4 rfl ?_)
      refine WL.op rfl rfl (op_move rfl ?_)
      refine WL.no rfl rfl rfl rfl rfl ?_
      refine WL.no rfl rfl rfl rfl rfl ?_
      refine WL.no rfl rfl rfl rfl rfl ?_
      refine WL.no rfl rfl rfl rfl rfl ?_
      refine WL.op rfl rfl (op_pickF rfl rfl rfl ?_)
      refine WL.op rfl rfl (op_move rfl ?_)
      refine WL.no rfl rfl rfl rfl rfl ?_
      refine WL.no rfl rfl rfl rfl rfl ?_
      refine WL.op rfl rfl (op_pickF rfl rfl rfl ?_)
      refine WL.op rfl rfl (op_move rfl ?_)
      refine WL.no rfl rfl rfl rfl rfl ?_
      refine WL.no rfl rfl rfl rfl rfl ?_
      refine WL.op rfl rfl (op_pickF rfl rfl rfl ?_)
      refine WL.op rfl rfl (op_move rfl ?_)
      refine WL.no rfl rfl rfl rfl rfl ?_
      refine WL.no rfl rfl rfl rfl rfl ?_
      refine WL.no rfl rfl rfl rfl rfl ?_
      refine WL.no rfl rfl rfl rfl rfl ?_
      refine WL.no rfl rfl rfl rfl rfl ?_
      refine WL.op rfl rfl (op_pickF rfl rfl rfl ?_)
      refine WL.op rfl rfl (op_move rfl ?_)
      refine WL.no rfl rfl rfl rfl rfl ?_
      refine WL.no rfl rfl rfl rfl rfl ?_
      refine WL.no rfl rfl rfl rfl rfl ?_
      refine WL.no rfl rfl rfl rfl rfl ?_
      refine WL.no rfl rfl rfl rfl rfl ?_
      refine WL.op rfl rfl (op_pickF rfl rfl rfl ?_)
      refine WL.op rfl rfl (op_assign rfl ?_)
      refine WL.nil ?_
      refine WQ.next ?_
      refine WC.ret ?_
      refine WQ.out (.tmp rfl .nil) ?_
      exact ⟨by (rw [sym_cut, symC, hb3, hb4]) <;> rfl, H2.fr⟩
  ·
    refine WL.no rfl rfl rfl hb3 rfl ?_
    refine WL.no rfl rfl rfl hb3 rfl ?_
    refine WL.no rfl rfl rfl hb3 rfl ?_
    refine WL.no rfl rfl rfl hb3 rfl ?_
    refine WL.op rfl rfl (op_pickF rfl hb3 rfl ?_)
    refine WL.op rfl rfl (op_move rfl ?_)
    refine WL.no rfl rfl rfl rfl rfl ?_
    refine WL.no rfl rfl rfl rfl rfl ?_
    refine WL.no rfl rfl rfl rfl rfl ?_
    refine WL.no rfl rfl rfl rfl rfl ?_
    refine WL.op rfl rfl (op_pickF rfl rfl rfl ?_)
    refine WL.op rfl rfl (op_move rfl ?_)
    refine WL.no rfl rfl rfl rfl rfl ?_
    refine WL.no rfl rfl rfl rfl rfl ?_
    refine WL.no rfl rfl rfl rfl rfl ?_
    refine WL.no rfl rfl rfl rfl rfl ?_
    refine WL.op rfl rfl (op_pickF rfl rfl rfl ?_)
    refine WL.op rfl rfl (op_move rfl ?_)
    refine WL.no rfl rfl rfl rfl rfl ?_
    refine WL.no rfl rfl rfl rfl rfl ?_
    refine WL.op rfl rfl (op_pickF rfl rfl rfl ?_)
    refine WL.op rfl rfl (op_move rfl ?_)
    refine WL.no rfl rfl rfl rfl rfl ?_
    refine WL.no rfl rfl rfl rfl rfl ?_
    refine WL.op rfl rfl (op_pickF rfl rfl rfl ?_)
    refine WL.op rfl rfl (op_move rfl ?_)
    refine WL.no rfl rfl rfl rfl rfl ?_
    refine WL.no rfl rfl rfl rfl rfl ?_
    refine WL.no rfl rfl rfl rfl rfl ?_
    refine WL.no rfl rfl rfl rfl rfl ?_
    refine WL.no rfl rfl rfl rfl rfl ?_
    refine WL.op rfl rfl (op_pickF rfl rfl rfl ?_)
    refine WL.op rfl rfl (op_move rfl ?_)
    refine WL.no rfl rfl rfl rfl rfl ?_
    refine WL.no rfl rfl rfl rfl rfl ?_
    refine WL.no rfl rfl rfl rfl rfl ?_
    refine WL.no rfl rfl rfl rfl rfl ?_
    refine WL.no rfl rfl rfl rfl rfl ?_
    refine WL.op rfl rfl (op_pickF rfl rfl rfl ?_)
    refine WL.op rfl rfl (op_assign rfl ?_)
    refine WL.nil ?_
    refine WQ.next ?_
    refine WC.ret ?_
    refine WQ.out (.tmp rfl .nil) ?_
    exact ⟨by (rw [sym_cut, symC, hb3]) <;> rfl, H2.fr⟩
set_option maxRecDepth 100000 in
theorem omayoA_ok (nm : List UInt8) (lv : Value) (l : List Sy) (w : World) (hA : Arr w lv 7 l.length (List.flatMap syc l)) (hI : SyD.list.ok w l) (hF : ∀ x ∈ l, FitA x) (hn : l.length < 2 ^ 46) (hnm : nm.length < 2 ^ 47) :
    Calls Tryd.prog 64 #[(.agg #[(str nm), lv])] w (fun e w' => e = .returned (.bool (mayOb nm (l.map Sy.cut))) ∧ Fr [] w w') := by
  refine enter (args := [(.agg #[(str nm), lv])]) Tryd.func64 rfl rfl ?_
  have H0 : Own [] w w [] := Own.start w []
  refine WC.seq ?_
  refine WC.region ?_
  refine WL.op rfl rfl (op_box H0 rfl rfl (fun b1 w1 H1 => ?_))
  refine WL.op rfl rfl (op_assign rfl ?_)
  refine WL.nil ?_
  refine WQ.next ?_
  refine WC.seq ?_
  refine WC.region ?_
  refine WL.op rfl rfl (op_makeMap H1 vN (fun b2 w2 H2 => ?_))
  refine WL.op rfl rfl (op_assign rfl ?_)
  refine WL.nil ?_
  refine WQ.next ?_
  refine WC.seq ?_
  refine WC.seq ?_
  refine WC.region ?_
  refine WL.op rfl rfl (op_fieldAddr rfl Fa.F115_0 ?_)
  refine WL.op rfl rfl (op_fieldAddr rfl Fa.F32_1 ?_)
  refine WL.op rfl rfl (op_load rfl (H2.cell (i := 0) rfl rfl) Tryd.underlying30 rfl ?_)
  refine WL.op rfl rfl (op_lenA Tryd.underlying30 rfl (H2.arr hA) ?_)
  refine WL.op rfl rfl (op_move rfl ?_)
  refine WL.nil ?_
  refine WQ.next ?_
  refine WC.block ?_
  refine WC.loop (α := Nat × List (List UInt8 × Nat)) (fun (k, m) => [(1, (ptr b1 0)), (2, (.bool false)), (3, (.map (some b2))), (9, lv), (10, (vN l.length)), (11, (vN k))]) (fun (k, m) w' => (k ≤ l.length ∧ MI m l k ∧ Dst l k ∧ (∀ j, j < k → symB (l.getD j Sy.zero).cut = true)) ∧ Own [] w w' [.blk b1 [(str nm), lv] 115, .obj b2 (mO vN m)]) (fun (k, m) => l.length - k) (0, []) ⟨⟨Nat.zero_le _, MI.nil, fun i j h1 h2 => by omega, fun j h => by omega⟩, H2⟩ ⟨rfl, rfl, rfl, rfl, rfl, rfl, trivial⟩ ?_
  rintro ⟨k, m⟩ w3 ⟨⟨hk1, hmi, hds, hok⟩, H3⟩
  show WC _ _ _ _ _ [(1, (ptr b1 0)), (2, (.bool false)), (3, (.map (some b2))), (9, lv), (10, (vN l.length)), (11, (vN k))] _
  refine WC.seq ?_
  refine WC.region ?_
  refine WL.op rfl rfl (op_lssN rfl rfl ?_)
  refine WL.nil ?_
  refine WQ.next ?_
  refine WC.seq ?_
  refine WC.cond rfl (fun (hb4 : (decide (k < l.length)) = true) => ?_) (fun (hb4 : (decide (k < l.length)) = false) => ?_)
  ·
    have hc4 := of_decide_eq_true hb4
    have hf := fitA_getD hF k
    obtain ⟨hf1, hf2, hf3, hf4, hf5⟩ := hf
    refine WC.skip ?_
    refine WQ.next ?_
    refine WC.seq ?_
    refine WC.block ?_
    refine WC.seq ?_
    refine WC.region ?_
    refine WL.op rfl rfl (op_indexAddr Tryd.underlying30 Fa.I26 rfl (H3.arr hA) rfl (by omega) ?_)
    refine WL.op rfl rfl (op_loadSP (vs := syc (l.getD k Sy.zero)) rfl (Arr.atsF (H3.arr hA) (fun _ => rfl) (by decide) Sy.zero (by omega)) Tryd.underlying26 rfl Fa.I26 rfl ?_)
    refine WL.op rfl rfl (op_alloc H3 Fa.I26 (fun b5 w5 H5 => ?_))
    refine WL.op rfl rfl (op_storeBW (i := 2) H5 rfl rfl rfl rfl (one_cons rfl (one_cons rfl (one_cons rfl (one_cons rfl (one_cons rfl (one_cons (Arr.one ((SyD_rl (Deep.getD SyD (Deep.fr0 SyD.list hI H5.fr) Sy.zero (SyD_zero _) k)))) (one_cons (Arr.one ((SyD_nt (Deep.getD SyD (Deep.fr0 SyD.list hI H5.fr) Sy.zero (SyD_zero _) k)))) one_nil))))))) Fa.I26 (fun w6 H6 => ?_))
    refine WL.nil ?_
    refine WQ.next ?_
    refine WC.seq ?_
    refine WC.seq ?_
    refine WC.region ?_
    refine WL.op rfl rfl (op_move rfl ?_)
    refine WL.op rfl rfl (op_fieldAddr rfl Fa.F26_0 ?_)
    refine WL.op rfl rfl (op_load rfl (H6.cell (i := 2) rfl rfl) Tryd.underlying9 rfl ?_)
    refine WL.op rfl rfl (op_lookupG1 (i := 1) (c := 0) H6 rfl Tryd.underlying133 Tryd.underlying9 Fa.Z3 rfl rfl ?_)
    refine WL.op rfl rfl (op_gtrN (b := 0) rfl rfl ?_)
    refine WL.op rfl rfl (op_move rfl ?_)
    refine WL.split (t := 20) rfl (fun (hb7 : (decide (((mget (l.getD k Sy.zero).nm m).getD 0) > 0)) = true) => ?_) (fun (hb7 : (decide (((mget (l.getD k Sy.zero).nm m).getD 0) > 0)) = false) => ?_)
    ·
      have hc7 := of_decide_eq_true hb7
      refine WL.no rfl rfl rfl hb7 rfl ?_
      refine WL.no rfl rfl rfl hb7 rfl ?_
      refine WL.no rfl rfl rfl hb7 rfl ?_
      refine WL.no rfl rfl rfl hb7 rfl ?_
      refine WL.op rfl rfl (op_pickT rfl hb7 rfl ?_)
      refine WL.nil ?_
      refine WQ.next ?_
      refine WC.yes rfl rfl ?_
      refine WC.seq ?_
      refine WC.region ?_
      refine WL.op rfl rfl (op_assign rfl ?_)
      refine WL.nil ?_
      refine WQ.next ?_
      refine WC.ret ?_
      refine WQ.thenRet ?_
      refine WQ.inRet ?_
      refine WQ.thenRet ?_
      refine WQ.thenRet ?_
      refine WQ.inRet ?_
      refine WQ.thenRet ?_
      refine WQ.out (.tmp rfl .nil) ?_
      exact ⟨by obtain ⟨j, hj, e⟩ := hmi.dup (of_decide_eq_true hb7); rw [may_dupC (k := k) (by omega) hj e]; rfl, H6.fr⟩
    ·
      have hc7 := of_decide_eq_false hb7
      refine WL.yes rfl rfl rfl hb7 rfl (op_loadS (vs := [_, _, _, _, _, _, _]) rfl (H6.cells (i := 2) rfl rfl) Tryd.underlying26 rfl Fa.I26 rfl ?_)
      refine WL.yes rfl rfl rfl hb7 rfl (op_build (cs := [_, _, _, _, _, _, _]) Fa.I111 Fa.PL111 rfl rfl ?_)
      refine WL.yes rfl rfl rfl hb7 rfl (op_callF Fa.C61 rfl ((omayA_ok (l.getD k Sy.zero) _ (SyD_mk (x := (l.getD k Sy.zero)) ((SyD_rl (Deep.getD SyD (Deep.fr0 SyD.list hI H6.fr) Sy.zero (SyD_zero _) k))) ((SyD_nt (Deep.getD SyD (Deep.fr0 SyD.list hI H6.fr) Sy.zero (SyD_zero _) k)))) hf1 hf3 hf4 hf5).mono (fun e w8 hq => ?_)))
      obtain ⟨rfl, hf8⟩ := hq
      refine ⟨_, rfl, ?_⟩
      have H8 := H6.fr' hf8
      refine WL.yes rfl rfl rfl hb7 rfl (op_not rfl ?_)
      refine WL.op rfl rfl (op_pickF rfl hb7 rfl ?_)
      refine WL.nil ?_
      refine WQ.next ?_
      refine WC.cond rfl (fun (hb9 : (!(symB (l.getD k Sy.zero).cut)) = true) => ?_) (fun (hb9 : (!(symB (l.getD k Sy.zero).cut)) = false) => ?_)
      ·
        have hn9 := (Bool.not_eq_true' _).mp hb9
        refine WC.seq ?_
        refine WC.region ?_
        refine WL.op rfl rfl (op_assign rfl ?_)
        refine WL.nil ?_
        refine WQ.next ?_
        refine WC.ret ?_
        refine WQ.thenRet ?_
        refine WQ.inRet ?_
        refine WQ.thenRet ?_
        refine WQ.thenRet ?_
        refine WQ.inRet ?_
        refine WQ.thenRet ?_
        refine WQ.out (.tmp rfl .nil) ?_
        exact ⟨by rw [may_symC (k := k) (by omega) hn9]; rfl, H8.fr⟩
      ·
        have hn9 := (Bool.not_eq_false' _).mp hb9
        refine WC.skip ?_
        refine WQ.next ?_
        refine WC.region ?_
        refine WL.op rfl rfl (op_move rfl ?_)
        refine WL.op rfl rfl (op_fieldAddr rfl Fa.F26_0 ?_)
        refine WL.op rfl rfl (op_load rfl (H8.cell (i := 2) rfl rfl) Tryd.underlying9 rfl ?_)
        refine WL.op rfl rfl (op_lookupG1 (i := 1) (c := 0) H8 rfl Tryd.underlying133 Tryd.underlying9 Fa.Z3 rfl rfl ?_)
        refine WL.op rfl rfl (op_addN (b := 1) rfl rfl (by omega) ?_)
        refine WL.op rfl rfl (op_mapUpdate (i := 1) (v := (((mget (l.getD k Sy.zero).nm m).getD 0) + 1)) H8 rfl Tryd.underlying133 Tryd.underlying9 rfl rfl rfl (fun w10 H10 => ?_))
        refine WL.nil ?_
        refine WQ.inNormal ?_
        refine WQ.next ?_
        refine WC.region ?_
        refine WL.op rfl rfl (op_addN (b := 1) rfl rfl (by omega) ?_)
        refine WL.op rfl rfl (op_move rfl ?_)
        refine WL.nil ?_
        exact WQ.round (k + 1, (mset (l.getD k Sy.zero).nm (((mget (l.getD k Sy.zero).nm m).getD 0) + 1) m)) ⟨⟨by omega, hmi.add, hmi.dst hds (of_decide_eq_false hb7), allPrev hok hn9⟩, (H10.take 2)⟩ ⟨rfl, rfl, rfl, rfl, rfl, rfl, trivial⟩ (by show l.length - (k + 1) < l.length - k; omega)
  ·
    have hc4 := of_decide_eq_false hb4
    refine WC.exit ?_
    refine WQ.thenExit ?_
    refine WQ.thenExit ?_
    refine WQ.inHere ?_
    refine WQ.next ?_
    refine WC.seq ?_
    refine WC.region ?_
    refine WL.op rfl rfl (op_fieldAddr rfl Fa.F115_0 ?_)
    refine WL.op rfl rfl (op_fieldAddr rfl Fa.F32_0 ?_)
    refine WL.op rfl rfl (op_load rfl (H3.cell (i := 0) rfl rfl) Tryd.underlying9 rfl ?_)
    refine WL.op rfl rfl (op_callF Fa.C80 rfl ((oname_ok nm _ hnm).mono (fun e w11 hq => ?_)))
    obtain ⟨rfl, hf11⟩ := hq
    refine ⟨_, rfl, ?_⟩
    have H11 := H3.fr' hf11
    refine WL.op rfl rfl (op_move rfl ?_)
    refine WL.split (t := 36) rfl (fun (hb12 : (nameB nm) = true) => ?_) (fun (hb12 : (nameB nm) = false) => ?_)
    ·
      refine WL.yes rfl rfl rfl hb12 rfl (op_fieldAddr rfl Fa.F115_0 ?_)
      refine WL.yes rfl rfl rfl hb12 rfl (op_fieldAddr rfl Fa.F32_1 ?_)
      refine WL.yes rfl rfl rfl hb12 rfl (op_load rfl (H11.cell (i := 0) rfl rfl) Tryd.underlying30 rfl ?_)
      refine WL.yes rfl rfl rfl hb12 rfl (op_lenA Tryd.underlying30 rfl (H11.arr hA) ?_)
      refine WL.yes rfl rfl rfl hb12 rfl (op_leqN (b := 64) rfl rfl ?_)
      refine WL.op rfl rfl (op_pickT rfl hb12 rfl ?_)
      refine WL.op rfl rfl (op_assign rfl ?_)
      refine WL.nil ?_
      refine WQ.next ?_
      refine WC.ret ?_
      refine WQ.out (.tmp rfl .nil) ?_
      obtain rfl : k = l.length := by omega
      exact ⟨by (rw [may_endC hok hds, hb12]) <;> rfl, H11.fr⟩
    ·
      refine WL.no rfl rfl rfl hb12 rfl ?_
      refine WL.no rfl rfl rfl hb12 rfl ?_
      refine WL.no rfl rfl rfl hb12 rfl ?_
      refine WL.no rfl rfl rfl hb12 rfl ?_
      refine WL.no rfl rfl rfl hb12 rfl ?_
      refine WL.op rfl rfl (op_pickF rfl hb12 rfl ?_)
      refine WL.op rfl rfl (op_assign rfl ?_)
      refine WL.nil ?_
      refine WQ.next ?_
      refine WC.ret ?_
      refine WQ.out (.tmp rfl .nil) ?_
      obtain rfl : k = l.length := by omega
      exact ⟨by (rw [may_endC hok hds, hb12]) <;> rfl, H11.fr⟩
set_option maxRecDepth 100000 in
theorem ocheckA_ok (nm : List UInt8) (lv : Value) (l : List Sy) (w : World) (hA : Arr w lv 7 l.length (List.flatMap syc l)) (hI : SyD.list.ok w l) (hF : ∀ x ∈ l, FitA x) (hn : l.length < 2 ^ 46) (hnm : nm.length < 2 ^ 47) :
    Calls Tryd.prog 31 #[(.agg #[(str nm), lv])] w (fun e w' => e = .returned (vN (toldN (mayOb nm (l.map Sy.cut)))) ∧ Fr [] w w') := by
  refine enter (args := [(.agg #[(str nm), lv])]) Tryd.func31 rfl rfl ?_
  have H0 : Own [] w w [] := Own.start w []
  refine WC.seq ?_
  refine WC.region ?_
  refine WL.op rfl rfl (op_box H0 rfl rfl (fun b1 w1 H1 => ?_))
  refine WL.op rfl rfl (op_assign rfl ?_)
  refine WL.nil ?_
  refine WQ.next ?_
  refine WC.seq ?_
  refine WC.region ?_
  refine WL.op rfl rfl (op_loadS (vs := [_, _]) rfl (H1.cells (i := 0) rfl rfl) Tryd.underlying32 rfl Fa.I32 rfl ?_)
  refine WL.op rfl rfl (op_build (cs := [_, _]) Fa.I115 Fa.PL115 rfl rfl ?_)
  refine WL.op rfl rfl (op_callF Fa.C64 rfl ((omayoA_ok nm _ l _ (H1.arr hA) (Deep.fr0 SyD.list hI H1.fr) hF hn hnm).mono (fun e w2 hq => ?_)))
  obtain ⟨rfl, hf2⟩ := hq
  refine ⟨_, rfl, ?_⟩
  have H2 := H1.fr' hf2
  refine WL.op rfl rfl (op_callF Fa.C60 rfl ((told_ok (mayOb nm (l.map Sy.cut)) _).mono (fun e w3 hq => ?_)))
  obtain ⟨rfl, hf3⟩ := hq
  refine ⟨_, rfl, ?_⟩
  have H3 := H2.fr' hf3
  refine WL.op rfl rfl (op_assign rfl ?_)
  refine WL.nil ?_
  refine WQ.next ?_
  refine WC.ret ?_
  refine WQ.out (.tmp rfl .nil) ?_
  exact ⟨rfl, H3.fr⟩
set_option maxHeartbeats 2000000 in
set_option maxRecDepth 100000 in
theorem objFinds_ok (nm : List UInt8) (lv : Value) (l : List Sy) (w : World) (hA : Arr w lv 7 l.length (List.flatMap syc l)) (hI : SyD.list.ok w l) (hF : ∀ x ∈ l, FitA x) (hn : l.length < 2 ^ 46) (hnm : nm.length < 2 ^ 47) :
    Calls Tryd.prog 10 #[(.agg #[(str nm), lv])] w (fun e w' => e = .returned (.bool true) ∧ Fr [] w w') := by
  refine enter (args := [(.agg #[(str nm), lv])]) Tryd.func10 rfl rfl ?_
  have H0 : Own [] w w [] := Own.start w []
  refine WC.seq ?_
  refine WC.region ?_
  refine WL.op rfl rfl (op_box H0 rfl rfl (fun b1 w1 H1 => ?_))
  refine WL.op rfl rfl (op_assign rfl ?_)
  refine WL.nil ?_
  refine WQ.next ?_
  refine WC.seq ?_
  refine WC.seq ?_
  refine WC.region ?_
  refine WL.op rfl rfl (op_loadS (vs := [_, _]) rfl (H1.cells (i := 0) rfl rfl) Tryd.underlying32 rfl Fa.I32 rfl ?_)
  refine WL.op rfl rfl (op_buildSlice (cs := [_, _]) H1 Tryd.underlying78 Fa.I32 rfl rfl rfl rfl (by decide) (by decide) (fun b2 w2 H2 => ?_))
  refine WL.op rfl rfl (op_callF Fa.C29 rfl ((lg08_ok _ [(Ob.mk nm lv l)] _ (H2.arrR (i := 1) rfl) (ObD.list_one (ObD_mk (o := (Ob.mk nm lv l)) (H2.arr hA) (Deep.fr0 SyD.list hI H2.fr))) (fitA_O (by omega) hF) (by show 1 ≤ 1; decide)).mono (fun e w3 hq => ?_)))
  obtain ⟨rfl, hf3⟩ := hq
  refine ⟨_, rfl, ?_⟩
  have H3 := H2.fr' hf3
  refine WL.op rfl rfl (op_move rfl ?_)
  refine WL.split (t := 15) rfl (fun (hb4 : (lg08 [(Ob.mk nm lv l)]) = true) => ?_) (fun (hb4 : (lg08 [(Ob.mk nm lv l)]) = false) => ?_)
  ·
    refine WL.no rfl rfl rfl hb4 rfl ?_
    refine WL.no rfl rfl rfl hb4 rfl ?_
    refine WL.no rfl rfl rfl hb4 rfl ?_
    refine WL.op rfl rfl (op_pickT rfl hb4 rfl ?_)
    refine WL.nil ?_
    refine WQ.next ?_
    refine WC.yes rfl rfl ?_
    refine WC.seq ?_
    refine WC.region ?_
    refine WL.op rfl rfl (op_callF Fa.C30 rfl ((alive08_ok _).mono (fun e w5 hq => ?_)))
    obtain ⟨rfl, hf5⟩ := hq
    refine ⟨_, rfl, ?_⟩
    have H5 := H3.fr' hf5
    refine WL.op rfl rfl (op_assign rfl ?_)
    refine WL.nil ?_
    refine WQ.next ?_
    refine WC.ret ?_
    refine WQ.thenRet ?_
    refine WQ.out (.tmp rfl .nil) ?_
    exact ⟨rfl, H5.fr⟩
  ·
    refine WL.yes rfl rfl rfl hb4 rfl (op_loadS (vs := [_, _]) rfl (H3.cells (i := 0) rfl rfl) Tryd.underlying32 rfl Fa.I32 rfl ?_)
    refine WL.yes rfl rfl rfl hb4 rfl (op_callF Fa.C31 rfl ((ocheckA_ok nm _ l _ (H3.arr hA) (Deep.fr0 SyD.list hI H3.fr) hF hn hnm).mono (fun e w6 hq => ?_)))
    obtain ⟨rfl, hf6⟩ := hq
    refine ⟨_, rfl, ?_⟩
    have H6 := H3.fr' hf6
    refine WL.yes rfl rfl rfl hb4 rfl (op_neqN (b := 0) rfl rfl ?_)
    refine WL.op rfl rfl (op_pickF rfl hb4 rfl ?_)
    refine WL.nil ?_
    refine WQ.next ?_
    refine WC.cond rfl (fun (hb7 : (decide ((toldN (mayOb nm (l.map Sy.cut))) ≠ 0)) = true) => ?_) (fun (hb7 : (decide ((toldN (mayOb nm (l.map Sy.cut))) ≠ 0)) = false) => ?_)
    ·
      have hc7 := of_decide_eq_true hb7
      refine WC.seq ?_
      refine WC.region ?_
      refine WL.op rfl rfl (op_callF Fa.C30 rfl ((alive08_ok _).mono (fun e w8 hq => ?_)))
      obtain ⟨rfl, hf8⟩ := hq
      refine ⟨_, rfl, ?_⟩
      have H8 := H6.fr' hf8
      refine WL.op rfl rfl (op_assign rfl ?_)
      refine WL.nil ?_
      refine WQ.next ?_
      refine WC.ret ?_
      refine WQ.thenRet ?_
      refine WQ.out (.tmp rfl .nil) ?_
      exact ⟨rfl, H8.fr⟩
    ·
      have hc7 := of_decide_eq_false hb7
      have hff := finds_fit hb4 (told_yes hb7) hF
      obtain ⟨hH, hmay, h64⟩ := hff
      have hsm := fun i => lg_each (k := i) hb4 h64
      refine WC.skip ?_
      refine WQ.next ?_
      refine WC.seq ?_
      refine WC.region ?_
      refine WL.op rfl rfl (op_loadS (vs := [_, _]) rfl (H6.cells (i := 0) rfl rfl) Tryd.underlying32 rfl Fa.I32 rfl ?_)
      refine WL.op rfl rfl (op_buildSlice (cs := [_, _]) H6 Tryd.underlying78 Fa.I32 rfl rfl rfl rfl (by decide) (by decide) (fun b9 w9 H9 => ?_))
      refine WL.op rfl rfl (op_callF Fa.C39 rfl ((onames_ok _ [(Ob.mk nm lv l)] _ (H9.arrR (i := 2) rfl) (ObL_cons (ObD_mk (o := (Ob.mk nm lv l)) (H9.arr hA) (Deep.fr0 SyD.list hI H9.fr)) (Deep.list_nil ObD)) (fitOb_one hnm hn hH) (by show 1 ≤ 20; decide)).mono (fun e w10 hq => ?_)))
      obtain ⟨v10, rfl, hq10⟩ := hq
      refine ⟨_, rfl, ?_⟩
      have H10 : Own [] w w10 [.blk b1 [(str nm), lv] 32, .row (.slice (some ⟨b2, 0, none⟩) 1 1) 32 2 1 (List.flatMap obc [(Ob.mk nm lv l)]), .row (.slice (some ⟨b9, 0, none⟩) 1 1) 32 2 1 (List.flatMap obc [(Ob.mk nm lv l)]), .row v10 9 1 (resN [(Ob.mk nm lv l)]).length (List.map str (resN [(Ob.mk nm lv l)]))] := H9.splice [] [] [.row v10 9 1 (resN [(Ob.mk nm lv l)]).length (List.map str (resN [(Ob.mk nm lv l)]))] rfl rfl hq10 (Fits.solid True.intro Fits.nil)
      refine WL.op rfl rfl (op_assign rfl ?_)
      refine WL.nil ?_
      refine WQ.next ?_
      refine WC.seq ?_
      refine WC.seq ?_
      refine WC.region ?_
      refine WL.op rfl rfl (op_move rfl ?_)
      refine WL.op rfl rfl (op_lenA Tryd.underlying80 rfl (H10.arrR (i := 3) rfl) ?_)
      refine WL.op rfl rfl (op_fieldAddr rfl Fa.F32_1 ?_)
      refine WL.op rfl rfl (op_load rfl (H10.cell (i := 0) rfl rfl) Tryd.underlying30 rfl ?_)
      refine WL.op rfl rfl (op_lenA Tryd.underlying30 rfl (H10.arr hA) ?_)
      refine WL.op rfl rfl (op_neqN rfl rfl ?_)
      refine WL.nil ?_
      refine WQ.next ?_
      refine WC.no rfl (decide_eq_false (fun h => h (names_len (o := Ob.mk nm lv l) hmay))) ?_
      refine WC.skip ?_
      refine WQ.next ?_
      refine WC.seq ?_
      refine WC.seq ?_
      refine WC.region ?_
      refine WL.op rfl rfl (op_assign rfl ?_)
      refine WL.nil ?_
      refine WQ.next ?_
      refine WC.block ?_
      refine WC.loop (α := Nat) (fun i => [(1, (ptr b1 0)), (2, (.bool false)), (3, v10), (4, (vN i))]) (fun i w' => (i ≤ l.length) ∧ Own [] w w' [.blk b1 [(str nm), lv] 32, .row (.slice (some ⟨b2, 0, none⟩) 1 1) 32 2 1 (List.flatMap obc [(Ob.mk nm lv l)]), .row (.slice (some ⟨b9, 0, none⟩) 1 1) 32 2 1 (List.flatMap obc [(Ob.mk nm lv l)]), .row v10 9 1 (resN [(Ob.mk nm lv l)]).length (List.map str (resN [(Ob.mk nm lv l)]))]) (fun i => l.length - i) 0 ⟨(Nat.zero_le _), H10⟩ ⟨rfl, rfl, rfl, rfl, trivial⟩ ?_
      rintro i w11 ⟨hi1, H11⟩
      show WC _ _ _ _ _ [(1, (ptr b1 0)), (2, (.bool false)), (3, v10), (4, (vN i))] _
      refine WC.seq ?_
      refine WC.seq ?_
      refine WC.region ?_
      refine WL.op rfl rfl (op_move rfl ?_)
      refine WL.op rfl rfl (op_fieldAddr rfl Fa.F32_1 ?_)
      refine WL.op rfl rfl (op_load rfl (H11.cell (i := 0) rfl rfl) Tryd.underlying30 rfl ?_)
      refine WL.op rfl rfl (op_lenA Tryd.underlying30 rfl (H11.arr hA) ?_)
      refine WL.op rfl rfl (op_lssN rfl rfl ?_)
      refine WL.nil ?_
      refine WQ.next ?_
      refine WC.cond rfl (fun (hb12 : (decide (i < l.length)) = true) => ?_) (fun (hb12 : (decide (i < l.length)) = false) => ?_)
      ·
        have hc12 := of_decide_eq_true hb12
        have hl18 := hsm i (by omega)
        refine WC.skip ?_
        refine WQ.next ?_
        refine WC.seq ?_
        refine WC.block ?_
        refine WC.seq ?_
        refine WC.draw 13 Fa.M H11 (HW.op rfl (fun w1 H1 => op_loadS (vs := [_, _]) rfl (H1.cells (i := 0) rfl rfl) Tryd.underlying32 rfl Fa.I32 rfl ⟨rfl, Fr.refl _ _⟩) (HW.op rfl (fun w1 H1 => op_fieldAddr rfl Fa.F32_1 ⟨rfl, Fr.refl _ _⟩) (HW.op rfl (fun w1 H1 => op_load rfl (H1.cell (i := 0) rfl rfl) Tryd.underlying30 rfl ⟨rfl, Fr.refl _ _⟩) (HW.op rfl (fun w1 H1 => op_move rfl ⟨rfl, Fr.refl _ _⟩) (HW.op rfl (fun w1 H1 => op_indexAddr Tryd.underlying30 Fa.I26 rfl (H1.arr hA) rfl (by omega) ⟨rfl, Fr.refl _ _⟩) (HW.op rfl (fun w1 H1 => op_fieldAddrS rfl Fa.F26_0 ⟨rfl, Fr.refl _ _⟩) (HW.op rfl (fun w1 H1 => op_load rfl (Arr.atF (k := 0) (H1.arr hA) (fun _ => rfl) (by decide) Sy.zero (by omega) rfl) Tryd.underlying9 rfl ⟨rfl, Fr.refl _ _⟩) (HW.op rfl (fun w1 H1 => op_callF Fa.C35 rfl ((ofind_ok nm _ l ((l.getD i Sy.zero).nm) _ (H1.arr hA) (Deep.fr0 SyD.list hI H1.fr) hH hn hnm).mono (fun e w2 hq => ⟨_, hq.1, rfl, hq.2⟩))) (HW.op rfl (fun w1 H1 => op_move rfl ⟨rfl, Fr.refl _ _⟩) (HW.op rfl (fun w1 H1 => op_extract rfl rfl ⟨rfl, Fr.refl _ _⟩) (HW.op rfl (fun w1 H1 => op_extract rfl rfl ⟨rfl, Fr.refl _ _⟩) (HW.op rfl (fun w1 H1 => op_assign rfl ⟨rfl, Fr.refl _ _⟩) (HW.op rfl (fun w1 H1 => op_assign rfl ⟨rfl, Fr.refl _ _⟩)  HW.nil))))))))))))) (by kernel_rfl) ?_
        intro β14 w14 H14
        refine WL.nil ?_
        refine WQ.next ?_
        refine WC.seq ?_
        refine WC.seq ?_
        refine WC.region ?_
        refine WL.op rfl rfl (op_move rfl ?_)
        refine WL.op rfl rfl (op_not rfl ?_)
        refine WL.op rfl rfl (op_move rfl ?_)
        refine WL.yes rfl rfl rfl (by rw [(find_own hmay (show i < l.length by omega)).2]; rfl) rfl (op_move rfl ?_)
        refine WL.yes rfl rfl rfl (by rw [(find_own hmay (show i < l.length by omega)).2]; rfl) rfl (op_move rfl ?_)
        refine WL.yes rfl rfl rfl (by rw [(find_own hmay (show i < l.length by omega)).2]; rfl) rfl (op_neqN rfl rfl ?_)
        refine WL.op rfl rfl (op_pickF rfl (by rw [(find_own hmay (show i < l.length by omega)).2]; rfl) rfl ?_)
        refine WL.nil ?_
        refine WQ.next ?_
        refine WC.no rfl (decide_eq_false (fun h => h (find_own hmay (show i < l.length by omega)).1)) ?_
        refine WC.skip ?_
        refine WQ.next ?_
        refine WC.seq ?_
        refine WC.region ?_
        refine WL.op rfl rfl (op_fieldAddr rfl Fa.F32_1 ?_)
        refine WL.op rfl rfl (op_load rfl (H14.cell (i := 0) rfl rfl) Tryd.underlying30 rfl ?_)
        refine WL.op rfl rfl (op_move rfl ?_)
        refine WL.op rfl rfl (op_indexAddr Tryd.underlying30 Fa.I26 rfl (H14.arr hA) rfl (by omega) ?_)
        refine WL.op rfl rfl (op_fieldAddrS rfl Fa.F26_4 ?_)
        refine WL.op rfl rfl (op_load rfl (Arr.atF (k := 4) (H14.arr hA) (fun _ => rfl) (by decide) Sy.zero (by omega) rfl) Tryd.underlying9 rfl ?_)
        refine WL.op rfl rfl (op_lenStr Tryd.underlying9 rfl ?_)
        refine WL.op rfl rfl (op_makeSliceM (f := Value.bool) (c := false) H14 Tryd.underlying45 Fa.I4 rfl rfl (by omega) (by omega) (fun b15 w15 H15 => ?_))
        refine WL.op rfl rfl (op_assign rfl ?_)
        refine WL.nil ?_
        refine WQ.next ?_
        refine WC.seq ?_
        refine WC.region ?_
        refine WL.op rfl rfl (op_assign rfl ?_)
        refine WL.nil ?_
        refine WQ.next ?_
        refine WC.block ?_
        refine WC.loop (α := Nat × List Bool) (fun (k, bm) => [(1, (ptr b1 0)), (2, (.bool false)), (3, v10), (4, (vN i)), (7, (.slice (some ⟨b15, 0, none⟩) (l.getD i Sy.zero).b.length (l.getD i Sy.zero).b.length)), (8, (vN k))]) (fun (k, bm) w' => (k ≤ (l.getD i Sy.zero).rl.length ∧ bm.length = (l.getD i Sy.zero).b.length ∧ (∀ p, endAt (l.getD i Sy.zero).rl k ≤ p → bm.getD p false = false)) ∧ Own [] w w' [.blk b1 [(str nm), lv] 32, .row (.slice (some ⟨b2, 0, none⟩) 1 1) 32 2 1 (List.flatMap obc [(Ob.mk nm lv l)]), .row (.slice (some ⟨b9, 0, none⟩) 1 1) 32 2 1 (List.flatMap obc [(Ob.mk nm lv l)]), .row v10 9 1 (resN [(Ob.mk nm lv l)]).length (List.map str (resN [(Ob.mk nm lv l)])), .row (.slice (some ⟨b15, 0, none⟩) (l.getD i Sy.zero).b.length (l.getD i Sy.zero).b.length) 4 1 (l.getD i Sy.zero).b.length (List.map Value.bool bm)]) (fun (k, bm) => (l.getD i Sy.zero).rl.length - k) (0, List.replicate (l.getD i Sy.zero).b.length false) ⟨⟨Nat.zero_le _, List.length_replicate, fun p _ => rep_false⟩, H15⟩ ⟨rfl, rfl, rfl, rfl, rfl, rfl, trivial⟩ ?_
        rintro ⟨k, bm⟩ w16 ⟨⟨hk1, hml, hz⟩, H16⟩
        show WC _ _ _ _ _ [(1, (ptr b1 0)), (2, (.bool false)), (3, v10), (4, (vN i)), (7, (.slice (some ⟨b15, 0, none⟩) (l.getD i Sy.zero).b.length (l.getD i Sy.zero).b.length)), (8, (vN k))] _
        refine WC.seq ?_
        refine WC.seq ?_
        refine WC.region ?_
        refine WL.op rfl rfl (op_move rfl ?_)
        refine WL.op rfl rfl (op_fieldAddr rfl Fa.F32_1 ?_)
        refine WL.op rfl rfl (op_load rfl (H16.cell (i := 0) rfl rfl) Tryd.underlying30 rfl ?_)
        refine WL.op rfl rfl (op_move rfl ?_)
        refine WL.op rfl rfl (op_indexAddr Tryd.underlying30 Fa.I26 rfl (H16.arr hA) rfl (by omega) ?_)
        refine WL.op rfl rfl (op_fieldAddrS rfl Fa.F26_5 ?_)
        refine WL.op rfl rfl (op_load rfl (Arr.atF (k := 5) (H16.arr hA) (fun _ => rfl) (by decide) Sy.zero (by omega) rfl) Tryd.underlying23 rfl ?_)
        refine WL.op rfl rfl (op_lenA Tryd.underlying23 rfl ((SyD_rl (Deep.getD SyD (Deep.fr0 SyD.list hI H16.fr) Sy.zero (SyD_zero _) i))) ?_)
        refine WL.op rfl rfl (op_lssN rfl rfl ?_)
        refine WL.nil ?_
        refine WQ.next ?_
        refine WC.cond rfl (fun (hb17 : (decide (k < (l.getD i Sy.zero).rl.length)) = true) => ?_) (fun (hb17 : (decide (k < (l.getD i Sy.zero).rl.length)) = false) => ?_)
        ·
          have hc17 := of_decide_eq_true hb17
          have hpl := may_place hmay (show i < l.length by omega) (show k < (l.getD i Sy.zero).rl.length by omega)
          obtain ⟨hw0, hpe, hpb⟩ := hpl
          have hof := ((l.getD i Sy.zero).rl.getD k Rl.zero).off.toNat_lt
          have hwd := width_le ((l.getD i Sy.zero).rl.getD k Rl.zero).kind
          refine WC.skip ?_
          refine WQ.next ?_
          refine WC.seq ?_
          refine WC.block ?_
          refine WC.seq ?_
          refine WC.region ?_
          refine WL.op rfl rfl (op_fieldAddr rfl Fa.F32_1 ?_)
          refine WL.op rfl rfl (op_load rfl (H16.cell (i := 0) rfl rfl) Tryd.underlying30 rfl ?_)
          refine WL.op rfl rfl (op_move rfl ?_)
          refine WL.op rfl rfl (op_indexAddr Tryd.underlying30 Fa.I26 rfl (H16.arr hA) rfl (by omega) ?_)
          refine WL.op rfl rfl (op_fieldAddrS rfl Fa.F26_5 ?_)
          refine WL.op rfl rfl (op_load rfl (Arr.atF (k := 5) (H16.arr hA) (fun _ => rfl) (by decide) Sy.zero (by omega) rfl) Tryd.underlying23 rfl ?_)
          refine WL.op rfl rfl (op_move rfl ?_)
          refine WL.op rfl rfl (op_indexAddr Tryd.underlying23 Fa.I44 rfl ((SyD_rl (Deep.getD SyD (Deep.fr0 SyD.list hI H16.fr) Sy.zero (SyD_zero _) i))) rfl (by omega) ?_)
          refine WL.op rfl rfl (op_loadSP (vs := rlc ((l.getD i Sy.zero).rl.getD k Rl.zero)) rfl (Arr.atsF ((SyD_rl (Deep.getD SyD (Deep.fr0 SyD.list hI H16.fr) Sy.zero (SyD_zero _) i))) (fun _ => rfl) (by decide) Rl.zero (by omega)) Tryd.underlying44 rfl Fa.I44 rfl ?_)
          refine WL.op rfl rfl (op_alloc H16 Fa.I44 (fun b18 w18 H18 => ?_))
          refine WL.op rfl rfl (op_storeBW (i := 5) H18 rfl rfl rfl rfl rfl Fa.I44 (fun w19 H19 => ?_))
          refine WL.nil ?_
          refine WQ.next ?_
          refine WC.seq ?_
          refine WC.region ?_
          refine WL.op rfl rfl (op_assign rfl ?_)
          refine WL.nil ?_
          refine WQ.next ?_
          refine WC.cut (α := Nat) (fun wd => [(1, (ptr b1 0)), (2, (.bool false)), (3, v10), (4, (vN i)), (7, (.slice (some ⟨b15, 0, none⟩) (l.getD i Sy.zero).b.length (l.getD i Sy.zero).b.length)), (8, (vN k)), (9, (ptr b18 0)), (10, (vN wd))]) (fun wd w' => (wd = widthN ((l.getD i Sy.zero).rl.getD k Rl.zero).kind) ∧ Own [] w w' [.blk b1 [(str nm), lv] 32, .row (.slice (some ⟨b2, 0, none⟩) 1 1) 32 2 1 (List.flatMap obc [(Ob.mk nm lv l)]), .row (.slice (some ⟨b9, 0, none⟩) 1 1) 32 2 1 (List.flatMap obc [(Ob.mk nm lv l)]), .row v10 9 1 (resN [(Ob.mk nm lv l)]).length (List.map str (resN [(Ob.mk nm lv l)])), .row (.slice (some ⟨b15, 0, none⟩) (l.getD i Sy.zero).b.length (l.getD i Sy.zero).b.length) 4 1 (l.getD i Sy.zero).b.length (List.map Value.bool bm), .blk b18 [(vU32 ((l.getD i Sy.zero).rl.getD k Rl.zero).off), (vU8 ((l.getD i Sy.zero).rl.getD k Rl.zero).kind), (str ((l.getD i Sy.zero).rl.getD k Rl.zero).nm), (vU32 ((l.getD i Sy.zero).rl.getD k Rl.zero).add)] 44]) ?_ ?_
          ·
            refine WC.seq ?_
            refine WC.region ?_
            refine WL.op rfl rfl (op_fieldAddr rfl Fa.F44_1 ?_)
            refine WL.op rfl rfl (op_load rfl (H19.cell (i := 5) rfl rfl) Tryd.underlying5 rfl ?_)
            refine WL.op rfl rfl (op_eqlU8 (b := 2) rfl rfl ?_)
            refine WL.nil ?_
            refine WQ.next ?_
            refine WC.cond rfl (fun (hb20 : (decide (((l.getD i Sy.zero).rl.getD k Rl.zero).kind = (2 : UInt8))) = true) => ?_) (fun (hb20 : (decide (((l.getD i Sy.zero).rl.getD k Rl.zero).kind = (2 : UInt8))) = false) => ?_)
            ·
              have hc20 := of_decide_eq_true hb20
              refine WC.region ?_
              refine WL.op rfl rfl (op_assign rfl ?_)
              refine WL.nil ?_
              exact WQ.here 2 ⟨(width_2 hb20), H19⟩ ⟨rfl, rfl, rfl, rfl, rfl, rfl, rfl, rfl, trivial⟩
            ·
              have hc20 := of_decide_eq_false hb20
              refine WC.skip ?_
              exact WQ.here 4 ⟨(width_4 hb20 hw0), H19⟩ ⟨rfl, rfl, rfl, rfl, rfl, rfl, rfl, rfl, trivial⟩
          ·
            rintro wd w21 ⟨hwk, H21⟩
            show WC _ _ _ _ _ [(1, (ptr b1 0)), (2, (.bool false)), (3, v10), (4, (vN i)), (7, (.slice (some ⟨b15, 0, none⟩) (l.getD i Sy.zero).b.length (l.getD i Sy.zero).b.length)), (8, (vN k)), (9, (ptr b18 0)), (10, (vN wd))] _
            refine WC.seq ?_
            refine WC.region ?_
            refine WL.op rfl rfl (op_fieldAddr rfl Fa.F44_0 ?_)
            refine WL.op rfl rfl (op_load rfl (H21.cell (i := 5) rfl rfl) Tryd.underlying22 rfl ?_)
            refine WL.op rfl rfl (op_convU32N (hs := Tryd.underlying22) (hd := Tryd.underlying3) rfl ?_)
            refine WL.op rfl rfl (op_assign rfl ?_)
            refine WL.nil ?_
            refine WQ.next ?_
            refine WC.block ?_
            refine WC.loop (α := Nat × List Bool) (fun (j, bm2) => [(1, (ptr b1 0)), (2, (.bool false)), (3, v10), (4, (vN i)), (7, (.slice (some ⟨b15, 0, none⟩) (l.getD i Sy.zero).b.length (l.getD i Sy.zero).b.length)), (8, (vN k)), (9, (ptr b18 0)), (10, (vN wd)), (11, (vN j))]) (fun (j, bm2) w' => (((l.getD i Sy.zero).rl.getD k Rl.zero).off.toNat ≤ j ∧ j ≤ ((l.getD i Sy.zero).rl.getD k Rl.zero).off.toNat + wd ∧ bm2.length = (l.getD i Sy.zero).b.length ∧ (∀ p, j ≤ p → bm2.getD p false = false)) ∧ Own [] w w' [.blk b1 [(str nm), lv] 32, .row (.slice (some ⟨b2, 0, none⟩) 1 1) 32 2 1 (List.flatMap obc [(Ob.mk nm lv l)]), .row (.slice (some ⟨b9, 0, none⟩) 1 1) 32 2 1 (List.flatMap obc [(Ob.mk nm lv l)]), .row v10 9 1 (resN [(Ob.mk nm lv l)]).length (List.map str (resN [(Ob.mk nm lv l)])), .row (.slice (some ⟨b15, 0, none⟩) (l.getD i Sy.zero).b.length (l.getD i Sy.zero).b.length) 4 1 (l.getD i Sy.zero).b.length (List.map Value.bool bm2), .blk b18 [(vU32 ((l.getD i Sy.zero).rl.getD k Rl.zero).off), (vU8 ((l.getD i Sy.zero).rl.getD k Rl.zero).kind), (str ((l.getD i Sy.zero).rl.getD k Rl.zero).nm), (vU32 ((l.getD i Sy.zero).rl.getD k Rl.zero).add)] 44]) (fun (j, bm2) => ((l.getD i Sy.zero).rl.getD k Rl.zero).off.toNat + wd - j) (((l.getD i Sy.zero).rl.getD k Rl.zero).off.toNat, bm) ⟨⟨Nat.le_refl _, by omega, hml, fun p hp => hz p (by omega)⟩, H21⟩ ⟨rfl, rfl, rfl, rfl, rfl, rfl, rfl, rfl, rfl, trivial⟩ ?_
            rintro ⟨j, bm2⟩ w22 ⟨⟨hj1, hj2, hml2, hz2⟩, H22⟩
            show WC _ _ _ _ _ [(1, (ptr b1 0)), (2, (.bool false)), (3, v10), (4, (vN i)), (7, (.slice (some ⟨b15, 0, none⟩) (l.getD i Sy.zero).b.length (l.getD i Sy.zero).b.length)), (8, (vN k)), (9, (ptr b18 0)), (10, (vN wd)), (11, (vN j))] _
            refine WC.seq ?_
            refine WC.seq ?_
            refine WC.region ?_
            refine WL.op rfl rfl (op_move rfl ?_)
            refine WL.op rfl rfl (op_fieldAddr rfl Fa.F44_0 ?_)
            refine WL.op rfl rfl (op_load rfl (H22.cell (i := 5) rfl rfl) Tryd.underlying22 rfl ?_)
            refine WL.op rfl rfl (op_convU32N (hs := Tryd.underlying22) (hd := Tryd.underlying3) rfl ?_)
            refine WL.op rfl rfl (op_move rfl ?_)
            refine WL.op rfl rfl (op_addN rfl rfl (by omega) ?_)
            refine WL.op rfl rfl (op_lssN rfl rfl ?_)
            refine WL.nil ?_
            refine WQ.next ?_
            refine WC.cond rfl (fun (hb23 : (decide (j < (((l.getD i Sy.zero).rl.getD k Rl.zero).off.toNat + wd))) = true) => ?_) (fun (hb23 : (decide (j < (((l.getD i Sy.zero).rl.getD k Rl.zero).off.toNat + wd))) = false) => ?_)
            ·
              have hc23 := of_decide_eq_true hb23
              refine WC.skip ?_
              refine WQ.next ?_
              refine WC.seq ?_
              refine WC.block ?_
              refine WC.seq ?_
              refine WC.seq ?_
              refine WC.region ?_
              refine WL.op rfl rfl (op_move rfl ?_)
              refine WL.op rfl rfl (op_move rfl ?_)
              refine WL.op rfl rfl (op_lenA Tryd.underlying45 rfl (H22.arrR (i := 4) rfl) ?_)
              refine WL.op rfl rfl (op_geqN rfl rfl ?_)
              refine WL.op rfl rfl (op_move rfl ?_)
              refine WL.yes rfl rfl rfl (decide_eq_false (by omega)) rfl (op_move rfl ?_)
              refine WL.yes rfl rfl rfl (decide_eq_false (by omega)) rfl (op_move rfl ?_)
              refine WL.yes rfl rfl rfl (decide_eq_false (by omega)) rfl (op_indexAddr1 Tryd.underlying45 Fa.I4 rfl (H22.arrR (i := 4) rfl) rfl (by omega) ?_)
              refine WL.yes rfl rfl rfl (decide_eq_false (by omega)) rfl (op_load rfl ((H22.arrR (i := 4) rfl).at (get_map Value.bool false (Arr.ltM (H22.arrR (i := 4) rfl) (by omega)))) Tryd.underlying4 rfl ?_)
              refine WL.op rfl rfl (op_pickF rfl (decide_eq_false (by omega)) rfl ?_)
              refine WL.nil ?_
              refine WQ.next ?_
              refine WC.no rfl (hz2 j (Nat.le_refl _)) ?_
              refine WC.skip ?_
              refine WQ.next ?_
              refine WC.region ?_
              refine WL.op rfl rfl (op_move rfl ?_)
              refine WL.op rfl rfl (op_move rfl ?_)
              refine WL.op rfl rfl (op_indexAddr1 Tryd.underlying45 Fa.I4 rfl (H22.arrR (i := 4) rfl) rfl (by omega) ?_)
              refine WL.op rfl rfl (op_storeRM (i := 4) (f := Value.bool) (l := bm2) (c := true) H22 rfl rfl rfl (by omega) rfl Fa.I4 (fun w24 H24 => ?_))
              refine WL.nil ?_
              refine WQ.inNormal ?_
              refine WQ.next ?_
              refine WC.region ?_
              refine WL.op rfl rfl (op_move rfl ?_)
              refine WL.op rfl rfl (op_addN (b := 1) rfl rfl (by omega) ?_)
              refine WL.op rfl rfl (op_assign rfl ?_)
              refine WL.nil ?_
              exact WQ.round (j + 1, (bm2.set j true)) ⟨⟨by omega, by omega, by rw [List.length_set]; exact hml2, set_false hz2⟩, H24⟩ ⟨rfl, rfl, rfl, rfl, rfl, rfl, rfl, rfl, rfl, trivial⟩ (by show ((l.getD i Sy.zero).rl.getD k Rl.zero).off.toNat + wd - (j + 1) < ((l.getD i Sy.zero).rl.getD k Rl.zero).off.toNat + wd - j; omega)
            ·
              have hc23 := of_decide_eq_false hb23
              refine WC.exit ?_
              refine WQ.thenExit ?_
              refine WQ.thenExit ?_
              refine WQ.inHere ?_
              refine WQ.inNormal ?_
              refine WQ.next ?_
              refine WC.region ?_
              refine WL.op rfl rfl (op_move rfl ?_)
              refine WL.op rfl rfl (op_addN (b := 1) rfl rfl (by omega) ?_)
              refine WL.op rfl rfl (op_assign rfl ?_)
              refine WL.nil ?_
              exact WQ.round (k + 1, bm2) ⟨⟨by omega, hml2, fun p hp => hz2 p (by rw [endAt_next] at hp; omega)⟩, (H22.take 5)⟩ ⟨rfl, rfl, rfl, rfl, rfl, rfl, trivial⟩ (by show (l.getD i Sy.zero).rl.length - (k + 1) < (l.getD i Sy.zero).rl.length - k; omega)
        ·
          have hc17 := of_decide_eq_false hb17
          refine WC.exit ?_
          refine WQ.thenExit ?_
          refine WQ.thenExit ?_
          refine WQ.inHere ?_
          refine WQ.inNormal ?_
          refine WQ.next ?_
          refine WC.region ?_
          refine WL.op rfl rfl (op_move rfl ?_)
          refine WL.op rfl rfl (op_addN (b := 1) rfl rfl (by omega) ?_)
          refine WL.op rfl rfl (op_assign rfl ?_)
          refine WL.nil ?_
          exact WQ.round (i + 1) ⟨(by omega), (H16.take 4)⟩ ⟨rfl, rfl, rfl, rfl, trivial⟩ (by omega)
      ·
        have hc12 := of_decide_eq_false hb12
        refine WC.exit ?_
        refine WQ.thenExit ?_
        refine WQ.thenExit ?_
        refine WQ.inHere ?_
        refine WQ.next ?_
        refine WC.seq ?_
        refine WC.region ?_
        refine WL.op rfl rfl (op_callF Fa.C30 rfl ((alive08_ok _).mono (fun e w25 hq => ?_)))
        obtain ⟨rfl, hf25⟩ := hq
        refine ⟨_, rfl, ?_⟩
        have H25 := H11.fr' hf25
        refine WL.op rfl rfl (op_assign rfl ?_)
        refine WL.nil ?_
        refine WQ.next ?_
        refine WC.ret ?_
        refine WQ.out (.tmp rfl .nil) ?_
        exact ⟨rfl, H25.fr⟩
end Go.Proofs.YtnngbnenekjffaaDoor
