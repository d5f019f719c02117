/- General lemmas and walks: DRel4, DOb, DSort. No condition but what each theorem names. -/
import Derived.Test.YtnngbnenekjffaaDoorQf589b15c
import Derived.Test.YtnngbnenekjffaaDoorQ7f878364
import Derived.Test.YtnngbnenekjffaaDoorQc6230d96
import Derived.Test.YtnngbnenekjffaaDoorQ2ad7965d
import Derived.Test.YtnngbnenekjffaaDoorQ8317ca71
/-! from DRel4 -/
namespace Go.Proofs.YtnngbnenekjffaaDoor
open Go.Owl Go.Spec
set_option maxRecDepth 100000 in
theorem samesy_ok (x y : Sy) (w : World) (hI : SyD.ok w x) (hJ : SyD.ok w y) (hm : x.rl.length < 2 ^ 47) (hq : x.nt.length < 2 ^ 47) :
    Calls Tryd.prog 19 #[(.agg #[(str x.nm), (vU8 x.bind), (vU8 x.kind), (vU32 x.size), (str x.b), x.rv, x.nv]), (.agg #[(str y.nm), (vU8 y.bind), (vU8 y.kind), (vU32 y.size), (str y.b), y.rv, y.nv])] w (fun e w' => e = .returned (.bool (sameY x y)) ∧ Fr [] w w') := by
  refine enter (args := [(.agg #[(str x.nm), (vU8 x.bind), (vU8 x.kind), (vU32 x.size), (str x.b), x.rv, x.nv]), (.agg #[(str y.nm), (vU8 y.bind), (vU8 y.kind), (vU32 y.size), (str y.b), y.rv, y.nv])]) Tryd.func19 rfl rfl ?_
  have H0 : Own [] w w [] := Own.start w []
  refine WC.seq ?_
  refine WC.region ?_
  refine WL.op rfl rfl (op_box H0 rfl rfl (fun b1 w1 H1 => ?_))
  refine WL.op rfl rfl (op_box H1 rfl rfl (fun b2 w2 H2 => ?_))
  refine WL.op rfl rfl (op_assign rfl ?_)
  refine WL.nil ?_
  refine WQ.next ?_
  refine WC.seq ?_
  refine WC.seq ?_
  refine WC.region ?_
  refine WL.op rfl rfl (op_fieldAddr rfl Fa.F26_0 ?_)
  refine WL.op rfl rfl (op_load rfl (H2.cell (i := 0) rfl rfl) Tryd.underlying9 rfl ?_)
  refine WL.op rfl rfl (op_fieldAddr rfl Fa.F26_0 ?_)
  refine WL.op rfl rfl (op_load rfl (H2.cell (i := 1) rfl rfl) Tryd.underlying9 rfl ?_)
  refine WL.op rfl rfl (op_neqStr rfl rfl ?_)
  refine WL.op rfl rfl (op_move rfl ?_)
  refine WL.split (t := 12) rfl (fun (hb3 : (decide (x.nm ≠ y.nm)) = true) => ?_) (fun (hb3 : (decide (x.nm ≠ y.nm)) = false) => ?_)
  ·
    have hc3 := of_decide_eq_true hb3
    refine WL.no rfl rfl rfl hb3 rfl ?_
    refine WL.no rfl rfl rfl hb3 rfl ?_
    refine WL.no rfl rfl rfl hb3 rfl ?_
    refine WL.no rfl rfl rfl hb3 rfl ?_
    refine WL.no rfl rfl rfl hb3 rfl ?_
    refine WL.op rfl rfl (op_pickT rfl hb3 rfl ?_)
    refine WL.op rfl rfl (op_move rfl ?_)
    refine WL.no rfl rfl rfl rfl rfl ?_
    refine WL.no rfl rfl rfl rfl rfl ?_
    refine WL.no rfl rfl rfl rfl rfl ?_
    refine WL.no rfl rfl rfl rfl rfl ?_
    refine WL.no rfl rfl rfl rfl rfl ?_
    refine WL.op rfl rfl (op_pickT rfl rfl rfl ?_)
    refine WL.op rfl rfl (op_move rfl ?_)
    refine WL.no rfl rfl rfl rfl rfl ?_
    refine WL.no rfl rfl rfl rfl rfl ?_
    refine WL.no rfl rfl rfl rfl rfl ?_
    refine WL.no rfl rfl rfl rfl rfl ?_
    refine WL.no rfl rfl rfl rfl rfl ?_
    refine WL.op rfl rfl (op_pickT rfl rfl rfl ?_)
    refine WL.op rfl rfl (op_move rfl ?_)
    refine WL.no rfl rfl rfl rfl rfl ?_
    refine WL.no rfl rfl rfl rfl rfl ?_
    refine WL.no rfl rfl rfl rfl rfl ?_
    refine WL.no rfl rfl rfl rfl rfl ?_
    refine WL.no rfl rfl rfl rfl rfl ?_
    refine WL.op rfl rfl (op_pickT rfl rfl rfl ?_)
    refine WL.op rfl rfl (op_move rfl ?_)
    refine WL.no rfl rfl rfl rfl rfl ?_
    refine WL.no rfl rfl rfl rfl rfl ?_
    refine WL.no rfl rfl rfl rfl rfl ?_
    refine WL.no rfl rfl rfl rfl rfl ?_
    refine WL.no rfl rfl rfl rfl rfl ?_
    refine WL.no rfl rfl rfl rfl rfl ?_
    refine WL.no rfl rfl rfl rfl rfl ?_
    refine WL.op rfl rfl (op_pickT rfl rfl rfl ?_)
    refine WL.op rfl rfl (op_move rfl ?_)
    refine WL.no rfl rfl rfl rfl rfl ?_
    refine WL.no rfl rfl rfl rfl rfl ?_
    refine WL.no rfl rfl rfl rfl rfl ?_
    refine WL.no rfl rfl rfl rfl rfl ?_
    refine WL.no rfl rfl rfl rfl rfl ?_
    refine WL.no rfl rfl rfl rfl rfl ?_
    refine WL.no rfl rfl rfl rfl rfl ?_
    refine WL.op rfl rfl (op_pickT rfl rfl rfl ?_)
    refine WL.nil ?_
    refine WQ.next ?_
    refine WC.yes rfl rfl ?_
    refine WC.seq ?_
    refine WC.region ?_
    refine WL.op rfl rfl (op_assign rfl ?_)
    refine WL.nil ?_
    refine WQ.next ?_
    refine WC.ret ?_
    refine WQ.thenRet ?_
    refine WQ.out (.tmp rfl .nil) ?_
    exact ⟨by rw [sameY_no (fun h => hc3 h.1)]; rfl, H2.fr⟩
  ·
    have hc3 := of_decide_eq_false hb3
    refine WL.yes rfl rfl rfl hb3 rfl (op_fieldAddr rfl Fa.F26_1 ?_)
    refine WL.yes rfl rfl rfl hb3 rfl (op_load rfl (H2.cell (i := 0) rfl rfl) Tryd.underlying5 rfl ?_)
    refine WL.yes rfl rfl rfl hb3 rfl (op_fieldAddr rfl Fa.F26_1 ?_)
    refine WL.yes rfl rfl rfl hb3 rfl (op_load rfl (H2.cell (i := 1) rfl rfl) Tryd.underlying5 rfl ?_)
    refine WL.yes rfl rfl rfl hb3 rfl (op_neqU8 rfl rfl ?_)
    refine WL.op rfl rfl (op_pickF rfl hb3 rfl ?_)
    refine WL.op rfl rfl (op_move rfl ?_)
    refine WL.split (t := 19) rfl (fun (hb4 : (decide (x.bind ≠ y.bind)) = true) => ?_) (fun (hb4 : (decide (x.bind ≠ y.bind)) = false) => ?_)
    ·
      have hc4 := of_decide_eq_true hb4
      refine WL.no rfl rfl rfl hb4 rfl ?_
      refine WL.no rfl rfl rfl hb4 rfl ?_
      refine WL.no rfl rfl rfl hb4 rfl ?_
      refine WL.no rfl rfl rfl hb4 rfl ?_
      refine WL.no rfl rfl rfl hb4 rfl ?_
      refine WL.op rfl rfl (op_pickT rfl hb4 rfl ?_)
      refine WL.op rfl rfl (op_move rfl ?_)
      refine WL.no rfl rfl rfl rfl rfl ?_
      refine WL.no rfl rfl rfl rfl rfl ?_
      refine WL.no rfl rfl rfl rfl rfl ?_
      refine WL.no rfl rfl rfl rfl rfl ?_
      refine WL.no rfl rfl rfl rfl rfl ?_
      refine WL.op rfl rfl (op_pickT rfl rfl rfl ?_)
      refine WL.op rfl rfl (op_move rfl ?_)
      refine WL.no rfl rfl rfl rfl rfl ?_
      refine WL.no rfl rfl rfl rfl rfl ?_
      refine WL.no rfl rfl rfl rfl rfl ?_
      refine WL.no rfl rfl rfl rfl rfl ?_
      refine WL.no rfl rfl rfl rfl rfl ?_
      refine WL.op rfl rfl (op_pickT rfl rfl rfl ?_)
      refine WL.op rfl rfl (op_move rfl ?_)
      refine WL.no rfl rfl rfl rfl rfl ?_
      refine WL.no rfl rfl rfl rfl rfl ?_
      refine WL.no rfl rfl rfl rfl rfl ?_
      refine WL.no rfl rfl rfl rfl rfl ?_
      refine WL.no rfl rfl rfl rfl rfl ?_
      refine WL.no rfl rfl rfl rfl rfl ?_
      refine WL.no rfl rfl rfl rfl rfl ?_
      refine WL.op rfl rfl (op_pickT rfl rfl rfl ?_)
      refine WL.op rfl rfl (op_move rfl ?_)
      refine WL.no rfl rfl rfl rfl rfl ?_
      refine WL.no rfl rfl rfl rfl rfl ?_
      refine WL.no rfl rfl rfl rfl rfl ?_
      refine WL.no rfl rfl rfl rfl rfl ?_
      refine WL.no rfl rfl rfl rfl rfl ?_
      refine WL.no rfl rfl rfl rfl rfl ?_
      refine WL.no rfl rfl rfl rfl rfl ?_
      refine WL.op rfl rfl (op_pickT rfl rfl rfl ?_)
      refine WL.nil ?_
      refine WQ.next ?_
      refine WC.yes rfl rfl ?_
      refine WC.seq ?_
      refine WC.region ?_
      refine WL.op rfl rfl (op_assign rfl ?_)
      refine WL.nil ?_
      refine WQ.next ?_
      refine WC.ret ?_
      refine WQ.thenRet ?_
      refine WQ.out (.tmp rfl .nil) ?_
      exact ⟨by rw [sameY_no (fun h => hc4 h.2.1)]; rfl, H2.fr⟩
    ·
      have hc4 := of_decide_eq_false hb4
      refine WL.yes rfl rfl rfl hb4 rfl (op_fieldAddr rfl Fa.F26_2 ?_)
      refine WL.yes rfl rfl rfl hb4 rfl (op_load rfl (H2.cell (i := 0) rfl rfl) Tryd.underlying5 rfl ?_)
      refine WL.yes rfl rfl rfl hb4 rfl (op_fieldAddr rfl Fa.F26_2 ?_)
      refine WL.yes rfl rfl rfl hb4 rfl (op_load rfl (H2.cell (i := 1) rfl rfl) Tryd.underlying5 rfl ?_)
      refine WL.yes rfl rfl rfl hb4 rfl (op_neqU8 rfl rfl ?_)
      refine WL.op rfl rfl (op_pickF rfl hb4 rfl ?_)
      refine WL.op rfl rfl (op_move rfl ?_)
      refine WL.split (t := 26) rfl (fun (hb5 : (decide (x.kind ≠ y.kind)) = true) => ?_) (fun (hb5 : (decide (x.kind ≠ y.kind)) = false) => ?_)
      ·
        have hc5 := of_decide_eq_true hb5
        refine WL.no rfl rfl rfl hb5 rfl ?_
        refine WL.no rfl rfl rfl hb5 rfl ?_
        refine WL.no rfl rfl rfl hb5 rfl ?_
        refine WL.no rfl rfl rfl hb5 rfl ?_
        refine WL.no rfl rfl rfl hb5 rfl ?_
        refine WL.op rfl rfl (op_pickT rfl hb5 rfl ?_)
        refine WL.op rfl rfl (op_move rfl ?_)
        refine WL.no rfl rfl rfl rfl rfl ?_
        refine WL.no rfl rfl rfl rfl rfl ?_
        refine WL.no rfl rfl rfl rfl rfl ?_
        refine WL.no rfl rfl rfl rfl rfl ?_
        refine WL.no rfl rfl rfl rfl rfl ?_
        refine WL.op rfl rfl (op_pickT rfl rfl rfl ?_)
        refine WL.op rfl rfl (op_move rfl ?_)
        refine WL.no rfl rfl rfl rfl rfl ?_
        refine WL.no rfl rfl rfl rfl rfl ?_
        refine WL.no rfl rfl rfl rfl rfl ?_
        refine WL.no rfl rfl rfl rfl rfl ?_
        refine WL.no rfl rfl rfl rfl rfl ?_
        refine WL.no rfl rfl rfl rfl rfl ?_
        refine WL.no rfl rfl rfl rfl rfl ?_
        refine WL.op rfl rfl (op_pickT rfl rfl rfl ?_)
        refine WL.op rfl rfl (op_move rfl ?_)
        refine WL.no rfl rfl rfl rfl rfl ?_
        refine WL.no rfl rfl rfl rfl rfl ?_
        refine WL.no rfl rfl rfl rfl rfl ?_
        refine WL.no rfl rfl rfl rfl rfl ?_
        refine WL.no rfl rfl rfl rfl rfl ?_
        refine WL.no rfl rfl rfl rfl rfl ?_
        refine WL.no rfl rfl rfl rfl rfl ?_
        refine WL.op rfl rfl (op_pickT rfl rfl rfl ?_)
        refine WL.nil ?_
        refine WQ.next ?_
        refine WC.yes rfl rfl ?_
        refine WC.seq ?_
        refine WC.region ?_
        refine WL.op rfl rfl (op_assign rfl ?_)
        refine WL.nil ?_
        refine WQ.next ?_
        refine WC.ret ?_
        refine WQ.thenRet ?_
        refine WQ.out (.tmp rfl .nil) ?_
        exact ⟨by rw [sameY_no (fun h => hc5 h.2.2.1)]; rfl, H2.fr⟩
      ·
        have hc5 := of_decide_eq_false hb5
        refine WL.yes rfl rfl rfl hb5 rfl (op_fieldAddr rfl Fa.F26_3 ?_)
        refine WL.yes rfl rfl rfl hb5 rfl (op_load rfl (H2.cell (i := 0) rfl rfl) Tryd.underlying22 rfl ?_)
        refine WL.yes rfl rfl rfl hb5 rfl (op_fieldAddr rfl Fa.F26_3 ?_)
        refine WL.yes rfl rfl rfl hb5 rfl (op_load rfl (H2.cell (i := 1) rfl rfl) Tryd.underlying22 rfl ?_)
        refine WL.yes rfl rfl rfl hb5 rfl (op_neqU32 rfl rfl ?_)
        refine WL.op rfl rfl (op_pickF rfl hb5 rfl ?_)
        refine WL.op rfl rfl (op_move rfl ?_)
        refine WL.split (t := 33) rfl (fun (hb6 : (decide (x.size ≠ y.size)) = true) => ?_) (fun (hb6 : (decide (x.size ≠ y.size)) = false) => ?_)
        ·
          have hc6 := of_decide_eq_true hb6
          refine WL.no rfl rfl rfl hb6 rfl ?_
          refine WL.no rfl rfl rfl hb6 rfl ?_
          refine WL.no rfl rfl rfl hb6 rfl ?_
          refine WL.no rfl rfl rfl hb6 rfl ?_
          refine WL.no rfl rfl rfl hb6 rfl ?_
          refine WL.op rfl rfl (op_pickT rfl hb6 rfl ?_)
          refine WL.op rfl rfl (op_move rfl ?_)
          refine WL.no rfl rfl rfl rfl rfl ?_
          refine WL.no rfl rfl rfl rfl rfl ?_
          refine WL.no rfl rfl rfl rfl rfl ?_
          refine WL.no rfl rfl rfl rfl rfl ?_
          refine WL.no rfl rfl rfl rfl rfl ?_
          refine WL.no rfl rfl rfl rfl rfl ?_
          refine WL.no rfl rfl rfl rfl rfl ?_
          refine WL.op rfl rfl (op_pickT rfl rfl rfl ?_)
          refine WL.op rfl rfl (op_move rfl ?_)
          refine WL.no rfl rfl rfl rfl rfl ?_
          refine WL.no rfl rfl rfl rfl rfl ?_
          refine WL.no rfl rfl rfl rfl rfl ?_
          refine WL.no rfl rfl rfl rfl rfl ?_
          refine WL.no rfl rfl rfl rfl rfl ?_
          refine WL.no rfl rfl rfl rfl rfl ?_
          refine WL.no rfl rfl rfl rfl rfl ?_
          refine WL.op rfl rfl (op_pickT rfl rfl rfl ?_)
          refine WL.nil ?_
          refine WQ.next ?_
          refine WC.yes rfl rfl ?_
          refine WC.seq ?_
          refine WC.region ?_
          refine WL.op rfl rfl (op_assign rfl ?_)
          refine WL.nil ?_
          refine WQ.next ?_
          refine WC.ret ?_
          refine WQ.thenRet ?_
          refine WQ.out (.tmp rfl .nil) ?_
          exact ⟨by rw [sameY_no (fun h => hc6 h.2.2.2.1)]; rfl, H2.fr⟩
        ·
          have hc6 := of_decide_eq_false hb6
          refine WL.yes rfl rfl rfl hb6 rfl (op_fieldAddr rfl Fa.F26_4 ?_)
          refine WL.yes rfl rfl rfl hb6 rfl (op_load rfl (H2.cell (i := 0) rfl rfl) Tryd.underlying9 rfl ?_)
          refine WL.yes rfl rfl rfl hb6 rfl (op_fieldAddr rfl Fa.F26_4 ?_)
          refine WL.yes rfl rfl rfl hb6 rfl (op_load rfl (H2.cell (i := 1) rfl rfl) Tryd.underlying9 rfl ?_)
          refine WL.yes rfl rfl rfl hb6 rfl (op_neqStr rfl rfl ?_)
          refine WL.op rfl rfl (op_pickF rfl hb6 rfl ?_)
          refine WL.op rfl rfl (op_move rfl ?_)
          refine WL.split (t := 40) rfl (fun (hb7 : (decide (x.b ≠ y.b)) = true) => ?_) (fun (hb7 : (decide (x.b ≠ y.b)) = false) => ?_)
          ·
            have hc7 := of_decide_eq_true hb7
            refine WL.no rfl rfl rfl hb7 rfl ?_
            refine WL.no rfl rfl rfl hb7 rfl ?_
            refine WL.no rfl rfl rfl hb7 rfl ?_
            refine WL.no rfl rfl rfl hb7 rfl ?_
            refine WL.no rfl rfl rfl hb7 rfl ?_
            refine WL.no rfl rfl rfl hb7 rfl ?_
            refine WL.no rfl rfl rfl hb7 rfl ?_
            refine WL.op rfl rfl (op_pickT rfl hb7 rfl ?_)
            refine WL.op rfl rfl (op_move rfl ?_)
            refine WL.no rfl rfl rfl rfl rfl ?_
            refine WL.no rfl rfl rfl rfl rfl ?_
            refine WL.no rfl rfl rfl rfl rfl ?_
            refine WL.no rfl rfl rfl rfl rfl ?_
            refine WL.no rfl rfl rfl rfl rfl ?_
            refine WL.no rfl rfl rfl rfl rfl ?_
            refine WL.no rfl rfl rfl rfl rfl ?_
            refine WL.op rfl rfl (op_pickT rfl rfl rfl ?_)
            refine WL.nil ?_
            refine WQ.next ?_
            refine WC.yes rfl rfl ?_
            refine WC.seq ?_
            refine WC.region ?_
            refine WL.op rfl rfl (op_assign rfl ?_)
            refine WL.nil ?_
            refine WQ.next ?_
            refine WC.ret ?_
            refine WQ.thenRet ?_
            refine WQ.out (.tmp rfl .nil) ?_
            exact ⟨by rw [sameY_no (fun h => hc7 h.2.2.2.2.1)]; rfl, H2.fr⟩
          ·
            have hc7 := of_decide_eq_false hb7
            refine WL.yes rfl rfl rfl hb7 rfl (op_fieldAddr rfl Fa.F26_5 ?_)
            refine WL.yes rfl rfl rfl hb7 rfl (op_load rfl (H2.cell (i := 0) rfl rfl) Tryd.underlying23 rfl ?_)
            refine WL.yes rfl rfl rfl hb7 rfl (op_lenA Tryd.underlying23 rfl ((SyD_rl (SyD.fr0 hI H2.fr))) ?_)
            refine WL.yes rfl rfl rfl hb7 rfl (op_fieldAddr rfl Fa.F26_5 ?_)
            refine WL.yes rfl rfl rfl hb7 rfl (op_load rfl (H2.cell (i := 1) rfl rfl) Tryd.underlying23 rfl ?_)
            refine WL.yes rfl rfl rfl hb7 rfl (op_lenA Tryd.underlying23 rfl ((SyD_rl (SyD.fr0 hJ H2.fr))) ?_)
            refine WL.yes rfl rfl rfl hb7 rfl (op_neqN rfl rfl ?_)
            refine WL.op rfl rfl (op_pickF rfl hb7 rfl ?_)
            refine WL.op rfl rfl (op_move rfl ?_)
            refine WL.split (t := 49) rfl (fun (hb8 : (decide (x.rl.length ≠ y.rl.length)) = true) => ?_) (fun (hb8 : (decide (x.rl.length ≠ y.rl.length)) = false) => ?_)
            ·
              have hc8 := of_decide_eq_true hb8
              refine WL.no rfl rfl rfl hb8 rfl ?_
              refine WL.no rfl rfl rfl hb8 rfl ?_
              refine WL.no rfl rfl rfl hb8 rfl ?_
              refine WL.no rfl rfl rfl hb8 rfl ?_
              refine WL.no rfl rfl rfl hb8 rfl ?_
              refine WL.no rfl rfl rfl hb8 rfl ?_
              refine WL.no rfl rfl rfl hb8 rfl ?_
              refine WL.op rfl rfl (op_pickT rfl hb8 rfl ?_)
              refine WL.nil ?_
              refine WQ.next ?_
              refine WC.yes rfl rfl ?_
              refine WC.seq ?_
              refine WC.region ?_
              refine WL.op rfl rfl (op_assign rfl ?_)
              refine WL.nil ?_
              refine WQ.next ?_
              refine WC.ret ?_
              refine WQ.thenRet ?_
              refine WQ.out (.tmp rfl .nil) ?_
              exact ⟨by rw [sameY_no (fun h => hc8 (by rw [h.2.2.2.2.2.1]))]; rfl, H2.fr⟩
            ·
              have hc8 := of_decide_eq_false hb8
              refine WL.yes rfl rfl rfl hb8 rfl (op_fieldAddr rfl Fa.F26_6 ?_)
              refine WL.yes rfl rfl rfl hb8 rfl (op_load rfl (H2.cell (i := 0) rfl rfl) Tryd.underlying24 rfl ?_)
              refine WL.yes rfl rfl rfl hb8 rfl (op_lenA Tryd.underlying24 rfl ((SyD_nt (SyD.fr0 hI H2.fr))) ?_)
              refine WL.yes rfl rfl rfl hb8 rfl (op_fieldAddr rfl Fa.F26_6 ?_)
              refine WL.yes rfl rfl rfl hb8 rfl (op_load rfl (H2.cell (i := 1) rfl rfl) Tryd.underlying24 rfl ?_)
              refine WL.yes rfl rfl rfl hb8 rfl (op_lenA Tryd.underlying24 rfl ((SyD_nt (SyD.fr0 hJ H2.fr))) ?_)
              refine WL.yes rfl rfl rfl hb8 rfl (op_neqN rfl rfl ?_)
              refine WL.op rfl rfl (op_pickF rfl hb8 rfl ?_)
              refine WL.nil ?_
              refine WQ.next ?_
              refine WC.cond rfl (fun (hb9 : (decide (x.nt.length ≠ y.nt.length)) = true) => ?_) (fun (hb9 : (decide (x.nt.length ≠ y.nt.length)) = false) => ?_)
              ·
                have hc9 := of_decide_eq_true hb9
                refine WC.seq ?_
                refine WC.region ?_
                refine WL.op rfl rfl (op_assign rfl ?_)
                refine WL.nil ?_
                refine WQ.next ?_
                refine WC.ret ?_
                refine WQ.thenRet ?_
                refine WQ.out (.tmp rfl .nil) ?_
                exact ⟨by rw [sameY_no (fun h => hc9 (by rw [h.2.2.2.2.2.2]))]; rfl, H2.fr⟩
              ·
                have hc9 := of_decide_eq_false hb9
                refine WC.skip ?_
                refine WQ.next ?_
                refine WC.seq ?_
                refine WC.seq ?_
                refine WC.region ?_
                refine WL.op rfl rfl (op_assign rfl ?_)
                refine WL.nil ?_
                refine WQ.next ?_
                refine WC.block ?_
                refine WC.loop (α := Nat) (fun k => [(2, (ptr b1 0)), (3, (ptr b2 0)), (4, (.bool false)), (5, (vN k))]) (fun k w' => (k ≤ x.rl.length ∧ (∀ j, j < k → x.rl.getD j Rl.zero = y.rl.getD j Rl.zero)) ∧ Own [] w w' [.blk b1 [(str x.nm), (vU8 x.bind), (vU8 x.kind), (vU32 x.size), (str x.b), x.rv, x.nv] 26, .blk b2 [(str y.nm), (vU8 y.bind), (vU8 y.kind), (vU32 y.size), (str y.b), y.rv, y.nv] 26]) (fun k => x.rl.length - k) 0 ⟨⟨Nat.zero_le _, fun j h => by omega⟩, H2⟩ ⟨rfl, rfl, rfl, rfl, trivial⟩ ?_
                rintro k w10 ⟨⟨hk1, hok⟩, H10⟩
                show WC _ _ _ _ _ [(2, (ptr b1 0)), (3, (ptr b2 0)), (4, (.bool false)), (5, (vN k))] _
                refine WC.seq ?_
                refine WC.seq ?_
                refine WC.region ?_
                refine WL.op rfl rfl (op_move rfl ?_)
                refine WL.op rfl rfl (op_fieldAddr rfl Fa.F26_5 ?_)
                refine WL.op rfl rfl (op_load rfl (H10.cell (i := 0) rfl rfl) Tryd.underlying23 rfl ?_)
                refine WL.op rfl rfl (op_lenA Tryd.underlying23 rfl ((SyD_rl (SyD.fr0 hI H10.fr))) ?_)
                refine WL.op rfl rfl (op_lssN rfl rfl ?_)
                refine WL.nil ?_
                refine WQ.next ?_
                refine WC.cond rfl (fun (hb11 : (decide (k < x.rl.length)) = true) => ?_) (fun (hb11 : (decide (k < x.rl.length)) = false) => ?_)
                ·
                  have hc11 := of_decide_eq_true hb11
                  refine WC.skip ?_
                  refine WQ.next ?_
                  refine WC.seq ?_
                  refine WC.block ?_
                  refine WC.seq ?_
                  refine WC.draw 11 Fa.M H10 (HW.op rfl (fun w1 H1 => op_fieldAddr rfl Fa.F26_5 ⟨rfl, Fr.refl _ _⟩) (HW.op rfl (fun w1 H1 => op_load rfl (H1.cell (i := 0) rfl rfl) Tryd.underlying23 rfl ⟨rfl, Fr.refl _ _⟩) (HW.op rfl (fun w1 H1 => op_move rfl ⟨rfl, Fr.refl _ _⟩) (HW.op rfl (fun w1 H1 => op_indexAddr Tryd.underlying23 Fa.I44 rfl ((SyD_rl (SyD.fr0 hI H1.fr))) rfl (by omega) ⟨rfl, Fr.refl _ _⟩) (HW.op rfl (fun w1 H1 => op_loadSP (vs := rlc (x.rl.getD k Rl.zero)) rfl (Arr.atsF ((SyD_rl (SyD.fr0 hI H1.fr))) (fun _ => rfl) (by decide) Rl.zero (by omega)) Tryd.underlying44 rfl Fa.I44 rfl ⟨rfl, Fr.refl _ _⟩) (HW.op rfl (fun w1 H1 => op_fieldAddr rfl Fa.F26_5 ⟨rfl, Fr.refl _ _⟩) (HW.op rfl (fun w1 H1 => op_load rfl (H1.cell (i := 1) rfl rfl) Tryd.underlying23 rfl ⟨rfl, Fr.refl _ _⟩) (HW.op rfl (fun w1 H1 => op_move rfl ⟨rfl, Fr.refl _ _⟩) (HW.op rfl (fun w1 H1 => op_indexAddr Tryd.underlying23 Fa.I44 rfl ((SyD_rl (SyD.fr0 hJ H1.fr))) rfl (by omega) ⟨rfl, Fr.refl _ _⟩) (HW.op rfl (fun w1 H1 => op_loadSP (vs := rlc (y.rl.getD k Rl.zero)) rfl (Arr.atsF ((SyD_rl (SyD.fr0 hJ H1.fr))) (fun _ => rfl) (by decide) Rl.zero (by omega)) Tryd.underlying44 rfl Fa.I44 rfl ⟨rfl, Fr.refl _ _⟩) (HW.op rfl (fun w1 H1 => op_neqS (xs := [_, _, _, _]) (ys := [_, _, _, _]) (b := (!((decide ((x.rl.getD k Rl.zero).off = (y.rl.getD k Rl.zero).off)) && ((decide ((x.rl.getD k Rl.zero).kind = (y.rl.getD k Rl.zero).kind)) && ((decide ((x.rl.getD k Rl.zero).nm = (y.rl.getD k Rl.zero).nm)) && (decide ((x.rl.getD k Rl.zero).add = (y.rl.getD k Rl.zero).add))))))) Fa.FL44 rfl rfl rfl (by simp [eqAll, veqStr, veqU32, veqU8]) ⟨rfl, Fr.refl _ _⟩)  HW.nil))))))))))) (by kernel_rfl) ?_
                  intro β12 w12 H12
                  refine WL.nil ?_
                  refine WQ.next ?_
                  refine WC.cond rfl (fun (hb13 : (!((decide ((x.rl.getD k Rl.zero).off = (y.rl.getD k Rl.zero).off)) && ((decide ((x.rl.getD k Rl.zero).kind = (y.rl.getD k Rl.zero).kind)) && ((decide ((x.rl.getD k Rl.zero).nm = (y.rl.getD k Rl.zero).nm)) && (decide ((x.rl.getD k Rl.zero).add = (y.rl.getD k Rl.zero).add)))))) = true) => ?_) (fun (hb13 : (!((decide ((x.rl.getD k Rl.zero).off = (y.rl.getD k Rl.zero).off)) && ((decide ((x.rl.getD k Rl.zero).kind = (y.rl.getD k Rl.zero).kind)) && ((decide ((x.rl.getD k Rl.zero).nm = (y.rl.getD k Rl.zero).nm)) && (decide ((x.rl.getD k Rl.zero).add = (y.rl.getD k Rl.zero).add)))))) = false) => ?_)
                  ·
                    have hn13 := (Bool.not_eq_true' _).mp hb13
                    refine WC.seq ?_
                    refine WC.region ?_
                    refine WL.op rfl rfl (op_assign rfl ?_)
                    refine WL.nil ?_
                    refine WQ.next ?_
                    refine WC.ret ?_
                    refine WQ.inRet ?_
                    refine WQ.thenRet ?_
                    refine WQ.thenRet ?_
                    refine WQ.inRet ?_
                    refine WQ.thenRet ?_
                    refine WQ.out (.tmp rfl .nil) ?_
                    exact ⟨by rw [sameY_no (fun h => of_decide_eq_false ((rl_eq _ _).symm.trans hn13) (by rw [h.2.2.2.2.2.1]))]; rfl, H12.fr⟩
                  ·
                    have hn13 := (Bool.not_eq_false' _).mp hb13
                    refine WC.skip ?_
                    refine WQ.inNormal ?_
                    refine WQ.next ?_
                    refine WC.region ?_
                    refine WL.op rfl rfl (op_move rfl ?_)
                    refine WL.op rfl rfl (op_addN (b := 1) rfl rfl (by omega) ?_)
                    refine WL.op rfl rfl (op_assign rfl ?_)
                    refine WL.nil ?_
                    exact WQ.round (k + 1) ⟨⟨by omega, allPrev hok (of_decide_eq_true ((rl_eq _ _).symm.trans hn13))⟩, H12⟩ ⟨rfl, rfl, rfl, rfl, trivial⟩ (by omega)
                ·
                  have hc11 := of_decide_eq_false hb11
                  refine WC.exit ?_
                  refine WQ.thenExit ?_
                  refine WQ.thenExit ?_
                  refine WQ.inHere ?_
                  refine WQ.next ?_
                  refine WC.seq ?_
                  refine WC.seq ?_
                  refine WC.region ?_
                  refine WL.op rfl rfl (op_assign rfl ?_)
                  refine WL.nil ?_
                  refine WQ.next ?_
                  refine WC.block ?_
                  refine WC.loop (α := Nat) (fun i => [(2, (ptr b1 0)), (3, (ptr b2 0)), (4, (.bool false)), (6, (vN i))]) (fun i w' => (i ≤ x.nt.length ∧ (∀ j, j < i → x.nt.getD j Nt.zero = y.nt.getD j Nt.zero)) ∧ Own [] w w' [.blk b1 [(str x.nm), (vU8 x.bind), (vU8 x.kind), (vU32 x.size), (str x.b), x.rv, x.nv] 26, .blk b2 [(str y.nm), (vU8 y.bind), (vU8 y.kind), (vU32 y.size), (str y.b), y.rv, y.nv] 26]) (fun i => x.nt.length - i) 0 ⟨⟨Nat.zero_le _, fun j h => by omega⟩, H10⟩ ⟨rfl, rfl, rfl, rfl, trivial⟩ ?_
                  rintro i w14 ⟨⟨hi1, hoi⟩, H14⟩
                  show WC _ _ _ _ _ [(2, (ptr b1 0)), (3, (ptr b2 0)), (4, (.bool false)), (6, (vN i))] _
                  refine WC.seq ?_
                  refine WC.seq ?_
                  refine WC.region ?_
                  refine WL.op rfl rfl (op_move rfl ?_)
                  refine WL.op rfl rfl (op_fieldAddr rfl Fa.F26_6 ?_)
                  refine WL.op rfl rfl (op_load rfl (H14.cell (i := 0) rfl rfl) Tryd.underlying24 rfl ?_)
                  refine WL.op rfl rfl (op_lenA Tryd.underlying24 rfl ((SyD_nt (SyD.fr0 hI H14.fr))) ?_)
                  refine WL.op rfl rfl (op_lssN rfl rfl ?_)
                  refine WL.nil ?_
                  refine WQ.next ?_
                  refine WC.cond rfl (fun (hb15 : (decide (i < x.nt.length)) = true) => ?_) (fun (hb15 : (decide (i < x.nt.length)) = false) => ?_)
                  ·
                    have hc15 := of_decide_eq_true hb15
                    refine WC.skip ?_
                    refine WQ.next ?_
                    refine WC.seq ?_
                    refine WC.block ?_
                    refine WC.seq ?_
                    refine WC.draw 11 Fa.M H14 (HW.op rfl (fun w1 H1 => op_fieldAddr rfl Fa.F26_6 ⟨rfl, Fr.refl _ _⟩) (HW.op rfl (fun w1 H1 => op_load rfl (H1.cell (i := 0) rfl rfl) Tryd.underlying24 rfl ⟨rfl, Fr.refl _ _⟩) (HW.op rfl (fun w1 H1 => op_move rfl ⟨rfl, Fr.refl _ _⟩) (HW.op rfl (fun w1 H1 => op_indexAddr Tryd.underlying24 Fa.I68 rfl ((SyD_nt (SyD.fr0 hI H1.fr))) rfl (by omega) ⟨rfl, Fr.refl _ _⟩) (HW.op rfl (fun w1 H1 => op_loadSP (vs := ntc (x.nt.getD i Nt.zero)) rfl (Arr.atsF ((SyD_nt (SyD.fr0 hI H1.fr))) (fun _ => rfl) (by decide) Nt.zero (by omega)) Tryd.underlying68 rfl Fa.I68 rfl ⟨rfl, Fr.refl _ _⟩) (HW.op rfl (fun w1 H1 => op_fieldAddr rfl Fa.F26_6 ⟨rfl, Fr.refl _ _⟩) (HW.op rfl (fun w1 H1 => op_load rfl (H1.cell (i := 1) rfl rfl) Tryd.underlying24 rfl ⟨rfl, Fr.refl _ _⟩) (HW.op rfl (fun w1 H1 => op_move rfl ⟨rfl, Fr.refl _ _⟩) (HW.op rfl (fun w1 H1 => op_indexAddr Tryd.underlying24 Fa.I68 rfl ((SyD_nt (SyD.fr0 hJ H1.fr))) rfl (by omega) ⟨rfl, Fr.refl _ _⟩) (HW.op rfl (fun w1 H1 => op_loadSP (vs := ntc (y.nt.getD i Nt.zero)) rfl (Arr.atsF ((SyD_nt (SyD.fr0 hJ H1.fr))) (fun _ => rfl) (by decide) Nt.zero (by omega)) Tryd.underlying68 rfl Fa.I68 rfl ⟨rfl, Fr.refl _ _⟩) (HW.op rfl (fun w1 H1 => op_neqS (xs := [_, _, _]) (ys := [_, _, _]) (b := (!((decide ((x.nt.getD i Nt.zero).kind = (y.nt.getD i Nt.zero).kind)) && ((decide ((x.nt.getD i Nt.zero).n = (y.nt.getD i Nt.zero).n)) && (decide ((x.nt.getD i Nt.zero).m = (y.nt.getD i Nt.zero).m)))))) Fa.FL68 rfl rfl rfl (by simp [eqAll, veqU32, veqU8]) ⟨rfl, Fr.refl _ _⟩)  HW.nil))))))))))) (by kernel_rfl) ?_
                    intro β16 w16 H16
                    refine WL.nil ?_
                    refine WQ.next ?_
                    refine WC.cond rfl (fun (hb17 : (!((decide ((x.nt.getD i Nt.zero).kind = (y.nt.getD i Nt.zero).kind)) && ((decide ((x.nt.getD i Nt.zero).n = (y.nt.getD i Nt.zero).n)) && (decide ((x.nt.getD i Nt.zero).m = (y.nt.getD i Nt.zero).m))))) = true) => ?_) (fun (hb17 : (!((decide ((x.nt.getD i Nt.zero).kind = (y.nt.getD i Nt.zero).kind)) && ((decide ((x.nt.getD i Nt.zero).n = (y.nt.getD i Nt.zero).n)) && (decide ((x.nt.getD i Nt.zero).m = (y.nt.getD i Nt.zero).m))))) = false) => ?_)
                    ·
                      have hn17 := (Bool.not_eq_true' _).mp hb17
                      refine WC.seq ?_
                      refine WC.region ?_
                      refine WL.op rfl rfl (op_assign rfl ?_)
                      refine WL.nil ?_
                      refine WQ.next ?_
                      refine WC.ret ?_
                      refine WQ.inRet ?_
                      refine WQ.thenRet ?_
                      refine WQ.thenRet ?_
                      refine WQ.inRet ?_
                      refine WQ.thenRet ?_
                      refine WQ.out (.tmp rfl .nil) ?_
                      exact ⟨by rw [sameY_no (fun h => of_decide_eq_false ((nt_eq _ _).symm.trans hn17) (by rw [h.2.2.2.2.2.2]))]; rfl, H16.fr⟩
                    ·
                      have hn17 := (Bool.not_eq_false' _).mp hb17
                      refine WC.skip ?_
                      refine WQ.inNormal ?_
                      refine WQ.next ?_
                      refine WC.region ?_
                      refine WL.op rfl rfl (op_move rfl ?_)
                      refine WL.op rfl rfl (op_addN (b := 1) rfl rfl (by omega) ?_)
                      refine WL.op rfl rfl (op_assign rfl ?_)
                      refine WL.nil ?_
                      exact WQ.round (i + 1) ⟨⟨by omega, allPrev hoi (of_decide_eq_true ((nt_eq _ _).symm.trans hn17))⟩, H16⟩ ⟨rfl, rfl, rfl, rfl, trivial⟩ (by omega)
                  ·
                    have hc15 := of_decide_eq_false hb15
                    refine WC.exit ?_
                    refine WQ.thenExit ?_
                    refine WQ.thenExit ?_
                    refine WQ.inHere ?_
                    refine WQ.next ?_
                    refine WC.seq ?_
                    refine WC.region ?_
                    refine WL.op rfl rfl (op_assign rfl ?_)
                    refine WL.nil ?_
                    refine WQ.next ?_
                    refine WC.ret ?_
                    refine WQ.out (.tmp rfl .nil) ?_
                    exact ⟨by rw [sameY_iff.2 ⟨Decidable.not_not.mp (of_decide_eq_false hb3), Decidable.not_not.mp (of_decide_eq_false hb4), Decidable.not_not.mp (of_decide_eq_false hb5), Decidable.not_not.mp (of_decide_eq_false hb6), Decidable.not_not.mp (of_decide_eq_false hb7), ext_getD (by omega) (fun j hj => hok j (by omega)), ext_getD (by omega) (fun j hj => hoi j (by omega))⟩]; rfl, H14.fr⟩
set_option maxRecDepth 100000 in
theorem copy08_ok (nm : List UInt8) (lv : Value) (l : List Sy) (w : World) (hA : Arr w lv 7 l.length (List.flatMap syc l)) (hI : SyD.list.ok w l) (hn : l.length < 2 ^ 40) (hr : ∀ k, (l.getD k Sy.zero).rl.length < 2 ^ 40 ∧ (l.getD k Sy.zero).nt.length < 2 ^ 40) :
    Calls Tryd.prog 13 #[(.agg #[(str nm), lv])] w (fun e w' => ∃ v l', e = .returned (.agg #[str nm, v]) ∧ l'.map Sy.bare = l.map Sy.bare ∧ (∀ b ∈ SyD.list.ft l', w.heap.size ≤ b) ∧ Own [] w w' [.row v 26 7 l'.length (List.flatMap syc l'), Ent.dp SyD.list l']) := by
  refine enter (args := [(.agg #[(str nm), lv])]) Tryd.func13 rfl rfl ?_
  have H0 : Own [] w w [] := Own.start w []
  refine WC.seq ?_
  refine WC.region ?_
  refine WL.op rfl rfl (op_box H0 rfl rfl (fun b1 w1 H1 => ?_))
  refine WL.op rfl rfl (op_alloc H1 Fa.I32 (fun b2 w2 H2 => ?_))
  refine WL.nil ?_
  refine WQ.next ?_
  refine WC.seq ?_
  refine WC.region ?_
  refine WL.op rfl rfl (op_assign rfl ?_)
  have H3 := H2.nilRow 26 7
  refine WL.nil ?_
  refine WQ.next ?_
  refine WC.seq ?_
  refine WC.seq ?_
  refine WC.region ?_
  have H4 : Own [] w w2 [.blk b1 [(str nm), lv] 32, .blk b2 [(str []), (.slice none 0 0)] 32, .row (.slice none 0 0) 26 7 0 (List.flatMap syc []), Ent.dp SyD.list []] := (show Own [] w w2 [.blk b1 [(str nm), lv] 32, .blk b2 [(str []), (.slice none 0 0)] 32, .row (.slice none 0 0) 26 7 0 (List.flatMap syc [])] from H3).dpNil SyD
  refine WL.op rfl rfl (op_assign rfl ?_)
  refine WL.nil ?_
  refine WQ.next ?_
  refine WC.block ?_
  refine WC.loop (α := Nat × Value × List Sy) (fun (k, v, m) => [(1, (ptr b1 0)), (2, (ptr b2 0)), (3, v), (4, (vN k))]) (fun (k, v, m) w' => (k ≤ l.length ∧ m.length = k ∧ m.map Sy.bare = (l.take k).map Sy.bare ∧ ∀ b ∈ SyD.list.ft m, w.heap.size ≤ b) ∧ Own [] w w' [.blk b1 [(str nm), lv] 32, .blk b2 [(str []), (.slice none 0 0)] 32, .row v 26 7 k (List.flatMap syc m), Ent.dp SyD.list m]) (fun (k, v, m) => l.length - k) (0, (.slice none 0 0), []) ⟨⟨Nat.zero_le _, rfl, rfl, fun b hb => by cases hb⟩, H4⟩ ⟨rfl, rfl, rfl, rfl, trivial⟩ ?_
  rintro ⟨k, v, m⟩ w5 ⟨⟨hk1, hml, hmb, hmf⟩, H5⟩
  show WC _ _ _ _ _ [(1, (ptr b1 0)), (2, (ptr b2 0)), (3, v), (4, (vN k))] _
  have hfk := hr k
  refine WC.seq ?_
  refine WC.seq ?_
  refine WC.region ?_
  refine WL.op rfl rfl (op_move rfl ?_)
  refine WL.op rfl rfl (op_fieldAddr rfl Fa.F32_1 ?_)
  refine WL.op rfl rfl (op_load rfl (H5.cell (i := 0) rfl rfl) Tryd.underlying30 rfl ?_)
  refine WL.op rfl rfl (op_lenA Tryd.underlying30 rfl (H5.arr hA) ?_)
  refine WL.op rfl rfl (op_lssN rfl rfl ?_)
  refine WL.nil ?_
  refine WQ.next ?_
  refine WC.cond rfl (fun (hb6 : (decide (k < l.length)) = true) => ?_) (fun (hb6 : (decide (k < l.length)) = false) => ?_)
  ·
    have hc6 := of_decide_eq_true hb6
    refine WC.skip ?_
    refine WQ.next ?_
    refine WC.seq ?_
    refine WC.block ?_
    refine WC.seq ?_
    refine WC.region ?_
    refine WL.op rfl rfl (op_fieldAddr rfl Fa.F32_1 ?_)
    refine WL.op rfl rfl (op_load rfl (H5.cell (i := 0) rfl rfl) Tryd.underlying30 rfl ?_)
    refine WL.op rfl rfl (op_move rfl ?_)
    refine WL.op rfl rfl (op_indexAddr Tryd.underlying30 Fa.I26 rfl (H5.arr hA) rfl (by omega) ?_)
    refine WL.op rfl rfl (op_loadSP (vs := syc (l.getD k Sy.zero)) rfl (Arr.atsF (H5.arr hA) (fun _ => rfl) (by decide) Sy.zero (by omega)) Tryd.underlying26 rfl Fa.I26 rfl ?_)
    refine WL.op rfl rfl (op_alloc H5 Fa.I26 (fun b7 w7 H7 => ?_))
    refine WL.op rfl rfl (op_storeBW (i := 4) H7 rfl rfl rfl rfl (one_cons rfl (one_cons rfl (one_cons rfl (one_cons rfl (one_cons rfl (one_cons (Arr.one ((SyD_rl (Deep.getD SyD (Deep.fr0 SyD.list hI H7.fr) Sy.zero (SyD_zero _) k)))) (one_cons (Arr.one ((SyD_nt (Deep.getD SyD (Deep.fr0 SyD.list hI H7.fr) Sy.zero (SyD_zero _) k)))) one_nil))))))) Fa.I26 (fun w8 H8 => ?_))
    refine WL.nil ?_
    refine WQ.next ?_
    refine WC.seq ?_
    refine WC.region ?_
    refine WL.op rfl rfl (op_fieldAddr rfl Fa.F26_5 ?_)
    refine WL.op rfl rfl (op_load rfl (H8.cell (i := 4) rfl rfl) Tryd.underlying23 rfl ?_)
    have H10 := H8.nilRow 44 4
    refine WL.op rfl rfl (op_appendF (f := rlc) (l := []) (l' := (l.getD k Sy.zero).rl) (i := 5) H10 Tryd.underlying23 Fa.I44 rfl rfl rfl rfl (Src.ofArr Tryd.underlying23 ((SyD_rl (Deep.getD SyD (Deep.fr0 SyD.list hI H10.fr) Sy.zero (SyD_zero _) k)))) (one_flat (fun _ => by simp [rlc, Value.oneCell'])) (by omega) (by omega) (fun v9 w9 H9 => ?_))
    refine WL.op rfl rfl (op_fieldAddr rfl Fa.F26_5 ?_)
    refine WL.op rfl rfl (op_storeB (i := 4) H9 rfl rfl rfl rfl (Arr.one (H9.arrR (i := 5) rfl)) Fa.I23 (fun w11 H11 => ?_))
    refine WL.nil ?_
    refine WQ.next ?_
    refine WC.seq ?_
    refine WC.region ?_
    refine WL.op rfl rfl (op_fieldAddr rfl Fa.F26_6 ?_)
    refine WL.op rfl rfl (op_load rfl (H11.cell (i := 4) rfl rfl) Tryd.underlying24 rfl ?_)
    have H13 := H11.nilRow 68 3
    refine WL.op rfl rfl (op_appendF (f := ntc) (l := []) (l' := (l.getD k Sy.zero).nt) (i := 6) H13 Tryd.underlying24 Fa.I68 rfl rfl rfl rfl (Src.ofArr Tryd.underlying24 ((SyD_nt (Deep.getD SyD (Deep.fr0 SyD.list hI H13.fr) Sy.zero (SyD_zero _) k)))) (one_flat (fun _ => by simp [ntc, Value.oneCell'])) (by omega) (by omega) (fun v12 w12 H12 => ?_))
    refine WL.op rfl rfl (op_fieldAddr rfl Fa.F26_6 ?_)
    refine WL.op rfl rfl (op_storeB (i := 4) H12 rfl rfl rfl rfl (Arr.one (H12.arrR (i := 6) rfl)) Fa.I24 (fun w14 H14 => ?_))
    refine WL.nil ?_
    refine WQ.next ?_
    refine WC.region ?_
    refine WL.op rfl rfl (op_move rfl ?_)
    refine WL.op rfl rfl (op_loadS (vs := [_, _, _, _, _, _, _]) rfl (H14.cells (i := 4) rfl rfl) Tryd.underlying26 rfl Fa.I26 rfl ?_)
    refine WL.op rfl rfl (op_buildSlice (cs := [_, _, _, _, _, _, _]) H14 Tryd.underlying30 Fa.I26 rfl rfl rfl rfl (by decide) (by decide) (fun b15 w15 H15 => ?_))
    refine WL.op rfl rfl (op_appendF (f := syc) (l := m) (l' := [(Sy.mk ((l.getD k Sy.zero).nm) ((l.getD k Sy.zero).bind) ((l.getD k Sy.zero).kind) ((l.getD k Sy.zero).size) ((l.getD k Sy.zero).b) v9 ([] ++ (l.getD k Sy.zero).rl) v12 ([] ++ (l.getD k Sy.zero).nt))]) (i := 2) H15 Tryd.underlying30 Fa.I26 rfl rfl rfl rfl (Src.ofArr Tryd.underlying30 (H15.arrR (i := 7) rfl)) (sy_one (Arr.one (H15.arrR (i := 5) rfl)) (Arr.one (H15.arrR (i := 6) rfl))) (by omega) (by omega) (fun v16 w16 H16 => ?_))
    refine WL.op rfl rfl (op_assign rfl ?_)
    refine WL.nil ?_
    refine WQ.inNormal ?_
    refine WQ.next ?_
    refine WC.region ?_
    refine WL.op rfl rfl (op_move rfl ?_)
    refine WL.op rfl rfl (op_addN (b := 1) rfl rfl (by omega) ?_)
    refine WL.op rfl rfl (op_assign rfl ?_)
    refine WL.nil ?_
    have hfa := Own.rowFresh (i := 5) H16 rfl
    have hfb := Own.rowFresh (i := 6) H16 rfl
    have Hx1 : Own [] w w16 [.blk b1 [(str nm), lv] 32, .blk b2 [(str []), (.slice none 0 0)] 32, .row v16 26 7 (k + 1) (List.flatMap syc (m ++ [(Sy.mk ((l.getD k Sy.zero).nm) ((l.getD k Sy.zero).bind) ((l.getD k Sy.zero).kind) ((l.getD k Sy.zero).size) ((l.getD k Sy.zero).b) v9 ([] ++ (l.getD k Sy.zero).rl) v12 ([] ++ (l.getD k Sy.zero).nt))])), Ent.dp SyD.list m, .blk b7 [(str (l.getD k Sy.zero).nm), (vU8 (l.getD k Sy.zero).bind), (vU8 (l.getD k Sy.zero).kind), (vU32 (l.getD k Sy.zero).size), (str (l.getD k Sy.zero).b), v9, v12] 26, Ent.ar v9 4 (0 + (l.getD k Sy.zero).rl.length) (List.flatMap rlc ([] ++ (l.getD k Sy.zero).rl)), .row v12 68 3 (0 + (l.getD k Sy.zero).nt.length) (List.flatMap ntc ([] ++ (l.getD k Sy.zero).nt)), .row (.slice (some ⟨b15, 0, none⟩) 1 1) 26 7 1 (List.flatMap syc [(Sy.mk ((l.getD k Sy.zero).nm) ((l.getD k Sy.zero).bind) ((l.getD k Sy.zero).kind) ((l.getD k Sy.zero).size) ((l.getD k Sy.zero).b) v9 ([] ++ (l.getD k Sy.zero).rl) v12 ([] ++ (l.getD k Sy.zero).nt))])] := H16.freeze (i := 5) rfl
    have Hx2 : Own [] w w16 [.blk b1 [(str nm), lv] 32, .blk b2 [(str []), (.slice none 0 0)] 32, .row v16 26 7 (k + 1) (List.flatMap syc (m ++ [(Sy.mk ((l.getD k Sy.zero).nm) ((l.getD k Sy.zero).bind) ((l.getD k Sy.zero).kind) ((l.getD k Sy.zero).size) ((l.getD k Sy.zero).b) v9 ([] ++ (l.getD k Sy.zero).rl) v12 ([] ++ (l.getD k Sy.zero).nt))])), Ent.dp SyD.list m, .blk b7 [(str (l.getD k Sy.zero).nm), (vU8 (l.getD k Sy.zero).bind), (vU8 (l.getD k Sy.zero).kind), (vU32 (l.getD k Sy.zero).size), (str (l.getD k Sy.zero).b), v9, v12] 26, Ent.ar v9 4 (0 + (l.getD k Sy.zero).rl.length) (List.flatMap rlc ([] ++ (l.getD k Sy.zero).rl)), Ent.ar v12 3 (0 + (l.getD k Sy.zero).nt.length) (List.flatMap ntc ([] ++ (l.getD k Sy.zero).nt)), .row (.slice (some ⟨b15, 0, none⟩) 1 1) 26 7 1 (List.flatMap syc [(Sy.mk ((l.getD k Sy.zero).nm) ((l.getD k Sy.zero).bind) ((l.getD k Sy.zero).kind) ((l.getD k Sy.zero).size) ((l.getD k Sy.zero).b) v9 ([] ++ (l.getD k Sy.zero).rl) v12 ([] ++ (l.getD k Sy.zero).nt))])] := Hx1.freeze (i := 6) rfl
    have Hx3 := own_sy (a := 5) (b := 6) (Sy.mk ((l.getD k Sy.zero).nm) ((l.getD k Sy.zero).bind) ((l.getD k Sy.zero).kind) ((l.getD k Sy.zero).size) ((l.getD k Sy.zero).b) v9 ([] ++ (l.getD k Sy.zero).rl) v12 ([] ++ (l.getD k Sy.zero).nt)) Hx2 rfl rfl
    have Hx4 := Own.dpSnoc (i := 3) (j := 8) Hx3 rfl rfl
    exact WQ.round (k + 1, v16, m ++ [(Sy.mk ((l.getD k Sy.zero).nm) ((l.getD k Sy.zero).bind) ((l.getD k Sy.zero).kind) ((l.getD k Sy.zero).size) ((l.getD k Sy.zero).b) v9 ([] ++ (l.getD k Sy.zero).rl) v12 ([] ++ (l.getD k Sy.zero).nt))]) ⟨⟨by omega, by rw [List.length_append, hml]; rfl, bare_snoc (by omega) hmb rfl, sy_fresh hmf hfa hfb⟩, (Hx4.sel [0, 1, 2, 9] rfl rfl)⟩ ⟨rfl, rfl, rfl, rfl, trivial⟩ (by show l.length - (k + 1) < l.length - k; omega)
  ·
    have hc6 := of_decide_eq_false hb6
    refine WC.exit ?_
    refine WQ.thenExit ?_
    refine WQ.thenExit ?_
    refine WQ.inHere ?_
    refine WQ.next ?_
    refine WC.seq ?_
    refine WC.region ?_
    refine WL.op rfl rfl (op_move rfl ?_)
    refine WL.op rfl rfl (op_fieldAddr rfl Fa.F32_1 ?_)
    refine WL.op rfl rfl (op_storeB (i := 0) H5 rfl rfl rfl rfl (Arr.one (H5.arrR (i := 2) rfl)) Fa.I30 (fun w17 H17 => ?_))
    refine WL.nil ?_
    refine WQ.next ?_
    refine WC.seq ?_
    refine WC.region ?_
    refine WL.op rfl rfl (op_loadS (vs := [_, _]) rfl (H17.cells (i := 0) rfl rfl) Tryd.underlying32 rfl Fa.I32 rfl ?_)
    refine WL.op rfl rfl (op_storeBW (i := 1) H17 rfl rfl rfl rfl (one_cons rfl (one_cons (Arr.one (H17.arrR (i := 2) rfl)) one_nil)) Fa.I32 (fun w18 H18 => ?_))
    refine WL.nil ?_
    refine WQ.next ?_
    refine WC.ret ?_
    refine WQ.out (.cell rfl (run_loadVarS (vs := [_, _]) (H18.cells (i := 1) rfl rfl) Tryd.underlying32 rfl Fa.I32 rfl) .nil) ?_
    subst hml
    exact ⟨v, m, rfl, by rw [hmb, show m.length = l.length by omega, List.take_length], hmf, H18.sel [2, 3] rfl rfl⟩
set_option maxRecDepth 100000 in
theorem lg08_ok (lv : Value) (l : List Ob) (w : World) (hA : Arr w lv 2 l.length (List.flatMap obc l)) (hI : ObD.list.ok w l) (hF : ∀ x ∈ l, FitO x) (hn : l.length ≤ 1) :
    Calls Tryd.prog 29 #[lv] w (fun e w' => e = .returned (.bool (lg08 l)) ∧ Fr [] w w') := by
  refine enter (args := [lv]) Tryd.func29 rfl rfl ?_
  have H0 : Own [] w w [] := Own.start w []
  refine WC.seq ?_
  refine WC.region ?_
  refine WL.op rfl rfl (op_assign rfl ?_)
  refine WL.nil ?_
  refine WQ.next ?_
  refine WC.seq ?_
  refine WC.region ?_
  refine WL.op rfl rfl (op_assign rfl ?_)
  refine WL.nil ?_
  refine WQ.next ?_
  refine WC.seq ?_
  refine WC.seq ?_
  refine WC.region ?_
  refine WL.op rfl rfl (op_assign rfl ?_)
  refine WL.nil ?_
  refine WQ.next ?_
  refine WC.block ?_
  refine WC.loop (α := Nat) (fun i => [(0, lv), (2, (.bool false)), (3, (vN (obSum l i))), (4, (vN i))]) (fun i w' => (i ≤ l.length ∧ i ≤ 40) ∧ Own [] w w' []) (fun i => l.length - i) 0 ⟨⟨Nat.zero_le _, by omega⟩, H0⟩ ⟨rfl, rfl, rfl, rfl, trivial⟩ ?_
  rintro i w1 ⟨⟨hi1, hi4⟩, H1⟩
  show WC _ _ _ _ _ [(0, lv), (2, (.bool false)), (3, (vN (obSum l i))), (4, (vN i))] _
  have hso := obSum_le hF i hi4
  have hfo := fitO_getD hF i
  have hfo1 := hfo.1
  refine WC.seq ?_
  refine WC.seq ?_
  refine WC.region ?_
  refine WL.op rfl rfl (op_move rfl ?_)
  refine WL.op rfl rfl (op_move rfl ?_)
  refine WL.op rfl rfl (op_lenA Tryd.underlying78 rfl (H1.arr hA) ?_)
  refine WL.op rfl rfl (op_lssN rfl rfl ?_)
  refine WL.op rfl rfl (op_move rfl ?_)
  refine WL.split (t := 12) rfl (fun (hb2 : (decide (i < l.length)) = true) => ?_) (fun (hb2 : (decide (i < l.length)) = false) => ?_)
  ·
    have hc2 := of_decide_eq_true hb2
    refine WL.yes rfl rfl rfl hb2 rfl (op_move rfl ?_)
    refine WL.yes rfl rfl rfl hb2 rfl (op_lssN (b := 40) rfl rfl ?_)
    refine WL.op rfl rfl (op_pickT rfl hb2 rfl ?_)
    refine WL.nil ?_
    refine WQ.next ?_
    refine WC.cond rfl (fun (hb3 : (decide (i < 40)) = true) => ?_) (fun (hb3 : (decide (i < 40)) = false) => ?_)
    ·
      have hc3 := of_decide_eq_true hb3
      refine WC.skip ?_
      refine WQ.next ?_
      refine WC.seq ?_
      refine WC.block ?_
      refine WC.seq ?_
      refine WC.region ?_
      refine WL.op rfl rfl (op_move rfl ?_)
      refine WL.op rfl rfl (op_move rfl ?_)
      refine WL.op rfl rfl (op_move rfl ?_)
      refine WL.op rfl rfl (op_indexAddr Tryd.underlying78 Fa.I32 rfl (H1.arr hA) rfl (by omega) ?_)
      refine WL.op rfl rfl (op_fieldAddrS rfl Fa.F32_1 ?_)
      refine WL.op rfl rfl (op_load rfl (Arr.atF (k := 1) (H1.arr hA) (fun _ => rfl) (by decide) Ob.zero (by omega) rfl) Tryd.underlying30 rfl ?_)
      refine WL.op rfl rfl (op_lenA Tryd.underlying30 rfl ((ObD_sy (Deep.getD ObD (Deep.fr0 ObD.list hI H1.fr) Ob.zero (ObD_zero _) i))) ?_)
      refine WL.op rfl rfl (op_addN rfl rfl (by omega) ?_)
      refine WL.op rfl rfl (op_assign rfl ?_)
      refine WL.nil ?_
      refine WQ.next ?_
      refine WC.seq ?_
      refine WC.region ?_
      refine WL.op rfl rfl (op_assign rfl ?_)
      refine WL.nil ?_
      refine WQ.next ?_
      refine WC.block ?_
      refine WC.loop (α := Nat) (fun k => [(0, lv), (2, (.bool false)), (3, (vN (obSum l i + (l.getD i Ob.zero).sy.length + sySum (l.getD i Ob.zero).sy k))), (4, (vN i)), (5, (vN k))]) (fun k w' => (k ≤ (l.getD i Ob.zero).sy.length ∧ k ≤ 200) ∧ Own [] w w' []) (fun k => (l.getD i Ob.zero).sy.length - k) 0 ⟨⟨Nat.zero_le _, by omega⟩, H1⟩ ⟨rfl, rfl, rfl, rfl, rfl, trivial⟩ ?_
      rintro k w4 ⟨⟨hk1, hk2⟩, H4⟩
      show WC _ _ _ _ _ [(0, lv), (2, (.bool false)), (3, (vN (obSum l i + (l.getD i Ob.zero).sy.length + sySum (l.getD i Ob.zero).sy k))), (4, (vN i)), (5, (vN k))] _
      have hsk := sySum_le hfo.2 k
      have hfk := fit_getD hfo.2 k
      have hfn := syN_le hfk
      obtain ⟨hf1, hf2, hf3, hf4, hf5⟩ := hfk
      unfold syN at hfn
      refine WC.seq ?_
      refine WC.seq ?_
      refine WC.region ?_
      refine WL.op rfl rfl (op_move rfl ?_)
      refine WL.op rfl rfl (op_move rfl ?_)
      refine WL.op rfl rfl (op_move rfl ?_)
      refine WL.op rfl rfl (op_indexAddr Tryd.underlying78 Fa.I32 rfl (H4.arr hA) rfl (by omega) ?_)
      refine WL.op rfl rfl (op_fieldAddrS rfl Fa.F32_1 ?_)
      refine WL.op rfl rfl (op_load rfl (Arr.atF (k := 1) (H4.arr hA) (fun _ => rfl) (by decide) Ob.zero (by omega) rfl) Tryd.underlying30 rfl ?_)
      refine WL.op rfl rfl (op_lenA Tryd.underlying30 rfl ((ObD_sy (Deep.getD ObD (Deep.fr0 ObD.list hI H4.fr) Ob.zero (ObD_zero _) i))) ?_)
      refine WL.op rfl rfl (op_lssN rfl rfl ?_)
      refine WL.op rfl rfl (op_move rfl ?_)
      refine WL.split (t := 34) rfl (fun (hb5 : (decide (k < (l.getD i Ob.zero).sy.length)) = true) => ?_) (fun (hb5 : (decide (k < (l.getD i Ob.zero).sy.length)) = false) => ?_)
      ·
        have hc5 := of_decide_eq_true hb5
        refine WL.yes rfl rfl rfl hb5 rfl (op_move rfl ?_)
        refine WL.yes rfl rfl rfl hb5 rfl (op_lssN (b := 200) rfl rfl ?_)
        refine WL.op rfl rfl (op_pickT rfl hb5 rfl ?_)
        refine WL.nil ?_
        refine WQ.next ?_
        refine WC.cond rfl (fun (hb6 : (decide (k < 200)) = true) => ?_) (fun (hb6 : (decide (k < 200)) = false) => ?_)
        ·
          have hc6 := of_decide_eq_true hb6
          refine WC.skip ?_
          refine WQ.next ?_
          refine WC.seq ?_
          refine WC.block ?_
          refine WC.seq ?_
          refine WC.region ?_
          refine WL.op rfl rfl (op_move rfl ?_)
          refine WL.op rfl rfl (op_move rfl ?_)
          refine WL.op rfl rfl (op_indexAddr Tryd.underlying78 Fa.I32 rfl (H4.arr hA) rfl (by omega) ?_)
          refine WL.op rfl rfl (op_fieldAddrS rfl Fa.F32_1 ?_)
          refine WL.op rfl rfl (op_load rfl (Arr.atF (k := 1) (H4.arr hA) (fun _ => rfl) (by decide) Ob.zero (by omega) rfl) Tryd.underlying30 rfl ?_)
          refine WL.op rfl rfl (op_move rfl ?_)
          refine WL.op rfl rfl (op_indexAddr Tryd.underlying30 Fa.I26 rfl ((ObD_sy (Deep.getD ObD (Deep.fr0 ObD.list hI H4.fr) Ob.zero (ObD_zero _) i))) rfl (by omega) ?_)
          refine WL.op rfl rfl (op_loadSP (vs := syc ((l.getD i Ob.zero).sy.getD k Sy.zero)) rfl (Arr.atsF ((ObD_sy (Deep.getD ObD (Deep.fr0 ObD.list hI H4.fr) Ob.zero (ObD_zero _) i))) (fun _ => rfl) (by decide) Sy.zero (by omega)) Tryd.underlying26 rfl Fa.I26 rfl ?_)
          refine WL.op rfl rfl (op_alloc H4 Fa.I26 (fun b7 w7 H7 => ?_))
          refine WL.op rfl rfl (op_storeBW (i := 0) H7 rfl rfl rfl rfl (one_cons rfl (one_cons rfl (one_cons rfl (one_cons rfl (one_cons rfl (one_cons (Arr.one ((SyD_rl (Deep.getD SyD (ObD_in (Deep.getD ObD (Deep.fr0 ObD.list hI H7.fr) Ob.zero (ObD_zero _) i)) Sy.zero (SyD_zero _) k)))) (one_cons (Arr.one ((SyD_nt (Deep.getD SyD (ObD_in (Deep.getD ObD (Deep.fr0 ObD.list hI H7.fr) Ob.zero (ObD_zero _) i)) Sy.zero (SyD_zero _) k)))) one_nil))))))) Fa.I26 (fun w8 H8 => ?_))
          refine WL.nil ?_
          refine WQ.next ?_
          refine WC.seq ?_
          refine WC.region ?_
          refine WL.op rfl rfl (op_move rfl ?_)
          refine WL.op rfl rfl (op_fieldAddr rfl Fa.F26_5 ?_)
          refine WL.op rfl rfl (op_load rfl (H8.cell (i := 0) rfl rfl) Tryd.underlying23 rfl ?_)
          refine WL.op rfl rfl (op_lenA Tryd.underlying23 rfl ((SyD_rl (Deep.getD SyD (ObD_in (Deep.getD ObD (Deep.fr0 ObD.list hI H8.fr) Ob.zero (ObD_zero _) i)) Sy.zero (SyD_zero _) k))) ?_)
          refine WL.op rfl rfl (op_quoN (b := 4) rfl rfl (by omega) (by omega) ?_)
          refine WL.op rfl rfl (op_addN rfl rfl (by omega) ?_)
          refine WL.op rfl rfl (op_fieldAddr rfl Fa.F26_6 ?_)
          refine WL.op rfl rfl (op_load rfl (H8.cell (i := 0) rfl rfl) Tryd.underlying24 rfl ?_)
          refine WL.op rfl rfl (op_lenA Tryd.underlying24 rfl ((SyD_nt (Deep.getD SyD (ObD_in (Deep.getD ObD (Deep.fr0 ObD.list hI H8.fr) Ob.zero (ObD_zero _) i)) Sy.zero (SyD_zero _) k))) ?_)
          refine WL.op rfl rfl (op_quoN (b := 4) rfl rfl (by omega) (by omega) ?_)
          refine WL.op rfl rfl (op_addN rfl rfl (by omega) ?_)
          refine WL.op rfl rfl (op_fieldAddr rfl Fa.F26_4 ?_)
          refine WL.op rfl rfl (op_load rfl (H8.cell (i := 0) rfl rfl) Tryd.underlying9 rfl ?_)
          refine WL.op rfl rfl (op_lenStr Tryd.underlying9 rfl ?_)
          refine WL.op rfl rfl (op_quoN (b := 64) rfl rfl (by omega) (by omega) ?_)
          refine WL.op rfl rfl (op_addN rfl rfl (by omega) ?_)
          refine WL.op rfl rfl (op_fieldAddr rfl Fa.F26_0 ?_)
          refine WL.op rfl rfl (op_load rfl (H8.cell (i := 0) rfl rfl) Tryd.underlying9 rfl ?_)
          refine WL.op rfl rfl (op_lenStr Tryd.underlying9 rfl ?_)
          refine WL.op rfl rfl (op_quoN (b := 16) rfl rfl (by omega) (by omega) ?_)
          refine WL.op rfl rfl (op_addN rfl rfl (by omega) ?_)
          refine WL.op rfl rfl (op_assign rfl ?_)
          refine WL.nil ?_
          refine WQ.next ?_
          refine WC.seq ?_
          refine WC.region ?_
          refine WL.op rfl rfl (op_assign rfl ?_)
          refine WL.nil ?_
          refine WQ.next ?_
          refine WC.block ?_
          refine WC.loop (α := Nat) (fun j => [(0, lv), (2, (.bool false)), (3, (vN (obSum l i + (l.getD i Ob.zero).sy.length + sySum (l.getD i Ob.zero).sy k + ((l.getD i Ob.zero).sy.getD k Sy.zero).rl.length / 4 + ((l.getD i Ob.zero).sy.getD k Sy.zero).nt.length / 4 + ((l.getD i Ob.zero).sy.getD k Sy.zero).b.length / 64 + ((l.getD i Ob.zero).sy.getD k Sy.zero).nm.length / 16 + nameSum ((l.getD i Ob.zero).sy.getD k Sy.zero).rl j))), (4, (vN i)), (5, (vN k)), (6, (ptr b7 0)), (7, (vN j))]) (fun j w' => (j ≤ ((l.getD i Ob.zero).sy.getD k Sy.zero).rl.length ∧ j ≤ 1100) ∧ Own [] w w' [.blk b7 [(str ((l.getD i Ob.zero).sy.getD k Sy.zero).nm), (vU8 ((l.getD i Ob.zero).sy.getD k Sy.zero).bind), (vU8 ((l.getD i Ob.zero).sy.getD k Sy.zero).kind), (vU32 ((l.getD i Ob.zero).sy.getD k Sy.zero).size), (str ((l.getD i Ob.zero).sy.getD k Sy.zero).b), ((l.getD i Ob.zero).sy.getD k Sy.zero).rv, ((l.getD i Ob.zero).sy.getD k Sy.zero).nv] 26]) (fun j => ((l.getD i Ob.zero).sy.getD k Sy.zero).rl.length - j) 0 ⟨⟨Nat.zero_le _, by omega⟩, H8⟩ ⟨rfl, rfl, rfl, rfl, rfl, rfl, rfl, trivial⟩ ?_
          rintro j w9 ⟨⟨hj1, hj2⟩, H9⟩
          show WC _ _ _ _ _ [(0, lv), (2, (.bool false)), (3, (vN (obSum l i + (l.getD i Ob.zero).sy.length + sySum (l.getD i Ob.zero).sy k + ((l.getD i Ob.zero).sy.getD k Sy.zero).rl.length / 4 + ((l.getD i Ob.zero).sy.getD k Sy.zero).nt.length / 4 + ((l.getD i Ob.zero).sy.getD k Sy.zero).b.length / 64 + ((l.getD i Ob.zero).sy.getD k Sy.zero).nm.length / 16 + nameSum ((l.getD i Ob.zero).sy.getD k Sy.zero).rl j))), (4, (vN i)), (5, (vN k)), (6, (ptr b7 0)), (7, (vN j))] _
          have hsj := nameSum_le hf5 j
          have hgj := getD_name hf5 j
          refine WC.seq ?_
          refine WC.seq ?_
          refine WC.region ?_
          refine WL.op rfl rfl (op_move rfl ?_)
          refine WL.op rfl rfl (op_fieldAddr rfl Fa.F26_5 ?_)
          refine WL.op rfl rfl (op_load rfl (H9.cell (i := 0) rfl rfl) Tryd.underlying23 rfl ?_)
          refine WL.op rfl rfl (op_lenA Tryd.underlying23 rfl ((SyD_rl (Deep.getD SyD (ObD_in (Deep.getD ObD (Deep.fr0 ObD.list hI H9.fr) Ob.zero (ObD_zero _) i)) Sy.zero (SyD_zero _) k))) ?_)
          refine WL.op rfl rfl (op_lssN rfl rfl ?_)
          refine WL.op rfl rfl (op_move rfl ?_)
          refine WL.split (t := 74) rfl (fun (hb10 : (decide (j < ((l.getD i Ob.zero).sy.getD k Sy.zero).rl.length)) = true) => ?_) (fun (hb10 : (decide (j < ((l.getD i Ob.zero).sy.getD k Sy.zero).rl.length)) = false) => ?_)
          ·
            have hc10 := of_decide_eq_true hb10
            refine WL.yes rfl rfl rfl hb10 rfl (op_move rfl ?_)
            refine WL.yes rfl rfl rfl hb10 rfl (op_lssN (b := 1100) rfl rfl ?_)
            refine WL.op rfl rfl (op_pickT rfl hb10 rfl ?_)
            refine WL.nil ?_
            refine WQ.next ?_
            refine WC.cond rfl (fun (hb11 : (decide (j < 1100)) = true) => ?_) (fun (hb11 : (decide (j < 1100)) = false) => ?_)
            ·
              have hc11 := of_decide_eq_true hb11
              refine WC.skip ?_
              refine WQ.next ?_
              refine WC.seq ?_
              refine WC.block ?_
              refine WC.region ?_
              refine WL.op rfl rfl (op_move rfl ?_)
              refine WL.op rfl rfl (op_fieldAddr rfl Fa.F26_5 ?_)
              refine WL.op rfl rfl (op_load rfl (H9.cell (i := 0) rfl rfl) Tryd.underlying23 rfl ?_)
              refine WL.op rfl rfl (op_move rfl ?_)
              refine WL.op rfl rfl (op_indexAddr Tryd.underlying23 Fa.I44 rfl ((SyD_rl (Deep.getD SyD (ObD_in (Deep.getD ObD (Deep.fr0 ObD.list hI H9.fr) Ob.zero (ObD_zero _) i)) Sy.zero (SyD_zero _) k))) rfl (by omega) ?_)
              refine WL.op rfl rfl (op_fieldAddrS rfl Fa.F44_2 ?_)
              refine WL.op rfl rfl (op_load rfl (Arr.atF (k := 2) ((SyD_rl (Deep.getD SyD (ObD_in (Deep.getD ObD (Deep.fr0 ObD.list hI H9.fr) Ob.zero (ObD_zero _) i)) Sy.zero (SyD_zero _) k))) (fun _ => rfl) (by decide) Rl.zero (by omega) rfl) Tryd.underlying9 rfl ?_)
              refine WL.op rfl rfl (op_lenStr Tryd.underlying9 rfl ?_)
              refine WL.op rfl rfl (op_quoN (b := 64) rfl rfl (by omega) (by omega) ?_)
              refine WL.op rfl rfl (op_addN rfl rfl (by omega) ?_)
              refine WL.op rfl rfl (op_assign rfl ?_)
              refine WL.nil ?_
              refine WQ.inNormal ?_
              refine WQ.next ?_
              refine WC.region ?_
              refine WL.op rfl rfl (op_move rfl ?_)
              refine WL.op rfl rfl (op_addN (b := 1) rfl rfl (by omega) ?_)
              refine WL.op rfl rfl (op_assign rfl ?_)
              refine WL.nil ?_
              exact WQ.round (j + 1) ⟨(by omega), H9⟩ ⟨rfl, rfl, (congrArg (fun x => some (vN x)) (by rw [nameSum]; omega)), rfl, rfl, rfl, rfl, trivial⟩ (by omega)
            ·
              have hc11 := of_decide_eq_false hb11
              refine WC.exit ?_
              refine WQ.thenExit ?_
              refine WQ.thenExit ?_
              refine WQ.inHere ?_
              refine WQ.inNormal ?_
              refine WQ.next ?_
              refine WC.region ?_
              refine WL.op rfl rfl (op_move rfl ?_)
              refine WL.op rfl rfl (op_addN (b := 1) rfl rfl (by omega) ?_)
              refine WL.op rfl rfl (op_assign rfl ?_)
              refine WL.nil ?_
              exact WQ.round (k + 1) ⟨(by omega), (H9.take 0)⟩ ⟨rfl, rfl, (congrArg (fun x => some (vN x)) (by rw [sySum, show min ((l.getD i Ob.zero).sy.getD k Sy.zero).rl.length 1100 = j by omega, syN]; omega)), rfl, rfl, trivial⟩ (by omega)
          ·
            have hc10 := of_decide_eq_false hb10
            refine WL.no rfl rfl rfl hb10 rfl ?_
            refine WL.no rfl rfl rfl hb10 rfl ?_
            refine WL.op rfl rfl (op_pickF rfl hb10 rfl ?_)
            refine WL.nil ?_
            refine WQ.next ?_
            refine WC.no rfl rfl ?_
            refine WC.exit ?_
            refine WQ.thenExit ?_
            refine WQ.thenExit ?_
            refine WQ.inHere ?_
            refine WQ.inNormal ?_
            refine WQ.next ?_
            refine WC.region ?_
            refine WL.op rfl rfl (op_move rfl ?_)
            refine WL.op rfl rfl (op_addN (b := 1) rfl rfl (by omega) ?_)
            refine WL.op rfl rfl (op_assign rfl ?_)
            refine WL.nil ?_
            exact WQ.round (k + 1) ⟨(by omega), (H9.take 0)⟩ ⟨rfl, rfl, (congrArg (fun x => some (vN x)) (by rw [sySum, show min ((l.getD i Ob.zero).sy.getD k Sy.zero).rl.length 1100 = j by omega, syN]; omega)), rfl, rfl, trivial⟩ (by omega)
        ·
          have hc6 := of_decide_eq_false hb6
          refine WC.exit ?_
          refine WQ.thenExit ?_
          refine WQ.thenExit ?_
          refine WQ.inHere ?_
          refine WQ.inNormal ?_
          refine WQ.next ?_
          refine WC.region ?_
          refine WL.op rfl rfl (op_move rfl ?_)
          refine WL.op rfl rfl (op_addN (b := 1) rfl rfl (by omega) ?_)
          refine WL.op rfl rfl (op_assign rfl ?_)
          refine WL.nil ?_
          exact WQ.round (i + 1) ⟨(by omega), H4⟩ ⟨rfl, rfl, (congrArg (fun x => some (vN x)) (by rw [obSum, show min (l.getD i Ob.zero).sy.length 200 = k by omega])), rfl, trivial⟩ (by omega)
      ·
        have hc5 := of_decide_eq_false hb5
        refine WL.no rfl rfl rfl hb5 rfl ?_
        refine WL.no rfl rfl rfl hb5 rfl ?_
        refine WL.op rfl rfl (op_pickF rfl hb5 rfl ?_)
        refine WL.nil ?_
        refine WQ.next ?_
        refine WC.no rfl rfl ?_
        refine WC.exit ?_
        refine WQ.thenExit ?_
        refine WQ.thenExit ?_
        refine WQ.inHere ?_
        refine WQ.inNormal ?_
        refine WQ.next ?_
        refine WC.region ?_
        refine WL.op rfl rfl (op_move rfl ?_)
        refine WL.op rfl rfl (op_addN (b := 1) rfl rfl (by omega) ?_)
        refine WL.op rfl rfl (op_assign rfl ?_)
        refine WL.nil ?_
        exact WQ.round (i + 1) ⟨(by omega), H4⟩ ⟨rfl, rfl, (congrArg (fun x => some (vN x)) (by rw [obSum, show min (l.getD i Ob.zero).sy.length 200 = k by omega])), rfl, trivial⟩ (by omega)
    ·
      have hc3 := of_decide_eq_false hb3
      refine WC.exit ?_
      refine WQ.thenExit ?_
      refine WQ.thenExit ?_
      refine WQ.inHere ?_
      refine WQ.next ?_
      refine WC.seq ?_
      refine WC.region ?_
      refine WL.op rfl rfl (op_move rfl ?_)
      refine WL.op rfl rfl (op_lenA Tryd.underlying78 rfl (H1.arr hA) ?_)
      refine WL.op rfl rfl (op_gtrN (b := 20) rfl rfl ?_)
      refine WL.op rfl rfl (op_move rfl ?_)
      refine WL.split (t := 93) rfl (fun (hb12 : (decide (l.length > 20)) = true) => ?_) (fun (hb12 : (decide (l.length > 20)) = false) => ?_)
      ·
        have hc12 := of_decide_eq_true hb12
        refine WL.no rfl rfl rfl hb12 rfl ?_
        refine WL.no rfl rfl rfl hb12 rfl ?_
        refine WL.op rfl rfl (op_pickT rfl hb12 rfl ?_)
        refine WL.op rfl rfl (op_assign rfl ?_)
        refine WL.nil ?_
        refine WQ.next ?_
        refine WC.ret ?_
        refine WQ.out (.tmp rfl .nil) ?_
        exact ⟨by (rw [lg08, hb12]) <;> rfl, H1.fr⟩
      ·
        have hc12 := of_decide_eq_false hb12
        refine WL.yes rfl rfl rfl hb12 rfl (op_move rfl ?_)
        refine WL.yes rfl rfl rfl hb12 rfl (op_gtrN (b := 2000) rfl rfl ?_)
        refine WL.op rfl rfl (op_pickF rfl hb12 rfl ?_)
        refine WL.op rfl rfl (op_assign rfl ?_)
        refine WL.nil ?_
        refine WQ.next ?_
        refine WC.ret ?_
        refine WQ.out (.tmp rfl .nil) ?_
        exact ⟨by (rw [lg08, hb12, show min l.length 40 = i by omega]) <;> rfl, H1.fr⟩
  ·
    have hc2 := of_decide_eq_false hb2
    refine WL.no rfl rfl rfl hb2 rfl ?_
    refine WL.no rfl rfl rfl hb2 rfl ?_
    refine WL.op rfl rfl (op_pickF rfl hb2 rfl ?_)
    refine WL.nil ?_
    refine WQ.next ?_
    refine WC.no rfl rfl ?_
    refine WC.exit ?_
    refine WQ.thenExit ?_
    refine WQ.thenExit ?_
    refine WQ.inHere ?_
    refine WQ.next ?_
    refine WC.seq ?_
    refine WC.region ?_
    refine WL.op rfl rfl (op_move rfl ?_)
    refine WL.op rfl rfl (op_lenA Tryd.underlying78 rfl (H1.arr hA) ?_)
    refine WL.op rfl rfl (op_gtrN (b := 20) rfl rfl ?_)
    refine WL.op rfl rfl (op_move rfl ?_)
    refine WL.split (t := 93) rfl (fun (hb13 : (decide (l.length > 20)) = true) => ?_) (fun (hb13 : (decide (l.length > 20)) = false) => ?_)
    ·
      have hc13 := of_decide_eq_true hb13
      refine WL.no rfl rfl rfl hb13 rfl ?_
      refine WL.no rfl rfl rfl hb13 rfl ?_
      refine WL.op rfl rfl (op_pickT rfl hb13 rfl ?_)
      refine WL.op rfl rfl (op_assign rfl ?_)
      refine WL.nil ?_
      refine WQ.next ?_
      refine WC.ret ?_
      refine WQ.out (.tmp rfl .nil) ?_
      exact ⟨by (rw [lg08, hb13]) <;> rfl, H1.fr⟩
    ·
      have hc13 := of_decide_eq_false hb13
      refine WL.yes rfl rfl rfl hb13 rfl (op_move rfl ?_)
      refine WL.yes rfl rfl rfl hb13 rfl (op_gtrN (b := 2000) rfl rfl ?_)
      refine WL.op rfl rfl (op_pickF rfl hb13 rfl ?_)
      refine WL.op rfl rfl (op_assign rfl ?_)
      refine WL.nil ?_
      refine WQ.next ?_
      refine WC.ret ?_
      refine WQ.out (.tmp rfl .nil) ?_
      exact ⟨by (rw [lg08, hb13, show min l.length 40 = i by omega]) <;> rfl, H1.fr⟩
end Go.Proofs.YtnngbnenekjffaaDoor
/-! from DOb -/
namespace Go.Proofs.YtnngbnenekjffaaDoor
open Go.Owl Go.Spec
set_option maxRecDepth 100000 in
theorem omayo_ok (nm : List UInt8) (lv : Value) (l : List Sy) (w : World) (hA : Arr w lv 7 l.length (List.flatMap syc l)) (hI : SyD.list.ok w l) (hF : ∀ x ∈ l, FitH x) (hn : l.length < 2 ^ 46) (hnm : nm.length < 2 ^ 47) :
    Calls Tryd.prog 64 #[(.agg #[(str nm), lv])] w (fun e w' => e = .returned (.bool (mayOb nm l)) ∧ Fr [] w w') := by
  refine enter (args := [(.agg #[(str nm), lv])]) Tryd.func64 rfl rfl ?_
  have H0 : Own [] w w [] := Own.start w []
  refine WC.seq ?_
  refine WC.region ?_
  refine WL.op rfl rfl (op_box H0 rfl rfl (fun b1 w1 H1 => ?_))
  refine WL.op rfl rfl (op_assign rfl ?_)
  refine WL.nil ?_
  refine WQ.next ?_
  refine WC.seq ?_
  refine WC.region ?_
  refine WL.op rfl rfl (op_makeMap H1 vN (fun b2 w2 H2 => ?_))
  refine WL.op rfl rfl (op_assign rfl ?_)
  refine WL.nil ?_
  refine WQ.next ?_
  refine WC.seq ?_
  refine WC.seq ?_
  refine WC.region ?_
  refine WL.op rfl rfl (op_fieldAddr rfl Fa.F115_0 ?_)
  refine WL.op rfl rfl (op_fieldAddr rfl Fa.F32_1 ?_)
  refine WL.op rfl rfl (op_load rfl (H2.cell (i := 0) rfl rfl) Tryd.underlying30 rfl ?_)
  refine WL.op rfl rfl (op_lenA Tryd.underlying30 rfl (H2.arr hA) ?_)
  refine WL.op rfl rfl (op_move rfl ?_)
  refine WL.nil ?_
  refine WQ.next ?_
  refine WC.block ?_
  refine WC.loop (α := Nat × List (List UInt8 × Nat)) (fun (k, m) => [(1, (ptr b1 0)), (2, (.bool false)), (3, (.map (some b2))), (9, lv), (10, (vN l.length)), (11, (vN k))]) (fun (k, m) w' => (k ≤ l.length ∧ MI m l k ∧ Dst l k ∧ (∀ j, j < k → symB (l.getD j Sy.zero) = true)) ∧ Own [] w w' [.blk b1 [(str nm), lv] 115, .obj b2 (mO vN m)]) (fun (k, m) => l.length - k) (0, []) ⟨⟨Nat.zero_le _, MI.nil, fun i j h1 h2 => by omega, fun j h => by omega⟩, H2⟩ ⟨rfl, rfl, rfl, rfl, rfl, rfl, trivial⟩ ?_
  rintro ⟨k, m⟩ w3 ⟨⟨hk1, hmi, hds, hok⟩, H3⟩
  show WC _ _ _ _ _ [(1, (ptr b1 0)), (2, (.bool false)), (3, (.map (some b2))), (9, lv), (10, (vN l.length)), (11, (vN k))] _
  refine WC.seq ?_
  refine WC.region ?_
  refine WL.op rfl rfl (op_lssN rfl rfl ?_)
  refine WL.nil ?_
  refine WQ.next ?_
  refine WC.seq ?_
  refine WC.cond rfl (fun (hb4 : (decide (k < l.length)) = true) => ?_) (fun (hb4 : (decide (k < l.length)) = false) => ?_)
  ·
    have hc4 := of_decide_eq_true hb4
    have hf := hF (l.getD k Sy.zero) (getDmem (by omega))
    obtain ⟨hf1, hf2, hf3, hf4, hf5⟩ := hf
    refine WC.skip ?_
    refine WQ.next ?_
    refine WC.seq ?_
    refine WC.block ?_
    refine WC.seq ?_
    refine WC.region ?_
    refine WL.op rfl rfl (op_indexAddr Tryd.underlying30 Fa.I26 rfl (H3.arr hA) rfl (by omega) ?_)
    refine WL.op rfl rfl (op_loadSP (vs := syc (l.getD k Sy.zero)) rfl (Arr.atsF (H3.arr hA) (fun _ => rfl) (by decide) Sy.zero (by omega)) Tryd.underlying26 rfl Fa.I26 rfl ?_)
    refine WL.op rfl rfl (op_alloc H3 Fa.I26 (fun b5 w5 H5 => ?_))
    refine WL.op rfl rfl (op_storeBW (i := 2) H5 rfl rfl rfl rfl (one_cons rfl (one_cons rfl (one_cons rfl (one_cons rfl (one_cons rfl (one_cons (Arr.one ((SyD_rl (Deep.getD SyD (Deep.fr0 SyD.list hI H5.fr) Sy.zero (SyD_zero _) k)))) (one_cons (Arr.one ((SyD_nt (Deep.getD SyD (Deep.fr0 SyD.list hI H5.fr) Sy.zero (SyD_zero _) k)))) one_nil))))))) Fa.I26 (fun w6 H6 => ?_))
    refine WL.nil ?_
    refine WQ.next ?_
    refine WC.seq ?_
    refine WC.seq ?_
    refine WC.region ?_
    refine WL.op rfl rfl (op_move rfl ?_)
    refine WL.op rfl rfl (op_fieldAddr rfl Fa.F26_0 ?_)
    refine WL.op rfl rfl (op_load rfl (H6.cell (i := 2) rfl rfl) Tryd.underlying9 rfl ?_)
    refine WL.op rfl rfl (op_lookupG1 (i := 1) (c := 0) H6 rfl Tryd.underlying133 Tryd.underlying9 Fa.Z3 rfl rfl ?_)
    refine WL.op rfl rfl (op_gtrN (b := 0) rfl rfl ?_)
    refine WL.op rfl rfl (op_move rfl ?_)
    refine WL.split (t := 20) rfl (fun (hb7 : (decide (((mget (l.getD k Sy.zero).nm m).getD 0) > 0)) = true) => ?_) (fun (hb7 : (decide (((mget (l.getD k Sy.zero).nm m).getD 0) > 0)) = false) => ?_)
    ·
      have hc7 := of_decide_eq_true hb7
      refine WL.no rfl rfl rfl hb7 rfl ?_
      refine WL.no rfl rfl rfl hb7 rfl ?_
      refine WL.no rfl rfl rfl hb7 rfl ?_
      refine WL.no rfl rfl rfl hb7 rfl ?_
      refine WL.op rfl rfl (op_pickT rfl hb7 rfl ?_)
      refine WL.nil ?_
      refine WQ.next ?_
      refine WC.yes rfl rfl ?_
      refine WC.seq ?_
      refine WC.region ?_
      refine WL.op rfl rfl (op_assign rfl ?_)
      refine WL.nil ?_
      refine WQ.next ?_
      refine WC.ret ?_
      refine WQ.thenRet ?_
      refine WQ.inRet ?_
      refine WQ.thenRet ?_
      refine WQ.thenRet ?_
      refine WQ.inRet ?_
      refine WQ.thenRet ?_
      refine WQ.out (.tmp rfl .nil) ?_
      exact ⟨by obtain ⟨j, hj, e⟩ := hmi.dup (of_decide_eq_true hb7); rw [may_dup (k := k) (by omega) hj e]; rfl, H6.fr⟩
    ·
      have hc7 := of_decide_eq_false hb7
      refine WL.yes rfl rfl rfl hb7 rfl (op_loadS (vs := [_, _, _, _, _, _, _]) rfl (H6.cells (i := 2) rfl rfl) Tryd.underlying26 rfl Fa.I26 rfl ?_)
      refine WL.yes rfl rfl rfl hb7 rfl (op_build (cs := [_, _, _, _, _, _, _]) Fa.I111 Fa.PL111 rfl rfl ?_)
      refine WL.yes rfl rfl rfl hb7 rfl (op_callF Fa.C61 rfl ((omay_ok (l.getD k Sy.zero) _ (SyD_mk (x := (l.getD k Sy.zero)) ((SyD_rl (Deep.getD SyD (Deep.fr0 SyD.list hI H6.fr) Sy.zero (SyD_zero _) k))) ((SyD_nt (Deep.getD SyD (Deep.fr0 SyD.list hI H6.fr) Sy.zero (SyD_zero _) k)))) hf1 hf2 hf3 hf4 hf5).mono (fun e w8 hq => ?_)))
      obtain ⟨rfl, hf8⟩ := hq
      refine ⟨_, rfl, ?_⟩
      have H8 := H6.fr' hf8
      refine WL.yes rfl rfl rfl hb7 rfl (op_not rfl ?_)
      refine WL.op rfl rfl (op_pickF rfl hb7 rfl ?_)
      refine WL.nil ?_
      refine WQ.next ?_
      refine WC.cond rfl (fun (hb9 : (!(symB (l.getD k Sy.zero))) = true) => ?_) (fun (hb9 : (!(symB (l.getD k Sy.zero))) = false) => ?_)
      ·
        have hn9 := (Bool.not_eq_true' _).mp hb9
        refine WC.seq ?_
        refine WC.region ?_
        refine WL.op rfl rfl (op_assign rfl ?_)
        refine WL.nil ?_
        refine WQ.next ?_
        refine WC.ret ?_
        refine WQ.thenRet ?_
        refine WQ.inRet ?_
        refine WQ.thenRet ?_
        refine WQ.thenRet ?_
        refine WQ.inRet ?_
        refine WQ.thenRet ?_
        refine WQ.out (.tmp rfl .nil) ?_
        exact ⟨by rw [may_sym (k := k) (by omega) hn9]; rfl, H8.fr⟩
      ·
        have hn9 := (Bool.not_eq_false' _).mp hb9
        refine WC.skip ?_
        refine WQ.next ?_
        refine WC.region ?_
        refine WL.op rfl rfl (op_move rfl ?_)
        refine WL.op rfl rfl (op_fieldAddr rfl Fa.F26_0 ?_)
        refine WL.op rfl rfl (op_load rfl (H8.cell (i := 2) rfl rfl) Tryd.underlying9 rfl ?_)
        refine WL.op rfl rfl (op_lookupG1 (i := 1) (c := 0) H8 rfl Tryd.underlying133 Tryd.underlying9 Fa.Z3 rfl rfl ?_)
        refine WL.op rfl rfl (op_addN (b := 1) rfl rfl (by omega) ?_)
        refine WL.op rfl rfl (op_mapUpdate (i := 1) (v := (((mget (l.getD k Sy.zero).nm m).getD 0) + 1)) H8 rfl Tryd.underlying133 Tryd.underlying9 rfl rfl rfl (fun w10 H10 => ?_))
        refine WL.nil ?_
        refine WQ.inNormal ?_
        refine WQ.next ?_
        refine WC.region ?_
        refine WL.op rfl rfl (op_addN (b := 1) rfl rfl (by omega) ?_)
        refine WL.op rfl rfl (op_move rfl ?_)
        refine WL.nil ?_
        exact WQ.round (k + 1, (mset (l.getD k Sy.zero).nm (((mget (l.getD k Sy.zero).nm m).getD 0) + 1) m)) ⟨⟨by omega, hmi.add, hmi.dst hds (of_decide_eq_false hb7), allPrev hok hn9⟩, (H10.take 2)⟩ ⟨rfl, rfl, rfl, rfl, rfl, rfl, trivial⟩ (by show l.length - (k + 1) < l.length - k; omega)
  ·
    have hc4 := of_decide_eq_false hb4
    refine WC.exit ?_
    refine WQ.thenExit ?_
    refine WQ.thenExit ?_
    refine WQ.inHere ?_
    refine WQ.next ?_
    refine WC.seq ?_
    refine WC.region ?_
    refine WL.op rfl rfl (op_fieldAddr rfl Fa.F115_0 ?_)
    refine WL.op rfl rfl (op_fieldAddr rfl Fa.F32_0 ?_)
    refine WL.op rfl rfl (op_load rfl (H3.cell (i := 0) rfl rfl) Tryd.underlying9 rfl ?_)
    refine WL.op rfl rfl (op_callF Fa.C80 rfl ((oname_ok nm _ hnm).mono (fun e w11 hq => ?_)))
    obtain ⟨rfl, hf11⟩ := hq
    refine ⟨_, rfl, ?_⟩
    have H11 := H3.fr' hf11
    refine WL.op rfl rfl (op_move rfl ?_)
    refine WL.split (t := 36) rfl (fun (hb12 : (nameB nm) = true) => ?_) (fun (hb12 : (nameB nm) = false) => ?_)
    ·
      refine WL.yes rfl rfl rfl hb12 rfl (op_fieldAddr rfl Fa.F115_0 ?_)
      refine WL.yes rfl rfl rfl hb12 rfl (op_fieldAddr rfl Fa.F32_1 ?_)
      refine WL.yes rfl rfl rfl hb12 rfl (op_load rfl (H11.cell (i := 0) rfl rfl) Tryd.underlying30 rfl ?_)
      refine WL.yes rfl rfl rfl hb12 rfl (op_lenA Tryd.underlying30 rfl (H11.arr hA) ?_)
      refine WL.yes rfl rfl rfl hb12 rfl (op_leqN (b := 64) rfl rfl ?_)
      refine WL.op rfl rfl (op_pickT rfl hb12 rfl ?_)
      refine WL.op rfl rfl (op_assign rfl ?_)
      refine WL.nil ?_
      refine WQ.next ?_
      refine WC.ret ?_
      refine WQ.out (.tmp rfl .nil) ?_
      obtain rfl : k = l.length := by omega
      exact ⟨by (rw [may_end hok hds, hb12]) <;> rfl, H11.fr⟩
    ·
      refine WL.no rfl rfl rfl hb12 rfl ?_
      refine WL.no rfl rfl rfl hb12 rfl ?_
      refine WL.no rfl rfl rfl hb12 rfl ?_
      refine WL.no rfl rfl rfl hb12 rfl ?_
      refine WL.no rfl rfl rfl hb12 rfl ?_
      refine WL.op rfl rfl (op_pickF rfl hb12 rfl ?_)
      refine WL.op rfl rfl (op_assign rfl ?_)
      refine WL.nil ?_
      refine WQ.next ?_
      refine WC.ret ?_
      refine WQ.out (.tmp rfl .nil) ?_
      obtain rfl : k = l.length := by omega
      exact ⟨by (rw [may_end hok hds, hb12]) <;> rfl, H11.fr⟩
set_option maxRecDepth 100000 in
theorem ocheck_ok (nm : List UInt8) (lv : Value) (l : List Sy) (w : World) (hA : Arr w lv 7 l.length (List.flatMap syc l)) (hI : SyD.list.ok w l) (hF : ∀ x ∈ l, FitH x) (hn : l.length < 2 ^ 46) (hnm : nm.length < 2 ^ 47) :
    Calls Tryd.prog 31 #[(.agg #[(str nm), lv])] w (fun e w' => e = .returned (vN (toldN (mayOb nm l))) ∧ Fr [] w w') := by
  refine enter (args := [(.agg #[(str nm), lv])]) Tryd.func31 rfl rfl ?_
  have H0 : Own [] w w [] := Own.start w []
  refine WC.seq ?_
  refine WC.region ?_
  refine WL.op rfl rfl (op_box H0 rfl rfl (fun b1 w1 H1 => ?_))
  refine WL.op rfl rfl (op_assign rfl ?_)
  refine WL.nil ?_
  refine WQ.next ?_
  refine WC.seq ?_
  refine WC.region ?_
  refine WL.op rfl rfl (op_loadS (vs := [_, _]) rfl (H1.cells (i := 0) rfl rfl) Tryd.underlying32 rfl Fa.I32 rfl ?_)
  refine WL.op rfl rfl (op_build (cs := [_, _]) Fa.I115 Fa.PL115 rfl rfl ?_)
  refine WL.op rfl rfl (op_callF Fa.C64 rfl ((omayo_ok nm _ l _ (H1.arr hA) (Deep.fr0 SyD.list hI H1.fr) hF hn hnm).mono (fun e w2 hq => ?_)))
  obtain ⟨rfl, hf2⟩ := hq
  refine ⟨_, rfl, ?_⟩
  have H2 := H1.fr' hf2
  refine WL.op rfl rfl (op_callF Fa.C60 rfl ((told_ok (mayOb nm l) _).mono (fun e w3 hq => ?_)))
  obtain ⟨rfl, hf3⟩ := hq
  refine ⟨_, rfl, ?_⟩
  have H3 := H2.fr' hf3
  refine WL.op rfl rfl (op_assign rfl ?_)
  refine WL.nil ?_
  refine WQ.next ?_
  refine WC.ret ?_
  refine WQ.out (.tmp rfl .nil) ?_
  exact ⟨rfl, H3.fr⟩
set_option maxRecDepth 100000 in
theorem fn1_ok (x : Sy) (s : List UInt8) (q : Nat) (w : World) (hQ : cellsAt w q [(str s)]) (hI : SyD.ok w x) :
    Calls Tryd.prog 66 #[(.agg #[(str x.nm), (vU8 x.bind), (vU8 x.kind), (vU32 x.size), (str x.b), x.rv, x.nv]), (ptr q 0)] w (fun e w' => e = .returned (.bool (decide (x.nm = s))) ∧ Fr [] w w') := by
  refine enter (args := [(.agg #[(str x.nm), (vU8 x.bind), (vU8 x.kind), (vU32 x.size), (str x.b), x.rv, x.nv]), (ptr q 0)]) Tryd.func66 rfl rfl ?_
  have H0 : Own [] w w [Ent.bo q [(str s)]] := ((Own.start w []).oldB hQ)
  refine WC.seq ?_
  refine WC.region ?_
  refine WL.op rfl rfl (op_box H0 rfl rfl (fun b1 w1 H1 => ?_))
  refine WL.op rfl rfl (op_assign rfl ?_)
  refine WL.nil ?_
  refine WQ.next ?_
  refine WC.seq ?_
  refine WC.region ?_
  refine WL.op rfl rfl (op_fieldAddr rfl Fa.F26_0 ?_)
  refine WL.op rfl rfl (op_load rfl (H1.cell (i := 1) rfl rfl) Tryd.underlying9 rfl ?_)
  refine WL.op rfl rfl (op_load rfl (H1.cellO (i := 0) rfl rfl) Tryd.underlying9 rfl ?_)
  refine WL.op rfl rfl (op_eqlStr rfl rfl ?_)
  refine WL.op rfl rfl (op_assign rfl ?_)
  refine WL.nil ?_
  refine WQ.next ?_
  refine WC.ret ?_
  refine WQ.out (.tmp rfl .nil) ?_
  exact ⟨rfl, H1.fr⟩
set_option maxRecDepth 100000 in
theorem idxY_ok (lv : Value) (l : List Sy) (s : List UInt8) (q : Nat) (w : World) (hA : Arr w lv 7 l.length (List.flatMap syc l)) (hI : SyD.list.ok w l) (hQ : cellsAt w q [(str s)]) (hn : l.length < 2 ^ 46) :
    Calls Tryd.prog 65 #[lv, (.func (.func 66) #[] #[(ptr q 0)])] w (fun e w' => e = .returned (vI (findN s l)) ∧ Fr [] w w') := by
  refine enter (args := [lv, (.func (.func 66) #[] #[(ptr q 0)])]) Tryd.func65 rfl rfl ?_
  have H0 : Own [] w w [Ent.bo q [(str s)]] := ((Own.start w []).oldB hQ)
  refine WC.seq ?_
  refine WC.region ?_
  refine WL.op rfl rfl (op_assign rfl ?_)
  refine WL.nil ?_
  refine WQ.next ?_
  refine WC.seq ?_
  refine WC.seq ?_
  refine WC.region ?_
  refine WL.op rfl rfl (op_move rfl ?_)
  refine WL.op rfl rfl (op_lenA Tryd.underlying30 rfl (H0.arr hA) ?_)
  refine WL.op rfl rfl (op_move rfl ?_)
  refine WL.nil ?_
  refine WQ.next ?_
  refine WC.block ?_
  refine WC.loop (α := Nat) (fun k => [(0, lv), (1, (.func (.func 66) #[] #[(ptr q 0)])), (7, (vN l.length)), (8, (vN k))]) (fun k w' => (k ≤ l.length ∧ (∀ j, j < k → decide ((l.getD j Sy.zero).nm = s) = false)) ∧ Own [] w w' [Ent.bo q [(str s)]]) (fun k => l.length - k) 0 ⟨⟨Nat.zero_le _, fun j h => by omega⟩, H0⟩ ⟨rfl, rfl, rfl, rfl, trivial⟩ ?_
  rintro k w1 ⟨⟨hk1, hok⟩, H1⟩
  show WC _ _ _ _ _ [(0, lv), (1, (.func (.func 66) #[] #[(ptr q 0)])), (7, (vN l.length)), (8, (vN k))] _
  refine WC.seq ?_
  refine WC.region ?_
  refine WL.op rfl rfl (op_lssN rfl rfl ?_)
  refine WL.nil ?_
  refine WQ.next ?_
  refine WC.seq ?_
  refine WC.cond rfl (fun (hb2 : (decide (k < l.length)) = true) => ?_) (fun (hb2 : (decide (k < l.length)) = false) => ?_)
  ·
    have hc2 := of_decide_eq_true hb2
    refine WC.skip ?_
    refine WQ.next ?_
    refine WC.seq ?_
    refine WC.block ?_
    refine WC.seq ?_
    refine WC.region ?_
    refine WL.op rfl rfl (op_move rfl ?_)
    refine WL.op rfl rfl (op_assign rfl ?_)
    refine WL.nil ?_
    refine WQ.next ?_
    refine WC.seq ?_
    refine WC.region ?_
    refine WL.op rfl rfl (op_move rfl ?_)
    refine WL.op rfl rfl (op_move rfl ?_)
    refine WL.op rfl rfl (op_move rfl ?_)
    refine WL.op rfl rfl (op_indexAddr Tryd.underlying30 Fa.I26 rfl (H1.arr hA) rfl (by omega) ?_)
    refine WL.op rfl rfl (op_loadSP (vs := syc (l.getD k Sy.zero)) rfl (Arr.atsF (H1.arr hA) (fun _ => rfl) (by decide) Sy.zero (by omega)) Tryd.underlying26 rfl Fa.I26 rfl ?_)
    refine WL.op rfl rfl (op_call (f := 66) rfl Fa.C66 rfl ((fn1_ok (l.getD k Sy.zero) s q _ (H1.cellsAtO (i := 0) rfl) (SyD_mk (x := (l.getD k Sy.zero)) ((SyD_rl (Deep.getD SyD (Deep.fr0 SyD.list hI H1.fr) Sy.zero (SyD_zero _) k))) ((SyD_nt (Deep.getD SyD (Deep.fr0 SyD.list hI H1.fr) Sy.zero (SyD_zero _) k))))).mono (fun e w3 hq => ?_)))
    obtain ⟨rfl, hf3⟩ := hq
    refine ⟨_, rfl, ?_⟩
    have H3 := H1.fr' hf3
    refine WL.nil ?_
    refine WQ.next ?_
    refine WC.cond rfl (fun (hb4 : (decide ((l.getD k Sy.zero).nm = s)) = true) => ?_) (fun (hb4 : (decide ((l.getD k Sy.zero).nm = s)) = false) => ?_)
    ·
      have hc4 := of_decide_eq_true hb4
      refine WC.seq ?_
      refine WC.region ?_
      refine WL.op rfl rfl (op_move rfl ?_)
      refine WL.op rfl rfl (op_assign rfl ?_)
      refine WL.nil ?_
      refine WQ.next ?_
      refine WC.ret ?_
      refine WQ.inRet ?_
      refine WQ.thenRet ?_
      refine WQ.thenRet ?_
      refine WQ.inRet ?_
      refine WQ.thenRet ?_
      refine WQ.out (.tmp rfl .nil) ?_
      exact ⟨by rw [findN, fidx_yes (p := (fun x : Sy => decide (x.nm = s))) (d := Sy.zero) (by omega) hok hb4]; rfl, H3.fr⟩
    ·
      have hc4 := of_decide_eq_false hb4
      refine WC.skip ?_
      refine WQ.inNormal ?_
      refine WQ.next ?_
      refine WC.region ?_
      refine WL.op rfl rfl (op_addN (b := 1) rfl rfl (by omega) ?_)
      refine WL.op rfl rfl (op_move rfl ?_)
      refine WL.nil ?_
      exact WQ.round (k + 1) ⟨⟨by omega, allPrev hok hb4⟩, H3⟩ ⟨rfl, rfl, rfl, rfl, trivial⟩ (by omega)
  ·
    have hc2 := of_decide_eq_false hb2
    refine WC.exit ?_
    refine WQ.thenExit ?_
    refine WQ.thenExit ?_
    refine WQ.inHere ?_
    refine WQ.next ?_
    refine WC.seq ?_
    refine WC.region ?_
    refine WL.op rfl rfl (op_assign rfl ?_)
    refine WL.nil ?_
    refine WQ.next ?_
    refine WC.ret ?_
    refine WQ.out (.tmp rfl .nil) ?_
    exact ⟨by rw [findN, fidx_no (p := (fun x : Sy => decide (x.nm = s))) (d := Sy.zero) (fun j hj => hok j (by omega))]; rfl, H1.fr⟩
set_option maxRecDepth 100000 in
theorem ofind_ok (nm : List UInt8) (lv : Value) (l : List Sy) (s : List UInt8) (w : World) (hA : Arr w lv 7 l.length (List.flatMap syc l)) (hI : SyD.list.ok w l) (hF : ∀ x ∈ l, FitH x) (hn : l.length < 2 ^ 46) (hnm : nm.length < 2 ^ 47) :
    Calls Tryd.prog 35 #[(.agg #[(str nm), lv]), (str s)] w (fun e w' => e = .returned (.tuple #[vN (findI nm s l), .bool (findB nm s l)]) ∧ Fr [] w w') := by
  refine enter (args := [(.agg #[(str nm), lv]), (str s)]) Tryd.func35 rfl rfl ?_
  have H0 : Own [] w w [] := Own.start w []
  refine WC.seq ?_
  refine WC.region ?_
  refine WL.op rfl rfl (op_box H0 rfl rfl (fun b1 w1 H1 => ?_))
  refine WL.op rfl rfl (op_box H1 rfl rfl (fun b2 w2 H2 => ?_))
  refine WL.op rfl rfl (op_assign rfl ?_)
  refine WL.op rfl rfl (op_assign rfl ?_)
  refine WL.nil ?_
  refine WQ.next ?_
  refine WC.seq ?_
  refine WC.region ?_
  refine WL.op rfl rfl (op_fieldAddr rfl Fa.F32_1 ?_)
  refine WL.op rfl rfl (op_load rfl (H2.cell (i := 0) rfl rfl) Tryd.underlying30 rfl ?_)
  refine WL.op rfl rfl (op_makeFunc rfl rfl ?_)
  refine WL.op rfl rfl (op_callF Fa.C65 rfl ((idxY_ok _ l s b2 _ (H2.arr hA) (Deep.fr0 SyD.list hI H2.fr) (H2.cellsAt (i := 1) rfl) hn).mono (fun e w3 hq => ?_)))
  obtain ⟨rfl, hf3⟩ := hq
  refine ⟨_, rfl, ?_⟩
  have H3 := H2.fr' hf3
  refine WL.op rfl rfl (op_assign rfl ?_)
  refine WL.nil ?_
  refine WQ.next ?_
  refine WC.seq ?_
  refine WC.seq ?_
  refine WC.region ?_
  refine WL.op rfl rfl (op_move rfl ?_)
  refine WL.op rfl rfl (op_lssI (b := (0 : Int)) rfl rfl ?_)
  refine WL.op rfl rfl (op_move rfl ?_)
  refine WL.split (t := 13) rfl (fun (hb4 : (decide ((findN s l) < (0 : Int))) = true) => ?_) (fun (hb4 : (decide ((findN s l) < (0 : Int))) = false) => ?_)
  ·
    have hc4 := of_decide_eq_true hb4
    refine WL.no rfl rfl rfl hb4 rfl ?_
    refine WL.no rfl rfl rfl hb4 rfl ?_
    refine WL.no rfl rfl rfl hb4 rfl ?_
    refine WL.op rfl rfl (op_pickT rfl hb4 rfl ?_)
    refine WL.nil ?_
    refine WQ.next ?_
    refine WC.yes rfl rfl ?_
    refine WC.seq ?_
    refine WC.region ?_
    refine WL.op rfl rfl (op_assign rfl ?_)
    refine WL.op rfl rfl (op_assign rfl ?_)
    refine WL.nil ?_
    refine WQ.next ?_
    refine WC.ret ?_
    refine WQ.thenRet ?_
    refine WQ.out (.tmp rfl (.tmp rfl .nil)) ?_
    exact ⟨by rw [(find_neg (nm := nm) (of_decide_eq_true hb4)).1, (find_neg (nm := nm) (of_decide_eq_true hb4)).2]; rfl, H3.fr⟩
  ·
    have hc4 := of_decide_eq_false hb4
    refine WL.yes rfl rfl rfl hb4 rfl (op_loadS (vs := [_, _]) rfl (H3.cells (i := 0) rfl rfl) Tryd.underlying32 rfl Fa.I32 rfl ?_)
    refine WL.yes rfl rfl rfl hb4 rfl (op_callF Fa.C31 rfl ((ocheck_ok nm _ l _ (H3.arr hA) (Deep.fr0 SyD.list hI H3.fr) hF hn hnm).mono (fun e w5 hq => ?_)))
    obtain ⟨rfl, hf5⟩ := hq
    refine ⟨_, rfl, ?_⟩
    have H5 := H3.fr' hf5
    refine WL.yes rfl rfl rfl hb4 rfl (op_neqN (b := 0) rfl rfl ?_)
    refine WL.op rfl rfl (op_pickF rfl hb4 rfl ?_)
    refine WL.nil ?_
    refine WQ.next ?_
    refine WC.cond rfl (fun (hb6 : (decide ((toldN (mayOb nm l)) ≠ 0)) = true) => ?_) (fun (hb6 : (decide ((toldN (mayOb nm l)) ≠ 0)) = false) => ?_)
    ·
      have hc6 := of_decide_eq_true hb6
      refine WC.seq ?_
      refine WC.region ?_
      refine WL.op rfl rfl (op_assign rfl ?_)
      refine WL.op rfl rfl (op_assign rfl ?_)
      refine WL.nil ?_
      refine WQ.next ?_
      refine WC.ret ?_
      refine WQ.thenRet ?_
      refine WQ.out (.tmp rfl (.tmp rfl .nil)) ?_
      exact ⟨by rw [(find_no (nm := nm) (s := s) (.inl (told_no hb6))).1, (find_no (nm := nm) (s := s) (.inl (told_no hb6))).2]; rfl, H5.fr⟩
    ·
      have hc6 := of_decide_eq_false hb6
      refine WC.skip ?_
      refine WQ.next ?_
      refine WC.seq ?_
      refine WC.region ?_
      refine WL.op rfl rfl (op_move rfl ?_)
      refine WL.op rfl rfl (op_assign rfl ?_)
      refine WL.op rfl rfl (op_assign rfl ?_)
      refine WL.nil ?_
      refine WQ.next ?_
      refine WC.ret ?_
      refine WQ.out (.tmp rfl (.tmp rfl .nil)) ?_
      exact ⟨by have hfy := find_yes (nm := nm) (told_yes hb6) (of_decide_eq_false hb4); rw [hfy.2, ← hfy.1]; rfl, H5.fr⟩
end Go.Proofs.YtnngbnenekjffaaDoor
/-! from DSort -/
namespace Go.Proofs.YtnngbnenekjffaaDoor
open Go.Owl Go.Spec
set_option maxRecDepth 100000 in
theorem nan_ok (x : (List UInt8)) (w : World) :
    Calls Tryd.prog 117 #[(str x)] w (fun e w' => e = .returned (.bool false) ∧ Fr [] w w') := by
  refine enter (args := [(str x)]) Tryd.func117 rfl rfl ?_
  have H0 : Own [] w w [] := Own.start w []
  refine WC.seq ?_
  refine WC.region ?_
  refine WL.op rfl rfl (op_assign rfl ?_)
  refine WL.nil ?_
  refine WQ.next ?_
  refine WC.seq ?_
  refine WC.region ?_
  refine WL.op rfl rfl (op_move rfl ?_)
  refine WL.op rfl rfl (op_move rfl ?_)
  refine WL.op rfl rfl (op_neqStr rfl rfl ?_)
  refine WL.op rfl rfl (op_assign rfl ?_)
  refine WL.nil ?_
  refine WQ.next ?_
  refine WC.ret ?_
  refine WQ.out (.tmp rfl .nil) ?_
  exact ⟨by rw [show decide (x ≠ x) = false from decide_eq_false (fun h => h rfl)]; rfl, H0.fr⟩
set_option maxRecDepth 100000 in
theorem less_ok (x y : (List UInt8)) (w : World) :
    Calls Tryd.prog 100 #[(str x), (str y)] w (fun e w' => e = .returned (.bool (ltStr x y)) ∧ Fr [] w w') := by
  refine enter (args := [(str x), (str y)]) Tryd.func100 rfl rfl ?_
  have H0 : Own [] w w [] := Own.start w []
  refine WC.seq ?_
  refine WC.region ?_
  refine WL.op rfl rfl (op_assign rfl ?_)
  refine WL.nil ?_
  refine WQ.next ?_
  refine WC.seq ?_
  refine WC.region ?_
  refine WL.op rfl rfl (op_move rfl ?_)
  refine WL.op rfl rfl (op_callF Fa.C117 rfl ((nan_ok x _).mono (fun e w1 hq => ?_)))
  obtain ⟨rfl, hf1⟩ := hq
  refine ⟨_, rfl, ?_⟩
  have H1 := H0.fr' hf1
  refine WL.op rfl rfl (op_move rfl ?_)
  refine WL.no rfl rfl rfl rfl rfl ?_
  refine WL.no rfl rfl rfl rfl rfl ?_
  refine WL.no rfl rfl rfl rfl rfl ?_
  refine WL.op rfl rfl (op_pickF rfl rfl rfl ?_)
  refine WL.op rfl rfl (op_move rfl ?_)
  refine WL.yes rfl rfl rfl rfl rfl (op_move rfl ?_)
  refine WL.yes rfl rfl rfl rfl rfl (op_move rfl ?_)
  refine WL.yes rfl rfl rfl rfl rfl (op_lssStr rfl rfl ?_)
  refine WL.op rfl rfl (op_pickF rfl rfl rfl ?_)
  refine WL.op rfl rfl (op_assign rfl ?_)
  refine WL.nil ?_
  refine WQ.next ?_
  refine WC.ret ?_
  refine WQ.out (.tmp rfl .nil) ?_
  exact ⟨rfl, H1.fr⟩
set_option maxRecDepth 100000 in
theorem ins_ok (v : Value) (n : Nat) (l : List (List UInt8)) (a b : Nat) (T : List Nat) (w : World) (H : Own T w w [.row v 9 1 n (List.map str l)]) (hn : l.length = n) (hN : n < 2 ^ 62) (hb : b ≤ n) (ha : a ≤ n) :
    Calls Tryd.prog 94 #[v, (vN a), (vN b)] w (fun e w' => ∃ l' : List (List UInt8), e = .returned undef ∧ (Sw [] a b l l' ∧ SortS ltStr [] a b l') ∧ Own T w w' [.row v 9 1 n (List.map str l')]) := by
  refine enter (args := [v, (vN a), (vN b)]) Tryd.func94 rfl rfl ?_
  refine WC.seq ?_
  refine WC.region ?_
  refine WL.op rfl rfl (op_move rfl ?_)
  refine WL.op rfl rfl (op_addN (b := 1) rfl rfl (by omega) ?_)
  refine WL.op rfl rfl (op_assign rfl ?_)
  refine WL.nil ?_
  refine WQ.next ?_
  refine WC.block ?_
  refine WC.loop (α := Nat × List (List UInt8)) (fun (i, l1) => [(0, v), (1, (vN a)), (2, (vN b)), (6, (vN i))]) (fun (i, l1) w' => (a + 1 ≤ i ∧ i ≤ max b (a + 1) ∧ Sw [] a b l l1 ∧ SortS ltStr [] a i l1) ∧ Own T w w' [.row v 9 1 n (List.map str l1)]) (fun (i, l1) => b - i) (a + 1, l) ⟨⟨Nat.le_refl _, by omega, .refl _, SortS.nil (by omega)⟩, H⟩ ⟨rfl, rfl, rfl, rfl, trivial⟩ ?_
  rintro ⟨i, l1⟩ w1 ⟨⟨hi1, hi2, hs1, ho1⟩, H1⟩
  show WC _ _ _ _ _ [(0, v), (1, (vN a)), (2, (vN b)), (6, (vN i))] _
  have hL1 := hs1.len
  refine WC.seq ?_
  refine WC.seq ?_
  refine WC.region ?_
  refine WL.op rfl rfl (op_move rfl ?_)
  refine WL.op rfl rfl (op_move rfl ?_)
  refine WL.op rfl rfl (op_lssN rfl rfl ?_)
  refine WL.nil ?_
  refine WQ.next ?_
  refine WC.cond rfl (fun (hb2 : (decide (i < b)) = true) => ?_) (fun (hb2 : (decide (i < b)) = false) => ?_)
  ·
    have hc2 := of_decide_eq_true hb2
    refine WC.skip ?_
    refine WQ.next ?_
    refine WC.seq ?_
    refine WC.block ?_
    refine WC.seq ?_
    refine WC.region ?_
    refine WL.op rfl rfl (op_move rfl ?_)
    refine WL.op rfl rfl (op_assign rfl ?_)
    refine WL.nil ?_
    refine WQ.next ?_
    refine WC.block ?_
    refine WC.loop (α := Nat × List (List UInt8)) (fun (j, l2) => [(0, v), (1, (vN a)), (2, (vN b)), (6, (vN i)), (7, (vN j))]) (fun (j, l2) w' => (a ≤ j ∧ j ≤ i ∧ Sw [] a b l l2 ∧ InsI ltStr [] a i j l2) ∧ Own T w w' [.row v 9 1 n (List.map str l2)]) (fun (j, l2) => j) (i, l1) ⟨⟨by omega, Nat.le_refl _, hs1, ins_init ho1⟩, H1⟩ ⟨rfl, rfl, rfl, rfl, rfl, trivial⟩ ?_
    rintro ⟨j, l2⟩ w3 ⟨⟨hj1, hj2, hs2, hj3⟩, H3⟩
    show WC _ _ _ _ _ [(0, v), (1, (vN a)), (2, (vN b)), (6, (vN i)), (7, (vN j))] _
    have hL2 := hs2.len
    refine WC.seq ?_
    refine WC.seq ?_
    refine bsplit (fun (hb4 : (decide (j > a)) = true) => ?_) (fun (hb4 : (decide (j > a)) = false) => ?_)
    ·
      have hc4 := of_decide_eq_true hb4
      refine WC.draw 15 Fa.M H3 (HW.op rfl (fun w1 H1 => op_move rfl ⟨rfl, Fr.refl _ _⟩) (HW.op rfl (fun w1 H1 => op_move rfl ⟨rfl, Fr.refl _ _⟩) (HW.op rfl (fun w1 H1 => op_gtrN rfl rfl ⟨rfl, Fr.refl _ _⟩) (HW.op rfl (fun w1 H1 => op_move rfl ⟨rfl, Fr.refl _ _⟩) (HW.yes rfl rfl rfl hb4 (fun w1 H1 => op_move rfl ⟨rfl, Fr.refl _ _⟩) (HW.yes rfl rfl rfl hb4 (fun w1 H1 => op_move rfl ⟨rfl, Fr.refl _ _⟩) (HW.yes rfl rfl rfl hb4 (fun w1 H1 => op_indexAddr1 Tryd.underlying80 Fa.I9 rfl (H1.arrR (i := 0) rfl) rfl (by omega) ⟨rfl, Fr.refl _ _⟩) (HW.yes rfl rfl rfl hb4 (fun w1 H1 => op_load rfl ((H1.arrR (i := 0) rfl).at (get_map str [] (Arr.ltM (H1.arrR (i := 0) rfl) (by omega)))) Tryd.underlying9 rfl ⟨rfl, Fr.refl _ _⟩) (HW.yes rfl rfl rfl hb4 (fun w1 H1 => op_move rfl ⟨rfl, Fr.refl _ _⟩) (HW.yes rfl rfl rfl hb4 (fun w1 H1 => op_move rfl ⟨rfl, Fr.refl _ _⟩) (HW.yes rfl rfl rfl hb4 (fun w1 H1 => op_subN (b := 1) rfl rfl (by omega) (by omega) ⟨rfl, Fr.refl _ _⟩) (HW.yes rfl rfl rfl hb4 (fun w1 H1 => op_indexAddr1 Tryd.underlying80 Fa.I9 rfl (H1.arrR (i := 0) rfl) rfl (by omega) ⟨rfl, Fr.refl _ _⟩) (HW.yes rfl rfl rfl hb4 (fun w1 H1 => op_load rfl ((H1.arrR (i := 0) rfl).at (get_map str [] (Arr.ltM (H1.arrR (i := 0) rfl) (by omega)))) Tryd.underlying9 rfl ⟨rfl, Fr.refl _ _⟩) (HW.yes rfl rfl rfl hb4 (fun w1 H1 => op_callF Fa.C100 rfl ((less_ok (l2.getD j []) (l2.getD (j - 1) []) _).mono (fun e w2 hq => ⟨_, hq.1, rfl, hq.2⟩))) (HW.op rfl (fun w1 H1 => op_pickT rfl hb4 rfl ⟨rfl, Fr.refl _ _⟩)  HW.nil))))))))))))))) (by kernel_rfl) ?_
      intro β6 w6 H6
      refine WL.nil ?_
      refine WQ.next ?_
      refine WC.cond rfl (fun (hb7 : (ltStr (l2.getD j []) (l2.getD (j - 1) [])) = true) => ?_) (fun (hb7 : (ltStr (l2.getD j []) (l2.getD (j - 1) [])) = false) => ?_)
      ·
        refine WC.skip ?_
        refine WQ.next ?_
        refine WC.seq ?_
        refine WC.block ?_
        refine WC.held 18 rfl Fa.M H6 (fun w' => ∃ L', Own T w w' ([] ++ L')) ?_
        intro w8 H8
        refine WH.take (i := 0) (v := v) rfl rfl (.inl rfl) rfl (by kernel_rfl) ⟨[.row v 9 1 n (List.map str l2)], H8⟩ (fun wX hSX => hSX.elim fun LX HX => op_move rfl ⟨rfl, rfl⟩) ?_
        refine WH.take (i := 1) (v := (vN j)) rfl rfl (.inl rfl) rfl (by kernel_rfl) ⟨[.row v 9 1 n (List.map str l2)], H8⟩ (fun wX hSX => hSX.elim fun LX HX => op_move rfl ⟨rfl, rfl⟩) ?_
        refine WH.take (i := 2) (v := v) rfl rfl (.inl rfl) rfl (by kernel_rfl) ⟨[.row v 9 1 n (List.map str l2)], H8⟩ (fun wX hSX => hSX.elim fun LX HX => op_move rfl ⟨rfl, rfl⟩) ?_
        refine WH.take (i := 3) (v := (vN j)) rfl rfl (.inl rfl) rfl (by kernel_rfl) ⟨[.row v 9 1 n (List.map str l2)], H8⟩ (fun wX hSX => hSX.elim fun LX HX => op_move rfl ⟨rfl, rfl⟩) ?_
        refine WH.take (i := 4) (v := (vN (j - 1))) rfl rfl (.inl rfl) rfl (by kernel_rfl) ⟨[.row v 9 1 n (List.map str l2)], H8⟩ (fun wX hSX => hSX.elim fun LX HX => op_subN (b := 1) rfl rfl (by omega) (by omega) ⟨rfl, rfl⟩) ?_
        refine WH.take (i := 5) (v := v) rfl rfl (.inl rfl) rfl (by kernel_rfl) ⟨[.row v 9 1 n (List.map str l2)], H8⟩ (fun wX hSX => hSX.elim fun LX HX => op_move rfl ⟨rfl, rfl⟩) ?_
        refine WH.take (i := 6) (v := (vN j)) rfl rfl (.inl rfl) rfl (by kernel_rfl) ⟨[.row v 9 1 n (List.map str l2)], H8⟩ (fun wX hSX => hSX.elim fun LX HX => op_move rfl ⟨rfl, rfl⟩) ?_
        refine WH.take (i := 7) (v := (vN (j - 1))) rfl rfl (.inl rfl) rfl (by kernel_rfl) ⟨[.row v 9 1 n (List.map str l2)], H8⟩ (fun wX hSX => hSX.elim fun LX HX => op_subN (b := 1) rfl rfl (by omega) (by omega) ⟨rfl, rfl⟩) ?_
        refine WH.take (i := 8) (v := (.pointer (some (sp v (j - 1))))) rfl rfl (.inl rfl) rfl (by kernel_rfl) ⟨[.row v 9 1 n (List.map str l2)], H8⟩ (fun wX hSX => hSX.elim fun LX HX => op_indexAddr1W Tryd.underlying80 Fa.I9 rfl (H8.arrR (i := 0) rfl) rfl (by omega) ⟨rfl, rfl⟩) ?_
        refine WH.take (i := 10) (v := v) rfl rfl (.inl rfl) rfl (by kernel_rfl) ⟨[.row v 9 1 n (List.map str l2)], H8⟩ (fun wX hSX => hSX.elim fun LX HX => op_move rfl ⟨rfl, rfl⟩) ?_
        refine WH.take (i := 11) (v := (vN j)) rfl rfl (.inl rfl) rfl (by kernel_rfl) ⟨[.row v 9 1 n (List.map str l2)], H8⟩ (fun wX hSX => hSX.elim fun LX HX => op_move rfl ⟨rfl, rfl⟩) ?_
        refine WH.take (i := 12) (v := (.pointer (some (sp v j)))) rfl rfl (.inl rfl) rfl (by kernel_rfl) ⟨[.row v 9 1 n (List.map str l2)], H8⟩ (fun wX hSX => hSX.elim fun LX HX => op_indexAddr1W Tryd.underlying80 Fa.I9 rfl (H8.arrR (i := 0) rfl) rfl (by omega) ⟨rfl, rfl⟩) ?_
        refine WH.named (fun W hW => ?_)
        have st6_5 : ∀ (wS : World), Own T w wS [.row v 9 1 n (List.map str ((l2.set j (l2.getD (j - 1) [])).set (j - 1) (l2.getD j [])))] → W 0 #[true, true, true, true, true, true, true, true, true, true, true, true, true, true, true, true, true, true] [(0, v), (1, (vN a)), (2, (vN b)), (6, (vN i)), (7, (vN j)), (16, (vN j)), (17, (vN a)), (18, (.bool (decide (j > a)))), (19, (.bool (decide (j > a)))), (20, v), (21, (vN j)), (22, (.pointer (some (sp v j)))), (23, (str (l2.getD j []))), (24, v), (25, (vN j)), (26, (vN (j - 1))), (27, (.pointer (some (sp v (j - 1))))), (28, (str (l2.getD (j - 1) []))), (29, (.bool (ltStr (l2.getD j []) (l2.getD (j - 1) [])))), (30, (.bool (ltStr (l2.getD j []) (l2.getD (j - 1) [])))), (33, v), (34, (vN j)), (35, v), (36, (vN j)), (37, (vN (j - 1))), (38, v), (39, (vN j)), (40, (vN (j - 1))), (41, (.pointer (some (sp v (j - 1))))), (42, (str (l2.getD (j - 1) []))), (43, v), (44, (vN j)), (45, (.pointer (some (sp v j)))), (46, (str (l2.getD j []))), (47, (.pointer (some (sp v j)))), (48, (.pointer (some (sp v (j - 1)))))] wS := by
          intro wS HS
          rw [hW]
          refine WH.done (by kernel_rfl) ?_
          refine WQ.inNormal ?_
          refine WQ.next ?_
          refine WC.region ?_
          refine WL.op rfl rfl (op_move rfl ?_)
          refine WL.op rfl rfl (op_subN (b := 1) rfl rfl (by omega) (by omega) ?_)
          refine WL.op rfl rfl (op_assign rfl ?_)
          refine WL.nil ?_
          exact WQ.round (j - 1, swapL [] l2 j (j - 1)) ⟨⟨by omega, by omega, hs2.step (by omega) (by omega) (by omega) (by omega), ins_step ltStrOK (by omega) hj3 (by omega) hj2 hb7⟩, HS⟩ ⟨rfl, rfl, rfl, rfl, rfl, trivial⟩ (by show j - 1 < j; omega)
        have st6_4 : ∀ (wS : World), Own T w wS [.row v 9 1 n (List.map str (l2.set j (l2.getD (j - 1) [])))] → W 1 #[true, true, true, true, true, true, true, true, true, true, true, true, true, true, true, true, true, false] [(0, v), (1, (vN a)), (2, (vN b)), (6, (vN i)), (7, (vN j)), (16, (vN j)), (17, (vN a)), (18, (.bool (decide (j > a)))), (19, (.bool (decide (j > a)))), (20, v), (21, (vN j)), (22, (.pointer (some (sp v j)))), (23, (str (l2.getD j []))), (24, v), (25, (vN j)), (26, (vN (j - 1))), (27, (.pointer (some (sp v (j - 1))))), (28, (str (l2.getD (j - 1) []))), (29, (.bool (ltStr (l2.getD j []) (l2.getD (j - 1) [])))), (30, (.bool (ltStr (l2.getD j []) (l2.getD (j - 1) [])))), (33, v), (34, (vN j)), (35, v), (36, (vN j)), (37, (vN (j - 1))), (38, v), (39, (vN j)), (40, (vN (j - 1))), (41, (.pointer (some (sp v (j - 1))))), (42, (str (l2.getD (j - 1) []))), (43, v), (44, (vN j)), (45, (.pointer (some (sp v j)))), (46, (str (l2.getD j []))), (47, (.pointer (some (sp v j)))), (48, (.pointer (some (sp v (j - 1)))))] wS := by
          intro wS HS
          rw [hW]
          refine WH.all1 (i := 17) (by kernel_rfl) ?_
          ·
            refine WHS.op (i := 17) rfl (.inl rfl) rfl (op_storeRM (i := 0) (f := str) (l := (l2.set j (l2.getD (j - 1) []))) (c := (l2.getD j [])) HS rfl rfl rfl (by omega) rfl Fa.I9 (fun w19341 H19341 => ?_))
            refine ⟨⟨[.row v 9 1 n (List.map str ((l2.set j (l2.getD (j - 1) [])).set (j - 1) (l2.getD j [])))], H19341⟩, ?_⟩
            have hq := st6_5 w19341 H19341
            rw [hW] at hq
            refine WH.cov ?_ hq
            exact by repeat (first | exact trivial | refine ⟨rfl, ?_⟩)
        have st6_3 : ∀ (wS : World), Own T w wS [.row v 9 1 n (List.map str l2)] → W 3 #[true, true, true, true, true, true, true, true, true, true, true, true, true, true, true, false, false, false] [(0, v), (1, (vN a)), (2, (vN b)), (6, (vN i)), (7, (vN j)), (16, (vN j)), (17, (vN a)), (18, (.bool (decide (j > a)))), (19, (.bool (decide (j > a)))), (20, v), (21, (vN j)), (22, (.pointer (some (sp v j)))), (23, (str (l2.getD j []))), (24, v), (25, (vN j)), (26, (vN (j - 1))), (27, (.pointer (some (sp v (j - 1))))), (28, (str (l2.getD (j - 1) []))), (29, (.bool (ltStr (l2.getD j []) (l2.getD (j - 1) [])))), (30, (.bool (ltStr (l2.getD j []) (l2.getD (j - 1) [])))), (33, v), (34, (vN j)), (35, v), (36, (vN j)), (37, (vN (j - 1))), (38, v), (39, (vN j)), (40, (vN (j - 1))), (41, (.pointer (some (sp v (j - 1))))), (42, (str (l2.getD (j - 1) []))), (43, v), (44, (vN j)), (45, (.pointer (some (sp v j)))), (46, (str (l2.getD j []))), (47, (.pointer (some (sp v j))))] wS := by
          intro wS HS
          rw [hW]
          refine WH.all1 (i := 15) (by kernel_rfl) ?_
          ·
            refine WHS.op (i := 15) rfl (.inl rfl) rfl (op_storeRM (i := 0) (f := str) (l := l2) (c := (l2.getD (j - 1) [])) HS rfl rfl rfl (by omega) rfl Fa.I9 (fun w19301 H19301 => ?_))
            refine ⟨⟨[.row v 9 1 n (List.map str (l2.set j (l2.getD (j - 1) [])))], H19301⟩, ?_⟩
            refine WH.take (i := 16) (v := (.pointer (some (sp v (j - 1))))) rfl rfl (.inl rfl) rfl (by kernel_rfl) ⟨[.row v 9 1 n (List.map str (l2.set j (l2.getD (j - 1) [])))], H19301⟩ (fun wX hSX => hSX.elim fun LX HX => op_indexAddr1W Tryd.underlying80 Fa.I9 rfl (H19301.arrR (i := 0) rfl) rfl (by omega) ⟨rfl, rfl⟩) ?_
            have hq := st6_4 w19301 H19301
            rw [hW] at hq
            refine WH.cov ?_ hq
            exact by repeat (first | exact trivial | refine ⟨rfl, ?_⟩)
        have st6_1 : ∀ (wS : World), Own T w wS [.row v 9 1 n (List.map str l2)] → W 5 #[true, true, true, true, true, true, true, true, true, true, true, true, true, false, false, false, false, false] [(0, v), (1, (vN a)), (2, (vN b)), (6, (vN i)), (7, (vN j)), (16, (vN j)), (17, (vN a)), (18, (.bool (decide (j > a)))), (19, (.bool (decide (j > a)))), (20, v), (21, (vN j)), (22, (.pointer (some (sp v j)))), (23, (str (l2.getD j []))), (24, v), (25, (vN j)), (26, (vN (j - 1))), (27, (.pointer (some (sp v (j - 1))))), (28, (str (l2.getD (j - 1) []))), (29, (.bool (ltStr (l2.getD j []) (l2.getD (j - 1) [])))), (30, (.bool (ltStr (l2.getD j []) (l2.getD (j - 1) [])))), (33, v), (34, (vN j)), (35, v), (36, (vN j)), (37, (vN (j - 1))), (38, v), (39, (vN j)), (40, (vN (j - 1))), (41, (.pointer (some (sp v (j - 1))))), (42, (str (l2.getD (j - 1) []))), (43, v), (44, (vN j)), (45, (.pointer (some (sp v j))))] wS := by
          intro wS HS
          rw [hW]
          refine WH.all1 (i := 13) (by kernel_rfl) ?_
          ·
            refine WHS.op (i := 13) rfl (.inl rfl) rfl (op_load rfl ((HS.arrR (i := 0) rfl).at (get_map str [] (Arr.ltM (HS.arrR (i := 0) rfl) (by omega)))) Tryd.underlying9 rfl ?_)
            refine ⟨⟨[.row v 9 1 n (List.map str l2)], HS⟩, ?_⟩
            refine WH.take (i := 14) (v := (.pointer (some (sp v j)))) rfl rfl (.inl rfl) rfl (by kernel_rfl) ⟨[.row v 9 1 n (List.map str l2)], HS⟩ (fun wX hSX => hSX.elim fun LX HX => op_indexAddr1W Tryd.underlying80 Fa.I9 rfl (HS.arrR (i := 0) rfl) rfl (by omega) ⟨rfl, rfl⟩) ?_
            have hq := st6_3 wS HS
            rw [hW] at hq
            refine WH.cov ?_ hq
            exact by repeat (first | exact trivial | refine ⟨rfl, ?_⟩)
        have st6_2 : ∀ (wS : World), Own T w wS [.row v 9 1 n (List.map str l2)] → W 5 #[true, true, true, true, true, true, true, true, true, false, true, true, true, true, false, false, false, false] [(0, v), (1, (vN a)), (2, (vN b)), (6, (vN i)), (7, (vN j)), (16, (vN j)), (17, (vN a)), (18, (.bool (decide (j > a)))), (19, (.bool (decide (j > a)))), (20, v), (21, (vN j)), (22, (.pointer (some (sp v j)))), (23, (str (l2.getD j []))), (24, v), (25, (vN j)), (26, (vN (j - 1))), (27, (.pointer (some (sp v (j - 1))))), (28, (str (l2.getD (j - 1) []))), (29, (.bool (ltStr (l2.getD j []) (l2.getD (j - 1) [])))), (30, (.bool (ltStr (l2.getD j []) (l2.getD (j - 1) [])))), (33, v), (34, (vN j)), (35, v), (36, (vN j)), (37, (vN (j - 1))), (38, v), (39, (vN j)), (40, (vN (j - 1))), (41, (.pointer (some (sp v (j - 1))))), (43, v), (44, (vN j)), (45, (.pointer (some (sp v j)))), (46, (str (l2.getD j [])))] wS := by
          intro wS HS
          rw [hW]
          refine WH.all1 (i := 9) (by kernel_rfl) ?_
          ·
            refine WHS.op (i := 9) rfl (.inl rfl) rfl (op_load rfl ((HS.arrR (i := 0) rfl).at (get_map str [] (Arr.ltM (HS.arrR (i := 0) rfl) (by omega)))) Tryd.underlying9 rfl ?_)
            refine ⟨⟨[.row v 9 1 n (List.map str l2)], HS⟩, ?_⟩
            refine WH.take (i := 14) (v := (.pointer (some (sp v j)))) rfl rfl (.inl rfl) rfl (by kernel_rfl) ⟨[.row v 9 1 n (List.map str l2)], HS⟩ (fun wX hSX => hSX.elim fun LX HX => op_indexAddr1W Tryd.underlying80 Fa.I9 rfl (HS.arrR (i := 0) rfl) rfl (by omega) ⟨rfl, rfl⟩) ?_
            have hq := st6_3 wS HS
            rw [hW] at hq
            refine WH.cov ?_ hq
            exact by repeat (first | exact trivial | refine ⟨rfl, ?_⟩)
        have st6_0 : ∀ (wS : World), Own T w wS [.row v 9 1 n (List.map str l2)] → W 6 #[true, true, true, true, true, true, true, true, true, false, true, true, true, false, false, false, false, false] [(0, v), (1, (vN a)), (2, (vN b)), (6, (vN i)), (7, (vN j)), (16, (vN j)), (17, (vN a)), (18, (.bool (decide (j > a)))), (19, (.bool (decide (j > a)))), (20, v), (21, (vN j)), (22, (.pointer (some (sp v j)))), (23, (str (l2.getD j []))), (24, v), (25, (vN j)), (26, (vN (j - 1))), (27, (.pointer (some (sp v (j - 1))))), (28, (str (l2.getD (j - 1) []))), (29, (.bool (ltStr (l2.getD j []) (l2.getD (j - 1) [])))), (30, (.bool (ltStr (l2.getD j []) (l2.getD (j - 1) [])))), (33, v), (34, (vN j)), (35, v), (36, (vN j)), (37, (vN (j - 1))), (38, v), (39, (vN j)), (40, (vN (j - 1))), (41, (.pointer (some (sp v (j - 1))))), (43, v), (44, (vN j)), (45, (.pointer (some (sp v j))))] wS := by
          intro wS HS
          rw [hW]
          refine WH.all2 (i := 9) (j := 13) (by kernel_rfl) ?_ ?_
          ·
            refine WHS.op (i := 9) rfl (.inl rfl) rfl (op_load rfl ((HS.arrR (i := 0) rfl).at (get_map str [] (Arr.ltM (HS.arrR (i := 0) rfl) (by omega)))) Tryd.underlying9 rfl ?_)
            refine ⟨⟨[.row v 9 1 n (List.map str l2)], HS⟩, ?_⟩
            have hq := st6_1 wS HS
            rw [hW] at hq
            refine WH.cov ?_ hq
            exact by repeat (first | exact trivial | refine ⟨rfl, ?_⟩)
          ·
            refine WHS.op (i := 13) rfl (.inl rfl) rfl (op_load rfl ((HS.arrR (i := 0) rfl).at (get_map str [] (Arr.ltM (HS.arrR (i := 0) rfl) (by omega)))) Tryd.underlying9 rfl ?_)
            refine ⟨⟨[.row v 9 1 n (List.map str l2)], HS⟩, ?_⟩
            have hq := st6_2 wS HS
            rw [hW] at hq
            refine WH.cov ?_ hq
            exact by repeat (first | exact trivial | refine ⟨rfl, ?_⟩)
        have hq := st6_0 w8 H8
        rw [hW] at hq ⊢
        refine WH.cov ?_ hq
        exact by repeat (first | exact trivial | refine ⟨rfl, ?_⟩)
      ·
        refine WC.exit ?_
        refine WQ.thenExit ?_
        refine WQ.thenExit ?_
        refine WQ.inHere ?_
        refine WQ.inNormal ?_
        refine WQ.next ?_
        refine WC.region ?_
        refine WL.op rfl rfl (op_move rfl ?_)
        refine WL.op rfl rfl (op_addN (b := 1) rfl rfl (by omega) ?_)
        refine WL.op rfl rfl (op_assign rfl ?_)
        refine WL.nil ?_
        exact WQ.round (i + 1, l2) ⟨⟨by omega, by omega, hs2, ins_done ltStrOK hj3 (.inr hb7) hj1⟩, H6⟩ ⟨rfl, rfl, rfl, rfl, trivial⟩ (by show b - (i + 1) < b - i; omega)
    ·
      have hc4 := of_decide_eq_false hb4
      refine WC.draw 15 Fa.M H3 (HW.op rfl (fun w1 H1 => op_move rfl ⟨rfl, Fr.refl _ _⟩) (HW.op rfl (fun w1 H1 => op_move rfl ⟨rfl, Fr.refl _ _⟩) (HW.op rfl (fun w1 H1 => op_gtrN rfl rfl ⟨rfl, Fr.refl _ _⟩) (HW.op rfl (fun w1 H1 => op_move rfl ⟨rfl, Fr.refl _ _⟩) (HW.no rfl rfl rfl hb4 (HW.no rfl rfl rfl hb4 (HW.no rfl rfl rfl hb4 (HW.no rfl rfl rfl hb4 (HW.no rfl rfl rfl hb4 (HW.no rfl rfl rfl hb4 (HW.no rfl rfl rfl hb4 (HW.no rfl rfl rfl hb4 (HW.no rfl rfl rfl hb4 (HW.no rfl rfl rfl hb4 (HW.op rfl (fun w1 H1 => op_pickF rfl hb4 rfl ⟨rfl, Fr.refl _ _⟩)  HW.nil))))))))))))))) (by kernel_rfl) ?_
      intro β10 w10 H10
      refine WL.nil ?_
      refine WQ.next ?_
      refine WC.no rfl rfl ?_
      refine WC.exit ?_
      refine WQ.thenExit ?_
      refine WQ.thenExit ?_
      refine WQ.inHere ?_
      refine WQ.inNormal ?_
      refine WQ.next ?_
      refine WC.region ?_
      refine WL.op rfl rfl (op_move rfl ?_)
      refine WL.op rfl rfl (op_addN (b := 1) rfl rfl (by omega) ?_)
      refine WL.op rfl rfl (op_assign rfl ?_)
      refine WL.nil ?_
      exact WQ.round (i + 1, l2) ⟨⟨by omega, by omega, hs2, ins_done ltStrOK hj3 (.inl (by omega)) hj1⟩, H10⟩ ⟨rfl, rfl, rfl, rfl, trivial⟩ (by show b - (i + 1) < b - i; omega)
  ·
    have hc2 := of_decide_eq_false hb2
    refine WC.exit ?_
    refine WQ.thenExit ?_
    refine WQ.thenExit ?_
    refine WQ.inHere ?_
    refine WQ.outEnd .nil ?_
    exact ⟨_, rfl, ⟨hs1, fun p q h1 h2 h3 => ho1 p q h1 h2 (by omega)⟩, H1⟩
end Go.Proofs.YtnngbnenekjffaaDoor
