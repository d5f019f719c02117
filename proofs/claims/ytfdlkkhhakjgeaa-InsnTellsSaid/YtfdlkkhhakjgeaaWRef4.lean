import Derived.Test.YtfdlkkhhakjgeaaFacts
import Derived.Test.YtfdlkkhhakjgeaaWInsn
import Derived.Test.YtfdlkkhhakjgeaaSpecRef4
namespace Go.Proofs.Ytfdlkkhhakjgeaa
open Go.Owl Go.Spec
set_option maxRecDepth 100000 in
theorem register_ok (n : UInt8) (u : Bool) (w : World) :
    Calls Try.prog 56 #[(vU8 n), (.bool u)] w (fun e w' => e = .returned (.bool (regB n u)) ∧ Fr [] w w') := by
  refine enter (args := [(vU8 n), (.bool u)]) Try.func56 rfl rfl ?_
  have H0 := Own.start w []
  refine WC.seq ?_
  refine WC.region ?_
  refine WL.op rfl rfl (op_assign rfl ?_)
  refine WL.nil ?_
  refine WQ.next ?_
  refine WC.seq ?_
  refine WC.region ?_
  refine WL.op rfl rfl (op_move rfl ?_)
  refine WL.op rfl rfl (op_eqlU8 (b := 0) rfl rfl ?_)
  refine WL.op rfl rfl (op_move rfl ?_)
  refine WL.split (t := 7) rfl (fun (hb1 : (decide (n = (0 : UInt8))) = true) => ?_) (fun (hb1 : (decide (n = (0 : UInt8))) = false) => ?_)
  ·
    have hc1 := of_decide_eq_true hb1
    refine WL.no rfl rfl rfl hb1 rfl ?_
    refine WL.no rfl rfl rfl hb1 rfl ?_
    refine WL.non rfl rfl rfl rfl ?_
    refine WL.non rfl rfl rfl rfl ?_
    refine WL.no rfl rfl rfl hb1 rfl ?_
    refine WL.op rfl rfl (op_pickT rfl hb1 rfl ?_)
    refine WL.op rfl rfl (op_assign rfl ?_)
    refine WL.nil ?_
    refine WQ.next ?_
    refine WC.ret ?_
    refine WQ.out (.tmp rfl .nil) ?_
    exact ⟨by simp_all [tup, regB], H0.fr⟩
  ·
    have hc1 := of_decide_eq_false hb1
    refine WL.yes rfl rfl rfl hb1 rfl (op_move rfl ?_)
    refine WL.yes rfl rfl rfl hb1 rfl (op_move rfl ?_)
    refine WL.split (t := 9) rfl (fun (hb2 : u = true) => ?_) (fun (hb2 : u = false) => ?_)
    ·
      refine WL.yes rfl rfl rfl hb2 rfl (op_move rfl ?_)
      refine WL.yes rfl rfl rfl hb2 rfl (op_lssU8 (b := 16) rfl rfl ?_)
      refine WL.yes rfl rfl rfl hb1 rfl (op_pickT rfl hb2 rfl ?_)
      refine WL.op rfl rfl (op_pickF rfl hb1 rfl ?_)
      refine WL.op rfl rfl (op_assign rfl ?_)
      refine WL.nil ?_
      refine WQ.next ?_
      refine WC.ret ?_
      refine WQ.out (.tmp rfl .nil) ?_
      exact ⟨by simp_all [tup, regB], H0.fr⟩
    ·
      refine WL.no rfl rfl rfl hb2 rfl ?_
      refine WL.no rfl rfl rfl hb2 rfl ?_
      refine WL.yes rfl rfl rfl hb1 rfl (op_pickF rfl hb2 rfl ?_)
      refine WL.op rfl rfl (op_pickF rfl hb1 rfl ?_)
      refine WL.op rfl rfl (op_assign rfl ?_)
      refine WL.nil ?_
      refine WQ.next ?_
      refine WC.ret ?_
      refine WQ.out (.tmp rfl .nil) ?_
      exact ⟨by simp_all [tup, regB], H0.fr⟩
set_option maxRecDepth 100000 in
theorem rUses_ok (op : UInt8) (w : World) :
    Calls Try.prog 20 #[(vU8 op)] w (fun e w' => e = .returned (.tuple #[(.agg #[.bool (ruD op), .bool (ruA op), .bool (ruB op), .bool (ruI op)]), .bool (ruOk op)]) ∧ Fr [] w w') := by
  refine enter (args := [(vU8 op)]) Try.func20 rfl rfl ?_
  have H0 := Own.start w []
  refine WC.seq ?_
  refine WC.region ?_
  refine WL.op rfl rfl (op_alloc H0 Fa.I38 (fun b1 w1 H1 => ?_))
  refine WL.op rfl rfl (op_assign rfl ?_)
  refine WL.nil ?_
  refine WQ.next ?_
  refine WC.seq ?_
  refine WC.seq ?_
  refine WC.region ?_
  refine WL.op rfl rfl (op_move rfl ?_)
  refine WL.nil ?_
  refine WQ.next ?_
  refine WC.block ?_
  refine WC.seq ?_
  refine WC.seq ?_
  refine WC.region ?_
  refine WL.op rfl rfl (op_eqlU8 (b := 17) rfl rfl ?_)
  refine WL.op rfl rfl (op_assign rfl ?_)
  refine WL.nil ?_
  refine WQ.next ?_
  refine WC.cond rfl (fun (hb2 : (decide (op = (17 : UInt8))) = true) => ?_) (fun (hb2 : (decide (op = (17 : UInt8))) = false) => ?_)
  ·
    have hc2 := of_decide_eq_true hb2
    refine WC.skip ?_
    refine WQ.next ?_
    refine WC.yes rfl hb2 ?_
    refine WC.seq ?_
    refine WC.region ?_
    refine WL.op rfl rfl (op_build (cs := [_, _, _, _]) Fa.I38 Fa.PL38 rfl rfl ?_)
    refine WL.op rfl rfl (op_storeBW (i := 0) H1 rfl rfl rfl rfl rfl Fa.I38 (fun w3 H3 => ?_))
    refine WL.op rfl rfl (op_assign rfl ?_)
    refine WL.nil ?_
    refine WQ.next ?_
    refine WC.ret ?_
    refine WQ.inRet ?_
    refine WQ.thenRet ?_
    refine WQ.out (.cell rfl (run_loadVarS (vs := [_, _, _, _]) (H3.cells (i := 0) rfl rfl) Try.underlying38 rfl Fa.I38 rfl) (.tmp rfl .nil)) ?_
    exact ⟨by rw [hc2]; kernel_rfl, H3.fr⟩
  ·
    have hc2 := of_decide_eq_false hb2
    refine WC.seq ?_
    refine WC.region ?_
    refine WL.op rfl rfl (op_eqlU8 (b := 19) rfl rfl ?_)
    refine WL.op rfl rfl (op_assign rfl ?_)
    refine WL.nil ?_
    refine WQ.next ?_
    refine WC.cond rfl (fun (hb4 : (decide (op = (19 : UInt8))) = true) => ?_) (fun (hb4 : (decide (op = (19 : UInt8))) = false) => ?_)
    ·
      have hc4 := of_decide_eq_true hb4
      refine WC.skip ?_
      refine WQ.next ?_
      refine WC.yes rfl hb4 ?_
      refine WC.seq ?_
      refine WC.region ?_
      refine WL.op rfl rfl (op_build (cs := [_, _, _, _]) Fa.I38 Fa.PL38 rfl rfl ?_)
      refine WL.op rfl rfl (op_storeBW (i := 0) H1 rfl rfl rfl rfl rfl Fa.I38 (fun w5 H5 => ?_))
      refine WL.op rfl rfl (op_assign rfl ?_)
      refine WL.nil ?_
      refine WQ.next ?_
      refine WC.ret ?_
      refine WQ.inRet ?_
      refine WQ.thenRet ?_
      refine WQ.out (.cell rfl (run_loadVarS (vs := [_, _, _, _]) (H5.cells (i := 0) rfl rfl) Try.underlying38 rfl Fa.I38 rfl) (.tmp rfl .nil)) ?_
      exact ⟨by rw [hc4]; kernel_rfl, H5.fr⟩
    ·
      have hc4 := of_decide_eq_false hb4
      refine WC.seq ?_
      refine WC.region ?_
      refine WL.op rfl rfl (op_eqlU8 (b := 22) rfl rfl ?_)
      refine WL.op rfl rfl (op_assign rfl ?_)
      refine WL.nil ?_
      refine WQ.next ?_
      refine WC.cond rfl (fun (hb6 : (decide (op = (22 : UInt8))) = true) => ?_) (fun (hb6 : (decide (op = (22 : UInt8))) = false) => ?_)
      ·
        have hc6 := of_decide_eq_true hb6
        refine WC.skip ?_
        refine WQ.next ?_
        refine WC.yes rfl hb6 ?_
        refine WC.seq ?_
        refine WC.region ?_
        refine WL.op rfl rfl (op_build (cs := [_, _, _, _]) Fa.I38 Fa.PL38 rfl rfl ?_)
        refine WL.op rfl rfl (op_storeBW (i := 0) H1 rfl rfl rfl rfl rfl Fa.I38 (fun w7 H7 => ?_))
        refine WL.op rfl rfl (op_assign rfl ?_)
        refine WL.nil ?_
        refine WQ.next ?_
        refine WC.ret ?_
        refine WQ.inRet ?_
        refine WQ.thenRet ?_
        refine WQ.out (.cell rfl (run_loadVarS (vs := [_, _, _, _]) (H7.cells (i := 0) rfl rfl) Try.underlying38 rfl Fa.I38 rfl) (.tmp rfl .nil)) ?_
        exact ⟨by rw [hc6]; kernel_rfl, H7.fr⟩
      ·
        have hc6 := of_decide_eq_false hb6
        refine WC.seq ?_
        refine WC.region ?_
        refine WL.op rfl rfl (op_eqlU8 (b := 23) rfl rfl ?_)
        refine WL.op rfl rfl (op_assign rfl ?_)
        refine WL.nil ?_
        refine WQ.next ?_
        refine WC.cond rfl (fun (hb8 : (decide (op = (23 : UInt8))) = true) => ?_) (fun (hb8 : (decide (op = (23 : UInt8))) = false) => ?_)
        ·
          have hc8 := of_decide_eq_true hb8
          refine WC.skip ?_
          refine WQ.next ?_
          refine WC.yes rfl hb8 ?_
          refine WC.seq ?_
          refine WC.region ?_
          refine WL.op rfl rfl (op_build (cs := [_, _, _, _]) Fa.I38 Fa.PL38 rfl rfl ?_)
          refine WL.op rfl rfl (op_storeBW (i := 0) H1 rfl rfl rfl rfl rfl Fa.I38 (fun w9 H9 => ?_))
          refine WL.op rfl rfl (op_assign rfl ?_)
          refine WL.nil ?_
          refine WQ.next ?_
          refine WC.ret ?_
          refine WQ.inRet ?_
          refine WQ.thenRet ?_
          refine WQ.out (.cell rfl (run_loadVarS (vs := [_, _, _, _]) (H9.cells (i := 0) rfl rfl) Try.underlying38 rfl Fa.I38 rfl) (.tmp rfl .nil)) ?_
          exact ⟨by rw [hc8]; kernel_rfl, H9.fr⟩
        ·
          have hc8 := of_decide_eq_false hb8
          refine WC.seq ?_
          refine WC.region ?_
          refine WL.op rfl rfl (op_eqlU8 (b := 24) rfl rfl ?_)
          refine WL.op rfl rfl (op_assign rfl ?_)
          refine WL.nil ?_
          refine WQ.next ?_
          refine WC.cond rfl (fun (hb10 : (decide (op = (24 : UInt8))) = true) => ?_) (fun (hb10 : (decide (op = (24 : UInt8))) = false) => ?_)
          ·
            have hc10 := of_decide_eq_true hb10
            refine WC.skip ?_
            refine WQ.next ?_
            refine WC.yes rfl hb10 ?_
            refine WC.seq ?_
            refine WC.region ?_
            refine WL.op rfl rfl (op_build (cs := [_, _, _, _]) Fa.I38 Fa.PL38 rfl rfl ?_)
            refine WL.op rfl rfl (op_storeBW (i := 0) H1 rfl rfl rfl rfl rfl Fa.I38 (fun w11 H11 => ?_))
            refine WL.op rfl rfl (op_assign rfl ?_)
            refine WL.nil ?_
            refine WQ.next ?_
            refine WC.ret ?_
            refine WQ.inRet ?_
            refine WQ.thenRet ?_
            refine WQ.out (.cell rfl (run_loadVarS (vs := [_, _, _, _]) (H11.cells (i := 0) rfl rfl) Try.underlying38 rfl Fa.I38 rfl) (.tmp rfl .nil)) ?_
            exact ⟨by rw [hc10]; kernel_rfl, H11.fr⟩
          ·
            have hc10 := of_decide_eq_false hb10
            refine WC.seq ?_
            refine WC.region ?_
            refine WL.op rfl rfl (op_eqlU8 (b := 25) rfl rfl ?_)
            refine WL.op rfl rfl (op_assign rfl ?_)
            refine WL.nil ?_
            refine WQ.next ?_
            refine WC.cond rfl (fun (hb12 : (decide (op = (25 : UInt8))) = true) => ?_) (fun (hb12 : (decide (op = (25 : UInt8))) = false) => ?_)
            ·
              have hc12 := of_decide_eq_true hb12
              refine WC.skip ?_
              refine WQ.next ?_
              refine WC.yes rfl hb12 ?_
              refine WC.seq ?_
              refine WC.region ?_
              refine WL.op rfl rfl (op_build (cs := [_, _, _, _]) Fa.I38 Fa.PL38 rfl rfl ?_)
              refine WL.op rfl rfl (op_storeBW (i := 0) H1 rfl rfl rfl rfl rfl Fa.I38 (fun w13 H13 => ?_))
              refine WL.op rfl rfl (op_assign rfl ?_)
              refine WL.nil ?_
              refine WQ.next ?_
              refine WC.ret ?_
              refine WQ.inRet ?_
              refine WQ.thenRet ?_
              refine WQ.out (.cell rfl (run_loadVarS (vs := [_, _, _, _]) (H13.cells (i := 0) rfl rfl) Try.underlying38 rfl Fa.I38 rfl) (.tmp rfl .nil)) ?_
              exact ⟨by rw [hc12]; kernel_rfl, H13.fr⟩
            ·
              have hc12 := of_decide_eq_false hb12
              refine WC.seq ?_
              refine WC.region ?_
              refine WL.op rfl rfl (op_eqlU8 (b := 26) rfl rfl ?_)
              refine WL.op rfl rfl (op_assign rfl ?_)
              refine WL.nil ?_
              refine WQ.next ?_
              refine WC.cond rfl (fun (hb14 : (decide (op = (26 : UInt8))) = true) => ?_) (fun (hb14 : (decide (op = (26 : UInt8))) = false) => ?_)
              ·
                have hc14 := of_decide_eq_true hb14
                refine WC.skip ?_
                refine WQ.next ?_
                refine WC.yes rfl hb14 ?_
                refine WC.seq ?_
                refine WC.region ?_
                refine WL.op rfl rfl (op_build (cs := [_, _, _, _]) Fa.I38 Fa.PL38 rfl rfl ?_)
                refine WL.op rfl rfl (op_storeBW (i := 0) H1 rfl rfl rfl rfl rfl Fa.I38 (fun w15 H15 => ?_))
                refine WL.op rfl rfl (op_assign rfl ?_)
                refine WL.nil ?_
                refine WQ.next ?_
                refine WC.ret ?_
                refine WQ.inRet ?_
                refine WQ.thenRet ?_
                refine WQ.out (.cell rfl (run_loadVarS (vs := [_, _, _, _]) (H15.cells (i := 0) rfl rfl) Try.underlying38 rfl Fa.I38 rfl) (.tmp rfl .nil)) ?_
                exact ⟨by rw [hc14]; kernel_rfl, H15.fr⟩
              ·
                have hc14 := of_decide_eq_false hb14
                refine WC.seq ?_
                refine WC.region ?_
                refine WL.op rfl rfl (op_eqlU8 (b := 29) rfl rfl ?_)
                refine WL.op rfl rfl (op_assign rfl ?_)
                refine WL.nil ?_
                refine WQ.next ?_
                refine WC.cond rfl (fun (hb16 : (decide (op = (29 : UInt8))) = true) => ?_) (fun (hb16 : (decide (op = (29 : UInt8))) = false) => ?_)
                ·
                  have hc16 := of_decide_eq_true hb16
                  refine WC.skip ?_
                  refine WQ.next ?_
                  refine WC.yes rfl hb16 ?_
                  refine WC.seq ?_
                  refine WC.region ?_
                  refine WL.op rfl rfl (op_build (cs := [_, _, _, _]) Fa.I38 Fa.PL38 rfl rfl ?_)
                  refine WL.op rfl rfl (op_storeBW (i := 0) H1 rfl rfl rfl rfl rfl Fa.I38 (fun w17 H17 => ?_))
                  refine WL.op rfl rfl (op_assign rfl ?_)
                  refine WL.nil ?_
                  refine WQ.next ?_
                  refine WC.ret ?_
                  refine WQ.inRet ?_
                  refine WQ.thenRet ?_
                  refine WQ.out (.cell rfl (run_loadVarS (vs := [_, _, _, _]) (H17.cells (i := 0) rfl rfl) Try.underlying38 rfl Fa.I38 rfl) (.tmp rfl .nil)) ?_
                  exact ⟨by rw [hc16]; kernel_rfl, H17.fr⟩
                ·
                  have hc16 := of_decide_eq_false hb16
                  refine WC.seq ?_
                  refine WC.region ?_
                  refine WL.op rfl rfl (op_eqlU8 (b := 30) rfl rfl ?_)
                  refine WL.op rfl rfl (op_assign rfl ?_)
                  refine WL.nil ?_
                  refine WQ.next ?_
                  refine WC.cond rfl (fun (hb18 : (decide (op = (30 : UInt8))) = true) => ?_) (fun (hb18 : (decide (op = (30 : UInt8))) = false) => ?_)
                  ·
                    have hc18 := of_decide_eq_true hb18
                    refine WC.skip ?_
                    refine WQ.next ?_
                    refine WC.yes rfl hb18 ?_
                    refine WC.seq ?_
                    refine WC.region ?_
                    refine WL.op rfl rfl (op_build (cs := [_, _, _, _]) Fa.I38 Fa.PL38 rfl rfl ?_)
                    refine WL.op rfl rfl (op_storeBW (i := 0) H1 rfl rfl rfl rfl rfl Fa.I38 (fun w19 H19 => ?_))
                    refine WL.op rfl rfl (op_assign rfl ?_)
                    refine WL.nil ?_
                    refine WQ.next ?_
                    refine WC.ret ?_
                    refine WQ.inRet ?_
                    refine WQ.thenRet ?_
                    refine WQ.out (.cell rfl (run_loadVarS (vs := [_, _, _, _]) (H19.cells (i := 0) rfl rfl) Try.underlying38 rfl Fa.I38 rfl) (.tmp rfl .nil)) ?_
                    exact ⟨by rw [hc18]; kernel_rfl, H19.fr⟩
                  ·
                    have hc18 := of_decide_eq_false hb18
                    refine WC.seq ?_
                    refine WC.region ?_
                    refine WL.op rfl rfl (op_eqlU8 (b := 33) rfl rfl ?_)
                    refine WL.op rfl rfl (op_assign rfl ?_)
                    refine WL.nil ?_
                    refine WQ.next ?_
                    refine WC.cond rfl (fun (hb20 : (decide (op = (33 : UInt8))) = true) => ?_) (fun (hb20 : (decide (op = (33 : UInt8))) = false) => ?_)
                    ·
                      have hc20 := of_decide_eq_true hb20
                      refine WC.skip ?_
                      refine WQ.next ?_
                      refine WC.yes rfl hb20 ?_
                      refine WC.seq ?_
                      refine WC.region ?_
                      refine WL.op rfl rfl (op_build (cs := [_, _, _, _]) Fa.I38 Fa.PL38 rfl rfl ?_)
                      refine WL.op rfl rfl (op_storeBW (i := 0) H1 rfl rfl rfl rfl rfl Fa.I38 (fun w21 H21 => ?_))
                      refine WL.op rfl rfl (op_assign rfl ?_)
                      refine WL.nil ?_
                      refine WQ.next ?_
                      refine WC.ret ?_
                      refine WQ.inRet ?_
                      refine WQ.thenRet ?_
                      refine WQ.out (.cell rfl (run_loadVarS (vs := [_, _, _, _]) (H21.cells (i := 0) rfl rfl) Try.underlying38 rfl Fa.I38 rfl) (.tmp rfl .nil)) ?_
                      exact ⟨by rw [hc20]; kernel_rfl, H21.fr⟩
                    ·
                      have hc20 := of_decide_eq_false hb20
                      refine WC.region ?_
                      refine WL.op rfl rfl (op_eqlU8 (b := 34) rfl rfl ?_)
                      refine WL.op rfl rfl (op_assign rfl ?_)
                      refine WL.nil ?_
                      refine WQ.next ?_
                      refine WC.cond rfl (fun (hb22 : (decide (op = (34 : UInt8))) = true) => ?_) (fun (hb22 : (decide (op = (34 : UInt8))) = false) => ?_)
                      ·
                        have hc22 := of_decide_eq_true hb22
                        refine WC.seq ?_
                        refine WC.region ?_
                        refine WL.op rfl rfl (op_build (cs := [_, _, _, _]) Fa.I38 Fa.PL38 rfl rfl ?_)
                        refine WL.op rfl rfl (op_storeBW (i := 0) H1 rfl rfl rfl rfl rfl Fa.I38 (fun w23 H23 => ?_))
                        refine WL.op rfl rfl (op_assign rfl ?_)
                        refine WL.nil ?_
                        refine WQ.next ?_
                        refine WC.ret ?_
                        refine WQ.inRet ?_
                        refine WQ.thenRet ?_
                        refine WQ.out (.cell rfl (run_loadVarS (vs := [_, _, _, _]) (H23.cells (i := 0) rfl rfl) Try.underlying38 rfl Fa.I38 rfl) (.tmp rfl .nil)) ?_
                        exact ⟨by rw [hc22]; kernel_rfl, H23.fr⟩
                      ·
                        have hc22 := of_decide_eq_false hb22
                        refine WC.seq ?_
                        refine WC.seq ?_
                        refine WC.region ?_
                        refine WL.op rfl rfl (op_eqlU8 (b := 32) rfl rfl ?_)
                        refine WL.op rfl rfl (op_assign rfl ?_)
                        refine WL.nil ?_
                        refine WQ.next ?_
                        refine WC.cond rfl (fun (hb24 : (decide (op = (32 : UInt8))) = true) => ?_) (fun (hb24 : (decide (op = (32 : UInt8))) = false) => ?_)
                        ·
                          have hc24 := of_decide_eq_true hb24
                          refine WC.skip ?_
                          refine WQ.next ?_
                          refine WC.yes rfl hb24 ?_
                          refine WC.seq ?_
                          refine WC.region ?_
                          refine WL.op rfl rfl (op_build (cs := [_, _, _, _]) Fa.I38 Fa.PL38 rfl rfl ?_)
                          refine WL.op rfl rfl (op_storeBW (i := 0) H1 rfl rfl rfl rfl rfl Fa.I38 (fun w25 H25 => ?_))
                          refine WL.op rfl rfl (op_assign rfl ?_)
                          refine WL.nil ?_
                          refine WQ.next ?_
                          refine WC.ret ?_
                          refine WQ.inRet ?_
                          refine WQ.thenRet ?_
                          refine WQ.out (.cell rfl (run_loadVarS (vs := [_, _, _, _]) (H25.cells (i := 0) rfl rfl) Try.underlying38 rfl Fa.I38 rfl) (.tmp rfl .nil)) ?_
                          exact ⟨by rw [hc24]; kernel_rfl, H25.fr⟩
                        ·
                          have hc24 := of_decide_eq_false hb24
                          refine WC.region ?_
                          refine WL.op rfl rfl (op_eqlU8 (b := 41) rfl rfl ?_)
                          refine WL.op rfl rfl (op_assign rfl ?_)
                          refine WL.nil ?_
                          refine WQ.next ?_
                          refine WC.cond rfl (fun (hb26 : (decide (op = (41 : UInt8))) = true) => ?_) (fun (hb26 : (decide (op = (41 : UInt8))) = false) => ?_)
                          ·
                            have hc26 := of_decide_eq_true hb26
                            refine WC.seq ?_
                            refine WC.region ?_
                            refine WL.op rfl rfl (op_build (cs := [_, _, _, _]) Fa.I38 Fa.PL38 rfl rfl ?_)
                            refine WL.op rfl rfl (op_storeBW (i := 0) H1 rfl rfl rfl rfl rfl Fa.I38 (fun w27 H27 => ?_))
                            refine WL.op rfl rfl (op_assign rfl ?_)
                            refine WL.nil ?_
                            refine WQ.next ?_
                            refine WC.ret ?_
                            refine WQ.inRet ?_
                            refine WQ.thenRet ?_
                            refine WQ.out (.cell rfl (run_loadVarS (vs := [_, _, _, _]) (H27.cells (i := 0) rfl rfl) Try.underlying38 rfl Fa.I38 rfl) (.tmp rfl .nil)) ?_
                            exact ⟨by rw [hc26]; kernel_rfl, H27.fr⟩
                          ·
                            have hc26 := of_decide_eq_false hb26
                            refine WC.seq ?_
                            refine WC.seq ?_
                            refine WC.region ?_
                            refine WL.op rfl rfl (op_eqlU8 (b := 35) rfl rfl ?_)
                            refine WL.op rfl rfl (op_assign rfl ?_)
                            refine WL.nil ?_
                            refine WQ.next ?_
                            refine WC.cond rfl (fun (hb28 : (decide (op = (35 : UInt8))) = true) => ?_) (fun (hb28 : (decide (op = (35 : UInt8))) = false) => ?_)
                            ·
                              have hc28 := of_decide_eq_true hb28
                              refine WC.skip ?_
                              refine WQ.next ?_
                              refine WC.yes rfl hb28 ?_
                              refine WC.seq ?_
                              refine WC.region ?_
                              refine WL.op rfl rfl (op_build (cs := [_, _, _, _]) Fa.I38 Fa.PL38 rfl rfl ?_)
                              refine WL.op rfl rfl (op_storeBW (i := 0) H1 rfl rfl rfl rfl rfl Fa.I38 (fun w29 H29 => ?_))
                              refine WL.op rfl rfl (op_assign rfl ?_)
                              refine WL.nil ?_
                              refine WQ.next ?_
                              refine WC.ret ?_
                              refine WQ.inRet ?_
                              refine WQ.thenRet ?_
                              refine WQ.out (.cell rfl (run_loadVarS (vs := [_, _, _, _]) (H29.cells (i := 0) rfl rfl) Try.underlying38 rfl Fa.I38 rfl) (.tmp rfl .nil)) ?_
                              exact ⟨by rw [hc28]; kernel_rfl, H29.fr⟩
                            ·
                              have hc28 := of_decide_eq_false hb28
                              refine WC.seq ?_
                              refine WC.region ?_
                              refine WL.op rfl rfl (op_eqlU8 (b := 36) rfl rfl ?_)
                              refine WL.op rfl rfl (op_assign rfl ?_)
                              refine WL.nil ?_
                              refine WQ.next ?_
                              refine WC.cond rfl (fun (hb30 : (decide (op = (36 : UInt8))) = true) => ?_) (fun (hb30 : (decide (op = (36 : UInt8))) = false) => ?_)
                              ·
                                have hc30 := of_decide_eq_true hb30
                                refine WC.skip ?_
                                refine WQ.next ?_
                                refine WC.yes rfl hb30 ?_
                                refine WC.seq ?_
                                refine WC.region ?_
                                refine WL.op rfl rfl (op_build (cs := [_, _, _, _]) Fa.I38 Fa.PL38 rfl rfl ?_)
                                refine WL.op rfl rfl (op_storeBW (i := 0) H1 rfl rfl rfl rfl rfl Fa.I38 (fun w31 H31 => ?_))
                                refine WL.op rfl rfl (op_assign rfl ?_)
                                refine WL.nil ?_
                                refine WQ.next ?_
                                refine WC.ret ?_
                                refine WQ.inRet ?_
                                refine WQ.thenRet ?_
                                refine WQ.out (.cell rfl (run_loadVarS (vs := [_, _, _, _]) (H31.cells (i := 0) rfl rfl) Try.underlying38 rfl Fa.I38 rfl) (.tmp rfl .nil)) ?_
                                exact ⟨by rw [hc30]; kernel_rfl, H31.fr⟩
                              ·
                                have hc30 := of_decide_eq_false hb30
                                refine WC.seq ?_
                                refine WC.region ?_
                                refine WL.op rfl rfl (op_eqlU8 (b := 43) rfl rfl ?_)
                                refine WL.op rfl rfl (op_assign rfl ?_)
                                refine WL.nil ?_
                                refine WQ.next ?_
                                refine WC.cond rfl (fun (hb32 : (decide (op = (43 : UInt8))) = true) => ?_) (fun (hb32 : (decide (op = (43 : UInt8))) = false) => ?_)
                                ·
                                  have hc32 := of_decide_eq_true hb32
                                  refine WC.skip ?_
                                  refine WQ.next ?_
                                  refine WC.yes rfl hb32 ?_
                                  refine WC.seq ?_
                                  refine WC.region ?_
                                  refine WL.op rfl rfl (op_build (cs := [_, _, _, _]) Fa.I38 Fa.PL38 rfl rfl ?_)
                                  refine WL.op rfl rfl (op_storeBW (i := 0) H1 rfl rfl rfl rfl rfl Fa.I38 (fun w33 H33 => ?_))
                                  refine WL.op rfl rfl (op_assign rfl ?_)
                                  refine WL.nil ?_
                                  refine WQ.next ?_
                                  refine WC.ret ?_
                                  refine WQ.inRet ?_
                                  refine WQ.thenRet ?_
                                  refine WQ.out (.cell rfl (run_loadVarS (vs := [_, _, _, _]) (H33.cells (i := 0) rfl rfl) Try.underlying38 rfl Fa.I38 rfl) (.tmp rfl .nil)) ?_
                                  exact ⟨by rw [hc32]; kernel_rfl, H33.fr⟩
                                ·
                                  have hc32 := of_decide_eq_false hb32
                                  refine WC.seq ?_
                                  refine WC.region ?_
                                  refine WL.op rfl rfl (op_eqlU8 (b := 44) rfl rfl ?_)
                                  refine WL.op rfl rfl (op_assign rfl ?_)
                                  refine WL.nil ?_
                                  refine WQ.next ?_
                                  refine WC.cond rfl (fun (hb34 : (decide (op = (44 : UInt8))) = true) => ?_) (fun (hb34 : (decide (op = (44 : UInt8))) = false) => ?_)
                                  ·
                                    have hc34 := of_decide_eq_true hb34
                                    refine WC.skip ?_
                                    refine WQ.next ?_
                                    refine WC.yes rfl hb34 ?_
                                    refine WC.seq ?_
                                    refine WC.region ?_
                                    refine WL.op rfl rfl (op_build (cs := [_, _, _, _]) Fa.I38 Fa.PL38 rfl rfl ?_)
                                    refine WL.op rfl rfl (op_storeBW (i := 0) H1 rfl rfl rfl rfl rfl Fa.I38 (fun w35 H35 => ?_))
                                    refine WL.op rfl rfl (op_assign rfl ?_)
                                    refine WL.nil ?_
                                    refine WQ.next ?_
                                    refine WC.ret ?_
                                    refine WQ.inRet ?_
                                    refine WQ.thenRet ?_
                                    refine WQ.out (.cell rfl (run_loadVarS (vs := [_, _, _, _]) (H35.cells (i := 0) rfl rfl) Try.underlying38 rfl Fa.I38 rfl) (.tmp rfl .nil)) ?_
                                    exact ⟨by rw [hc34]; kernel_rfl, H35.fr⟩
                                  ·
                                    have hc34 := of_decide_eq_false hb34
                                    refine WC.seq ?_
                                    refine WC.region ?_
                                    refine WL.op rfl rfl (op_eqlU8 (b := 45) rfl rfl ?_)
                                    refine WL.op rfl rfl (op_assign rfl ?_)
                                    refine WL.nil ?_
                                    refine WQ.next ?_
                                    refine WC.cond rfl (fun (hb36 : (decide (op = (45 : UInt8))) = true) => ?_) (fun (hb36 : (decide (op = (45 : UInt8))) = false) => ?_)
                                    ·
                                      have hc36 := of_decide_eq_true hb36
                                      refine WC.skip ?_
                                      refine WQ.next ?_
                                      refine WC.yes rfl hb36 ?_
                                      refine WC.seq ?_
                                      refine WC.region ?_
                                      refine WL.op rfl rfl (op_build (cs := [_, _, _, _]) Fa.I38 Fa.PL38 rfl rfl ?_)
                                      refine WL.op rfl rfl (op_storeBW (i := 0) H1 rfl rfl rfl rfl rfl Fa.I38 (fun w37 H37 => ?_))
                                      refine WL.op rfl rfl (op_assign rfl ?_)
                                      refine WL.nil ?_
                                      refine WQ.next ?_
                                      refine WC.ret ?_
                                      refine WQ.inRet ?_
                                      refine WQ.thenRet ?_
                                      refine WQ.out (.cell rfl (run_loadVarS (vs := [_, _, _, _]) (H37.cells (i := 0) rfl rfl) Try.underlying38 rfl Fa.I38 rfl) (.tmp rfl .nil)) ?_
                                      exact ⟨by rw [hc36]; kernel_rfl, H37.fr⟩
                                    ·
                                      have hc36 := of_decide_eq_false hb36
                                      refine WC.region ?_
                                      refine WL.op rfl rfl (op_eqlU8 (b := 46) rfl rfl ?_)
                                      refine WL.op rfl rfl (op_assign rfl ?_)
                                      refine WL.nil ?_
                                      refine WQ.next ?_
                                      refine WC.cond rfl (fun (hb38 : (decide (op = (46 : UInt8))) = true) => ?_) (fun (hb38 : (decide (op = (46 : UInt8))) = false) => ?_)
                                      ·
                                        have hc38 := of_decide_eq_true hb38
                                        refine WC.seq ?_
                                        refine WC.region ?_
                                        refine WL.op rfl rfl (op_build (cs := [_, _, _, _]) Fa.I38 Fa.PL38 rfl rfl ?_)
                                        refine WL.op rfl rfl (op_storeBW (i := 0) H1 rfl rfl rfl rfl rfl Fa.I38 (fun w39 H39 => ?_))
                                        refine WL.op rfl rfl (op_assign rfl ?_)
                                        refine WL.nil ?_
                                        refine WQ.next ?_
                                        refine WC.ret ?_
                                        refine WQ.inRet ?_
                                        refine WQ.thenRet ?_
                                        refine WQ.out (.cell rfl (run_loadVarS (vs := [_, _, _, _]) (H39.cells (i := 0) rfl rfl) Try.underlying38 rfl Fa.I38 rfl) (.tmp rfl .nil)) ?_
                                        exact ⟨by rw [hc38]; kernel_rfl, H39.fr⟩
                                      ·
                                        have hc38 := of_decide_eq_false hb38
                                        refine WC.seq ?_
                                        refine WC.seq ?_
                                        refine WC.region ?_
                                        refine WL.op rfl rfl (op_eqlU8 (b := 40) rfl rfl ?_)
                                        refine WL.op rfl rfl (op_assign rfl ?_)
                                        refine WL.nil ?_
                                        refine WQ.next ?_
                                        refine WC.cond rfl (fun (hb40 : (decide (op = (40 : UInt8))) = true) => ?_) (fun (hb40 : (decide (op = (40 : UInt8))) = false) => ?_)
                                        ·
                                          have hc40 := of_decide_eq_true hb40
                                          refine WC.skip ?_
                                          refine WQ.next ?_
                                          refine WC.yes rfl hb40 ?_
                                          refine WC.seq ?_
                                          refine WC.region ?_
                                          refine WL.op rfl rfl (op_build (cs := [_, _, _, _]) Fa.I38 Fa.PL38 rfl rfl ?_)
                                          refine WL.op rfl rfl (op_storeBW (i := 0) H1 rfl rfl rfl rfl rfl Fa.I38 (fun w41 H41 => ?_))
                                          refine WL.op rfl rfl (op_assign rfl ?_)
                                          refine WL.nil ?_
                                          refine WQ.next ?_
                                          refine WC.ret ?_
                                          refine WQ.inRet ?_
                                          refine WQ.thenRet ?_
                                          refine WQ.out (.cell rfl (run_loadVarS (vs := [_, _, _, _]) (H41.cells (i := 0) rfl rfl) Try.underlying38 rfl Fa.I38 rfl) (.tmp rfl .nil)) ?_
                                          exact ⟨by rw [hc40]; kernel_rfl, H41.fr⟩
                                        ·
                                          have hc40 := of_decide_eq_false hb40
                                          refine WC.region ?_
                                          refine WL.op rfl rfl (op_eqlU8 (b := 50) rfl rfl ?_)
                                          refine WL.op rfl rfl (op_assign rfl ?_)
                                          refine WL.nil ?_
                                          refine WQ.next ?_
                                          refine WC.cond rfl (fun (hb42 : (decide (op = (50 : UInt8))) = true) => ?_) (fun (hb42 : (decide (op = (50 : UInt8))) = false) => ?_)
                                          ·
                                            have hc42 := of_decide_eq_true hb42
                                            refine WC.seq ?_
                                            refine WC.region ?_
                                            refine WL.op rfl rfl (op_build (cs := [_, _, _, _]) Fa.I38 Fa.PL38 rfl rfl ?_)
                                            refine WL.op rfl rfl (op_storeBW (i := 0) H1 rfl rfl rfl rfl rfl Fa.I38 (fun w43 H43 => ?_))
                                            refine WL.op rfl rfl (op_assign rfl ?_)
                                            refine WL.nil ?_
                                            refine WQ.next ?_
                                            refine WC.ret ?_
                                            refine WQ.inRet ?_
                                            refine WQ.thenRet ?_
                                            refine WQ.out (.cell rfl (run_loadVarS (vs := [_, _, _, _]) (H43.cells (i := 0) rfl rfl) Try.underlying38 rfl Fa.I38 rfl) (.tmp rfl .nil)) ?_
                                            exact ⟨by rw [hc42]; kernel_rfl, H43.fr⟩
                                          ·
                                            have hc42 := of_decide_eq_false hb42
                                            refine WC.seq ?_
                                            refine WC.region ?_
                                            refine WL.op rfl rfl (op_eqlU8 (b := 42) rfl rfl ?_)
                                            refine WL.op rfl rfl (op_assign rfl ?_)
                                            refine WL.nil ?_
                                            refine WQ.next ?_
                                            refine WC.cond rfl (fun (hb44 : (decide (op = (42 : UInt8))) = true) => ?_) (fun (hb44 : (decide (op = (42 : UInt8))) = false) => ?_)
                                            ·
                                              have hc44 := of_decide_eq_true hb44
                                              refine WC.seq ?_
                                              refine WC.region ?_
                                              refine WL.op rfl rfl (op_build (cs := [_, _, _, _]) Fa.I38 Fa.PL38 rfl rfl ?_)
                                              refine WL.op rfl rfl (op_storeBW (i := 0) H1 rfl rfl rfl rfl rfl Fa.I38 (fun w45 H45 => ?_))
                                              refine WL.op rfl rfl (op_assign rfl ?_)
                                              refine WL.nil ?_
                                              refine WQ.next ?_
                                              refine WC.ret ?_
                                              refine WQ.inRet ?_
                                              refine WQ.thenRet ?_
                                              refine WQ.out (.cell rfl (run_loadVarS (vs := [_, _, _, _]) (H45.cells (i := 0) rfl rfl) Try.underlying38 rfl Fa.I38 rfl) (.tmp rfl .nil)) ?_
                                              exact ⟨by rw [hc44]; kernel_rfl, H45.fr⟩
                                            ·
                                              have hc44 := of_decide_eq_false hb44
                                              refine WC.skip ?_
                                              refine WQ.inNormal ?_
                                              refine WQ.next ?_
                                              refine WC.seq ?_
                                              refine WC.region ?_
                                              refine WL.op rfl rfl (op_build (cs := [_, _, _, _]) Fa.I38 Fa.PL38 rfl rfl ?_)
                                              refine WL.op rfl rfl (op_move rfl ?_)
                                              refine WL.op rfl rfl (op_geqU8 (b := 1) rfl rfl ?_)
                                              refine WL.op rfl rfl (op_move rfl ?_)
                                              refine WL.split (t := 40) rfl (fun (hb46 : (decide (op ≥ (1 : UInt8))) = true) => ?_) (fun (hb46 : (decide (op ≥ (1 : UInt8))) = false) => ?_)
                                              ·
                                                have hc46 := of_decide_eq_true hb46
                                                refine WL.yes rfl rfl rfl hb46 rfl (op_move rfl ?_)
                                                refine WL.yes rfl rfl rfl hb46 rfl (op_leqU8 (b := 14) rfl rfl ?_)
                                                refine WL.op rfl rfl (op_pickT rfl hb46 rfl ?_)
                                                refine WL.op rfl rfl (op_storeBW (i := 0) H1 rfl rfl rfl rfl rfl Fa.I38 (fun w47 H47 => ?_))
                                                refine WL.op rfl rfl (op_assign rfl ?_)
                                                refine WL.nil ?_
                                                refine WQ.next ?_
                                                refine WC.ret ?_
                                                refine WQ.out (.cell rfl (run_loadVarS (vs := [_, _, _, _]) (H47.cells (i := 0) rfl rfl) Try.underlying38 rfl Fa.I38 rfl) (.tmp rfl .nil)) ?_
                                                exact ⟨by simp [tup, ruD, ruA, ruB, ruI, ruOk, hc2, hc4, hc6, hc8, hc10, hc12, hc14, hc16, hc18, hc20, hc22, hc24, hc26, hc28, hc30, hc32, hc34, hc36, hc38, hc40, hc42, hc44, hc46], H47.fr⟩
                                              ·
                                                have hc46 := of_decide_eq_false hb46
                                                refine WL.no rfl rfl rfl hb46 rfl ?_
                                                refine WL.no rfl rfl rfl hb46 rfl ?_
                                                refine WL.op rfl rfl (op_pickF rfl hb46 rfl ?_)
                                                refine WL.op rfl rfl (op_storeBW (i := 0) H1 rfl rfl rfl rfl rfl Fa.I38 (fun w48 H48 => ?_))
                                                refine WL.op rfl rfl (op_assign rfl ?_)
                                                refine WL.nil ?_
                                                refine WQ.next ?_
                                                refine WC.ret ?_
                                                refine WQ.out (.cell rfl (run_loadVarS (vs := [_, _, _, _]) (H48.cells (i := 0) rfl rfl) Try.underlying38 rfl Fa.I38 rfl) (.tmp rfl .nil)) ?_
                                                exact ⟨by simp [tup, ruD, ruA, ruB, ruI, ruOk, hc2, hc4, hc6, hc8, hc10, hc12, hc14, hc16, hc18, hc20, hc22, hc24, hc26, hc28, hc30, hc32, hc34, hc36, hc38, hc40, hc42, hc44, hc46], H48.fr⟩
set_option maxRecDepth 100000 in
theorem uses_ok (op : UInt8) (w : World) :
    Calls Try.prog 19 #[(vU8 op)] w (fun e w' => e = .returned (.tuple #[.bool (ub op 1), .bool (ub op 2), .bool (ub op 4), .bool (ub op 8), vN (useE op)]) ∧ Fr [] w w') := by
  refine enter (args := [(vU8 op)]) Try.func19 rfl rfl ?_
  have H0 := Own.start w []
  refine WC.seq ?_
  refine WC.region ?_
  refine WL.op rfl rfl (op_assign rfl ?_)
  refine WL.op rfl rfl (op_assign rfl ?_)
  refine WL.op rfl rfl (op_assign rfl ?_)
  refine WL.op rfl rfl (op_assign rfl ?_)
  refine WL.op rfl rfl (op_assign rfl ?_)
  refine WL.nil ?_
  refine WQ.next ?_
  refine WC.seq ?_
  refine WC.region ?_
  refine WL.op rfl rfl (op_callF Fa.C41 rfl ((table_ok _).mono (fun e w1 hq => ?_)))
  obtain ⟨rfl, hf1⟩ := hq
  refine ⟨_, rfl, ?_⟩
  have H1 := H0.fr' hf1
  refine WL.op rfl rfl (op_move rfl ?_)
  refine WL.op rfl rfl (op_indexA1 (cs := (tabL.map vU8)) Try.underlying65 Fa.I5 Try.underlying5 rfl rfl rfl op.toNat_lt (get_map vU8 0 (by rw [tabL, tabTo_length]; exact op.toNat_lt)) ?_)
  refine WL.op rfl rfl (op_assign rfl ?_)
  refine WL.nil ?_
  refine WQ.next ?_
  refine WC.seq ?_
  refine WC.seq ?_
  refine WC.region ?_
  refine WL.op rfl rfl (op_move rfl ?_)
  refine WL.op rfl rfl (op_eqlU8 (b := 0) rfl rfl ?_)
  refine WL.nil ?_
  refine WQ.next ?_
  refine WC.cond rfl (fun (hb2 : (decide ((useOf op) = (0 : UInt8))) = true) => ?_) (fun (hb2 : (decide ((useOf op) = (0 : UInt8))) = false) => ?_)
  ·
    have hc2 := of_decide_eq_true hb2
    refine WC.seq ?_
    refine WC.region ?_
    refine WL.op rfl rfl (op_assign rfl ?_)
    refine WL.op rfl rfl (op_assign rfl ?_)
    refine WL.op rfl rfl (op_assign rfl ?_)
    refine WL.op rfl rfl (op_assign rfl ?_)
    refine WL.op rfl rfl (op_assign rfl ?_)
    refine WL.nil ?_
    refine WQ.next ?_
    refine WC.ret ?_
    refine WQ.thenRet ?_
    refine WQ.out (.tmp rfl (.tmp rfl (.tmp rfl (.tmp rfl (.tmp rfl .nil))))) ?_
    exact ⟨by have h : ∀ k, ub op k = false := (fun k => by simp [ub, hc2]); rw [h, h, h, h, useE, if_pos hc2]; rfl, H1.fr⟩
  ·
    have hc2 := of_decide_eq_false hb2
    refine WC.skip ?_
    refine WQ.next ?_
    refine WC.seq ?_
    refine WC.region ?_
    refine WL.op rfl rfl (op_move rfl ?_)
    refine WL.op rfl rfl (op_andU8 (b := 1) rfl rfl ?_)
    refine WL.op rfl rfl (op_neqU8 (b := 0) rfl rfl ?_)
    refine WL.op rfl rfl (op_move rfl ?_)
    refine WL.op rfl rfl (op_andU8 (b := 2) rfl rfl ?_)
    refine WL.op rfl rfl (op_neqU8 (b := 0) rfl rfl ?_)
    refine WL.op rfl rfl (op_move rfl ?_)
    refine WL.op rfl rfl (op_andU8 (b := 4) rfl rfl ?_)
    refine WL.op rfl rfl (op_neqU8 (b := 0) rfl rfl ?_)
    refine WL.op rfl rfl (op_move rfl ?_)
    refine WL.op rfl rfl (op_andU8 (b := 8) rfl rfl ?_)
    refine WL.op rfl rfl (op_neqU8 (b := 0) rfl rfl ?_)
    refine WL.op rfl rfl (op_assign rfl ?_)
    refine WL.op rfl rfl (op_assign rfl ?_)
    refine WL.op rfl rfl (op_assign rfl ?_)
    refine WL.op rfl rfl (op_assign rfl ?_)
    refine WL.op rfl rfl (op_assign rfl ?_)
    refine WL.nil ?_
    refine WQ.next ?_
    refine WC.ret ?_
    refine WQ.out (.tmp rfl (.tmp rfl (.tmp rfl (.tmp rfl (.tmp rfl .nil))))) ?_
    exact ⟨by rw [useE, if_neg hc2]; rfl, H1.fr⟩
set_option maxRecDepth 100000 in
theorem may_ok (op d a b : UInt8) (imm : UInt32) (w : World) :
    Calls Try.prog 38 #[(.agg #[(vU8 op), (vU8 d), (vU8 a), (vU8 b), (vU32 imm)])] w (fun e w' => e = .returned (.bool (mayB op d a b imm)) ∧ Fr [] w w') := by
  refine enter (args := [(.agg #[(vU8 op), (vU8 d), (vU8 a), (vU8 b), (vU32 imm)])]) Try.func38 rfl rfl ?_
  have H0 := Own.start w []
  refine WC.seq ?_
  refine WC.region ?_
  refine WL.op rfl rfl (op_box H0 rfl rfl (fun b1 w1 H1 => ?_))
  refine WL.op rfl rfl (op_assign rfl ?_)
  refine WL.nil ?_
  refine WQ.next ?_
  refine WC.seq ?_
  refine WC.region ?_
  refine WL.op rfl rfl (op_fieldAddr rfl Fa.F24_0 ?_)
  refine WL.op rfl rfl (op_load rfl (H1.cell (i := 0) rfl rfl) Try.underlying5 rfl ?_)
  refine WL.op rfl rfl (op_callF Fa.C20 rfl ((rUses_ok op _).mono (fun e w2 hq => ?_)))
  obtain ⟨rfl, hf2⟩ := hq
  refine ⟨_, rfl, ?_⟩
  have H2 := H1.fr' hf2
  refine WL.op rfl rfl (op_move rfl ?_)
  refine WL.op rfl rfl (op_extract rfl rfl ?_)
  refine WL.op rfl rfl (op_extract rfl rfl ?_)
  refine WL.op rfl rfl (op_alloc H2 Fa.I38 (fun b3 w3 H3 => ?_))
  refine WL.op rfl rfl (op_storeBW (i := 1) H3 rfl rfl rfl rfl rfl Fa.I38 (fun w4 H4 => ?_))
  refine WL.op rfl rfl (op_assign rfl ?_)
  refine WL.nil ?_
  refine WQ.next ?_
  refine WC.seq ?_
  refine WC.region ?_
  refine WL.op rfl rfl (op_move rfl ?_)
  refine WL.op rfl rfl (op_move rfl ?_)
  refine WL.split (t := 12) rfl (fun (hb5 : (ruOk op) = true) => ?_) (fun (hb5 : (ruOk op) = false) => ?_)
  ·
    refine WL.yes rfl rfl rfl hb5 rfl (op_fieldAddr rfl Fa.F24_1 ?_)
    refine WL.yes rfl rfl rfl hb5 rfl (op_load rfl (H4.cell (i := 0) rfl rfl) Try.underlying5 rfl ?_)
    refine WL.yes rfl rfl rfl hb5 rfl (op_fieldAddr rfl Fa.F38_0 ?_)
    refine WL.yes rfl rfl rfl hb5 rfl (op_load rfl (H4.cell (i := 1) rfl rfl) Try.underlying4 rfl ?_)
    refine WL.yes rfl rfl rfl hb5 rfl (op_callF Fa.C56 rfl ((register_ok d (ruD op) _).mono (fun e w6 hq => ?_)))
    obtain ⟨rfl, hf6⟩ := hq
    refine ⟨_, rfl, ?_⟩
    have H6 := H4.fr' hf6
    refine WL.op rfl rfl (op_pickT rfl hb5 rfl ?_)
    refine WL.op rfl rfl (op_move rfl ?_)
    refine WL.split (t := 19) rfl (fun (hb7 : (regB d (ruD op)) = true) => ?_) (fun (hb7 : (regB d (ruD op)) = false) => ?_)
    ·
      refine WL.yes rfl rfl rfl hb7 rfl (op_fieldAddr rfl Fa.F24_2 ?_)
      refine WL.yes rfl rfl rfl hb7 rfl (op_load rfl (H6.cell (i := 0) rfl rfl) Try.underlying5 rfl ?_)
      refine WL.yes rfl rfl rfl hb7 rfl (op_fieldAddr rfl Fa.F38_1 ?_)
      refine WL.yes rfl rfl rfl hb7 rfl (op_load rfl (H6.cell (i := 1) rfl rfl) Try.underlying4 rfl ?_)
      refine WL.yes rfl rfl rfl hb7 rfl (op_callF Fa.C56 rfl ((register_ok a (ruA op) _).mono (fun e w8 hq => ?_)))
      obtain ⟨rfl, hf8⟩ := hq
      refine ⟨_, rfl, ?_⟩
      have H8 := H6.fr' hf8
      refine WL.op rfl rfl (op_pickT rfl hb7 rfl ?_)
      refine WL.op rfl rfl (op_move rfl ?_)
      refine WL.split (t := 26) rfl (fun (hb9 : (regB a (ruA op)) = true) => ?_) (fun (hb9 : (regB a (ruA op)) = false) => ?_)
      ·
        refine WL.yes rfl rfl rfl hb9 rfl (op_fieldAddr rfl Fa.F24_3 ?_)
        refine WL.yes rfl rfl rfl hb9 rfl (op_load rfl (H8.cell (i := 0) rfl rfl) Try.underlying5 rfl ?_)
        refine WL.yes rfl rfl rfl hb9 rfl (op_fieldAddr rfl Fa.F38_2 ?_)
        refine WL.yes rfl rfl rfl hb9 rfl (op_load rfl (H8.cell (i := 1) rfl rfl) Try.underlying4 rfl ?_)
        refine WL.yes rfl rfl rfl hb9 rfl (op_callF Fa.C56 rfl ((register_ok b (ruB op) _).mono (fun e w10 hq => ?_)))
        obtain ⟨rfl, hf10⟩ := hq
        refine ⟨_, rfl, ?_⟩
        have H10 := H8.fr' hf10
        refine WL.op rfl rfl (op_pickT rfl hb9 rfl ?_)
        refine WL.op rfl rfl (op_move rfl ?_)
        refine WL.split (t := 33) rfl (fun (hb11 : (regB b (ruB op)) = true) => ?_) (fun (hb11 : (regB b (ruB op)) = false) => ?_)
        ·
          refine WL.yes rfl rfl rfl hb11 rfl (op_fieldAddr rfl Fa.F38_3 ?_)
          refine WL.yes rfl rfl rfl hb11 rfl (op_load rfl (H10.cell (i := 1) rfl rfl) Try.underlying4 rfl ?_)
          refine WL.yes rfl rfl rfl hb11 rfl (op_move rfl ?_)
          refine WL.split (t := 36) rfl (fun (hb12 : (ruI op) = true) => ?_) (fun (hb12 : (ruI op) = false) => ?_)
          ·
            refine WL.no rfl rfl rfl hb12 rfl ?_
            refine WL.no rfl rfl rfl hb12 rfl ?_
            refine WL.no rfl rfl rfl hb12 rfl ?_
            refine WL.yes rfl rfl rfl hb11 rfl (op_pickT rfl hb12 rfl ?_)
            refine WL.op rfl rfl (op_pickT rfl hb11 rfl ?_)
            refine WL.op rfl rfl (op_assign rfl ?_)
            refine WL.nil ?_
            refine WQ.next ?_
            refine WC.ret ?_
            refine WQ.out (.tmp rfl .nil) ?_
            exact ⟨by simp_all [tup, mayB], H10.fr⟩
          ·
            refine WL.yes rfl rfl rfl hb12 rfl (op_fieldAddr rfl Fa.F24_4 ?_)
            refine WL.yes rfl rfl rfl hb12 rfl (op_load rfl (H10.cell (i := 0) rfl rfl) Try.underlying22 rfl ?_)
            refine WL.yes rfl rfl rfl hb12 rfl (op_eqlU32 (b := 0) rfl rfl ?_)
            refine WL.yes rfl rfl rfl hb11 rfl (op_pickF rfl hb12 rfl ?_)
            refine WL.op rfl rfl (op_pickT rfl hb11 rfl ?_)
            refine WL.op rfl rfl (op_assign rfl ?_)
            refine WL.nil ?_
            refine WQ.next ?_
            refine WC.ret ?_
            refine WQ.out (.tmp rfl .nil) ?_
            exact ⟨by simp_all [tup, mayB], H10.fr⟩
        ·
          refine WL.no rfl rfl rfl hb11 rfl ?_
          refine WL.no rfl rfl rfl hb11 rfl ?_
          refine WL.no rfl rfl rfl hb11 rfl ?_
          refine WL.non rfl rfl rfl rfl ?_
          refine WL.non rfl rfl rfl rfl ?_
          refine WL.non rfl rfl rfl rfl ?_
          refine WL.no rfl rfl rfl hb11 rfl ?_
          refine WL.op rfl rfl (op_pickF rfl hb11 rfl ?_)
          refine WL.op rfl rfl (op_assign rfl ?_)
          refine WL.nil ?_
          refine WQ.next ?_
          refine WC.ret ?_
          refine WQ.out (.tmp rfl .nil) ?_
          exact ⟨by simp_all [tup, mayB], H10.fr⟩
      ·
        refine WL.no rfl rfl rfl hb9 rfl ?_
        refine WL.no rfl rfl rfl hb9 rfl ?_
        refine WL.no rfl rfl rfl hb9 rfl ?_
        refine WL.no rfl rfl rfl hb9 rfl ?_
        refine WL.no rfl rfl rfl hb9 rfl ?_
        refine WL.op rfl rfl (op_pickF rfl hb9 rfl ?_)
        refine WL.op rfl rfl (op_move rfl ?_)
        refine WL.no rfl rfl rfl rfl rfl ?_
        refine WL.no rfl rfl rfl rfl rfl ?_
        refine WL.no rfl rfl rfl rfl rfl ?_
        refine WL.non rfl rfl rfl rfl ?_
        refine WL.non rfl rfl rfl rfl ?_
        refine WL.non rfl rfl rfl rfl ?_
        refine WL.no rfl rfl rfl rfl rfl ?_
        refine WL.op rfl rfl (op_pickF rfl rfl rfl ?_)
        refine WL.op rfl rfl (op_assign rfl ?_)
        refine WL.nil ?_
        refine WQ.next ?_
        refine WC.ret ?_
        refine WQ.out (.tmp rfl .nil) ?_
        exact ⟨by simp_all [tup, mayB], H8.fr⟩
    ·
      refine WL.no rfl rfl rfl hb7 rfl ?_
      refine WL.no rfl rfl rfl hb7 rfl ?_
      refine WL.no rfl rfl rfl hb7 rfl ?_
      refine WL.no rfl rfl rfl hb7 rfl ?_
      refine WL.no rfl rfl rfl hb7 rfl ?_
      refine WL.op rfl rfl (op_pickF rfl hb7 rfl ?_)
      refine WL.op rfl rfl (op_move rfl ?_)
      refine WL.no rfl rfl rfl rfl rfl ?_
      refine WL.no rfl rfl rfl rfl rfl ?_
      refine WL.no rfl rfl rfl rfl rfl ?_
      refine WL.no rfl rfl rfl rfl rfl ?_
      refine WL.no rfl rfl rfl rfl rfl ?_
      refine WL.op rfl rfl (op_pickF rfl rfl rfl ?_)
      refine WL.op rfl rfl (op_move rfl ?_)
      refine WL.no rfl rfl rfl rfl rfl ?_
      refine WL.no rfl rfl rfl rfl rfl ?_
      refine WL.no rfl rfl rfl rfl rfl ?_
      refine WL.non rfl rfl rfl rfl ?_
      refine WL.non rfl rfl rfl rfl ?_
      refine WL.non rfl rfl rfl rfl ?_
      refine WL.no rfl rfl rfl rfl rfl ?_
      refine WL.op rfl rfl (op_pickF rfl rfl rfl ?_)
      refine WL.op rfl rfl (op_assign rfl ?_)
      refine WL.nil ?_
      refine WQ.next ?_
      refine WC.ret ?_
      refine WQ.out (.tmp rfl .nil) ?_
      exact ⟨by simp_all [tup, mayB], H6.fr⟩
  ·
    refine WL.no rfl rfl rfl hb5 rfl ?_
    refine WL.no rfl rfl rfl hb5 rfl ?_
    refine WL.no rfl rfl rfl hb5 rfl ?_
    refine WL.no rfl rfl rfl hb5 rfl ?_
    refine WL.no rfl rfl rfl hb5 rfl ?_
    refine WL.op rfl rfl (op_pickF rfl hb5 rfl ?_)
    refine WL.op rfl rfl (op_move rfl ?_)
    refine WL.no rfl rfl rfl rfl rfl ?_
    refine WL.no rfl rfl rfl rfl rfl ?_
    refine WL.no rfl rfl rfl rfl rfl ?_
    refine WL.no rfl rfl rfl rfl rfl ?_
    refine WL.no rfl rfl rfl rfl rfl ?_
    refine WL.op rfl rfl (op_pickF rfl rfl rfl ?_)
    refine WL.op rfl rfl (op_move rfl ?_)
    refine WL.no rfl rfl rfl rfl rfl ?_
    refine WL.no rfl rfl rfl rfl rfl ?_
    refine WL.no rfl rfl rfl rfl rfl ?_
    refine WL.no rfl rfl rfl rfl rfl ?_
    refine WL.no rfl rfl rfl rfl rfl ?_
    refine WL.op rfl rfl (op_pickF rfl rfl rfl ?_)
    refine WL.op rfl rfl (op_move rfl ?_)
    refine WL.no rfl rfl rfl rfl rfl ?_
    refine WL.no rfl rfl rfl rfl rfl ?_
    refine WL.no rfl rfl rfl rfl rfl ?_
    refine WL.non rfl rfl rfl rfl ?_
    refine WL.non rfl rfl rfl rfl ?_
    refine WL.non rfl rfl rfl rfl ?_
    refine WL.no rfl rfl rfl rfl rfl ?_
    refine WL.op rfl rfl (op_pickF rfl rfl rfl ?_)
    refine WL.op rfl rfl (op_assign rfl ?_)
    refine WL.nil ?_
    refine WQ.next ?_
    refine WC.ret ?_
    refine WQ.out (.tmp rfl .nil) ?_
    exact ⟨by simp_all [tup, mayB], H4.fr⟩
set_option maxRecDepth 100000 in
theorem bytes_ok (v : UInt32) (n : Nat) (hn : n ≤ 100) (w : World) :
    Calls Try.prog 39 #[(vU32 v), (vN n)] w (fun e w' => e = .returned (str (rB v n)) ∧ Fr [] w w') := by
  refine enter (args := [(vU32 v), (vN n)]) Try.func39 rfl rfl ?_
  have H0 := Own.start w []
  refine WC.seq ?_
  refine WC.region ?_
  refine WL.op rfl rfl (op_assign rfl ?_)
  refine WL.nil ?_
  refine WQ.next ?_
  refine WC.seq ?_
  refine WC.region ?_
  refine WL.op rfl rfl (op_assign rfl ?_)
  have H1 := H0.nilRow 5 1
  refine WL.nil ?_
  refine WQ.next ?_
  refine WC.seq ?_
  refine WC.seq ?_
  refine WC.region ?_
  refine WL.op rfl rfl (op_assign rfl ?_)
  refine WL.nil ?_
  refine WQ.next ?_
  refine WC.block ?_
  refine WC.loop (α := Nat × Value) (fun (k, q) => [(1, (vN n)), (6, (vN k)), (0, (vU32 (rV v k))), (5, q)]) (fun (k, q) w' => k ≤ n ∧ Own [] w w' [.row q 5 1 k ((rB v k).map vU8)]) (fun (k, q) => n - k) (0, (.slice none 0 0)) ⟨(by omega), H1⟩ ⟨rfl, rfl, rfl, rfl, trivial⟩ ?_
  rintro ⟨k, q⟩ w2 ⟨hinv, H2⟩
  show WC _ _ _ _ _ [(1, (vN n)), (6, (vN k)), (0, (vU32 (rV v k))), (5, q)] _
  refine WC.seq ?_
  refine WC.seq ?_
  refine WC.region ?_
  refine WL.op rfl rfl (op_move rfl ?_)
  refine WL.op rfl rfl (op_move rfl ?_)
  refine WL.op rfl rfl (op_lssN rfl rfl ?_)
  refine WL.nil ?_
  refine WQ.next ?_
  refine WC.cond rfl (fun (hb3 : (decide (k < n)) = true) => ?_) (fun (hb3 : (decide (k < n)) = false) => ?_)
  ·
    have hc3 := of_decide_eq_true hb3
    refine WC.skip ?_
    refine WQ.next ?_
    refine WC.seq ?_
    refine WC.block ?_
    refine WC.seq ?_
    refine WC.region ?_
    refine WL.op rfl rfl (op_move rfl ?_)
    refine WL.op rfl rfl (op_move rfl ?_)
    refine WL.op rfl rfl (op_remU32 (b := 256) rfl rfl (by decide) ?_)
    refine WL.op rfl rfl (op_convU32U8 (hs := Try.underlying22) (hd := Try.underlying5) rfl ?_)
    refine WL.op rfl rfl (op_buildSlice (cs := [_]) H2 Try.underlying31 Fa.I5 rfl rfl rfl rfl (by decide) (by decide) (fun b4 w4 H4 => ?_))
    refine WL.op rfl rfl (op_append (i := 0) H4 Try.underlying31 Fa.I5 rfl rfl rfl rfl (Src.ofArr Try.underlying31 (H4.arrR (i := 1) rfl)) (by simp [Value.oneCell']) (by omega) (by omega) (fun v5 w5 H5 => ?_))
    refine WL.op rfl rfl (op_assign rfl ?_)
    refine WL.nil ?_
    refine WQ.next ?_
    refine WC.region ?_
    refine WL.op rfl rfl (op_move rfl ?_)
    refine WL.op rfl rfl (op_quoU32 (b := 256) rfl rfl (by decide) ?_)
    refine WL.op rfl rfl (op_assign rfl ?_)
    refine WL.nil ?_
    refine WQ.inNormal ?_
    refine WQ.next ?_
    refine WC.region ?_
    refine WL.op rfl rfl (op_move rfl ?_)
    refine WL.op rfl rfl (op_addN (b := 1) rfl rfl (by omega) ?_)
    refine WL.op rfl rfl (op_assign rfl ?_)
    refine WL.nil ?_
    exact WQ.round (k + 1, v5) ⟨(by omega), (by rw [rB_map]; exact (H5.take 1))⟩ ⟨rfl, rfl, rfl, rfl, trivial⟩ (by show n - (k + 1) < n - k; omega)
  ·
    have hc3 := of_decide_eq_false hb3
    refine WC.exit ?_
    refine WQ.thenExit ?_
    refine WQ.thenExit ?_
    refine WQ.inHere ?_
    refine WQ.next ?_
    refine WC.seq ?_
    refine WC.region ?_
    refine WL.op rfl rfl (op_move rfl ?_)
    refine WL.op rfl rfl (op_bytesStr (l := (rB v k)) Try.underlying31 Try.underlying5 Try.underlying9 rfl (H2.arrR (i := 0) rfl) rfl ?_)
    refine WL.op rfl rfl (op_assign rfl ?_)
    refine WL.nil ?_
    refine WQ.next ?_
    refine WC.ret ?_
    refine WQ.out (.tmp rfl .nil) ?_
    exact ⟨by have hk : k = n := (by omega); subst hk; rfl, H2.fr⟩
set_option maxRecDepth 100000 in
theorem rGet_ok (s : List UInt8) (w : World) :
    Calls Try.prog 40 #[(str s)] w (fun e w' => e = .returned (.tuple #[vU32 (gFV s), vN (getE s)]) ∧ Fr [] w w') := by
  refine enter (args := [(str s)]) Try.func40 rfl rfl ?_
  have H0 := Own.start w []
  refine WC.seq ?_
  refine WC.region ?_
  refine WL.op rfl rfl (op_assign rfl ?_)
  refine WL.op rfl rfl (op_assign rfl ?_)
  refine WL.nil ?_
  refine WQ.next ?_
  refine WC.seq ?_
  refine WC.seq ?_
  refine WC.region ?_
  refine WL.op rfl rfl (op_move rfl ?_)
  refine WL.op rfl rfl (op_lenStr Try.underlying9 rfl ?_)
  refine WL.op rfl rfl (op_lssN (b := 1) rfl rfl ?_)
  refine WL.op rfl rfl (op_move rfl ?_)
  refine WL.split (t := 9) rfl (fun (hb1 : (decide (s.length < 1)) = true) => ?_) (fun (hb1 : (decide (s.length < 1)) = false) => ?_)
  ·
    have hc1 := of_decide_eq_true hb1
    refine WL.no rfl rfl rfl hb1 rfl ?_
    refine WL.no rfl rfl rfl hb1 rfl ?_
    refine WL.no rfl rfl rfl hb1 rfl ?_
    refine WL.op rfl rfl (op_pickT rfl hb1 rfl ?_)
    refine WL.nil ?_
    refine WQ.next ?_
    refine WC.yes rfl rfl ?_
    refine WC.seq ?_
    refine WC.region ?_
    refine WL.op rfl rfl (op_assign rfl ?_)
    refine WL.op rfl rfl (op_assign rfl ?_)
    refine WL.nil ?_
    refine WQ.next ?_
    refine WC.ret ?_
    refine WQ.thenRet ?_
    refine WQ.out (.tmp rfl (.tmp rfl .nil)) ?_
    exact ⟨by first | (have hj : j = 0 := (by omega); subst hj; rw [gFV, getE, if_neg (by omega), if_neg (by omega)]; rfl) | (rw [gFV, getE, if_pos (by omega), if_pos (by omega)]; rfl), H0.fr⟩
  ·
    have hc1 := of_decide_eq_false hb1
    refine WL.yes rfl rfl rfl hb1 rfl (op_move rfl ?_)
    refine WL.yes rfl rfl rfl hb1 rfl (op_lenStr Try.underlying9 rfl ?_)
    refine WL.yes rfl rfl rfl hb1 rfl (op_gtrN (b := 4) rfl rfl ?_)
    refine WL.op rfl rfl (op_pickF rfl hb1 rfl ?_)
    refine WL.nil ?_
    refine WQ.next ?_
    refine WC.cond rfl (fun (hb2 : (decide (s.length > 4)) = true) => ?_) (fun (hb2 : (decide (s.length > 4)) = false) => ?_)
    ·
      have hc2 := of_decide_eq_true hb2
      refine WC.seq ?_
      refine WC.region ?_
      refine WL.op rfl rfl (op_assign rfl ?_)
      refine WL.op rfl rfl (op_assign rfl ?_)
      refine WL.nil ?_
      refine WQ.next ?_
      refine WC.ret ?_
      refine WQ.thenRet ?_
      refine WQ.out (.tmp rfl (.tmp rfl .nil)) ?_
      exact ⟨by first | (have hj : j = 0 := (by omega); subst hj; rw [gFV, getE, if_neg (by omega), if_neg (by omega)]; rfl) | (rw [gFV, getE, if_pos (by omega), if_pos (by omega)]; rfl), H0.fr⟩
    ·
      have hc2 := of_decide_eq_false hb2
      refine WC.skip ?_
      refine WQ.next ?_
      refine WC.seq ?_
      refine WC.region ?_
      refine WL.op rfl rfl (op_assign rfl ?_)
      refine WL.nil ?_
      refine WQ.next ?_
      refine WC.seq ?_
      refine WC.seq ?_
      refine WC.region ?_
      refine WL.op rfl rfl (op_move rfl ?_)
      refine WL.op rfl rfl (op_lenStr Try.underlying9 rfl ?_)
      refine WL.op rfl rfl (op_subI (a := (s.length : Int)) (b := (1 : Int)) rfl rfl (by omega) ?_)
      refine WL.op rfl rfl (op_assign rfl ?_)
      refine WL.nil ?_
      refine WQ.next ?_
      refine WC.block ?_
      refine WC.loop (α := Nat) (fun j => [(0, (str s)), (3, (vN 0)), (2, (vU32 0)), (5, (vI ((j : Int) - (1 : Int)))), (4, (vU32 (gF (s.drop j))))]) (fun j w' => j ≤ s.length ∧ Own [] w w' []) (fun j => j) s.length ⟨(by omega), H0⟩ ⟨rfl, rfl, rfl, rfl, (by rw [show s.drop s.length = [] from List.drop_length]; rfl), trivial⟩ ?_
      rintro j w3 ⟨hinv, H3⟩
      show WC _ _ _ _ _ [(0, (str s)), (3, (vN 0)), (2, (vU32 0)), (5, (vI ((j : Int) - (1 : Int)))), (4, (vU32 (gF (s.drop j))))] _
      refine WC.seq ?_
      refine WC.seq ?_
      refine WC.region ?_
      refine WL.op rfl rfl (op_move rfl ?_)
      refine WL.op rfl rfl (op_geqI (b := (0 : Int)) rfl rfl ?_)
      refine WL.nil ?_
      refine WQ.next ?_
      refine WC.cond rfl (fun (hb4 : (decide (((j : Int) - (1 : Int)) ≥ (0 : Int))) = true) => ?_) (fun (hb4 : (decide (((j : Int) - (1 : Int)) ≥ (0 : Int))) = false) => ?_)
      ·
        have hc4 := of_decide_eq_true hb4
        obtain ⟨m, hm⟩ : ∃ m, j = m + 1 := ⟨j - 1, by omega⟩
        subst hm
        rw [show (((m + 1 : Nat) : Int) - (1 : Int)) = (m : Int) from by omega]
        refine WC.skip ?_
        refine WQ.next ?_
        refine WC.seq ?_
        refine WC.block ?_
        refine WC.region ?_
        refine WL.op rfl rfl (op_move rfl ?_)
        refine WL.op rfl rfl (op_mulU32 (a := 256) rfl rfl ?_)
        refine WL.op rfl rfl (op_move rfl ?_)
        refine WL.op rfl rfl (op_move rfl ?_)
        refine WL.op rfl rfl (op_indexStrD Try.underlying9 rfl rfl (by omega) ?_)
        refine WL.op rfl rfl (op_convU8U32 (hs := Try.underlying5) (hd := Try.underlying22) rfl ?_)
        refine WL.op rfl rfl (op_addU32 rfl rfl ?_)
        refine WL.op rfl rfl (op_assign rfl ?_)
        refine WL.nil ?_
        refine WQ.inNormal ?_
        refine WQ.next ?_
        refine WC.region ?_
        refine WL.op rfl rfl (op_move rfl ?_)
        refine WL.op rfl rfl (op_subI (a := (m : Int)) (b := (1 : Int)) rfl rfl (by omega) ?_)
        refine WL.op rfl rfl (op_assign rfl ?_)
        refine WL.nil ?_
        exact WQ.round m ⟨(by omega), H3⟩ ⟨rfl, rfl, rfl, rfl, (congrArg (fun x => some (vU32 x)) (gF_drop s m (by omega)).symm), trivial⟩ (by omega)
      ·
        have hc4 := of_decide_eq_false hb4
        refine WC.exit ?_
        refine WQ.thenExit ?_
        refine WQ.thenExit ?_
        refine WQ.inHere ?_
        refine WQ.next ?_
        refine WC.seq ?_
        refine WC.region ?_
        refine WL.op rfl rfl (op_move rfl ?_)
        refine WL.op rfl rfl (op_assign rfl ?_)
        refine WL.op rfl rfl (op_assign rfl ?_)
        refine WL.nil ?_
        refine WQ.next ?_
        refine WC.ret ?_
        refine WQ.out (.tmp rfl (.tmp rfl .nil)) ?_
        exact ⟨by first | (have hj : j = 0 := (by omega); subst hj; rw [gFV, getE, if_neg (by omega), if_neg (by omega)]; rfl) | (rw [gFV, getE, if_pos (by omega), if_pos (by omega)]; rfl), H3.fr⟩
set_option maxRecDepth 100000 in
theorem rEncode_ok (op d a b : UInt8) (imm : UInt32) (w : World) :
    Calls Try.prog 16 #[(.agg #[(vU8 op), (vU8 d), (vU8 a), (vU8 b), (vU32 imm)])] w (fun e w' => e = .returned (.tuple #[str (encS op d a b imm), vN (encE op d a b imm)]) ∧ Fr [] w w') := by
  refine enter (args := [(.agg #[(vU8 op), (vU8 d), (vU8 a), (vU8 b), (vU32 imm)])]) Try.func16 rfl rfl ?_
  have H0 := Own.start w []
  refine WC.seq ?_
  refine WC.region ?_
  refine WL.op rfl rfl (op_box H0 rfl rfl (fun b1 w1 H1 => ?_))
  refine WL.op rfl rfl (op_assign rfl ?_)
  refine WL.op rfl rfl (op_assign rfl ?_)
  refine WL.nil ?_
  refine WQ.next ?_
  refine WC.seq ?_
  refine WC.seq ?_
  refine WC.region ?_
  refine WL.op rfl rfl (op_loadS (vs := [_, _, _, _, _]) rfl (H1.cells (i := 0) rfl rfl) Try.underlying24 rfl Fa.I24 rfl ?_)
  refine WL.op rfl rfl (op_callF Fa.C38 rfl ((may_ok op d a b imm _).mono (fun e w2 hq => ?_)))
  obtain ⟨rfl, hf2⟩ := hq
  refine ⟨_, rfl, ?_⟩
  have H2 := H1.fr' hf2
  refine WL.op rfl rfl (op_not rfl ?_)
  refine WL.nil ?_
  refine WQ.next ?_
  refine WC.cond rfl (fun (hb3 : (!(mayB op d a b imm)) = true) => ?_) (fun (hb3 : (!(mayB op d a b imm)) = false) => ?_)
  ·
    have hn3 := (Bool.not_eq_true' _).mp hb3
    refine WC.seq ?_
    refine WC.region ?_
    refine WL.op rfl rfl (op_assign rfl ?_)
    refine WL.op rfl rfl (op_assign rfl ?_)
    refine WL.nil ?_
    refine WQ.next ?_
    refine WC.ret ?_
    refine WQ.thenRet ?_
    refine WQ.out (.tmp rfl (.tmp rfl .nil)) ?_
    exact ⟨by rw [(rEncN op d a b imm hn3).1, (rEncN op d a b imm hn3).2]; rfl, H2.fr⟩
  ·
    have hn3 := (Bool.not_eq_false' _).mp hb3
    refine WC.skip ?_
    refine WQ.next ?_
    refine WC.seq ?_
    refine WC.draw 15 Fa.M H2 (HW.op rfl (fun w1 H1 => op_fieldAddr rfl Fa.F24_0 ⟨rfl, Fr.refl _ _⟩) (HW.op rfl (fun w1 H1 => op_load rfl (H1.cell (i := 0) rfl rfl) Try.underlying5 rfl ⟨rfl, Fr.refl _ _⟩) (HW.op rfl (fun w1 H1 => op_fieldAddr rfl Fa.F24_1 ⟨rfl, Fr.refl _ _⟩) (HW.op rfl (fun w1 H1 => op_load rfl (H1.cell (i := 0) rfl rfl) Try.underlying5 rfl ⟨rfl, Fr.refl _ _⟩) (HW.op rfl (fun w1 H1 => op_fieldAddr rfl Fa.F24_2 ⟨rfl, Fr.refl _ _⟩) (HW.op rfl (fun w1 H1 => op_load rfl (H1.cell (i := 0) rfl rfl) Try.underlying5 rfl ⟨rfl, Fr.refl _ _⟩) (HW.op rfl (fun w1 H1 => op_mulU8 (a := 16) rfl rfl ⟨rfl, Fr.refl _ _⟩) (HW.op rfl (fun w1 H1 => op_addU8 rfl rfl ⟨rfl, Fr.refl _ _⟩) (HW.op rfl (fun w1 H1 => op_fieldAddr rfl Fa.F24_3 ⟨rfl, Fr.refl _ _⟩) (HW.op rfl (fun w1 H1 => op_load rfl (H1.cell (i := 0) rfl rfl) Try.underlying5 rfl ⟨rfl, Fr.refl _ _⟩) (HW.flt (mk := fun bq => .slice (some ⟨bq, 0, none⟩) 4 4) (ent := fun bq => .row (.slice (some ⟨bq, 0, none⟩) 4 4) _ _ _ _) rfl (fun w1 => op_buildSlice (cs := [_, _, _, _]) (Own.start w1 []) Try.underlying31 Fa.I5 rfl rfl rfl rfl (by decide) (by decide) (fun bq w2 H2 => ⟨bq, rfl, H2⟩)) (HW.opFs 0 rfl rfl (fun bq w1 H1 => op_bytesStr (l := [op, (d + ((16 : UInt8) * a)), b, 0]) Try.underlying31 Try.underlying5 Try.underlying9 rfl (H1.arrR (i := 1) rfl) rfl ⟨rfl, Fr.refl _ _⟩) (HW.op rfl (fun w1 H1 => op_fieldAddr rfl Fa.F24_4 ⟨rfl, Fr.refl _ _⟩) (HW.op rfl (fun w1 H1 => op_load rfl (H1.cell (i := 0) rfl rfl) Try.underlying22 rfl ⟨rfl, Fr.refl _ _⟩) (HW.op rfl (fun w1 H1 => op_callF Fa.C39 rfl ((bytes_ok imm 4 (by decide) _).mono (fun e w2 hq => ⟨_, hq.1, rfl, hq.2⟩)))  HW.nil))))))))))))))) (by kernel_rfl) ?_
    intro β5 w5 H5
    refine WL.op rfl rfl (op_addStr rfl rfl (by rw [rB_length]; simp) ?_)
    refine WL.op rfl rfl (op_assign rfl ?_)
    refine WL.op rfl rfl (op_assign rfl ?_)
    refine WL.nil ?_
    refine WQ.next ?_
    refine WC.ret ?_
    refine WQ.out (.tmp rfl (.tmp rfl .nil)) ?_
    exact ⟨by rw [← rEnc op d a b imm hn3, rEncE op d a b imm hn3]; rfl, H5.fr⟩
set_option maxRecDepth 100000 in
theorem rDecode_ok (s : List UInt8) (w : World) :
    Calls Try.prog 17 #[(str s)] w (fun e w' => e = .returned (.tuple #[(.agg #[vU8 (decOp s), vU8 (decD s), vU8 (decA s), vU8 (decBr s), vU32 (decI s)]), vN (decE s)]) ∧ Fr [] w w') := by
  refine enter (args := [(str s)]) Try.func17 rfl rfl ?_
  have H0 := Own.start w []
  refine WC.seq ?_
  refine WC.region ?_
  refine WL.op rfl rfl (op_alloc H0 Fa.I24 (fun b1 w1 H1 => ?_))
  refine WL.op rfl rfl (op_assign rfl ?_)
  refine WL.nil ?_
  refine WQ.next ?_
  refine WC.seq ?_
  refine WC.seq ?_
  refine WC.region ?_
  refine WL.op rfl rfl (op_move rfl ?_)
  refine WL.op rfl rfl (op_lenStr Try.underlying9 rfl ?_)
  refine WL.op rfl rfl (op_neqN (b := 8) rfl rfl ?_)
  refine WL.nil ?_
  refine WQ.next ?_
  refine WC.cond rfl (fun (hb2 : (decide (s.length ≠ 8)) = true) => ?_) (fun (hb2 : (decide (s.length ≠ 8)) = false) => ?_)
  ·
    have hc2 := of_decide_eq_true hb2
    refine WC.seq ?_
    refine WC.region ?_
    refine WL.op rfl rfl (op_build (cs := [_, _, _, _, _]) Fa.I24 Fa.PL24 rfl rfl ?_)
    refine WL.op rfl rfl (op_storeBW (i := 0) H1 rfl rfl rfl rfl rfl Fa.I24 (fun w3 H3 => ?_))
    refine WL.op rfl rfl (op_assign rfl ?_)
    refine WL.nil ?_
    refine WQ.next ?_
    refine WC.ret ?_
    refine WQ.thenRet ?_
    refine WQ.out (.cell rfl (run_loadVarS (vs := [_, _, _, _, _]) (H3.cells (i := 0) rfl rfl) Try.underlying24 rfl Fa.I24 rfl) (.tmp rfl .nil)) ?_
    exact ⟨by obtain ⟨h1, h2, h3, h4, h5, h6⟩ := (rDecN (s := s) (.inl hc2)); rw [h1, h2, h3, h4, h5, h6]; rfl, H3.fr⟩
  ·
    have hc2 := of_decide_eq_false hb2
    refine WC.skip ?_
    refine WQ.next ?_
    refine WC.seq ?_
    refine WC.region ?_
    refine WL.op rfl rfl (op_move rfl ?_)
    refine WL.op rfl rfl (op_sliceStrLo (a := 4) Try.underlying9 rfl rfl (by omega) ?_)
    refine WL.op rfl rfl (op_callF Fa.C40 rfl ((rGet_ok (s.drop 4) _).mono (fun e w4 hq => ?_)))
    obtain ⟨rfl, hf4⟩ := hq
    refine ⟨_, rfl, ?_⟩
    have H4 := H1.fr' hf4
    refine WL.op rfl rfl (op_move rfl ?_)
    refine WL.op rfl rfl (op_extract rfl rfl ?_)
    refine WL.op rfl rfl (op_extract rfl rfl ?_)
    refine WL.op rfl rfl (op_assign rfl ?_)
    refine WL.op rfl rfl (op_assign rfl ?_)
    refine WL.nil ?_
    refine WQ.next ?_
    refine WC.seq ?_
    refine WC.draw 13 Fa.M H4 (HW.op rfl (fun w1 H1 => op_move rfl ⟨rfl, Fr.refl _ _⟩) (HW.op rfl (fun w1 H1 => op_indexStrD (m := 0) Try.underlying9 rfl rfl (by omega) ⟨rfl, Fr.refl _ _⟩) (HW.op rfl (fun w1 H1 => op_move rfl ⟨rfl, Fr.refl _ _⟩) (HW.op rfl (fun w1 H1 => op_indexStrD (m := 1) Try.underlying9 rfl rfl (by omega) ⟨rfl, Fr.refl _ _⟩) (HW.op rfl (fun w1 H1 => op_remU8 (b := 16) rfl rfl (by decide) ⟨rfl, Fr.refl _ _⟩) (HW.op rfl (fun w1 H1 => op_move rfl ⟨rfl, Fr.refl _ _⟩) (HW.op rfl (fun w1 H1 => op_indexStrD (m := 1) Try.underlying9 rfl rfl (by omega) ⟨rfl, Fr.refl _ _⟩) (HW.op rfl (fun w1 H1 => op_quoU8 (b := 16) rfl rfl (by decide) ⟨rfl, Fr.refl _ _⟩) (HW.op rfl (fun w1 H1 => op_move rfl ⟨rfl, Fr.refl _ _⟩) (HW.op rfl (fun w1 H1 => op_indexStrD (m := 2) Try.underlying9 rfl rfl (by omega) ⟨rfl, Fr.refl _ _⟩) (HW.op rfl (fun w1 H1 => op_move rfl ⟨rfl, Fr.refl _ _⟩) (HW.op rfl (fun w1 H1 => op_build (cs := [_, _, _, _, _]) Fa.I24 Fa.PL24 rfl rfl ⟨rfl, Fr.refl _ _⟩) (HW.flt (mk := fun bq => ptr bq 0) (ent := fun bq => .blk bq _ _) rfl (fun w1 => op_alloc (Own.start w1 []) Fa.I24 (fun bq w2 H2 => ⟨bq, rfl, H2⟩))  HW.nil))))))))))))) (by kernel_rfl) ?_
    intro β5 w5 H5
    refine WL.op rfl rfl (op_storeBW (i := 1) H5 rfl rfl rfl rfl rfl Fa.I24 (fun w6 H6 => ?_))
    refine WL.nil ?_
    refine WQ.next ?_
    refine WC.seq ?_
    refine WC.region ?_
    refine WL.op rfl rfl (op_loadS (vs := [_, _, _, _, _]) rfl (H6.cells (i := 1) rfl rfl) Try.underlying24 rfl Fa.I24 rfl ?_)
    refine WL.op rfl rfl (op_callF Fa.C16 rfl ((rEncode_ok (s.getD 0 0) ((s.getD 1 0) % (16 : UInt8)) ((s.getD 1 0) / (16 : UInt8)) (s.getD 2 0) (gFV (s.drop 4)) _).mono (fun e w7 hq => ?_)))
    obtain ⟨rfl, hf7⟩ := hq
    refine ⟨_, rfl, ?_⟩
    have H7 := H6.fr' hf7
    refine WL.op rfl rfl (op_move rfl ?_)
    refine WL.op rfl rfl (op_extract rfl rfl ?_)
    refine WL.op rfl rfl (op_extract rfl rfl ?_)
    refine WL.op rfl rfl (op_assign rfl ?_)
    refine WL.op rfl rfl (op_assign rfl ?_)
    refine WL.nil ?_
    refine WQ.next ?_
    refine WC.seq ?_
    refine WC.seq ?_
    refine WC.region ?_
    refine WL.op rfl rfl (op_move rfl ?_)
    refine WL.op rfl rfl (op_neqN (b := 0) rfl rfl ?_)
    refine WL.op rfl rfl (op_move rfl ?_)
    refine WL.split (t := 38) rfl (fun (hb8 : (decide ((encE (s.getD 0 0) ((s.getD 1 0) % (16 : UInt8)) ((s.getD 1 0) / (16 : UInt8)) (s.getD 2 0) (gFV (s.drop 4))) ≠ 0)) = true) => ?_) (fun (hb8 : (decide ((encE (s.getD 0 0) ((s.getD 1 0) % (16 : UInt8)) ((s.getD 1 0) / (16 : UInt8)) (s.getD 2 0) (gFV (s.drop 4))) ≠ 0)) = false) => ?_)
    ·
      have hc8 := of_decide_eq_true hb8
      refine WL.no rfl rfl rfl hb8 rfl ?_
      refine WL.no rfl rfl rfl hb8 rfl ?_
      refine WL.no rfl rfl rfl hb8 rfl ?_
      refine WL.op rfl rfl (op_pickT rfl hb8 rfl ?_)
      refine WL.nil ?_
      refine WQ.next ?_
      refine WC.yes rfl rfl ?_
      refine WC.seq ?_
      refine WC.region ?_
      refine WL.op rfl rfl (op_build (cs := [_, _, _, _, _]) Fa.I24 Fa.PL24 rfl rfl ?_)
      refine WL.op rfl rfl (op_storeBW (i := 0) H7 rfl rfl rfl rfl rfl Fa.I24 (fun w9 H9 => ?_))
      refine WL.op rfl rfl (op_assign rfl ?_)
      refine WL.nil ?_
      refine WQ.next ?_
      refine WC.ret ?_
      refine WQ.thenRet ?_
      refine WQ.out (.cell rfl (run_loadVarS (vs := [_, _, _, _, _]) (H9.cells (i := 0) rfl rfl) Try.underlying24 rfl Fa.I24 rfl) (.tmp rfl .nil)) ?_
      exact ⟨by obtain ⟨h1, h2, h3, h4, h5, h6⟩ := (rDecN (s := s) (.inr (.inl hc8))); rw [h1, h2, h3, h4, h5, h6]; rfl, H9.fr⟩
    ·
      have hc8 := of_decide_eq_false hb8
      refine WL.yes rfl rfl rfl hb8 rfl (op_move rfl ?_)
      refine WL.yes rfl rfl rfl hb8 rfl (op_move rfl ?_)
      refine WL.yes rfl rfl rfl hb8 rfl (op_neqStr rfl rfl ?_)
      refine WL.op rfl rfl (op_pickF rfl hb8 rfl ?_)
      refine WL.nil ?_
      refine WQ.next ?_
      refine WC.cond rfl (fun (hb10 : (decide ((encS (s.getD 0 0) ((s.getD 1 0) % (16 : UInt8)) ((s.getD 1 0) / (16 : UInt8)) (s.getD 2 0) (gFV (s.drop 4))) ≠ s)) = true) => ?_) (fun (hb10 : (decide ((encS (s.getD 0 0) ((s.getD 1 0) % (16 : UInt8)) ((s.getD 1 0) / (16 : UInt8)) (s.getD 2 0) (gFV (s.drop 4))) ≠ s)) = false) => ?_)
      ·
        have hc10 := of_decide_eq_true hb10
        refine WC.seq ?_
        refine WC.region ?_
        refine WL.op rfl rfl (op_build (cs := [_, _, _, _, _]) Fa.I24 Fa.PL24 rfl rfl ?_)
        refine WL.op rfl rfl (op_storeBW (i := 0) H7 rfl rfl rfl rfl rfl Fa.I24 (fun w11 H11 => ?_))
        refine WL.op rfl rfl (op_assign rfl ?_)
        refine WL.nil ?_
        refine WQ.next ?_
        refine WC.ret ?_
        refine WQ.thenRet ?_
        refine WQ.out (.cell rfl (run_loadVarS (vs := [_, _, _, _, _]) (H11.cells (i := 0) rfl rfl) Try.underlying24 rfl Fa.I24 rfl) (.tmp rfl .nil)) ?_
        exact ⟨by obtain ⟨h1, h2, h3, h4, h5, h6⟩ := (rDecN (s := s) (.inr (.inr hc10))); rw [h1, h2, h3, h4, h5, h6]; rfl, H11.fr⟩
      ·
        have hc10 := of_decide_eq_false hb10
        refine WC.skip ?_
        refine WQ.next ?_
        refine WC.seq ?_
        refine WC.region ?_
        refine WL.op rfl rfl (op_loadS (vs := [_, _, _, _, _]) rfl (H7.cells (i := 1) rfl rfl) Try.underlying24 rfl Fa.I24 rfl ?_)
        refine WL.op rfl rfl (op_storeBW (i := 0) H7 rfl rfl rfl rfl rfl Fa.I24 (fun w12 H12 => ?_))
        refine WL.op rfl rfl (op_assign rfl ?_)
        refine WL.nil ?_
        refine WQ.next ?_
        refine WC.ret ?_
        refine WQ.out (.cell rfl (run_loadVarS (vs := [_, _, _, _, _]) (H12.cells (i := 0) rfl rfl) Try.underlying24 rfl Fa.I24 rfl) (.tmp rfl .nil)) ?_
        exact ⟨by obtain ⟨h1, h2, h3, h4, h5, h6⟩ := (rDecY (s := s) (by omega) (by simpa [rE] using hc8) (by simpa [rS] using hc10)); rw [h1, h2, h3, h4, h5, h6]; rfl, H12.fr⟩
end Go.Proofs.Ytfdlkkhhakjgeaa
