/- General lemmas and walks: WImg9, WImg10. No condition but what each theorem names. -/
import Derived.Test.YtpnghdalnghpcaaQcf708baf
import Derived.Test.YtpnghdalnghpcaaQf9123c4d
import Derived.Test.YtpnghdalnghpcaaQ8b1839b4
import Derived.Test.YtpnghdalnghpcaaQ3677b7f3
/-! from WImg9 -/
namespace Go.Proofs.Ytpnghdalnghpcaa
open Go.Owl Go.Spec
set_option maxRecDepth 100000 in
theorem rput_ok (pg : UInt32) (ev pv sv : Value) (xs : List Xt) (ps : List UInt16) (con : Bool) (en : UInt32) (sg : List Sg) (w : World) (hE : Arr w ev 2 xs.length (List.flatMap xtc xs)) (hP : Arr w pv 1 ps.length (List.map vU16 ps)) (hS : Arr w sv 3 sg.length (List.flatMap sgc sg)) (bx : xs.length ≤ 2 ^ 20) (bp : ps.length ≤ 2 ^ 20) (bs : sg.length ≤ 2 ^ 10) (bb : ∀ x ∈ sg, x.b.length ≤ 2 ^ 30) :
    Calls Try.prog 48 #[(.agg #[(vU32 pg), ev, pv, (.bool con), (vU32 en), sv])] w (fun e w' => e = .returned (str (imS pg xs ps con en sg)) ∧ Fr [] w w') := by
  refine enter (args := [(.agg #[(vU32 pg), ev, pv, (.bool con), (vU32 en), sv])]) Try.func48 rfl rfl ?_
  have H0 : Own [] w w [] := Own.start w []
  have hq1 := imP1_len pg xs
  have hq2 := imP2_len pg xs ps
  have hq3 := imP3_len pg xs ps con en sg
  refine WC.seq ?_
  refine WC.region ?_
  refine WL.op rfl rfl (op_box H0 rfl rfl (fun b1 w1 H1 => ?_))
  refine WL.op rfl rfl (op_assign rfl ?_)
  refine WL.nil ?_
  refine WQ.next ?_
  refine WC.seq ?_
  refine WC.draw 13 Fa.M H1 (HW.op rfl (fun w1 H1 => op_fieldAddr rfl Fa.F59_0 ⟨rfl, Fr.refl _ _⟩) (HW.op rfl (fun w1 H1 => op_fieldAddr rfl Fa.F56_0 ⟨rfl, Fr.refl _ _⟩) (HW.op rfl (fun w1 H1 => op_load rfl (H1.cell (i := 0) rfl rfl) Try.underlying22 rfl ⟨rfl, Fr.refl _ _⟩) (HW.op rfl (fun w1 H1 => op_callF Fa.C95 rfl ((rnum16_ok pg 4 _).mono (fun e w2 hq => ⟨_, hq.1, rfl, hq.2⟩))) (HW.op rfl (fun w1 H1 => op_addStr rfl rfl (by have := numE_len pg 4; (try simp only [List.length_append, List.length_cons, List.length_nil]); omega) ⟨rfl, Fr.refl _ _⟩) (HW.op rfl (fun w1 H1 => op_fieldAddr rfl Fa.F59_0 ⟨rfl, Fr.refl _ _⟩) (HW.op rfl (fun w1 H1 => op_fieldAddr rfl Fa.F56_1 ⟨rfl, Fr.refl _ _⟩) (HW.op rfl (fun w1 H1 => op_load rfl (H1.cell (i := 0) rfl rfl) Try.underlying53 rfl ⟨rfl, Fr.refl _ _⟩) (HW.op rfl (fun w1 H1 => op_lenA Try.underlying53 rfl (H1.arr hE) ⟨rfl, Fr.refl _ _⟩) (HW.op rfl (fun w1 H1 => op_convNU32 (hs := Try.underlying3) (hd := Try.underlying22) rfl ⟨rfl, Fr.refl _ _⟩) (HW.op rfl (fun w1 H1 => op_callF Fa.C95 rfl ((rnum16_ok (UInt32.ofNat xs.length) 1 _).mono (fun e w2 hq => ⟨_, hq.1, rfl, hq.2⟩))) (HW.op rfl (fun w1 H1 => op_addStr rfl rfl (by have := numE_len pg 4; have := numE_len (UInt32.ofNat xs.length) 1; (try simp only [List.length_append, List.length_cons, List.length_nil]); omega) ⟨rfl, Fr.refl _ _⟩) (HW.op rfl (fun w1 H1 => op_assign rfl ⟨rfl, Fr.refl _ _⟩)  HW.nil))))))))))))) (by kernel_rfl) ?_
  intro β4 w4 H4
  refine WL.nil ?_
  refine WQ.next ?_
  refine WC.seq ?_
  refine WC.seq ?_
  refine WC.region ?_
  refine WL.op rfl rfl (op_assign rfl ?_)
  refine WL.nil ?_
  refine WQ.next ?_
  refine WC.block ?_
  refine WC.loop (α := Nat) (fun k => [(1, (ptr b1 0)), (3, (str ((imP1 pg xs) ++ putX xs k))), (4, (vN k))]) (fun k w' => (k ≤ xs.length) ∧ Own [] w w' [.blk b1 [(vU32 pg), ev, pv, (.bool con), (vU32 en), sv] 59]) (fun k => xs.length - k) 0 ⟨Nat.zero_le _, H4⟩ ⟨rfl, (congrArg (fun x => some (str x)) (List.append_nil _).symm), rfl, trivial⟩ ?_
  rintro k w5 ⟨hk1, H5⟩
  show WC _ _ _ _ _ [(1, (ptr b1 0)), (3, (str ((imP1 pg xs) ++ putX xs k))), (4, (vN k))] _
  have hqx := putX_len xs k
  refine WC.seq ?_
  refine WC.seq ?_
  refine WC.region ?_
  refine WL.op rfl rfl (op_move rfl ?_)
  refine WL.op rfl rfl (op_fieldAddr rfl Fa.F59_0 ?_)
  refine WL.op rfl rfl (op_fieldAddr rfl Fa.F56_1 ?_)
  refine WL.op rfl rfl (op_load rfl (H5.cell (i := 0) rfl rfl) Try.underlying53 rfl ?_)
  refine WL.op rfl rfl (op_lenA Try.underlying53 rfl (H5.arr hE) ?_)
  refine WL.op rfl rfl (op_lssN rfl rfl ?_)
  refine WL.nil ?_
  refine WQ.next ?_
  refine WC.cond rfl (fun (hb6 : (decide (k < xs.length)) = true) => ?_) (fun (hb6 : (decide (k < xs.length)) = false) => ?_)
  ·
    have hc6 := of_decide_eq_true hb6
    refine WC.skip ?_
    refine WQ.next ?_
    refine WC.seq ?_
    refine WC.block ?_
    refine WC.draw 20 Fa.M H5 (HW.op rfl (fun w1 H1 => op_move rfl ⟨rfl, Fr.refl _ _⟩) (HW.op rfl (fun w1 H1 => op_fieldAddr rfl Fa.F59_0 ⟨rfl, Fr.refl _ _⟩) (HW.op rfl (fun w1 H1 => op_fieldAddr rfl Fa.F56_1 ⟨rfl, Fr.refl _ _⟩) (HW.op rfl (fun w1 H1 => op_load rfl (H1.cell (i := 0) rfl rfl) Try.underlying53 rfl ⟨rfl, Fr.refl _ _⟩) (HW.op rfl (fun w1 H1 => op_move rfl ⟨rfl, Fr.refl _ _⟩) (HW.op rfl (fun w1 H1 => op_indexAddr Try.underlying53 Fa.I130 rfl (H1.arr hE) rfl (by omega) ⟨rfl, Fr.refl _ _⟩) (HW.op rfl (fun w1 H1 => op_fieldAddrS rfl Fa.F130_0 ⟨rfl, Fr.refl _ _⟩) (HW.op rfl (fun w1 H1 => op_load rfl (Arr.atF (k := 0) (H1.arr hE) (fun _ => rfl) (by decide) Xt.zero (by omega) rfl) Try.underlying22 rfl ⟨rfl, Fr.refl _ _⟩) (HW.op rfl (fun w1 H1 => op_callF Fa.C95 rfl ((rnum16_ok ((xs.getD k Xt.zero).id) 1 _).mono (fun e w2 hq => ⟨_, hq.1, rfl, hq.2⟩))) (HW.op rfl (fun w1 H1 => op_addStr rfl rfl (by have := numE_len ((xs.getD k Xt.zero).id) 1; (try simp only [List.length_append, List.length_cons, List.length_nil]); omega) ⟨rfl, Fr.refl _ _⟩) (HW.op rfl (fun w1 H1 => op_fieldAddr rfl Fa.F59_0 ⟨rfl, Fr.refl _ _⟩) (HW.op rfl (fun w1 H1 => op_fieldAddr rfl Fa.F56_1 ⟨rfl, Fr.refl _ _⟩) (HW.op rfl (fun w1 H1 => op_load rfl (H1.cell (i := 0) rfl rfl) Try.underlying53 rfl ⟨rfl, Fr.refl _ _⟩) (HW.op rfl (fun w1 H1 => op_move rfl ⟨rfl, Fr.refl _ _⟩) (HW.op rfl (fun w1 H1 => op_indexAddr Try.underlying53 Fa.I130 rfl (H1.arr hE) rfl (by omega) ⟨rfl, Fr.refl _ _⟩) (HW.op rfl (fun w1 H1 => op_fieldAddrS rfl Fa.F130_1 ⟨rfl, Fr.refl _ _⟩) (HW.op rfl (fun w1 H1 => op_load rfl (Arr.atF (k := 1) (H1.arr hE) (fun _ => rfl) (by decide) Xt.zero (by omega) rfl) Try.underlying22 rfl ⟨rfl, Fr.refl _ _⟩) (HW.op rfl (fun w1 H1 => op_callF Fa.C95 rfl ((rnum16_ok ((xs.getD k Xt.zero).bl) 2 _).mono (fun e w2 hq => ⟨_, hq.1, rfl, hq.2⟩))) (HW.op rfl (fun w1 H1 => op_addStr rfl rfl (by have := numE_len ((xs.getD k Xt.zero).id) 1; have := numE_len ((xs.getD k Xt.zero).bl) 2; (try simp only [List.length_append, List.length_cons, List.length_nil]); omega) ⟨rfl, Fr.refl _ _⟩) (HW.op rfl (fun w1 H1 => op_assign rfl ⟨rfl, Fr.refl _ _⟩)  HW.nil)))))))))))))))))))) (by kernel_rfl) ?_
    intro β9 w9 H9
    refine WL.nil ?_
    refine WQ.inNormal ?_
    refine WQ.next ?_
    refine WC.region ?_
    refine WL.op rfl rfl (op_move rfl ?_)
    refine WL.op rfl rfl (op_addN (b := 1) rfl rfl (by omega) ?_)
    refine WL.op rfl rfl (op_assign rfl ?_)
    refine WL.nil ?_
    exact WQ.round (k + 1) ⟨(by omega), H9⟩ ⟨rfl, (by show some (str ((((imP1 pg xs) ++ putX xs k) ++ (numS ((xs.getD k Xt.zero).id) 1)) ++ (numS ((xs.getD k Xt.zero).bl) 2))) = some (str ((imP1 pg xs) ++ putX xs (k + 1))); simp only [putX, List.append_assoc]), rfl, trivial⟩ (by omega)
  ·
    have hc6 := of_decide_eq_false hb6
    refine WC.exit ?_
    refine WQ.thenExit ?_
    refine WQ.thenExit ?_
    refine WQ.inHere ?_
    refine WQ.next ?_
    refine WC.seq ?_
    refine WC.region ?_
    refine WL.op rfl rfl (op_move rfl ?_)
    refine WL.op rfl rfl (op_fieldAddr rfl Fa.F59_0 ?_)
    refine WL.op rfl rfl (op_fieldAddr rfl Fa.F56_2 ?_)
    refine WL.op rfl rfl (op_load rfl (H5.cell (i := 0) rfl rfl) Try.underlying54 rfl ?_)
    refine WL.op rfl rfl (op_lenA Try.underlying54 rfl (H5.arr hP) ?_)
    refine WL.op rfl rfl (op_convNU32 (hs := Try.underlying3) (hd := Try.underlying22) rfl ?_)
    refine WL.op rfl rfl (op_callF Fa.C95 rfl ((rnum16_ok (UInt32.ofNat ps.length) 1 _).mono (fun e w10 hq => ?_)))
    obtain ⟨rfl, hf10⟩ := hq
    refine ⟨_, rfl, ?_⟩
    have H10 := H5.fr' hf10
    refine WL.op rfl rfl (op_addStr rfl rfl (by have := numE_len (UInt32.ofNat ps.length) 1; (try simp only [List.length_append, List.length_cons, List.length_nil]); omega) ?_)
    refine WL.op rfl rfl (op_assign rfl ?_)
    refine WL.nil ?_
    refine WQ.next ?_
    refine WC.seq ?_
    refine WC.seq ?_
    refine WC.region ?_
    obtain rfl : k = xs.length := by omega
    refine WL.op rfl rfl (op_assign rfl ?_)
    refine WL.nil ?_
    refine WQ.next ?_
    refine WC.block ?_
    refine WC.loop (α := Nat) (fun j => [(1, (ptr b1 0)), (3, (str ((imP2 pg xs ps) ++ putP ps j))), (5, (vN j))]) (fun j w' => (j ≤ ps.length) ∧ Own [] w w' [.blk b1 [(vU32 pg), ev, pv, (.bool con), (vU32 en), sv] 59]) (fun j => ps.length - j) 0 ⟨Nat.zero_le _, H10⟩ ⟨rfl, (congrArg (fun x => some (str x)) (List.append_nil _).symm), rfl, trivial⟩ ?_
    rintro j w11 ⟨hj1, H11⟩
    show WC _ _ _ _ _ [(1, (ptr b1 0)), (3, (str ((imP2 pg xs ps) ++ putP ps j))), (5, (vN j))] _
    have hqp := putP_len ps j
    refine WC.seq ?_
    refine WC.seq ?_
    refine WC.region ?_
    refine WL.op rfl rfl (op_move rfl ?_)
    refine WL.op rfl rfl (op_fieldAddr rfl Fa.F59_0 ?_)
    refine WL.op rfl rfl (op_fieldAddr rfl Fa.F56_2 ?_)
    refine WL.op rfl rfl (op_load rfl (H11.cell (i := 0) rfl rfl) Try.underlying54 rfl ?_)
    refine WL.op rfl rfl (op_lenA Try.underlying54 rfl (H11.arr hP) ?_)
    refine WL.op rfl rfl (op_lssN rfl rfl ?_)
    refine WL.nil ?_
    refine WQ.next ?_
    refine WC.cond rfl (fun (hb12 : (decide (j < ps.length)) = true) => ?_) (fun (hb12 : (decide (j < ps.length)) = false) => ?_)
    ·
      have hc12 := of_decide_eq_true hb12
      refine WC.skip ?_
      refine WQ.next ?_
      refine WC.seq ?_
      refine WC.block ?_
      refine WC.region ?_
      refine WL.op rfl rfl (op_move rfl ?_)
      refine WL.op rfl rfl (op_fieldAddr rfl Fa.F59_0 ?_)
      refine WL.op rfl rfl (op_fieldAddr rfl Fa.F56_2 ?_)
      refine WL.op rfl rfl (op_load rfl (H11.cell (i := 0) rfl rfl) Try.underlying54 rfl ?_)
      refine WL.op rfl rfl (op_move rfl ?_)
      refine WL.op rfl rfl (op_indexAddr1 Try.underlying54 Fa.I92 rfl (H11.arr hP) rfl (by omega) ?_)
      refine WL.op rfl rfl (op_load rfl ((H11.arr hP).at (get_map vU16 0 (Arr.ltM (H11.arr hP) (by omega)))) Try.underlying92 rfl ?_)
      refine WL.op rfl rfl (op_convU16U32 (hs := Try.underlying92) (hd := Try.underlying22) rfl ?_)
      refine WL.op rfl rfl (op_callF Fa.C95 rfl ((rnum16_ok (UInt32.ofNat (ps.getD j 0).toNat) 2 _).mono (fun e w13 hq => ?_)))
      obtain ⟨rfl, hf13⟩ := hq
      refine ⟨_, rfl, ?_⟩
      have H13 := H11.fr' hf13
      refine WL.op rfl rfl (op_addStr rfl rfl (by have := numE_len (UInt32.ofNat (ps.getD j 0).toNat) 2; (try simp only [List.length_append, List.length_cons, List.length_nil]); omega) ?_)
      refine WL.op rfl rfl (op_assign rfl ?_)
      refine WL.nil ?_
      refine WQ.inNormal ?_
      refine WQ.next ?_
      refine WC.region ?_
      refine WL.op rfl rfl (op_move rfl ?_)
      refine WL.op rfl rfl (op_addN (b := 1) rfl rfl (by omega) ?_)
      refine WL.op rfl rfl (op_assign rfl ?_)
      refine WL.nil ?_
      exact WQ.round (j + 1) ⟨(by omega), H13⟩ ⟨rfl, (by show some (str (((imP2 pg xs ps) ++ putP ps j) ++ (numS (UInt32.ofNat (ps.getD j 0).toNat) 2))) = some (str ((imP2 pg xs ps) ++ putP ps (j + 1))); simp only [putP, List.append_assoc]), rfl, trivial⟩ (by omega)
    ·
      have hc12 := of_decide_eq_false hb12
      refine WC.exit ?_
      refine WQ.thenExit ?_
      refine WQ.thenExit ?_
      refine WQ.inHere ?_
      refine WQ.next ?_
      refine WC.seq ?_
      refine WC.region ?_
      refine WL.op rfl rfl (op_assign rfl ?_)
      refine WL.nil ?_
      refine WQ.next ?_
      refine WC.cut (α := Unit) (fun _ => [(1, (ptr b1 0)), (3, (str ((imP2 pg xs ps) ++ putP ps j))), (6, (vU32 (conN con)))]) (fun _ w' => Own [] w w' [.blk b1 [(vU32 pg), ev, pv, (.bool con), (vU32 en), sv] 59]) ?_ ?_
      ·
        refine WC.seq ?_
        refine WC.region ?_
        refine WL.op rfl rfl (op_fieldAddr rfl Fa.F59_0 ?_)
        refine WL.op rfl rfl (op_fieldAddr rfl Fa.F56_3 ?_)
        refine WL.op rfl rfl (op_load rfl (H11.cell (i := 0) rfl rfl) Try.underlying4 rfl ?_)
        refine WL.nil ?_
        refine WQ.next ?_
        refine WC.cond rfl (fun (hb14 : con = true) => ?_) (fun (hb14 : con = false) => ?_)
        ·
          refine WC.region ?_
          refine WL.op rfl rfl (op_assign rfl ?_)
          refine WL.nil ?_
          exact WQ.here () H11 ⟨rfl, rfl, (by rw [conN, hb14]; rfl), trivial⟩
        ·
          refine WC.skip ?_
          exact WQ.here () H11 ⟨rfl, rfl, (by rw [conN, hb14]; rfl), trivial⟩
      ·
        rintro ⟨⟩ w15 H15
        show WC _ _ _ _ _ [(1, (ptr b1 0)), (3, (str ((imP2 pg xs ps) ++ putP ps j))), (6, (vU32 (conN con)))] _
        refine WC.seq ?_
        refine WC.draw 15 Fa.M H15 (HW.op rfl (fun w1 H1 => op_move rfl ⟨rfl, Fr.refl _ _⟩) (HW.op rfl (fun w1 H1 => op_move rfl ⟨rfl, Fr.refl _ _⟩) (HW.op rfl (fun w1 H1 => op_callF Fa.C95 rfl ((rnum16_ok (conN con) 1 _).mono (fun e w2 hq => ⟨_, hq.1, rfl, hq.2⟩))) (HW.op rfl (fun w1 H1 => op_addStr rfl rfl (by have := numE_len (conN con) 1; (try simp only [List.length_append, List.length_cons, List.length_nil]); omega) ⟨rfl, Fr.refl _ _⟩) (HW.op rfl (fun w1 H1 => op_fieldAddr rfl Fa.F59_1 ⟨rfl, Fr.refl _ _⟩) (HW.op rfl (fun w1 H1 => op_load rfl (H1.cell (i := 0) rfl rfl) Try.underlying22 rfl ⟨rfl, Fr.refl _ _⟩) (HW.op rfl (fun w1 H1 => op_callF Fa.C95 rfl ((rnum16_ok en 4 _).mono (fun e w2 hq => ⟨_, hq.1, rfl, hq.2⟩))) (HW.op rfl (fun w1 H1 => op_addStr rfl rfl (by have := numE_len (conN con) 1; have := numE_len en 4; (try simp only [List.length_append, List.length_cons, List.length_nil]); omega) ⟨rfl, Fr.refl _ _⟩) (HW.op rfl (fun w1 H1 => op_fieldAddr rfl Fa.F59_2 ⟨rfl, Fr.refl _ _⟩) (HW.op rfl (fun w1 H1 => op_load rfl (H1.cell (i := 0) rfl rfl) Try.underlying57 rfl ⟨rfl, Fr.refl _ _⟩) (HW.op rfl (fun w1 H1 => op_lenA Try.underlying57 rfl (H1.arr hS) ⟨rfl, Fr.refl _ _⟩) (HW.op rfl (fun w1 H1 => op_convNU32 (hs := Try.underlying3) (hd := Try.underlying22) rfl ⟨rfl, Fr.refl _ _⟩) (HW.op rfl (fun w1 H1 => op_callF Fa.C95 rfl ((rnum16_ok (UInt32.ofNat sg.length) 1 _).mono (fun e w2 hq => ⟨_, hq.1, rfl, hq.2⟩))) (HW.op rfl (fun w1 H1 => op_addStr rfl rfl (by have := numE_len (conN con) 1; have := numE_len en 4; have := numE_len (UInt32.ofNat sg.length) 1; (try simp only [List.length_append, List.length_cons, List.length_nil]); omega) ⟨rfl, Fr.refl _ _⟩) (HW.op rfl (fun w1 H1 => op_assign rfl ⟨rfl, Fr.refl _ _⟩)  HW.nil))))))))))))))) (by kernel_rfl) ?_
        intro β19 w19 H19
        refine WL.nil ?_
        refine WQ.next ?_
        refine WC.seq ?_
        refine WC.seq ?_
        refine WC.region ?_
        obtain rfl : j = ps.length := by omega
        refine WL.op rfl rfl (op_assign rfl ?_)
        refine WL.nil ?_
        refine WQ.next ?_
        refine WC.block ?_
        refine WC.loop (α := Nat) (fun i => [(1, (ptr b1 0)), (3, (str ((imP3 pg xs ps con en sg) ++ putS sg i))), (7, (vN i))]) (fun i w' => (i ≤ sg.length) ∧ Own [] w w' [.blk b1 [(vU32 pg), ev, pv, (.bool con), (vU32 en), sv] 59]) (fun i => sg.length - i) 0 ⟨Nat.zero_le _, H19⟩ ⟨rfl, (congrArg (fun x => some (str x)) (List.append_nil _).symm), rfl, trivial⟩ ?_
        rintro i w20 ⟨hi1, H20⟩
        show WC _ _ _ _ _ [(1, (ptr b1 0)), (3, (str ((imP3 pg xs ps con en sg) ++ putS sg i))), (7, (vN i))] _
        have hqs := putS_len bb i
        have hqb := getS_mem bb i
        refine WC.seq ?_
        refine WC.seq ?_
        refine WC.region ?_
        refine WL.op rfl rfl (op_move rfl ?_)
        refine WL.op rfl rfl (op_fieldAddr rfl Fa.F59_2 ?_)
        refine WL.op rfl rfl (op_load rfl (H20.cell (i := 0) rfl rfl) Try.underlying57 rfl ?_)
        refine WL.op rfl rfl (op_lenA Try.underlying57 rfl (H20.arr hS) ?_)
        refine WL.op rfl rfl (op_lssN rfl rfl ?_)
        refine WL.nil ?_
        refine WQ.next ?_
        refine WC.cond rfl (fun (hb21 : (decide (i < sg.length)) = true) => ?_) (fun (hb21 : (decide (i < sg.length)) = false) => ?_)
        ·
          have hc21 := of_decide_eq_true hb21
          refine WC.skip ?_
          refine WQ.next ?_
          refine WC.seq ?_
          refine WC.block ?_
          refine WC.seq ?_
          refine WC.region ?_
          refine WL.op rfl rfl (op_fieldAddr rfl Fa.F59_2 ?_)
          refine WL.op rfl rfl (op_load rfl (H20.cell (i := 0) rfl rfl) Try.underlying57 rfl ?_)
          refine WL.op rfl rfl (op_move rfl ?_)
          refine WL.op rfl rfl (op_indexAddr Try.underlying57 Fa.I111 rfl (H20.arr hS) rfl (by omega) ?_)
          refine WL.op rfl rfl (op_loadSP (vs := sgc (sg.getD i Sg.zero)) rfl (Arr.atsF (H20.arr hS) (fun _ => rfl) (by decide) Sg.zero (by omega)) Try.underlying111 rfl Fa.I111 rfl ?_)
          refine WL.op rfl rfl (op_alloc H20 Fa.I111 (fun b22 w22 H22 => ?_))
          refine WL.op rfl rfl (op_storeBW (i := 1) H22 rfl rfl rfl rfl rfl Fa.I111 (fun w23 H23 => ?_))
          refine WL.nil ?_
          refine WQ.next ?_
          refine WC.draw 20 Fa.M H23 (HW.op rfl (fun w1 H1 => op_move rfl ⟨rfl, Fr.refl _ _⟩) (HW.op rfl (fun w1 H1 => op_fieldAddr rfl Fa.F111_0 ⟨rfl, Fr.refl _ _⟩) (HW.op rfl (fun w1 H1 => op_load rfl (H1.cell (i := 1) rfl rfl) Try.underlying22 rfl ⟨rfl, Fr.refl _ _⟩) (HW.op rfl (fun w1 H1 => op_callF Fa.C95 rfl ((rnum16_ok ((sg.getD i Sg.zero).a) 4 _).mono (fun e w2 hq => ⟨_, hq.1, rfl, hq.2⟩))) (HW.op rfl (fun w1 H1 => op_addStr rfl rfl (by have := numE_len ((sg.getD i Sg.zero).a) 4; (try simp only [List.length_append, List.length_cons, List.length_nil]); omega) ⟨rfl, Fr.refl _ _⟩) (HW.op rfl (fun w1 H1 => op_fieldAddr rfl Fa.F111_1 ⟨rfl, Fr.refl _ _⟩) (HW.op rfl (fun w1 H1 => op_load rfl (H1.cell (i := 1) rfl rfl) Try.underlying5 rfl ⟨rfl, Fr.refl _ _⟩) (HW.op rfl (fun w1 H1 => op_convU8U32 (hs := Try.underlying5) (hd := Try.underlying22) rfl ⟨rfl, Fr.refl _ _⟩) (HW.op rfl (fun w1 H1 => op_callF Fa.C95 rfl ((rnum16_ok (UInt32.ofNat (sg.getD i Sg.zero).p.toNat) 1 _).mono (fun e w2 hq => ⟨_, hq.1, rfl, hq.2⟩))) (HW.op rfl (fun w1 H1 => op_addStr rfl rfl (by have := numE_len ((sg.getD i Sg.zero).a) 4; have := numE_len (UInt32.ofNat (sg.getD i Sg.zero).p.toNat) 1; (try simp only [List.length_append, List.length_cons, List.length_nil]); omega) ⟨rfl, Fr.refl _ _⟩) (HW.op rfl (fun w1 H1 => op_fieldAddr rfl Fa.F111_2 ⟨rfl, Fr.refl _ _⟩) (HW.op rfl (fun w1 H1 => op_load rfl (H1.cell (i := 1) rfl rfl) Try.underlying9 rfl ⟨rfl, Fr.refl _ _⟩) (HW.op rfl (fun w1 H1 => op_lenStr Try.underlying9 rfl ⟨rfl, Fr.refl _ _⟩) (HW.op rfl (fun w1 H1 => op_convNU32 (hs := Try.underlying3) (hd := Try.underlying22) rfl ⟨rfl, Fr.refl _ _⟩) (HW.op rfl (fun w1 H1 => op_callF Fa.C95 rfl ((rnum16_ok (UInt32.ofNat (sg.getD i Sg.zero).b.length) 4 _).mono (fun e w2 hq => ⟨_, hq.1, rfl, hq.2⟩))) (HW.op rfl (fun w1 H1 => op_addStr rfl rfl (by have := numE_len ((sg.getD i Sg.zero).a) 4; have := numE_len (UInt32.ofNat (sg.getD i Sg.zero).p.toNat) 1; have := numE_len (UInt32.ofNat (sg.getD i Sg.zero).b.length) 4; (try simp only [List.length_append, List.length_cons, List.length_nil]); omega) ⟨rfl, Fr.refl _ _⟩) (HW.op rfl (fun w1 H1 => op_fieldAddr rfl Fa.F111_2 ⟨rfl, Fr.refl _ _⟩) (HW.op rfl (fun w1 H1 => op_load rfl (H1.cell (i := 1) rfl rfl) Try.underlying9 rfl ⟨rfl, Fr.refl _ _⟩) (HW.op rfl (fun w1 H1 => op_addStr rfl rfl (by have := numE_len ((sg.getD i Sg.zero).a) 4; have := numE_len (UInt32.ofNat (sg.getD i Sg.zero).p.toNat) 1; have := numE_len (UInt32.ofNat (sg.getD i Sg.zero).b.length) 4; (try simp only [List.length_append, List.length_cons, List.length_nil]); omega) ⟨rfl, Fr.refl _ _⟩) (HW.op rfl (fun w1 H1 => op_assign rfl ⟨rfl, Fr.refl _ _⟩)  HW.nil)))))))))))))))))))) (by kernel_rfl) ?_
          intro β27 w27 H27
          refine WL.nil ?_
          refine WQ.inNormal ?_
          refine WQ.next ?_
          refine WC.region ?_
          refine WL.op rfl rfl (op_move rfl ?_)
          refine WL.op rfl rfl (op_addN (b := 1) rfl rfl (by omega) ?_)
          refine WL.op rfl rfl (op_assign rfl ?_)
          refine WL.nil ?_
          exact WQ.round (i + 1) ⟨(by omega), (H27.take 1)⟩ ⟨rfl, (by show some (str ((((((imP3 pg xs ps con en sg) ++ putS sg i) ++ (numS ((sg.getD i Sg.zero).a) 4)) ++ (numS (UInt32.ofNat (sg.getD i Sg.zero).p.toNat) 1)) ++ (numS (UInt32.ofNat (sg.getD i Sg.zero).b.length) 4)) ++ (sg.getD i Sg.zero).b)) = some (str ((imP3 pg xs ps con en sg) ++ putS sg (i + 1))); simp only [putS, List.append_assoc]), rfl, trivial⟩ (by omega)
        ·
          have hc21 := of_decide_eq_false hb21
          refine WC.exit ?_
          refine WQ.thenExit ?_
          refine WQ.thenExit ?_
          refine WQ.inHere ?_
          refine WQ.next ?_
          refine WC.seq ?_
          refine WC.region ?_
          refine WL.op rfl rfl (op_move rfl ?_)
          refine WL.op rfl rfl (op_assign rfl ?_)
          refine WL.nil ?_
          refine WQ.next ?_
          refine WC.ret ?_
          refine WQ.out (.tmp rfl .nil) ?_
          obtain rfl : i = sg.length := by omega
          exact ⟨rfl, H20.fr⟩
end Go.Proofs.Ytpnghdalnghpcaa
/-! from WImg10 -/
namespace Go.Proofs.Ytpnghdalnghpcaa
open Go.Owl Go.Spec
set_option maxRecDepth 100000 in
theorem inum_ok (q : Nat) (r : Rd) (n : Int) (TR : TypeId) (T : List Nat) (w : World) (H : Own T w w [.blk q [(str r.s), (vN r.at_), (vN r.f)] TR]) (hr : r.s.length < 2 ^ 47) :
    Calls Try.prog 96 #[(.agg #[(ptr q 0)]), (vI n)] w (fun e w' => e = .returned (vU32 (numR r n).1.1) ∧ Own T w w' [.blk q [str (numR r n).2.s, vN (numR r n).2.at_, vN (numR r n).2.f] TR]) := by
  refine enter (args := [(.agg #[(ptr q 0)]), (vI n)]) Try.func96 rfl rfl ?_
  refine WC.seq ?_
  refine WC.region ?_
  refine WL.op rfl rfl (op_box H rfl rfl (fun b1 w1 H1 => ?_))
  refine WL.op rfl rfl (op_assign rfl ?_)
  refine WL.nil ?_
  refine WQ.next ?_
  refine WC.seq ?_
  refine WC.region ?_
  refine WL.op rfl rfl (op_fieldAddr rfl Fa.F138_0 ?_)
  refine WL.op rfl rfl (op_load rfl (H1.cell (i := 1) rfl rfl) Try.underlying34 rfl ?_)
  refine WL.op rfl rfl (op_move rfl ?_)
  refine WL.op rfl rfl (op_callF Fa.C25 rfl ((rdnum_ok q r (n) TR _ _ (H1.part [0] rfl rfl) hr).mono (fun e w2 hq => ?_)))
  obtain ⟨rfl, hq2⟩ := hq
  refine ⟨_, rfl, ?_⟩
  have H2 : Own T w w2 [.blk q [(str ((numR r n).2).s), (vN ((numR r n).2).at_), (vN ((numR r n).2).f)] TR, .blk b1 [(ptr q 0)] 138] := H1.splice [0] [.blk q [(str ((numR r n).2).s), (vN ((numR r n).2).at_), (vN ((numR r n).2).f)] TR] [] rfl rfl hq2 (Fits.solid True.intro Fits.nil)
  refine WL.op rfl rfl (op_move rfl ?_)
  refine WL.op rfl rfl (op_extract rfl rfl ?_)
  refine WL.op rfl rfl (op_extract rfl rfl ?_)
  refine WL.op rfl rfl (op_assign rfl ?_)
  refine WL.op rfl rfl (op_assign rfl ?_)
  refine WL.nil ?_
  refine WQ.next ?_
  refine WC.seq ?_
  refine WC.region ?_
  refine WL.op rfl rfl (op_move rfl ?_)
  refine WL.op rfl rfl (op_assign rfl ?_)
  refine WL.nil ?_
  refine WQ.next ?_
  refine WC.ret ?_
  refine WQ.out (.tmp rfl .nil) ?_
  exact ⟨rfl, H2.take 1⟩
set_option maxRecDepth 100000 in
theorem one16_ok (q : Nat) (S : List UInt8) (E : Nat) (n : Int) (T : List Nat) (w : World) (H : Own T w w [.blk q [(str S), (vN E)] 47]) (hr : S.length < 2 ^ 47) :
    Calls Try.prog 98 #[(ptr q 0), (vI n)] w (fun e w' => e = .returned (vU32 (numR (Rd.mk S 0 E (Nat.zero_le _)) n).1.1) ∧ Own T w w' [.blk q [str (numR (Rd.mk S 0 E (Nat.zero_le _)) n).2.rest, vN (numR (Rd.mk S 0 E (Nat.zero_le _)) n).2.f] 47]) := by
  refine enter (args := [(ptr q 0), (vI n)]) Try.func98 rfl rfl ?_
  refine WC.seq ?_
  refine WC.region ?_
  refine WL.op rfl rfl (op_assign rfl ?_)
  refine WL.nil ?_
  refine WQ.next ?_
  refine WC.seq ?_
  refine WC.region ?_
  refine WL.op rfl rfl (op_move rfl ?_)
  refine WL.op rfl rfl (op_move rfl ?_)
  refine WL.op rfl rfl (op_callF Fa.C32 rfl ((fnum_ok q S E (n) _ _ (H.part [0] rfl rfl) hr).mono (fun e w1 hq => ?_)))
  obtain ⟨rfl, hq1⟩ := hq
  refine ⟨_, rfl, ?_⟩
  have H1 : Own T w w1 [.blk q [(str (numR (Rd.mk S 0 E (Nat.zero_le _)) n).2.rest), (vN (numR (Rd.mk S 0 E (Nat.zero_le _)) n).2.f)] 47] := H.splice [0] [.blk q [(str (numR (Rd.mk S 0 E (Nat.zero_le _)) n).2.rest), (vN (numR (Rd.mk S 0 E (Nat.zero_le _)) n).2.f)] 47] [] rfl rfl hq1 (Fits.solid True.intro Fits.nil)
  refine WL.op rfl rfl (op_move rfl ?_)
  refine WL.op rfl rfl (op_extract rfl rfl ?_)
  refine WL.op rfl rfl (op_extract rfl rfl ?_)
  refine WL.op rfl rfl (op_assign rfl ?_)
  refine WL.op rfl rfl (op_assign rfl ?_)
  refine WL.nil ?_
  refine WQ.next ?_
  refine WC.seq ?_
  refine WC.region ?_
  refine WL.op rfl rfl (op_move rfl ?_)
  refine WL.op rfl rfl (op_assign rfl ?_)
  refine WL.nil ?_
  refine WQ.next ?_
  refine WC.ret ?_
  refine WQ.out (.tmp rfl .nil) ?_
  exact ⟨rfl, H1⟩
set_option maxRecDepth 100000 in
theorem iseg_ok (q : Nat) (r : Rd) (TR : TypeId) (T : List Nat) (w : World) (H : Own T w w [.blk q [(str r.s), (vN r.at_), (vN r.f)] TR]) (hr : r.s.length < 2 ^ 47) :
    Calls Try.prog 97 #[(.agg #[(ptr q 0)])] w (fun e w' => e = .returned (.agg #[vU32 (segR r).1.a, vU8 (segR r).1.p, str (segR r).1.b]) ∧ Own T w w' [.blk q [str (segR r).2.s, vN (segR r).2.at_, vN (segR r).2.f] TR]) := by
  refine enter (args := [(.agg #[(ptr q 0)])]) Try.func97 rfl rfl ?_
  refine WC.seq ?_
  refine WC.region ?_
  refine WL.op rfl rfl (op_box H rfl rfl (fun b1 w1 H1 => ?_))
  refine WL.op rfl rfl (op_alloc H1 Fa.I111 (fun b2 w2 H2 => ?_))
  refine WL.nil ?_
  refine WQ.next ?_
  refine WC.seq ?_
  refine WC.drawn 8 rfl Fa.M H2 ?_
  intro w3 H3
  refine WD.named (fun W hW => ?_)
  have st1_18 : ∀ (b14121 : _) (wS : World), Own T w wS [.blk q [(str ((numR ((numR r 4).2) 1).2).s), (vN ((numR ((numR r 4).2) 1).2).at_), (vN ((numR ((numR r 4).2) 1).2).f)] TR, .blk b1 [(ptr q 0)] 138, .blk b2 [(vU32 0), (vU8 0), (str [])] 111, .blk b14121 [(vU32 (numR r 4).1.1), (vU8 (UInt8.ofNat (numR ((numR r 4).2) 1).1.1.toNat)), (str [])] 111] → W 0 #[true, true, true, true, true, true, true, true] [(0, (.agg #[(ptr q 0)])), (1, (ptr b1 0)), (2, (ptr b2 0)), (3, (ptr b14121 0)), (5, (.agg #[(ptr q 0)])), (6, (vU32 (numR r 4).1.1)), (7, (.agg #[(ptr q 0)])), (8, (vU32 (numR ((numR r 4).2) 1).1.1)), (9, (vU8 (UInt8.ofNat (numR ((numR r 4).2) 1).1.1.toNat))), (10, (.agg #[(vU32 (numR r 4).1.1), (vU8 (UInt8.ofNat (numR ((numR r 4).2) 1).1.1.toNat)), (str [])]))] wS := by
    intro b14121 wS HS
    rw [hW]
    refine WD.done (by kernel_rfl) ?_
    refine WQ.next ?_
    refine WC.cut (α := Unit) (fun _ => [(2, (ptr b2 0)), (3, (ptr b14121 0))]) (fun _ w' => Own T w w' [.blk q [(str ((segR r).2).s), (vN ((segR r).2).at_), (vN ((segR r).2).f)] TR, .blk b1 [(ptr q 0)] 138, .blk b2 [(vU32 0), (vU8 0), (str [])] 111, .blk b14121 [(vU32 (segR r).1.a), (vU8 (segR r).1.p), (str (segR r).1.b)] 111]) ?_ ?_
    ·
      refine WC.seq ?_
      refine WC.region ?_
      refine WL.op rfl rfl (op_loadS (vs := [_]) rfl (HS.cells (i := 1) rfl rfl) Try.underlying138 rfl Fa.I138 rfl ?_)
      refine WL.op rfl rfl (op_callF Fa.C96 rfl ((inum_ok q ((numR ((numR r 4).2) 1).2) (4) TR _ _ (HS.part [0] rfl rfl) (by first | with_reducible exact hr | ((repeat rw [numR_s]); with_reducible exact hr))).mono (fun e w5 hq => ?_)))
      obtain ⟨rfl, hq5⟩ := hq
      refine ⟨_, rfl, ?_⟩
      have H5 : Own T w w5 [.blk q [(str ((numR ((numR ((numR r 4).2) 1).2) 4).2).s), (vN ((numR ((numR ((numR r 4).2) 1).2) 4).2).at_), (vN ((numR ((numR ((numR r 4).2) 1).2) 4).2).f)] TR, .blk b1 [(ptr q 0)] 138, .blk b2 [(vU32 0), (vU8 0), (str [])] 111, .blk b14121 [(vU32 (numR r 4).1.1), (vU8 (UInt8.ofNat (numR ((numR r 4).2) 1).1.1.toNat)), (str [])] 111] := HS.splice [0] [.blk q [(str ((numR ((numR ((numR r 4).2) 1).2) 4).2).s), (vN ((numR ((numR ((numR r 4).2) 1).2) 4).2).at_), (vN ((numR ((numR ((numR r 4).2) 1).2) 4).2).f)] TR] [] rfl rfl hq5 (Fits.solid True.intro Fits.nil)
      refine WL.op rfl rfl (op_assign rfl ?_)
      refine WL.nil ?_
      refine WQ.next ?_
      refine WC.seq ?_
      refine WC.region ?_
      refine WL.op rfl rfl (op_move rfl ?_)
      refine WL.op rfl rfl (op_leqU32 (b := 131072) rfl rfl ?_)
      refine WL.nil ?_
      refine WQ.next ?_
      refine WC.cond rfl (fun (hb6 : (decide ((numR ((numR ((numR r 4).2) 1).2) 4).1.1 ≤ (131072 : UInt32))) = true) => ?_) (fun (hb6 : (decide ((numR ((numR ((numR r 4).2) 1).2) 4).1.1 ≤ (131072 : UInt32))) = false) => ?_)
      ·
        have hc6 := of_decide_eq_true hb6
        refine WC.region ?_
        refine WL.op rfl rfl (op_fieldAddr rfl Fa.F138_0 ?_)
        refine WL.op rfl rfl (op_load rfl (H5.cell (i := 1) rfl rfl) Try.underlying34 rfl ?_)
        refine WL.op rfl rfl (op_move rfl ?_)
        refine WL.op rfl rfl (op_convU32N (hs := Try.underlying22) (hd := Try.underlying3) rfl ?_)
        refine WL.op rfl rfl (op_callF Fa.C30 rfl ((take_ok q ((numR ((numR ((numR r 4).2) 1).2) 4).2) (((numR ((numR ((numR r 4).2) 1).2) 4).1.1.toNat : Nat)) TR _ _ (H5.part [0] rfl rfl) (by first | with_reducible exact hr | ((repeat rw [numR_s]); with_reducible exact hr))).mono (fun e w7 hq => ?_)))
        obtain ⟨rfl, hq7⟩ := hq
        refine ⟨_, rfl, ?_⟩
        have H7 : Own T w w7 [.blk q [(str ((takeR ((numR ((numR ((numR r 4).2) 1).2) 4).2) ((numR ((numR ((numR r 4).2) 1).2) 4).1.1.toNat : Nat)).2).s), (vN ((takeR ((numR ((numR ((numR r 4).2) 1).2) 4).2) ((numR ((numR ((numR r 4).2) 1).2) 4).1.1.toNat : Nat)).2).at_), (vN ((takeR ((numR ((numR ((numR r 4).2) 1).2) 4).2) ((numR ((numR ((numR r 4).2) 1).2) 4).1.1.toNat : Nat)).2).f)] TR, .blk b1 [(ptr q 0)] 138, .blk b2 [(vU32 0), (vU8 0), (str [])] 111, .blk b14121 [(vU32 (numR r 4).1.1), (vU8 (UInt8.ofNat (numR ((numR r 4).2) 1).1.1.toNat)), (str [])] 111] := H5.splice [0] [.blk q [(str ((takeR ((numR ((numR ((numR r 4).2) 1).2) 4).2) ((numR ((numR ((numR r 4).2) 1).2) 4).1.1.toNat : Nat)).2).s), (vN ((takeR ((numR ((numR ((numR r 4).2) 1).2) 4).2) ((numR ((numR ((numR r 4).2) 1).2) 4).1.1.toNat : Nat)).2).at_), (vN ((takeR ((numR ((numR ((numR r 4).2) 1).2) 4).2) ((numR ((numR ((numR r 4).2) 1).2) 4).1.1.toNat : Nat)).2).f)] TR] [] rfl rfl hq7 (Fits.solid True.intro Fits.nil)
        refine WL.op rfl rfl (op_move rfl ?_)
        refine WL.op rfl rfl (op_extract rfl rfl ?_)
        refine WL.op rfl rfl (op_extract rfl rfl ?_)
        refine WL.op rfl rfl (op_fieldAddr rfl Fa.F111_2 ?_)
        refine WL.op rfl rfl (op_storeB (i := 3) H7 rfl rfl rfl rfl rfl Fa.I9 (fun w8 H8 => ?_))
        refine WL.nil ?_
        exact WQ.here () (by rw [segR_yes hc6]; exact H8) ⟨rfl, rfl, trivial⟩
      ·
        have hc6 := of_decide_eq_false hb6
        refine WC.skip ?_
        exact WQ.here () (by rw [segR_no hc6]; exact H5) ⟨rfl, rfl, trivial⟩
    ·
      rintro ⟨⟩ w9 H9
      show WC _ _ _ _ _ [(2, (ptr b2 0)), (3, (ptr b14121 0))] _
      refine WC.seq ?_
      refine WC.region ?_
      refine WL.op rfl rfl (op_loadS (vs := [_, _, _]) rfl (H9.cells (i := 3) rfl rfl) Try.underlying111 rfl Fa.I111 rfl ?_)
      refine WL.op rfl rfl (op_storeBW (i := 2) H9 rfl rfl rfl rfl rfl Fa.I111 (fun w10 H10 => ?_))
      refine WL.nil ?_
      refine WQ.next ?_
      refine WC.ret ?_
      refine WQ.out (.cell rfl (run_loadVarS (vs := [_, _, _]) (H10.cells (i := 2) rfl rfl) Try.underlying111 rfl Fa.I111 rfl) .nil) ?_
      exact ⟨rfl, H10.take 1⟩
  have st1_17 : ∀ (b14121 : _) (wS : World), Own T w wS [.blk q [(str ((numR ((numR r 4).2) 1).2).s), (vN ((numR ((numR r 4).2) 1).2).at_), (vN ((numR ((numR r 4).2) 1).2).f)] TR, .blk b1 [(ptr q 0)] 138, .blk b2 [(vU32 0), (vU8 0), (str [])] 111, .blk b14121 [(vU32 0), (vU8 0), (str [])] 111] → W 1 #[true, true, true, true, true, true, true, false] [(0, (.agg #[(ptr q 0)])), (1, (ptr b1 0)), (2, (ptr b2 0)), (3, (ptr b14121 0)), (5, (.agg #[(ptr q 0)])), (6, (vU32 (numR r 4).1.1)), (7, (.agg #[(ptr q 0)])), (8, (vU32 (numR ((numR r 4).2) 1).1.1)), (9, (vU8 (UInt8.ofNat (numR ((numR r 4).2) 1).1.1.toNat))), (10, (.agg #[(vU32 (numR r 4).1.1), (vU8 (UInt8.ofNat (numR ((numR r 4).2) 1).1.1.toNat)), (str [])]))] wS := by
    intro b14121 wS HS
    rw [hW]
    refine WD.all1 (i := 7) (by kernel_rfl) ?_
    ·
      refine WS.op (i := 7) rfl rfl rfl (op_storeBW (i := 3) HS rfl rfl rfl rfl rfl Fa.I111 (fun w14141 H14141 => ?_))
      have hq := st1_18 b14121 w14141 H14141
      rw [hW] at hq
      refine WD.cov ?_ hq
      exact by repeat (first | exact trivial | refine ⟨rfl, ?_⟩)
  have st1_15 : ∀ (wS : World), Own T w wS [.blk q [(str ((numR ((numR r 4).2) 1).2).s), (vN ((numR ((numR r 4).2) 1).2).at_), (vN ((numR ((numR r 4).2) 1).2).f)] TR, .blk b1 [(ptr q 0)] 138, .blk b2 [(vU32 0), (vU8 0), (str [])] 111] → W 2 #[true, true, true, true, true, true, false, false] [(0, (.agg #[(ptr q 0)])), (1, (ptr b1 0)), (2, (ptr b2 0)), (5, (.agg #[(ptr q 0)])), (6, (vU32 (numR r 4).1.1)), (7, (.agg #[(ptr q 0)])), (8, (vU32 (numR ((numR r 4).2) 1).1.1)), (9, (vU8 (UInt8.ofNat (numR ((numR r 4).2) 1).1.1.toNat))), (10, (.agg #[(vU32 (numR r 4).1.1), (vU8 (UInt8.ofNat (numR ((numR r 4).2) 1).1.1.toNat)), (str [])]))] wS := by
    intro wS HS
    rw [hW]
    refine WD.all1 (i := 6) (by kernel_rfl) ?_
    ·
      refine WS.op (i := 6) rfl rfl rfl (op_alloc HS Fa.I111 (fun b14121 w14121 H14121 => ?_))
      have hq := st1_17 b14121 w14121 H14121
      rw [hW] at hq
      refine WD.cov ?_ hq
      exact by repeat (first | exact trivial | refine ⟨rfl, ?_⟩)
  have st1_16 : ∀ (b14121 : _) (wS : World), Own T w wS [.blk q [(str ((numR ((numR r 4).2) 1).2).s), (vN ((numR ((numR r 4).2) 1).2).at_), (vN ((numR ((numR r 4).2) 1).2).f)] TR, .blk b1 [(ptr q 0)] 138, .blk b2 [(vU32 0), (vU8 0), (str [])] 111, .blk b14121 [(vU32 0), (vU8 0), (str [])] 111] → W 2 #[true, true, true, true, true, false, true, false] [(0, (.agg #[(ptr q 0)])), (1, (ptr b1 0)), (2, (ptr b2 0)), (3, (ptr b14121 0)), (5, (.agg #[(ptr q 0)])), (6, (vU32 (numR r 4).1.1)), (7, (.agg #[(ptr q 0)])), (8, (vU32 (numR ((numR r 4).2) 1).1.1)), (9, (vU8 (UInt8.ofNat (numR ((numR r 4).2) 1).1.1.toNat)))] wS := by
    intro b14121 wS HS
    rw [hW]
    refine WD.all1 (i := 5) (by kernel_rfl) ?_
    ·
      refine WS.op (i := 5) rfl rfl rfl (op_build (cs := [_, _, _]) Fa.I111 Fa.PL111 rfl rfl ?_)
      have hq := st1_17 b14121 wS HS
      rw [hW] at hq
      refine WD.cov ?_ hq
      exact by repeat (first | exact trivial | refine ⟨rfl, ?_⟩)
  have st1_13 : ∀ (wS : World), Own T w wS [.blk q [(str ((numR ((numR r 4).2) 1).2).s), (vN ((numR ((numR r 4).2) 1).2).at_), (vN ((numR ((numR r 4).2) 1).2).f)] TR, .blk b1 [(ptr q 0)] 138, .blk b2 [(vU32 0), (vU8 0), (str [])] 111] → W 3 #[true, true, true, true, true, false, false, false] [(0, (.agg #[(ptr q 0)])), (1, (ptr b1 0)), (2, (ptr b2 0)), (5, (.agg #[(ptr q 0)])), (6, (vU32 (numR r 4).1.1)), (7, (.agg #[(ptr q 0)])), (8, (vU32 (numR ((numR r 4).2) 1).1.1)), (9, (vU8 (UInt8.ofNat (numR ((numR r 4).2) 1).1.1.toNat)))] wS := by
    intro wS HS
    rw [hW]
    refine WD.all2 (i := 5) (j := 6) (by kernel_rfl) ?_ ?_
    ·
      refine WS.op (i := 5) rfl rfl rfl (op_build (cs := [_, _, _]) Fa.I111 Fa.PL111 rfl rfl ?_)
      have hq := st1_15 wS HS
      rw [hW] at hq
      refine WD.cov ?_ hq
      exact by repeat (first | exact trivial | refine ⟨rfl, ?_⟩)
    ·
      refine WS.op (i := 6) rfl rfl rfl (op_alloc HS Fa.I111 (fun b14121 w14121 H14121 => ?_))
      have hq := st1_16 b14121 w14121 H14121
      rw [hW] at hq
      refine WD.cov ?_ hq
      exact by repeat (first | exact trivial | refine ⟨rfl, ?_⟩)
  have st1_14 : ∀ (b14121 : _) (wS : World), Own T w wS [.blk q [(str ((numR ((numR r 4).2) 1).2).s), (vN ((numR ((numR r 4).2) 1).2).at_), (vN ((numR ((numR r 4).2) 1).2).f)] TR, .blk b1 [(ptr q 0)] 138, .blk b2 [(vU32 0), (vU8 0), (str [])] 111, .blk b14121 [(vU32 0), (vU8 0), (str [])] 111] → W 3 #[true, true, true, true, false, false, true, false] [(0, (.agg #[(ptr q 0)])), (1, (ptr b1 0)), (2, (ptr b2 0)), (3, (ptr b14121 0)), (5, (.agg #[(ptr q 0)])), (6, (vU32 (numR r 4).1.1)), (7, (.agg #[(ptr q 0)])), (8, (vU32 (numR ((numR r 4).2) 1).1.1))] wS := by
    intro b14121 wS HS
    rw [hW]
    refine WD.all1 (i := 4) (by kernel_rfl) ?_
    ·
      refine WS.op (i := 4) rfl rfl rfl (op_convU32U8 (hs := Try.underlying22) (hd := Try.underlying5) rfl ?_)
      have hq := st1_16 b14121 wS HS
      rw [hW] at hq
      refine WD.cov ?_ hq
      exact by repeat (first | exact trivial | refine ⟨rfl, ?_⟩)
  have st1_11 : ∀ (wS : World), Own T w wS [.blk q [(str ((numR ((numR r 4).2) 1).2).s), (vN ((numR ((numR r 4).2) 1).2).at_), (vN ((numR ((numR r 4).2) 1).2).f)] TR, .blk b1 [(ptr q 0)] 138, .blk b2 [(vU32 0), (vU8 0), (str [])] 111] → W 4 #[true, true, true, true, false, false, false, false] [(0, (.agg #[(ptr q 0)])), (1, (ptr b1 0)), (2, (ptr b2 0)), (5, (.agg #[(ptr q 0)])), (6, (vU32 (numR r 4).1.1)), (7, (.agg #[(ptr q 0)])), (8, (vU32 (numR ((numR r 4).2) 1).1.1))] wS := by
    intro wS HS
    rw [hW]
    refine WD.all2 (i := 4) (j := 6) (by kernel_rfl) ?_ ?_
    ·
      refine WS.op (i := 4) rfl rfl rfl (op_convU32U8 (hs := Try.underlying22) (hd := Try.underlying5) rfl ?_)
      have hq := st1_13 wS HS
      rw [hW] at hq
      refine WD.cov ?_ hq
      exact by repeat (first | exact trivial | refine ⟨rfl, ?_⟩)
    ·
      refine WS.op (i := 6) rfl rfl rfl (op_alloc HS Fa.I111 (fun b14121 w14121 H14121 => ?_))
      have hq := st1_14 b14121 w14121 H14121
      rw [hW] at hq
      refine WD.cov ?_ hq
      exact by repeat (first | exact trivial | refine ⟨rfl, ?_⟩)
  have st1_12 : ∀ (b14121 : _) (wS : World), Own T w wS [.blk q [(str ((numR r 4).2).s), (vN ((numR r 4).2).at_), (vN ((numR r 4).2).f)] TR, .blk b1 [(ptr q 0)] 138, .blk b2 [(vU32 0), (vU8 0), (str [])] 111, .blk b14121 [(vU32 0), (vU8 0), (str [])] 111] → W 4 #[true, true, true, false, false, false, true, false] [(0, (.agg #[(ptr q 0)])), (1, (ptr b1 0)), (2, (ptr b2 0)), (3, (ptr b14121 0)), (5, (.agg #[(ptr q 0)])), (6, (vU32 (numR r 4).1.1)), (7, (.agg #[(ptr q 0)]))] wS := by
    intro b14121 wS HS
    rw [hW]
    refine WD.all1 (i := 3) (by kernel_rfl) ?_
    ·
      refine WS.op (i := 3) rfl rfl rfl (op_callF Fa.C96 rfl ((inum_ok q ((numR r 4).2) (1) TR _ _ (HS.part [0] rfl rfl) (by first | with_reducible exact hr | ((repeat rw [numR_s]); with_reducible exact hr))).mono (fun e w14061 hq => ?_)))
      obtain ⟨rfl, hq14061⟩ := hq
      refine ⟨_, rfl, ?_⟩
      have H14061 : Own T w w14061 [.blk q [(str ((numR ((numR r 4).2) 1).2).s), (vN ((numR ((numR r 4).2) 1).2).at_), (vN ((numR ((numR r 4).2) 1).2).f)] TR, .blk b1 [(ptr q 0)] 138, .blk b2 [(vU32 0), (vU8 0), (str [])] 111, .blk b14121 [(vU32 0), (vU8 0), (str [])] 111] := HS.splice [0] [.blk q [(str ((numR ((numR r 4).2) 1).2).s), (vN ((numR ((numR r 4).2) 1).2).at_), (vN ((numR ((numR r 4).2) 1).2).f)] TR] [] rfl rfl hq14061 (Fits.solid True.intro Fits.nil)
      have hq := st1_14 b14121 w14061 H14061
      rw [hW] at hq
      refine WD.cov ?_ hq
      exact by repeat (first | exact trivial | refine ⟨rfl, ?_⟩)
  have st1_8 : ∀ (wS : World), Own T w wS [.blk q [(str ((numR r 4).2).s), (vN ((numR r 4).2).at_), (vN ((numR r 4).2).f)] TR, .blk b1 [(ptr q 0)] 138, .blk b2 [(vU32 0), (vU8 0), (str [])] 111] → W 5 #[true, true, true, false, false, false, false, false] [(0, (.agg #[(ptr q 0)])), (1, (ptr b1 0)), (2, (ptr b2 0)), (5, (.agg #[(ptr q 0)])), (6, (vU32 (numR r 4).1.1)), (7, (.agg #[(ptr q 0)]))] wS := by
    intro wS HS
    rw [hW]
    refine WD.all2 (i := 3) (j := 6) (by kernel_rfl) ?_ ?_
    ·
      refine WS.op (i := 3) rfl rfl rfl (op_callF Fa.C96 rfl ((inum_ok q ((numR r 4).2) (1) TR _ _ (HS.part [0] rfl rfl) (by first | with_reducible exact hr | ((repeat rw [numR_s]); with_reducible exact hr))).mono (fun e w14061 hq => ?_)))
      obtain ⟨rfl, hq14061⟩ := hq
      refine ⟨_, rfl, ?_⟩
      have H14061 : Own T w w14061 [.blk q [(str ((numR ((numR r 4).2) 1).2).s), (vN ((numR ((numR r 4).2) 1).2).at_), (vN ((numR ((numR r 4).2) 1).2).f)] TR, .blk b1 [(ptr q 0)] 138, .blk b2 [(vU32 0), (vU8 0), (str [])] 111] := HS.splice [0] [.blk q [(str ((numR ((numR r 4).2) 1).2).s), (vN ((numR ((numR r 4).2) 1).2).at_), (vN ((numR ((numR r 4).2) 1).2).f)] TR] [] rfl rfl hq14061 (Fits.solid True.intro Fits.nil)
      have hq := st1_11 w14061 H14061
      rw [hW] at hq
      refine WD.cov ?_ hq
      exact by repeat (first | exact trivial | refine ⟨rfl, ?_⟩)
    ·
      refine WS.op (i := 6) rfl rfl rfl (op_alloc HS Fa.I111 (fun b14121 w14121 H14121 => ?_))
      have hq := st1_12 b14121 w14121 H14121
      rw [hW] at hq
      refine WD.cov ?_ hq
      exact by repeat (first | exact trivial | refine ⟨rfl, ?_⟩)
  have st1_9 : ∀ (b14121 : _) (wS : World), Own T w wS [.blk q [(str ((numR r 4).2).s), (vN ((numR r 4).2).at_), (vN ((numR r 4).2).f)] TR, .blk b1 [(ptr q 0)] 138, .blk b2 [(vU32 0), (vU8 0), (str [])] 111, .blk b14121 [(vU32 0), (vU8 0), (str [])] 111] → W 5 #[true, true, false, false, false, false, true, false] [(0, (.agg #[(ptr q 0)])), (1, (ptr b1 0)), (2, (ptr b2 0)), (3, (ptr b14121 0)), (5, (.agg #[(ptr q 0)])), (6, (vU32 (numR r 4).1.1))] wS := by
    intro b14121 wS HS
    rw [hW]
    refine WD.all1 (i := 2) (by kernel_rfl) ?_
    ·
      refine WS.op (i := 2) rfl rfl rfl (op_loadS (vs := [_]) rfl (HS.cells (i := 1) rfl rfl) Try.underlying138 rfl Fa.I138 rfl ?_)
      have hq := st1_12 b14121 wS HS
      rw [hW] at hq
      refine WD.cov ?_ hq
      exact by repeat (first | exact trivial | refine ⟨rfl, ?_⟩)
  have st1_10 : ∀ (b14121 : _) (wS : World), Own T w wS [.blk q [(str r.s), (vN r.at_), (vN r.f)] TR, .blk b1 [(ptr q 0)] 138, .blk b2 [(vU32 0), (vU8 0), (str [])] 111, .blk b14121 [(vU32 0), (vU8 0), (str [])] 111] → W 5 #[true, false, true, false, false, false, true, false] [(0, (.agg #[(ptr q 0)])), (1, (ptr b1 0)), (2, (ptr b2 0)), (3, (ptr b14121 0)), (5, (.agg #[(ptr q 0)])), (7, (.agg #[(ptr q 0)]))] wS := by
    intro b14121 wS HS
    rw [hW]
    refine WD.all1 (i := 1) (by kernel_rfl) ?_
    ·
      refine WS.op (i := 1) rfl rfl rfl (op_callF Fa.C96 rfl ((inum_ok q r (4) TR _ _ (HS.part [0] rfl rfl) (by first | with_reducible exact hr | ((repeat rw [numR_s]); with_reducible exact hr))).mono (fun e w14021 hq => ?_)))
      obtain ⟨rfl, hq14021⟩ := hq
      refine ⟨_, rfl, ?_⟩
      have H14021 : Own T w w14021 [.blk q [(str ((numR r 4).2).s), (vN ((numR r 4).2).at_), (vN ((numR r 4).2).f)] TR, .blk b1 [(ptr q 0)] 138, .blk b2 [(vU32 0), (vU8 0), (str [])] 111, .blk b14121 [(vU32 0), (vU8 0), (str [])] 111] := HS.splice [0] [.blk q [(str ((numR r 4).2).s), (vN ((numR r 4).2).at_), (vN ((numR r 4).2).f)] TR] [] rfl rfl hq14021 (Fits.solid True.intro Fits.nil)
      have hq := st1_12 b14121 w14021 H14021
      rw [hW] at hq
      refine WD.cov ?_ hq
      exact by repeat (first | exact trivial | refine ⟨rfl, ?_⟩)
  have st1_4 : ∀ (wS : World), Own T w wS [.blk q [(str ((numR r 4).2).s), (vN ((numR r 4).2).at_), (vN ((numR r 4).2).f)] TR, .blk b1 [(ptr q 0)] 138, .blk b2 [(vU32 0), (vU8 0), (str [])] 111] → W 6 #[true, true, false, false, false, false, false, false] [(0, (.agg #[(ptr q 0)])), (1, (ptr b1 0)), (2, (ptr b2 0)), (5, (.agg #[(ptr q 0)])), (6, (vU32 (numR r 4).1.1))] wS := by
    intro wS HS
    rw [hW]
    refine WD.all2 (i := 2) (j := 6) (by kernel_rfl) ?_ ?_
    ·
      refine WS.op (i := 2) rfl rfl rfl (op_loadS (vs := [_]) rfl (HS.cells (i := 1) rfl rfl) Try.underlying138 rfl Fa.I138 rfl ?_)
      have hq := st1_8 wS HS
      rw [hW] at hq
      refine WD.cov ?_ hq
      exact by repeat (first | exact trivial | refine ⟨rfl, ?_⟩)
    ·
      refine WS.op (i := 6) rfl rfl rfl (op_alloc HS Fa.I111 (fun b14121 w14121 H14121 => ?_))
      have hq := st1_9 b14121 w14121 H14121
      rw [hW] at hq
      refine WD.cov ?_ hq
      exact by repeat (first | exact trivial | refine ⟨rfl, ?_⟩)
  have st1_5 : ∀ (wS : World), Own T w wS [.blk q [(str r.s), (vN r.at_), (vN r.f)] TR, .blk b1 [(ptr q 0)] 138, .blk b2 [(vU32 0), (vU8 0), (str [])] 111] → W 6 #[true, false, true, false, false, false, false, false] [(0, (.agg #[(ptr q 0)])), (1, (ptr b1 0)), (2, (ptr b2 0)), (5, (.agg #[(ptr q 0)])), (7, (.agg #[(ptr q 0)]))] wS := by
    intro wS HS
    rw [hW]
    refine WD.all2 (i := 1) (j := 6) (by kernel_rfl) ?_ ?_
    ·
      refine WS.op (i := 1) rfl rfl rfl (op_callF Fa.C96 rfl ((inum_ok q r (4) TR _ _ (HS.part [0] rfl rfl) (by first | with_reducible exact hr | ((repeat rw [numR_s]); with_reducible exact hr))).mono (fun e w14021 hq => ?_)))
      obtain ⟨rfl, hq14021⟩ := hq
      refine ⟨_, rfl, ?_⟩
      have H14021 : Own T w w14021 [.blk q [(str ((numR r 4).2).s), (vN ((numR r 4).2).at_), (vN ((numR r 4).2).f)] TR, .blk b1 [(ptr q 0)] 138, .blk b2 [(vU32 0), (vU8 0), (str [])] 111] := HS.splice [0] [.blk q [(str ((numR r 4).2).s), (vN ((numR r 4).2).at_), (vN ((numR r 4).2).f)] TR] [] rfl rfl hq14021 (Fits.solid True.intro Fits.nil)
      have hq := st1_8 w14021 H14021
      rw [hW] at hq
      refine WD.cov ?_ hq
      exact by repeat (first | exact trivial | refine ⟨rfl, ?_⟩)
    ·
      refine WS.op (i := 6) rfl rfl rfl (op_alloc HS Fa.I111 (fun b14121 w14121 H14121 => ?_))
      have hq := st1_10 b14121 w14121 H14121
      rw [hW] at hq
      refine WD.cov ?_ hq
      exact by repeat (first | exact trivial | refine ⟨rfl, ?_⟩)
  have st1_6 : ∀ (b14121 : _) (wS : World), Own T w wS [.blk q [(str r.s), (vN r.at_), (vN r.f)] TR, .blk b1 [(ptr q 0)] 138, .blk b2 [(vU32 0), (vU8 0), (str [])] 111, .blk b14121 [(vU32 0), (vU8 0), (str [])] 111] → W 6 #[true, false, false, false, false, false, true, false] [(0, (.agg #[(ptr q 0)])), (1, (ptr b1 0)), (2, (ptr b2 0)), (3, (ptr b14121 0)), (5, (.agg #[(ptr q 0)]))] wS := by
    intro b14121 wS HS
    rw [hW]
    refine WD.all2 (i := 1) (j := 2) (by kernel_rfl) ?_ ?_
    ·
      refine WS.op (i := 1) rfl rfl rfl (op_callF Fa.C96 rfl ((inum_ok q r (4) TR _ _ (HS.part [0] rfl rfl) (by first | with_reducible exact hr | ((repeat rw [numR_s]); with_reducible exact hr))).mono (fun e w14021 hq => ?_)))
      obtain ⟨rfl, hq14021⟩ := hq
      refine ⟨_, rfl, ?_⟩
      have H14021 : Own T w w14021 [.blk q [(str ((numR r 4).2).s), (vN ((numR r 4).2).at_), (vN ((numR r 4).2).f)] TR, .blk b1 [(ptr q 0)] 138, .blk b2 [(vU32 0), (vU8 0), (str [])] 111, .blk b14121 [(vU32 0), (vU8 0), (str [])] 111] := HS.splice [0] [.blk q [(str ((numR r 4).2).s), (vN ((numR r 4).2).at_), (vN ((numR r 4).2).f)] TR] [] rfl rfl hq14021 (Fits.solid True.intro Fits.nil)
      have hq := st1_9 b14121 w14021 H14021
      rw [hW] at hq
      refine WD.cov ?_ hq
      exact by repeat (first | exact trivial | refine ⟨rfl, ?_⟩)
    ·
      refine WS.op (i := 2) rfl rfl rfl (op_loadS (vs := [_]) rfl (HS.cells (i := 1) rfl rfl) Try.underlying138 rfl Fa.I138 rfl ?_)
      have hq := st1_10 b14121 wS HS
      rw [hW] at hq
      refine WD.cov ?_ hq
      exact by repeat (first | exact trivial | refine ⟨rfl, ?_⟩)
  have st1_7 : ∀ (b14121 : _) (wS : World), Own T w wS [.blk q [(str r.s), (vN r.at_), (vN r.f)] TR, .blk b1 [(ptr q 0)] 138, .blk b2 [(vU32 0), (vU8 0), (str [])] 111, .blk b14121 [(vU32 0), (vU8 0), (str [])] 111] → W 6 #[false, false, true, false, false, false, true, false] [(0, (.agg #[(ptr q 0)])), (1, (ptr b1 0)), (2, (ptr b2 0)), (3, (ptr b14121 0)), (7, (.agg #[(ptr q 0)]))] wS := by
    intro b14121 wS HS
    rw [hW]
    refine WD.all1 (i := 0) (by kernel_rfl) ?_
    ·
      refine WS.op (i := 0) rfl rfl rfl (op_loadS (vs := [_]) rfl (HS.cells (i := 1) rfl rfl) Try.underlying138 rfl Fa.I138 rfl ?_)
      have hq := st1_10 b14121 wS HS
      rw [hW] at hq
      refine WD.cov ?_ hq
      exact by repeat (first | exact trivial | refine ⟨rfl, ?_⟩)
  have st1_1 : ∀ (wS : World), Own T w wS [.blk q [(str r.s), (vN r.at_), (vN r.f)] TR, .blk b1 [(ptr q 0)] 138, .blk b2 [(vU32 0), (vU8 0), (str [])] 111] → W 7 #[true, false, false, false, false, false, false, false] [(0, (.agg #[(ptr q 0)])), (1, (ptr b1 0)), (2, (ptr b2 0)), (5, (.agg #[(ptr q 0)]))] wS := by
    intro wS HS
    rw [hW]
    refine WD.all3 (i := 1) (j := 2) (m := 6) (by kernel_rfl) ?_ ?_ ?_
    ·
      refine WS.op (i := 1) rfl rfl rfl (op_callF Fa.C96 rfl ((inum_ok q r (4) TR _ _ (HS.part [0] rfl rfl) (by first | with_reducible exact hr | ((repeat rw [numR_s]); with_reducible exact hr))).mono (fun e w14021 hq => ?_)))
      obtain ⟨rfl, hq14021⟩ := hq
      refine ⟨_, rfl, ?_⟩
      have H14021 : Own T w w14021 [.blk q [(str ((numR r 4).2).s), (vN ((numR r 4).2).at_), (vN ((numR r 4).2).f)] TR, .blk b1 [(ptr q 0)] 138, .blk b2 [(vU32 0), (vU8 0), (str [])] 111] := HS.splice [0] [.blk q [(str ((numR r 4).2).s), (vN ((numR r 4).2).at_), (vN ((numR r 4).2).f)] TR] [] rfl rfl hq14021 (Fits.solid True.intro Fits.nil)
      have hq := st1_4 w14021 H14021
      rw [hW] at hq
      refine WD.cov ?_ hq
      exact by repeat (first | exact trivial | refine ⟨rfl, ?_⟩)
    ·
      refine WS.op (i := 2) rfl rfl rfl (op_loadS (vs := [_]) rfl (HS.cells (i := 1) rfl rfl) Try.underlying138 rfl Fa.I138 rfl ?_)
      have hq := st1_5 wS HS
      rw [hW] at hq
      refine WD.cov ?_ hq
      exact by repeat (first | exact trivial | refine ⟨rfl, ?_⟩)
    ·
      refine WS.op (i := 6) rfl rfl rfl (op_alloc HS Fa.I111 (fun b14121 w14121 H14121 => ?_))
      have hq := st1_6 b14121 w14121 H14121
      rw [hW] at hq
      refine WD.cov ?_ hq
      exact by repeat (first | exact trivial | refine ⟨rfl, ?_⟩)
  have st1_2 : ∀ (wS : World), Own T w wS [.blk q [(str r.s), (vN r.at_), (vN r.f)] TR, .blk b1 [(ptr q 0)] 138, .blk b2 [(vU32 0), (vU8 0), (str [])] 111] → W 7 #[false, false, true, false, false, false, false, false] [(0, (.agg #[(ptr q 0)])), (1, (ptr b1 0)), (2, (ptr b2 0)), (7, (.agg #[(ptr q 0)]))] wS := by
    intro wS HS
    rw [hW]
    refine WD.all2 (i := 0) (j := 6) (by kernel_rfl) ?_ ?_
    ·
      refine WS.op (i := 0) rfl rfl rfl (op_loadS (vs := [_]) rfl (HS.cells (i := 1) rfl rfl) Try.underlying138 rfl Fa.I138 rfl ?_)
      have hq := st1_5 wS HS
      rw [hW] at hq
      refine WD.cov ?_ hq
      exact by repeat (first | exact trivial | refine ⟨rfl, ?_⟩)
    ·
      refine WS.op (i := 6) rfl rfl rfl (op_alloc HS Fa.I111 (fun b14121 w14121 H14121 => ?_))
      have hq := st1_7 b14121 w14121 H14121
      rw [hW] at hq
      refine WD.cov ?_ hq
      exact by repeat (first | exact trivial | refine ⟨rfl, ?_⟩)
  have st1_3 : ∀ (b14121 : _) (wS : World), Own T w wS [.blk q [(str r.s), (vN r.at_), (vN r.f)] TR, .blk b1 [(ptr q 0)] 138, .blk b2 [(vU32 0), (vU8 0), (str [])] 111, .blk b14121 [(vU32 0), (vU8 0), (str [])] 111] → W 7 #[false, false, false, false, false, false, true, false] [(0, (.agg #[(ptr q 0)])), (1, (ptr b1 0)), (2, (ptr b2 0)), (3, (ptr b14121 0))] wS := by
    intro b14121 wS HS
    rw [hW]
    refine WD.all2 (i := 0) (j := 2) (by kernel_rfl) ?_ ?_
    ·
      refine WS.op (i := 0) rfl rfl rfl (op_loadS (vs := [_]) rfl (HS.cells (i := 1) rfl rfl) Try.underlying138 rfl Fa.I138 rfl ?_)
      have hq := st1_6 b14121 wS HS
      rw [hW] at hq
      refine WD.cov ?_ hq
      exact by repeat (first | exact trivial | refine ⟨rfl, ?_⟩)
    ·
      refine WS.op (i := 2) rfl rfl rfl (op_loadS (vs := [_]) rfl (HS.cells (i := 1) rfl rfl) Try.underlying138 rfl Fa.I138 rfl ?_)
      have hq := st1_7 b14121 wS HS
      rw [hW] at hq
      refine WD.cov ?_ hq
      exact by repeat (first | exact trivial | refine ⟨rfl, ?_⟩)
  have st1_0 : ∀ (wS : World), Own T w wS [.blk q [(str r.s), (vN r.at_), (vN r.f)] TR, .blk b1 [(ptr q 0)] 138, .blk b2 [(vU32 0), (vU8 0), (str [])] 111] → W 8 #[false, false, false, false, false, false, false, false] [(0, (.agg #[(ptr q 0)])), (1, (ptr b1 0)), (2, (ptr b2 0))] wS := by
    intro wS HS
    rw [hW]
    refine WD.all3 (i := 0) (j := 2) (m := 6) (by kernel_rfl) ?_ ?_ ?_
    ·
      refine WS.op (i := 0) rfl rfl rfl (op_loadS (vs := [_]) rfl (HS.cells (i := 1) rfl rfl) Try.underlying138 rfl Fa.I138 rfl ?_)
      have hq := st1_1 wS HS
      rw [hW] at hq
      refine WD.cov ?_ hq
      exact by repeat (first | exact trivial | refine ⟨rfl, ?_⟩)
    ·
      refine WS.op (i := 2) rfl rfl rfl (op_loadS (vs := [_]) rfl (HS.cells (i := 1) rfl rfl) Try.underlying138 rfl Fa.I138 rfl ?_)
      have hq := st1_2 wS HS
      rw [hW] at hq
      refine WD.cov ?_ hq
      exact by repeat (first | exact trivial | refine ⟨rfl, ?_⟩)
    ·
      refine WS.op (i := 6) rfl rfl rfl (op_alloc HS Fa.I111 (fun b14121 w14121 H14121 => ?_))
      have hq := st1_3 b14121 w14121 H14121
      rw [hW] at hq
      refine WD.cov ?_ hq
      exact by repeat (first | exact trivial | refine ⟨rfl, ?_⟩)
  have hq := st1_0 w3 H3
  rw [hW] at hq ⊢
  refine WD.cov ?_ hq
  exact by repeat (first | exact trivial | refine ⟨rfl, ?_⟩)
end Go.Proofs.Ytpnghdalnghpcaa
