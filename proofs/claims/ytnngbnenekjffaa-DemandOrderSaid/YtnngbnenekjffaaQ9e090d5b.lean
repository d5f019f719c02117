/- General lemmas and walks: FESort, FESort2, FESort3, FESort4, FEDem, FEDem2, FEDem3, FEDem4, FEDem5, FEDem6, FEDem7, FEDem8, FEDem9, FEDem10, FEDem11, FEDem12, EDem, EDem2, ESort. No condition but what each theorem names. -/
import Derived.Test.YtnngbnenekjffaaQ48cb4255
import Derived.Test.YtnngbnenekjffaaQe6bf9a58
import Derived.Test.YtnngbnenekjffaaChecked
import Derived.Test.YtnngbnenekjffaaQa2c405e1
/-! from FESort -/
/- Closed facts, off the tables of the program. -/
namespace Go.Proofs.Ytnngbnenekjffaa
open Go.Owl
namespace Fa
theorem C58 : callB Try.prog 58 = true := by kernel_rfl
theorem C68 : callB Try.prog 68 = true := by kernel_rfl
theorem I51 : tiB Try.prog 51 = some ([(vU16 0)], 1, 2) := by kernel_rfl
theorem M : Try.prog.follows .mixedOrders = true := by kernel_rfl
end Fa
end Go.Proofs.Ytnngbnenekjffaa
/-! from FESort2 -/
/- Closed facts, off the tables of the program. -/
namespace Go.Proofs.Ytnngbnenekjffaa
open Go.Owl
namespace Fa
theorem C63 : callB Try.prog 63 = true := by kernel_rfl
theorem C66 : callB Try.prog 66 = true := by kernel_rfl
theorem C67 : callB Try.prog 67 = true := by kernel_rfl
theorem C69 : callB Try.prog 69 = true := by kernel_rfl
theorem I3 : tiB Try.prog 3 = some ([(vN 0)], 1, 8) := by kernel_rfl
end Fa
end Go.Proofs.Ytnngbnenekjffaa
/-! from FESort3 -/
/- Closed facts, off the tables of the program. -/
namespace Go.Proofs.Ytnngbnenekjffaa
open Go.Owl
namespace Fa
theorem C51 : callB Try.prog 51 = true := by kernel_rfl
theorem C62 : callB Try.prog 62 = true := by kernel_rfl
theorem C64 : callB Try.prog 64 = true := by kernel_rfl
theorem C65 : callB Try.prog 65 = true := by kernel_rfl
theorem I93 : tiB Try.prog 93 = some ([(vU64 0)], 1, 8) := by kernel_rfl
end Fa
end Go.Proofs.Ytnngbnenekjffaa
/-! from FESort4 -/
/- Closed facts, off the tables of the program. -/
namespace Go.Proofs.Ytnngbnenekjffaa
open Go.Owl
namespace Fa
theorem C50 : callB Try.prog 50 = true := by kernel_rfl
theorem C52 : callB Try.prog 52 = true := by kernel_rfl
theorem C53 : callB Try.prog 53 = true := by kernel_rfl
theorem C54 : callB Try.prog 54 = true := by kernel_rfl
theorem C55 : callB Try.prog 55 = true := by kernel_rfl
theorem C56 : callB Try.prog 56 = true := by kernel_rfl
theorem C57 : callB Try.prog 57 = true := by kernel_rfl
theorem C59 : callB Try.prog 59 = true := by kernel_rfl
theorem C60 : callB Try.prog 60 = true := by kernel_rfl
end Fa
end Go.Proofs.Ytnngbnenekjffaa
/-! from FEDem -/
/- Closed facts, off the tables of the program. -/
namespace Go.Proofs.Ytnngbnenekjffaa
open Go.Owl
namespace Fa
theorem C32 : callB Try.prog 32 = true := by kernel_rfl
theorem C33 : callB Try.prog 33 = true := by kernel_rfl
theorem C34 : callB Try.prog 34 = true := by kernel_rfl
theorem C35 : callB Try.prog 35 = true := by kernel_rfl
theorem C36 : callB Try.prog 36 = true := by kernel_rfl
theorem C37 : callB Try.prog 37 = true := by kernel_rfl
theorem C38 : callB Try.prog 38 = true := by kernel_rfl
theorem C48 : callB Try.prog 48 = true := by kernel_rfl
theorem C49 : callB Try.prog 49 = true := by kernel_rfl
theorem F30_0 : faB Try.prog 30 0 = some (0, 1, true) := by kernel_rfl
theorem F30_1 : faB Try.prog 30 1 = some (1, 1, true) := by kernel_rfl
theorem F30_2 : faB Try.prog 30 2 = some (2, 1, true) := by kernel_rfl
theorem F50_0 : faB Try.prog 50 0 = some (0, 1, true) := by kernel_rfl
theorem F50_1 : faB Try.prog 50 1 = some (1, 1, true) := by kernel_rfl
theorem I50 : tiB Try.prog 50 = some ([(vU32 0), (vU32 0)], 2, 8) := by kernel_rfl
end Fa
end Go.Proofs.Ytnngbnenekjffaa
/-! from FEDem2 -/
/- Closed facts, off the tables of the program. -/
namespace Go.Proofs.Ytnngbnenekjffaa
open Go.Owl
namespace Fa
theorem C39 : callB Try.prog 39 = true := by kernel_rfl
theorem C40 : callB Try.prog 40 = true := by kernel_rfl
theorem C41 : callB Try.prog 41 = true := by kernel_rfl
theorem F30_3 : faB Try.prog 30 3 = some (3, 1, true) := by kernel_rfl
theorem F36_0 : faB Try.prog 36 0 = some (0, 1, true) := by kernel_rfl
theorem F36_1 : faB Try.prog 36 1 = some (1, 1, true) := by kernel_rfl
theorem F36_2 : faB Try.prog 36 2 = some (2, 1, true) := by kernel_rfl
theorem FL50 : flatB Try.prog 50 = some [.int .u32, .int .u32] := by kernel_rfl
end Fa
end Go.Proofs.Ytnngbnenekjffaa
/-! from FEDem3 -/
/- Closed facts, off the tables of the program. -/
namespace Go.Proofs.Ytnngbnenekjffaa
open Go.Owl
namespace Fa
theorem F54_0 : faB Try.prog 54 0 = some (0, 4, false) := by kernel_rfl
theorem F54_1 : faB Try.prog 54 1 = some (4, 16, false) := by kernel_rfl
theorem I26 : tiB Try.prog 26 = some ([(vU32 0)], 1, 4) := by kernel_rfl
theorem I28 : tiB Try.prog 28 = some ([(.slice none 0 0)], 1, 24) := by kernel_rfl
theorem I4 : tiB Try.prog 4 = some ([(.bool false)], 1, 1) := by kernel_rfl
theorem Z51 : zvB Try.prog 51 = some (vU16 0) := by kernel_rfl
end Fa
end Go.Proofs.Ytnngbnenekjffaa
/-! from FEDem4 -/
/- Closed facts, off the tables of the program. -/
namespace Go.Proofs.Ytnngbnenekjffaa
open Go.Owl
namespace Fa
theorem C24 : callB Try.prog 24 = true := by kernel_rfl
theorem C25 : callB Try.prog 25 = true := by kernel_rfl
theorem C26 : callB Try.prog 26 = true := by kernel_rfl
theorem C42 : callB Try.prog 42 = true := by kernel_rfl
theorem C43 : callB Try.prog 43 = true := by kernel_rfl
theorem I27 : tiB Try.prog 27 = some ([(.slice none 0 0)], 1, 24) := by kernel_rfl
theorem I30 : tiB Try.prog 30 = some ([(vU32 0), (.slice none 0 0), (.slice none 0 0), (.bool false)], 4, 64) := by kernel_rfl
theorem I36 : tiB Try.prog 36 = some ([(vU8 0), (vU32 0), (vU32 0)], 3, 12) := by kernel_rfl
theorem I52 : tiB Try.prog 52 = some ([(vU32 0), (vU32 0), (vU32 0), (vU32 0), (vU32 0), (vU32 0), (vU32 0), (vU32 0), (vU32 0), (vU32 0), (vU32 0), (vU32 0), (vU32 0), (vU32 0), (vU32 0), (vU32 0)], 16, 64) := by kernel_rfl
theorem I54 : tiB Try.prog 54 = some ([(vU32 0), (.slice none 0 0), (.slice none 0 0), (.bool false), (vU32 0), (vU32 0), (vU32 0), (vU32 0), (vU32 0), (vU32 0), (vU32 0), (vU32 0), (vU32 0), (vU32 0), (vU32 0), (vU32 0), (vU32 0), (vU32 0), (vU32 0), (vU32 0)], 20, 128) := by kernel_rfl
theorem PL30 : plB Try.prog 30 = some [(0, 1), (1, 1), (2, 1), (3, 1)] := by kernel_rfl
theorem PL50 : plB Try.prog 50 = some [(0, 1), (1, 1)] := by kernel_rfl
end Fa
end Go.Proofs.Ytnngbnenekjffaa
/-! from FEDem5 -/
/- Closed facts, off the tables of the program. -/
namespace Go.Proofs.Ytnngbnenekjffaa
open Go.Owl
namespace Fa
end Fa
end Go.Proofs.Ytnngbnenekjffaa
/-! from FEDem6 -/
/- Closed facts, off the tables of the program. -/
namespace Go.Proofs.Ytnngbnenekjffaa
open Go.Owl
namespace Fa
theorem C15 : callB Try.prog 15 = true := by kernel_rfl
theorem PL36 : plB Try.prog 36 = some [(0, 1), (1, 1), (2, 1)] := by kernel_rfl
end Fa
end Go.Proofs.Ytnngbnenekjffaa
/-! from FEDem7 -/
/- Closed facts, off the tables of the program. -/
namespace Go.Proofs.Ytnngbnenekjffaa
open Go.Owl
namespace Fa
theorem C30 : callB Try.prog 30 = true := by kernel_rfl
theorem C31 : callB Try.prog 31 = true := by kernel_rfl
theorem C46 : callB Try.prog 46 = true := by kernel_rfl
theorem C47 : callB Try.prog 47 = true := by kernel_rfl
end Fa
end Go.Proofs.Ytnngbnenekjffaa
/-! from FEDem8 -/
/- Closed facts, off the tables of the program. -/
namespace Go.Proofs.Ytnngbnenekjffaa
open Go.Owl
namespace Fa
theorem C13 : callB Try.prog 13 = true := by kernel_rfl
theorem C22 : callB Try.prog 22 = true := by kernel_rfl
theorem C29 : callB Try.prog 29 = true := by kernel_rfl
theorem C9 : callB Try.prog 9 = true := by kernel_rfl
end Fa
end Go.Proofs.Ytnngbnenekjffaa
/-! from FEDem9 -/
/- Closed facts, off the tables of the program. -/
namespace Go.Proofs.Ytnngbnenekjffaa
open Go.Owl
namespace Fa
theorem C14 : callB Try.prog 14 = true := by kernel_rfl
theorem C18 : callB Try.prog 18 = true := by kernel_rfl
end Fa
end Go.Proofs.Ytnngbnenekjffaa
/-! from FEDem10 -/
/- Closed facts, off the tables of the program. -/
namespace Go.Proofs.Ytnngbnenekjffaa
open Go.Owl
namespace Fa
theorem C21 : callB Try.prog 21 = true := by kernel_rfl
theorem C8 : callB Try.prog 8 = true := by kernel_rfl
end Fa
end Go.Proofs.Ytnngbnenekjffaa
/-! from FEDem11 -/
/- Closed facts, off the tables of the program. -/
namespace Go.Proofs.Ytnngbnenekjffaa
open Go.Owl
namespace Fa
theorem C11 : callB Try.prog 11 = true := by kernel_rfl
end Fa
end Go.Proofs.Ytnngbnenekjffaa
/-! from FEDem12 -/
/- Closed facts, off the tables of the program. -/
namespace Go.Proofs.Ytnngbnenekjffaa
open Go.Owl
namespace Fa
end Fa
end Go.Proofs.Ytnngbnenekjffaa
/-! from EDem -/
namespace Go.Proofs.Ytnngbnenekjffaa
open Go.Owl Go.Spec
set_option maxRecDepth 100000 in
theorem xtbad_ok (x : Xt) (w : World) :
    Calls Try.prog 33 #[(.agg #[(vU32 x.id), (vU32 x.bl)])] w (fun e w' => e = .returned (.bool (xtBad x)) ∧ Fr [] w w') := by
  refine enter (args := [(.agg #[(vU32 x.id), (vU32 x.bl)])]) Try.func33 rfl rfl ?_
  have H0 : Own [] w w [] := Own.start w []
  refine WC.seq ?_
  refine WC.region ?_
  refine WL.op rfl rfl (op_box H0 rfl rfl (fun b1 w1 H1 => ?_))
  refine WL.op rfl rfl (op_assign rfl ?_)
  refine WL.nil ?_
  refine WQ.next ?_
  refine WC.seq ?_
  refine WC.region ?_
  refine WL.op rfl rfl (op_fieldAddr rfl Fa.F50_0 ?_)
  refine WL.op rfl rfl (op_load rfl (H1.cell (i := 0) rfl rfl) Try.underlying26 rfl ?_)
  refine WL.op rfl rfl (op_geqU32 (b := 16) rfl rfl ?_)
  refine WL.op rfl rfl (op_move rfl ?_)
  refine WL.split (t := 6) rfl (fun (hb2 : (decide (x.id ≥ (16 : UInt32))) = true) => ?_) (fun (hb2 : (decide (x.id ≥ (16 : UInt32))) = false) => ?_)
  ·
    have hc2 := of_decide_eq_true hb2
    refine WL.no rfl rfl rfl hb2 rfl ?_
    refine WL.no rfl rfl rfl hb2 rfl ?_
    refine WL.no rfl rfl rfl hb2 rfl ?_
    refine WL.op rfl rfl (op_pickT rfl hb2 rfl ?_)
    refine WL.op rfl rfl (op_move rfl ?_)
    refine WL.no rfl rfl rfl rfl rfl ?_
    refine WL.no rfl rfl rfl rfl rfl ?_
    refine WL.no rfl rfl rfl rfl rfl ?_
    refine WL.op rfl rfl (op_pickT rfl rfl rfl ?_)
    refine WL.op rfl rfl (op_assign rfl ?_)
    refine WL.nil ?_
    refine WQ.next ?_
    refine WC.ret ?_
    refine WQ.out (.tmp rfl .nil) ?_
    exact ⟨by (rw [xtBad, hb2]) <;> rfl, H1.fr⟩
  ·
    have hc2 := of_decide_eq_false hb2
    refine WL.yes rfl rfl rfl hb2 rfl (op_fieldAddr rfl Fa.F50_1 ?_)
    refine WL.yes rfl rfl rfl hb2 rfl (op_load rfl (H1.cell (i := 0) rfl rfl) Try.underlying26 rfl ?_)
    refine WL.yes rfl rfl rfl hb2 rfl (op_lssU32 (b := 1) rfl rfl ?_)
    refine WL.op rfl rfl (op_pickF rfl hb2 rfl ?_)
    refine WL.op rfl rfl (op_move rfl ?_)
    refine WL.split (t := 11) rfl (fun (hb3 : (decide (x.bl < (1 : UInt32))) = true) => ?_) (fun (hb3 : (decide (x.bl < (1 : UInt32))) = false) => ?_)
    ·
      have hc3 := of_decide_eq_true hb3
      refine WL.no rfl rfl rfl hb3 rfl ?_
      refine WL.no rfl rfl rfl hb3 rfl ?_
      refine WL.no rfl rfl rfl hb3 rfl ?_
      refine WL.op rfl rfl (op_pickT rfl hb3 rfl ?_)
      refine WL.op rfl rfl (op_assign rfl ?_)
      refine WL.nil ?_
      refine WQ.next ?_
      refine WC.ret ?_
      refine WQ.out (.tmp rfl .nil) ?_
      exact ⟨by (rw [xtBad, hb2, hb3]) <;> rfl, H1.fr⟩
    ·
      have hc3 := of_decide_eq_false hb3
      refine WL.yes rfl rfl rfl hb3 rfl (op_fieldAddr rfl Fa.F50_1 ?_)
      refine WL.yes rfl rfl rfl hb3 rfl (op_load rfl (H1.cell (i := 0) rfl rfl) Try.underlying26 rfl ?_)
      refine WL.yes rfl rfl rfl hb3 rfl (op_gtrU32 (b := 1024) rfl rfl ?_)
      refine WL.op rfl rfl (op_pickF rfl hb3 rfl ?_)
      refine WL.op rfl rfl (op_assign rfl ?_)
      refine WL.nil ?_
      refine WQ.next ?_
      refine WC.ret ?_
      refine WQ.out (.tmp rfl .nil) ?_
      exact ⟨by (rw [xtBad, hb2, hb3]) <;> rfl, H1.fr⟩
set_option maxRecDepth 100000 in
theorem xtlt_ok (x y : Xt) (w : World) :
    Calls Try.prog 35 #[(.agg #[(vU32 x.id), (vU32 x.bl)]), (.agg #[(vU32 y.id), (vU32 y.bl)])] w (fun e w' => e = .returned (.bool (xtLt x y)) ∧ Fr [] w w') := by
  refine enter (args := [(.agg #[(vU32 x.id), (vU32 x.bl)]), (.agg #[(vU32 y.id), (vU32 y.bl)])]) Try.func35 rfl rfl ?_
  have H0 : Own [] w w [] := Own.start w []
  refine WC.seq ?_
  refine WC.region ?_
  refine WL.op rfl rfl (op_box H0 rfl rfl (fun b1 w1 H1 => ?_))
  refine WL.op rfl rfl (op_box H1 rfl rfl (fun b2 w2 H2 => ?_))
  refine WL.op rfl rfl (op_assign rfl ?_)
  refine WL.nil ?_
  refine WQ.next ?_
  refine WC.seq ?_
  refine WC.region ?_
  refine WL.op rfl rfl (op_fieldAddr rfl Fa.F50_0 ?_)
  refine WL.op rfl rfl (op_load rfl (H2.cell (i := 0) rfl rfl) Try.underlying26 rfl ?_)
  refine WL.op rfl rfl (op_fieldAddr rfl Fa.F50_0 ?_)
  refine WL.op rfl rfl (op_load rfl (H2.cell (i := 1) rfl rfl) Try.underlying26 rfl ?_)
  refine WL.op rfl rfl (op_lssU32 rfl rfl ?_)
  refine WL.op rfl rfl (op_assign rfl ?_)
  refine WL.nil ?_
  refine WQ.next ?_
  refine WC.ret ?_
  refine WQ.out (.tmp rfl .nil) ?_
  exact ⟨rfl, H2.fr⟩
set_option maxRecDepth 100000 in
theorem u16lt_ok (x y : UInt16) (w : World) :
    Calls Try.prog 37 #[(vU16 x), (vU16 y)] w (fun e w' => e = .returned (.bool (u16Lt x y)) ∧ Fr [] w w') := by
  refine enter (args := [(vU16 x), (vU16 y)]) Try.func37 rfl rfl ?_
  have H0 : Own [] w w [] := Own.start w []
  refine WC.seq ?_
  refine WC.region ?_
  refine WL.op rfl rfl (op_assign rfl ?_)
  refine WL.nil ?_
  refine WQ.next ?_
  refine WC.seq ?_
  refine WC.region ?_
  refine WL.op rfl rfl (op_move rfl ?_)
  refine WL.op rfl rfl (op_move rfl ?_)
  refine WL.op rfl rfl (op_lssU16 rfl rfl ?_)
  refine WL.op rfl rfl (op_assign rfl ?_)
  refine WL.nil ?_
  refine WQ.next ?_
  refine WC.ret ?_
  refine WQ.out (.tmp rfl .nil) ?_
  exact ⟨rfl, H0.fr⟩
set_option maxRecDepth 100000 in
theorem idxX_ok (lv : Value) (l : List Xt) (w : World) (hA : Arr w lv 2 l.length (List.flatMap xtc l)) (hn : l.length < 2 ^ 47) :
    Calls Try.prog 48 #[lv, (.func (.func 33) #[] #[])] w (fun e w' => e = .returned (vI (fidx xtBad l)) ∧ Fr [] w w') := by
  refine enter (args := [lv, (.func (.func 33) #[] #[])]) Try.func48 rfl rfl ?_
  have H0 : Own [] w w [] := Own.start w []
  refine WC.seq ?_
  refine WC.region ?_
  refine WL.op rfl rfl (op_assign rfl ?_)
  refine WL.nil ?_
  refine WQ.next ?_
  refine WC.seq ?_
  refine WC.seq ?_
  refine WC.region ?_
  refine WL.op rfl rfl (op_move rfl ?_)
  refine WL.op rfl rfl (op_lenA Try.underlying27 rfl (H0.arr hA) ?_)
  refine WL.op rfl rfl (op_move rfl ?_)
  refine WL.nil ?_
  refine WQ.next ?_
  refine WC.block ?_
  refine WC.loop (α := Nat) (fun k => [(0, lv), (1, (.func (.func 33) #[] #[])), (7, (vN l.length)), (8, (vN k))]) (fun k w' => (k ≤ l.length ∧ (∀ j, j < k → xtBad (l.getD j Xt.zero) = false)) ∧ Own [] w w' []) (fun k => l.length - k) 0 ⟨⟨Nat.zero_le _, fun j h => by omega⟩, H0⟩ ⟨rfl, rfl, rfl, rfl, trivial⟩ ?_
  rintro k w1 ⟨⟨hk1, hok⟩, H1⟩
  show WC _ _ _ _ _ [(0, lv), (1, (.func (.func 33) #[] #[])), (7, (vN l.length)), (8, (vN k))] _
  refine WC.seq ?_
  refine WC.region ?_
  refine WL.op rfl rfl (op_lssN rfl rfl ?_)
  refine WL.nil ?_
  refine WQ.next ?_
  refine WC.seq ?_
  refine WC.cond rfl (fun (hb2 : (decide (k < l.length)) = true) => ?_) (fun (hb2 : (decide (k < l.length)) = false) => ?_)
  ·
    have hc2 := of_decide_eq_true hb2
    refine WC.skip ?_
    refine WQ.next ?_
    refine WC.seq ?_
    refine WC.block ?_
    refine WC.seq ?_
    refine WC.region ?_
    refine WL.op rfl rfl (op_move rfl ?_)
    refine WL.op rfl rfl (op_assign rfl ?_)
    refine WL.nil ?_
    refine WQ.next ?_
    refine WC.seq ?_
    refine WC.region ?_
    refine WL.op rfl rfl (op_move rfl ?_)
    refine WL.op rfl rfl (op_move rfl ?_)
    refine WL.op rfl rfl (op_move rfl ?_)
    refine WL.op rfl rfl (op_indexAddr Try.underlying27 Fa.I50 rfl (H1.arr hA) rfl (by omega) ?_)
    refine WL.op rfl rfl (op_loadSP (vs := xtc (l.getD k Xt.zero)) rfl (Arr.atsF (H1.arr hA) (fun _ => rfl) (by decide) Xt.zero (by omega)) Try.underlying50 rfl Fa.I50 rfl ?_)
    refine WL.op rfl rfl (op_call (f := 33) rfl Fa.C33 rfl ((xtbad_ok (l.getD k Xt.zero) _).mono (fun e w3 hq => ?_)))
    obtain ⟨rfl, hf3⟩ := hq
    refine ⟨_, rfl, ?_⟩
    have H3 := H1.fr' hf3
    refine WL.nil ?_
    refine WQ.next ?_
    refine WC.cond rfl (fun (hb4 : (xtBad (l.getD k Xt.zero)) = true) => ?_) (fun (hb4 : (xtBad (l.getD k Xt.zero)) = false) => ?_)
    ·
      refine WC.seq ?_
      refine WC.region ?_
      refine WL.op rfl rfl (op_move rfl ?_)
      refine WL.op rfl rfl (op_assign rfl ?_)
      refine WL.nil ?_
      refine WQ.next ?_
      refine WC.ret ?_
      refine WQ.inRet ?_
      refine WQ.thenRet ?_
      refine WQ.thenRet ?_
      refine WQ.inRet ?_
      refine WQ.thenRet ?_
      refine WQ.out (.tmp rfl .nil) ?_
      exact ⟨by rw [fidx_yes (d := Xt.zero) (by omega) hok hb4]; rfl, H3.fr⟩
    ·
      refine WC.skip ?_
      refine WQ.inNormal ?_
      refine WQ.next ?_
      refine WC.region ?_
      refine WL.op rfl rfl (op_addN (b := 1) rfl rfl (by omega) ?_)
      refine WL.op rfl rfl (op_move rfl ?_)
      refine WL.nil ?_
      exact WQ.round (k + 1) ⟨⟨by omega, allPrev hok hb4⟩, H3⟩ ⟨rfl, rfl, rfl, rfl, trivial⟩ (by omega)
  ·
    have hc2 := of_decide_eq_false hb2
    refine WC.exit ?_
    refine WQ.thenExit ?_
    refine WQ.thenExit ?_
    refine WQ.inHere ?_
    refine WQ.next ?_
    refine WC.seq ?_
    refine WC.region ?_
    refine WL.op rfl rfl (op_assign rfl ?_)
    refine WL.nil ?_
    refine WQ.next ?_
    refine WC.ret ?_
    refine WQ.out (.tmp rfl .nil) ?_
    exact ⟨by rw [fidx_no (d := Xt.zero) (fun j hj => hok j (by omega))]; rfl, H1.fr⟩
set_option maxRecDepth 100000 in
theorem idx16_ok (lv : Value) (l : List UInt16) (y : UInt16) (w : World) (hA : Arr w lv 1 l.length (List.map vU16 l)) (hn : l.length < 2 ^ 47) :
    Calls Try.prog 49 #[lv, (vU16 y)] w (fun e w' => e = .returned (vI (fidx (u16Is y) l)) ∧ Fr [] w w') := by
  refine enter (args := [lv, (vU16 y)]) Try.func49 rfl rfl ?_
  have H0 : Own [] w w [] := Own.start w []
  refine WC.seq ?_
  refine WC.region ?_
  refine WL.op rfl rfl (op_assign rfl ?_)
  refine WL.nil ?_
  refine WQ.next ?_
  refine WC.seq ?_
  refine WC.seq ?_
  refine WC.region ?_
  refine WL.op rfl rfl (op_move rfl ?_)
  refine WL.op rfl rfl (op_lenA Try.underlying28 rfl (H0.arr hA) ?_)
  refine WL.op rfl rfl (op_move rfl ?_)
  refine WL.nil ?_
  refine WQ.next ?_
  refine WC.block ?_
  refine WC.loop (α := Nat) (fun k => [(0, lv), (1, (vU16 y)), (7, (vN l.length)), (8, (vN k))]) (fun k w' => (k ≤ l.length ∧ (∀ j, j < k → (u16Is y) (l.getD j 0) = false)) ∧ Own [] w w' []) (fun k => l.length - k) 0 ⟨⟨Nat.zero_le _, fun j h => by omega⟩, H0⟩ ⟨rfl, rfl, rfl, rfl, trivial⟩ ?_
  rintro k w1 ⟨⟨hk1, hok⟩, H1⟩
  show WC _ _ _ _ _ [(0, lv), (1, (vU16 y)), (7, (vN l.length)), (8, (vN k))] _
  refine WC.seq ?_
  refine WC.region ?_
  refine WL.op rfl rfl (op_lssN rfl rfl ?_)
  refine WL.nil ?_
  refine WQ.next ?_
  refine WC.seq ?_
  refine WC.cond rfl (fun (hb2 : (decide (k < l.length)) = true) => ?_) (fun (hb2 : (decide (k < l.length)) = false) => ?_)
  ·
    have hc2 := of_decide_eq_true hb2
    refine WC.skip ?_
    refine WQ.next ?_
    refine WC.seq ?_
    refine WC.block ?_
    refine WC.seq ?_
    refine WC.region ?_
    refine WL.op rfl rfl (op_move rfl ?_)
    refine WL.op rfl rfl (op_assign rfl ?_)
    refine WL.nil ?_
    refine WQ.next ?_
    refine WC.seq ?_
    refine WC.region ?_
    refine WL.op rfl rfl (op_move rfl ?_)
    refine WL.op rfl rfl (op_move rfl ?_)
    refine WL.op rfl rfl (op_move rfl ?_)
    refine WL.op rfl rfl (op_indexAddr1 Try.underlying28 Fa.I51 rfl (H1.arr hA) rfl (by omega) ?_)
    refine WL.op rfl rfl (op_load rfl ((H1.arr hA).at (get_map vU16 0 (Arr.ltM (H1.arr hA) (by omega)))) Try.underlying51 rfl ?_)
    refine WL.op rfl rfl (op_eqlU16 rfl rfl ?_)
    refine WL.nil ?_
    refine WQ.next ?_
    refine WC.cond rfl (fun (hb3 : (decide (y = (l.getD k 0))) = true) => ?_) (fun (hb3 : (decide (y = (l.getD k 0))) = false) => ?_)
    ·
      have hc3 := of_decide_eq_true hb3
      refine WC.seq ?_
      refine WC.region ?_
      refine WL.op rfl rfl (op_move rfl ?_)
      refine WL.op rfl rfl (op_assign rfl ?_)
      refine WL.nil ?_
      refine WQ.next ?_
      refine WC.ret ?_
      refine WQ.inRet ?_
      refine WQ.thenRet ?_
      refine WQ.thenRet ?_
      refine WQ.inRet ?_
      refine WQ.thenRet ?_
      refine WQ.out (.tmp rfl .nil) ?_
      exact ⟨by rw [fidx_yes (d := 0) (by omega) hok hb3]; rfl, H1.fr⟩
    ·
      have hc3 := of_decide_eq_false hb3
      refine WC.skip ?_
      refine WQ.inNormal ?_
      refine WQ.next ?_
      refine WC.region ?_
      refine WL.op rfl rfl (op_addN (b := 1) rfl rfl (by omega) ?_)
      refine WL.op rfl rfl (op_move rfl ?_)
      refine WL.nil ?_
      exact WQ.round (k + 1) ⟨⟨by omega, allPrev hok hb3⟩, H1⟩ ⟨rfl, rfl, rfl, rfl, trivial⟩ (by omega)
  ·
    have hc2 := of_decide_eq_false hb2
    refine WC.exit ?_
    refine WQ.thenExit ?_
    refine WQ.thenExit ?_
    refine WQ.inHere ?_
    refine WQ.next ?_
    refine WC.seq ?_
    refine WC.region ?_
    refine WL.op rfl rfl (op_assign rfl ?_)
    refine WL.nil ?_
    refine WQ.next ?_
    refine WC.ret ?_
    refine WQ.out (.tmp rfl .nil) ?_
    exact ⟨by rw [fidx_no (d := 0) (fun j hj => hok j (by omega))]; rfl, H1.fr⟩
set_option maxRecDepth 100000 in
theorem conX_ok (lv : Value) (l : List Xt) (w : World) (hA : Arr w lv 2 l.length (List.flatMap xtc l)) (hn : l.length < 2 ^ 47) :
    Calls Try.prog 32 #[lv, (.func (.func 33) #[] #[])] w (fun e w' => e = .returned (.bool (l.any xtBad)) ∧ Fr [] w w') := by
  refine enter (args := [lv, (.func (.func 33) #[] #[])]) Try.func32 rfl rfl ?_
  have H0 : Own [] w w [] := Own.start w []
  refine WC.seq ?_
  refine WC.region ?_
  refine WL.op rfl rfl (op_assign rfl ?_)
  refine WL.nil ?_
  refine WQ.next ?_
  refine WC.seq ?_
  refine WC.region ?_
  refine WL.op rfl rfl (op_move rfl ?_)
  refine WL.op rfl rfl (op_move rfl ?_)
  refine WL.op rfl rfl (op_callF Fa.C48 rfl ((idxX_ok _ l _ (H0.arr hA) (by omega)).mono (fun e w1 hq => ?_)))
  obtain ⟨rfl, hf1⟩ := hq
  refine ⟨_, rfl, ?_⟩
  have H1 := H0.fr' hf1
  refine WL.op rfl rfl (op_geqI (b := (0 : Int)) rfl rfl ?_)
  refine WL.op rfl rfl (op_assign rfl ?_)
  refine WL.nil ?_
  refine WQ.next ?_
  refine WC.ret ?_
  refine WQ.out (.tmp rfl .nil) ?_
  exact ⟨by rw [← fidx_any]; rfl, H1.fr⟩
set_option maxRecDepth 100000 in
theorem con16_ok (lv : Value) (l : List UInt16) (y : UInt16) (w : World) (hA : Arr w lv 1 l.length (List.map vU16 l)) (hn : l.length < 2 ^ 47) :
    Calls Try.prog 38 #[lv, (vU16 y)] w (fun e w' => e = .returned (.bool (l.any (u16Is y))) ∧ Fr [] w w') := by
  refine enter (args := [lv, (vU16 y)]) Try.func38 rfl rfl ?_
  have H0 : Own [] w w [] := Own.start w []
  refine WC.seq ?_
  refine WC.region ?_
  refine WL.op rfl rfl (op_assign rfl ?_)
  refine WL.nil ?_
  refine WQ.next ?_
  refine WC.seq ?_
  refine WC.region ?_
  refine WL.op rfl rfl (op_move rfl ?_)
  refine WL.op rfl rfl (op_move rfl ?_)
  refine WL.op rfl rfl (op_callF Fa.C49 rfl ((idx16_ok _ l y _ (H0.arr hA) (by omega)).mono (fun e w1 hq => ?_)))
  obtain ⟨rfl, hf1⟩ := hq
  refine ⟨_, rfl, ?_⟩
  have H1 := H0.fr' hf1
  refine WL.op rfl rfl (op_geqI (b := (0 : Int)) rfl rfl ?_)
  refine WL.op rfl rfl (op_assign rfl ?_)
  refine WL.nil ?_
  refine WQ.next ?_
  refine WC.ret ?_
  refine WQ.out (.tmp rfl .nil) ?_
  exact ⟨by rw [← fidx_any]; rfl, H1.fr⟩
set_option maxRecDepth 100000 in
theorem risX_ok (lv : Value) (l : List Xt) (w : World) (hA : Arr w lv 2 l.length (List.flatMap xtc l)) (hn : l.length < 2 ^ 47) :
    Calls Try.prog 34 #[lv, (.func (.func 35) #[] #[])] w (fun e w' => e = .returned (.bool (ris xtLt l)) ∧ Fr [] w w') := by
  refine enter (args := [lv, (.func (.func 35) #[] #[])]) Try.func34 rfl rfl ?_
  have H0 : Own [] w w [] := Own.start w []
  refine WC.seq ?_
  refine WC.region ?_
  refine WL.op rfl rfl (op_assign rfl ?_)
  refine WL.nil ?_
  refine WQ.next ?_
  refine WC.seq ?_
  refine WC.seq ?_
  refine WC.region ?_
  refine WL.op rfl rfl (op_move rfl ?_)
  refine WL.op rfl rfl (op_lenA Try.underlying27 rfl (H0.arr hA) ?_)
  refine WL.op rfl rfl (op_subI (a := ((l.length : Nat) : Int)) (b := ((1 : Nat) : Int)) rfl rfl (by omega) ?_)
  refine WL.op rfl rfl (op_move rfl ?_)
  refine WL.nil ?_
  refine WQ.next ?_
  refine WC.block ?_
  refine WC.loop (α := Nat) (fun k => [(0, lv), (1, (.func (.func 35) #[] #[])), (8, (vI (((l.length : Nat) : Int) - ((1 : Nat) : Int)))), (9, (vN k))]) (fun k w' => (k ≤ l.length ∧ (∀ j, j < k → xtLt (l.getD j Xt.zero) (l.getD (j + 1) Xt.zero) = true)) ∧ Own [] w w' []) (fun k => l.length - k) 0 ⟨⟨Nat.zero_le _, fun j h => by omega⟩, H0⟩ ⟨rfl, rfl, rfl, rfl, trivial⟩ ?_
  rintro k w1 ⟨⟨hk1, hok⟩, H1⟩
  show WC _ _ _ _ _ [(0, lv), (1, (.func (.func 35) #[] #[])), (8, (vI (((l.length : Nat) : Int) - ((1 : Nat) : Int)))), (9, (vN k))] _
  refine WC.seq ?_
  refine WC.region ?_
  refine WL.op rfl rfl (op_lssI rfl rfl ?_)
  refine WL.nil ?_
  refine WQ.next ?_
  refine WC.seq ?_
  refine WC.cond rfl (fun (hb2 : (decide ((k : Int) < (((l.length : Nat) : Int) - ((1 : Nat) : Int)))) = true) => ?_) (fun (hb2 : (decide ((k : Int) < (((l.length : Nat) : Int) - ((1 : Nat) : Int)))) = false) => ?_)
  ·
    have hc2 := of_decide_eq_true hb2
    refine WC.skip ?_
    refine WQ.next ?_
    refine WC.seq ?_
    refine WC.block ?_
    refine WC.seq ?_
    refine WC.region ?_
    refine WL.op rfl rfl (op_move rfl ?_)
    refine WL.op rfl rfl (op_assign rfl ?_)
    refine WL.nil ?_
    refine WQ.next ?_
    refine WC.seq ?_
    refine WC.draw 12 Fa.M H1 (HW.op rfl (fun w1 H1 => op_move rfl ⟨rfl, Fr.refl _ _⟩) (HW.op rfl (fun w1 H1 => op_move rfl ⟨rfl, Fr.refl _ _⟩) (HW.op rfl (fun w1 H1 => op_move rfl ⟨rfl, Fr.refl _ _⟩) (HW.op rfl (fun w1 H1 => op_indexAddr Try.underlying27 Fa.I50 rfl (H1.arr hA) rfl (by omega) ⟨rfl, Fr.refl _ _⟩) (HW.op rfl (fun w1 H1 => op_loadSP (vs := xtc (l.getD k Xt.zero)) rfl (Arr.atsF (H1.arr hA) (fun _ => rfl) (by decide) Xt.zero (by omega)) Try.underlying50 rfl Fa.I50 rfl ⟨rfl, Fr.refl _ _⟩) (HW.op rfl (fun w1 H1 => op_move rfl ⟨rfl, Fr.refl _ _⟩) (HW.op rfl (fun w1 H1 => op_move rfl ⟨rfl, Fr.refl _ _⟩) (HW.op rfl (fun w1 H1 => op_addN (b := 1) rfl rfl (by omega) ⟨rfl, Fr.refl _ _⟩) (HW.op rfl (fun w1 H1 => op_indexAddr Try.underlying27 Fa.I50 rfl (H1.arr hA) rfl (by omega) ⟨rfl, Fr.refl _ _⟩) (HW.op rfl (fun w1 H1 => op_loadSP (vs := xtc (l.getD (k + 1) Xt.zero)) rfl (Arr.atsF (H1.arr hA) (fun _ => rfl) (by decide) Xt.zero (by omega)) Try.underlying50 rfl Fa.I50 rfl ⟨rfl, Fr.refl _ _⟩) (HW.op rfl (fun w1 H1 => op_call (f := 35) rfl Fa.C35 rfl ((xtlt_ok (l.getD k Xt.zero) (l.getD (k + 1) Xt.zero) _).mono (fun e w2 hq => ⟨_, hq.1, rfl, hq.2⟩))) (HW.op rfl (fun w1 H1 => op_not rfl ⟨rfl, Fr.refl _ _⟩)  HW.nil)))))))))))) (by kernel_rfl) ?_
    intro β4 w4 H4
    refine WL.nil ?_
    refine WQ.next ?_
    refine WC.cond rfl (fun (hb5 : (!(xtLt (l.getD k Xt.zero) (l.getD (k + 1) Xt.zero))) = true) => ?_) (fun (hb5 : (!(xtLt (l.getD k Xt.zero) (l.getD (k + 1) Xt.zero))) = false) => ?_)
    ·
      have hn5 := (Bool.not_eq_true' _).mp hb5
      refine WC.seq ?_
      refine WC.region ?_
      refine WL.op rfl rfl (op_assign rfl ?_)
      refine WL.nil ?_
      refine WQ.next ?_
      refine WC.ret ?_
      refine WQ.inRet ?_
      refine WQ.thenRet ?_
      refine WQ.thenRet ?_
      refine WQ.inRet ?_
      refine WQ.thenRet ?_
      refine WQ.out (.tmp rfl .nil) ?_
      exact ⟨by rw [ris_no (d := Xt.zero) (k := k) (by omega) (by simpa using hb5)]; rfl, H4.fr⟩
    ·
      have hn5 := (Bool.not_eq_false' _).mp hb5
      refine WC.skip ?_
      refine WQ.inNormal ?_
      refine WQ.next ?_
      refine WC.region ?_
      refine WL.op rfl rfl (op_addN (b := 1) rfl rfl (by omega) ?_)
      refine WL.op rfl rfl (op_move rfl ?_)
      refine WL.nil ?_
      exact WQ.round (k + 1) ⟨⟨by omega, allPrev hok (by simpa using hb5)⟩, H4⟩ ⟨rfl, rfl, rfl, rfl, trivial⟩ (by omega)
  ·
    have hc2 := of_decide_eq_false hb2
    refine WC.exit ?_
    refine WQ.thenExit ?_
    refine WQ.thenExit ?_
    refine WQ.inHere ?_
    refine WQ.next ?_
    refine WC.seq ?_
    refine WC.region ?_
    refine WL.op rfl rfl (op_assign rfl ?_)
    refine WL.nil ?_
    refine WQ.next ?_
    refine WC.ret ?_
    refine WQ.out (.tmp rfl .nil) ?_
    exact ⟨by rw [ris_yes (d := Xt.zero) (fun j hj => hok j (by omega))]; rfl, H1.fr⟩
set_option maxRecDepth 100000 in
theorem ris16_ok (lv : Value) (l : List UInt16) (w : World) (hA : Arr w lv 1 l.length (List.map vU16 l)) (hn : l.length < 2 ^ 47) :
    Calls Try.prog 36 #[lv, (.func (.func 37) #[] #[])] w (fun e w' => e = .returned (.bool (ris u16Lt l)) ∧ Fr [] w w') := by
  refine enter (args := [lv, (.func (.func 37) #[] #[])]) Try.func36 rfl rfl ?_
  have H0 : Own [] w w [] := Own.start w []
  refine WC.seq ?_
  refine WC.region ?_
  refine WL.op rfl rfl (op_assign rfl ?_)
  refine WL.nil ?_
  refine WQ.next ?_
  refine WC.seq ?_
  refine WC.seq ?_
  refine WC.region ?_
  refine WL.op rfl rfl (op_move rfl ?_)
  refine WL.op rfl rfl (op_lenA Try.underlying28 rfl (H0.arr hA) ?_)
  refine WL.op rfl rfl (op_subI (a := ((l.length : Nat) : Int)) (b := ((1 : Nat) : Int)) rfl rfl (by omega) ?_)
  refine WL.op rfl rfl (op_move rfl ?_)
  refine WL.nil ?_
  refine WQ.next ?_
  refine WC.block ?_
  refine WC.loop (α := Nat) (fun k => [(0, lv), (1, (.func (.func 37) #[] #[])), (8, (vI (((l.length : Nat) : Int) - ((1 : Nat) : Int)))), (9, (vN k))]) (fun k w' => (k ≤ l.length ∧ (∀ j, j < k → u16Lt (l.getD j 0) (l.getD (j + 1) 0) = true)) ∧ Own [] w w' []) (fun k => l.length - k) 0 ⟨⟨Nat.zero_le _, fun j h => by omega⟩, H0⟩ ⟨rfl, rfl, rfl, rfl, trivial⟩ ?_
  rintro k w1 ⟨⟨hk1, hok⟩, H1⟩
  show WC _ _ _ _ _ [(0, lv), (1, (.func (.func 37) #[] #[])), (8, (vI (((l.length : Nat) : Int) - ((1 : Nat) : Int)))), (9, (vN k))] _
  refine WC.seq ?_
  refine WC.region ?_
  refine WL.op rfl rfl (op_lssI rfl rfl ?_)
  refine WL.nil ?_
  refine WQ.next ?_
  refine WC.seq ?_
  refine WC.cond rfl (fun (hb2 : (decide ((k : Int) < (((l.length : Nat) : Int) - ((1 : Nat) : Int)))) = true) => ?_) (fun (hb2 : (decide ((k : Int) < (((l.length : Nat) : Int) - ((1 : Nat) : Int)))) = false) => ?_)
  ·
    have hc2 := of_decide_eq_true hb2
    refine WC.skip ?_
    refine WQ.next ?_
    refine WC.seq ?_
    refine WC.block ?_
    refine WC.seq ?_
    refine WC.region ?_
    refine WL.op rfl rfl (op_move rfl ?_)
    refine WL.op rfl rfl (op_assign rfl ?_)
    refine WL.nil ?_
    refine WQ.next ?_
    refine WC.seq ?_
    refine WC.draw 12 Fa.M H1 (HW.op rfl (fun w1 H1 => op_move rfl ⟨rfl, Fr.refl _ _⟩) (HW.op rfl (fun w1 H1 => op_move rfl ⟨rfl, Fr.refl _ _⟩) (HW.op rfl (fun w1 H1 => op_move rfl ⟨rfl, Fr.refl _ _⟩) (HW.op rfl (fun w1 H1 => op_indexAddr1 Try.underlying28 Fa.I51 rfl (H1.arr hA) rfl (by omega) ⟨rfl, Fr.refl _ _⟩) (HW.op rfl (fun w1 H1 => op_load rfl ((H1.arr hA).at (get_map vU16 0 (Arr.ltM (H1.arr hA) (by omega)))) Try.underlying51 rfl ⟨rfl, Fr.refl _ _⟩) (HW.op rfl (fun w1 H1 => op_move rfl ⟨rfl, Fr.refl _ _⟩) (HW.op rfl (fun w1 H1 => op_move rfl ⟨rfl, Fr.refl _ _⟩) (HW.op rfl (fun w1 H1 => op_addN (b := 1) rfl rfl (by omega) ⟨rfl, Fr.refl _ _⟩) (HW.op rfl (fun w1 H1 => op_indexAddr1 Try.underlying28 Fa.I51 rfl (H1.arr hA) rfl (by omega) ⟨rfl, Fr.refl _ _⟩) (HW.op rfl (fun w1 H1 => op_load rfl ((H1.arr hA).at (get_map vU16 0 (Arr.ltM (H1.arr hA) (by omega)))) Try.underlying51 rfl ⟨rfl, Fr.refl _ _⟩) (HW.op rfl (fun w1 H1 => op_call (f := 37) rfl Fa.C37 rfl ((u16lt_ok (l.getD k 0) (l.getD (k + 1) 0) _).mono (fun e w2 hq => ⟨_, hq.1, rfl, hq.2⟩))) (HW.op rfl (fun w1 H1 => op_not rfl ⟨rfl, Fr.refl _ _⟩)  HW.nil)))))))))))) (by kernel_rfl) ?_
    intro β4 w4 H4
    refine WL.nil ?_
    refine WQ.next ?_
    refine WC.cond rfl (fun (hb5 : (!(u16Lt (l.getD k 0) (l.getD (k + 1) 0))) = true) => ?_) (fun (hb5 : (!(u16Lt (l.getD k 0) (l.getD (k + 1) 0))) = false) => ?_)
    ·
      have hn5 := (Bool.not_eq_true' _).mp hb5
      refine WC.seq ?_
      refine WC.region ?_
      refine WL.op rfl rfl (op_assign rfl ?_)
      refine WL.nil ?_
      refine WQ.next ?_
      refine WC.ret ?_
      refine WQ.inRet ?_
      refine WQ.thenRet ?_
      refine WQ.thenRet ?_
      refine WQ.inRet ?_
      refine WQ.thenRet ?_
      refine WQ.out (.tmp rfl .nil) ?_
      exact ⟨by rw [ris_no (d := 0) (k := k) (by omega) (by simpa using hb5)]; rfl, H4.fr⟩
    ·
      have hn5 := (Bool.not_eq_false' _).mp hb5
      refine WC.skip ?_
      refine WQ.inNormal ?_
      refine WQ.next ?_
      refine WC.region ?_
      refine WL.op rfl rfl (op_addN (b := 1) rfl rfl (by omega) ?_)
      refine WL.op rfl rfl (op_move rfl ?_)
      refine WL.nil ?_
      exact WQ.round (k + 1) ⟨⟨by omega, allPrev hok (by simpa using hb5)⟩, H4⟩ ⟨rfl, rfl, rfl, rfl, trivial⟩ (by omega)
  ·
    have hc2 := of_decide_eq_false hb2
    refine WC.exit ?_
    refine WQ.thenExit ?_
    refine WQ.thenExit ?_
    refine WQ.inHere ?_
    refine WQ.next ?_
    refine WC.seq ?_
    refine WC.region ?_
    refine WL.op rfl rfl (op_assign rfl ?_)
    refine WL.nil ?_
    refine WQ.next ?_
    refine WC.ret ?_
    refine WQ.out (.tmp rfl .nil) ?_
    exact ⟨by rw [ris_yes (d := 0) (fun j hj => hok j (by omega))]; rfl, H1.fr⟩
set_option maxRecDepth 100000 in
theorem dcheck_ok (pg : UInt32) (ev pv : Value) (xs : List Xt) (ps : List UInt16) (con : Bool) (w : World) (hE : Arr w ev 2 xs.length (List.flatMap xtc xs)) (hP : Arr w pv 1 ps.length (List.map vU16 ps)) (hn : xs.length < 2 ^ 47) (hm : ps.length < 2 ^ 47) :
    Calls Try.prog 15 #[(.agg #[(vU32 pg), ev, pv, (.bool con)])] w (fun e w' => e = .returned (vN (mfE pg xs ps)) ∧ Fr [] w w') := by
  refine enter (args := [(.agg #[(vU32 pg), ev, pv, (.bool con)])]) Try.func15 rfl rfl ?_
  have H0 : Own [] w w [] := Own.start w []
  refine WC.seq ?_
  refine WC.region ?_
  refine WL.op rfl rfl (op_box H0 rfl rfl (fun b1 w1 H1 => ?_))
  refine WL.op rfl rfl (op_assign rfl ?_)
  refine WL.nil ?_
  refine WQ.next ?_
  refine WC.seq ?_
  refine WC.region ?_
  refine WL.op rfl rfl (op_fieldAddr rfl Fa.F30_1 ?_)
  refine WL.op rfl rfl (op_load rfl (H1.cell (i := 0) rfl rfl) Try.underlying27 rfl ?_)
  refine WL.op rfl rfl (op_callF Fa.C32 rfl ((conX_ok _ xs _ (H1.arr hE) (by omega)).mono (fun e w2 hq => ?_)))
  obtain ⟨rfl, hf2⟩ := hq
  refine ⟨_, rfl, ?_⟩
  have H2 := H1.fr' hf2
  refine WL.op rfl rfl (op_assign rfl ?_)
  refine WL.nil ?_
  refine WQ.next ?_
  refine WC.seq ?_
  refine WC.seq ?_
  refine WC.region ?_
  refine WL.op rfl rfl (op_move rfl ?_)
  refine WL.op rfl rfl (op_move rfl ?_)
  refine WL.split (t := 8) rfl (fun (hb3 : (xs.any xtBad) = true) => ?_) (fun (hb3 : (xs.any xtBad) = false) => ?_)
  ·
    refine WL.no rfl rfl rfl hb3 rfl ?_
    refine WL.no rfl rfl rfl hb3 rfl ?_
    refine WL.no rfl rfl rfl hb3 rfl ?_
    refine WL.no rfl rfl rfl hb3 rfl ?_
    refine WL.op rfl rfl (op_pickT rfl hb3 rfl ?_)
    refine WL.op rfl rfl (op_move rfl ?_)
    refine WL.no rfl rfl rfl rfl rfl ?_
    refine WL.no rfl rfl rfl rfl rfl ?_
    refine WL.no rfl rfl rfl rfl rfl ?_
    refine WL.no rfl rfl rfl rfl rfl ?_
    refine WL.op rfl rfl (op_pickT rfl rfl rfl ?_)
    refine WL.op rfl rfl (op_move rfl ?_)
    refine WL.no rfl rfl rfl rfl rfl ?_
    refine WL.no rfl rfl rfl rfl rfl ?_
    refine WL.no rfl rfl rfl rfl rfl ?_
    refine WL.op rfl rfl (op_pickT rfl rfl rfl ?_)
    refine WL.op rfl rfl (op_move rfl ?_)
    refine WL.no rfl rfl rfl rfl rfl ?_
    refine WL.no rfl rfl rfl rfl rfl ?_
    refine WL.no rfl rfl rfl rfl rfl ?_
    refine WL.no rfl rfl rfl rfl rfl ?_
    refine WL.op rfl rfl (op_pickT rfl rfl rfl ?_)
    refine WL.op rfl rfl (op_move rfl ?_)
    refine WL.no rfl rfl rfl rfl rfl ?_
    refine WL.no rfl rfl rfl rfl rfl ?_
    refine WL.no rfl rfl rfl rfl rfl ?_
    refine WL.op rfl rfl (op_pickT rfl rfl rfl ?_)
    refine WL.nil ?_
    refine WQ.next ?_
    refine WC.yes rfl rfl ?_
    refine WC.seq ?_
    refine WC.region ?_
    refine WL.op rfl rfl (op_assign rfl ?_)
    refine WL.nil ?_
    refine WQ.next ?_
    refine WC.ret ?_
    refine WQ.thenRet ?_
    refine WQ.out (.tmp rfl .nil) ?_
    exact ⟨by (rw [mfE, mfMay, hb3]) <;> rfl, H2.fr⟩
  ·
    refine WL.yes rfl rfl rfl hb3 rfl (op_fieldAddr rfl Fa.F30_1 ?_)
    refine WL.yes rfl rfl rfl hb3 rfl (op_load rfl (H2.cell (i := 0) rfl rfl) Try.underlying27 rfl ?_)
    refine WL.yes rfl rfl rfl hb3 rfl (op_callF Fa.C34 rfl ((risX_ok _ xs _ (H2.arr hE) (by omega)).mono (fun e w4 hq => ?_)))
    obtain ⟨rfl, hf4⟩ := hq
    refine ⟨_, rfl, ?_⟩
    have H4 := H2.fr' hf4
    refine WL.yes rfl rfl rfl hb3 rfl (op_not rfl ?_)
    refine WL.op rfl rfl (op_pickF rfl hb3 rfl ?_)
    refine WL.op rfl rfl (op_move rfl ?_)
    refine WL.split (t := 14) rfl (fun (hb5 : (!(ris xtLt xs)) = true) => ?_) (fun (hb5 : (!(ris xtLt xs)) = false) => ?_)
    ·
      have hn5 := (Bool.not_eq_true' _).mp hb5
      refine WL.no rfl rfl rfl hb5 rfl ?_
      refine WL.no rfl rfl rfl hb5 rfl ?_
      refine WL.no rfl rfl rfl hb5 rfl ?_
      refine WL.no rfl rfl rfl hb5 rfl ?_
      refine WL.op rfl rfl (op_pickT rfl hb5 rfl ?_)
      refine WL.op rfl rfl (op_move rfl ?_)
      refine WL.no rfl rfl rfl rfl rfl ?_
      refine WL.no rfl rfl rfl rfl rfl ?_
      refine WL.no rfl rfl rfl rfl rfl ?_
      refine WL.op rfl rfl (op_pickT rfl rfl rfl ?_)
      refine WL.op rfl rfl (op_move rfl ?_)
      refine WL.no rfl rfl rfl rfl rfl ?_
      refine WL.no rfl rfl rfl rfl rfl ?_
      refine WL.no rfl rfl rfl rfl rfl ?_
      refine WL.no rfl rfl rfl rfl rfl ?_
      refine WL.op rfl rfl (op_pickT rfl rfl rfl ?_)
      refine WL.op rfl rfl (op_move rfl ?_)
      refine WL.no rfl rfl rfl rfl rfl ?_
      refine WL.no rfl rfl rfl rfl rfl ?_
      refine WL.no rfl rfl rfl rfl rfl ?_
      refine WL.op rfl rfl (op_pickT rfl rfl rfl ?_)
      refine WL.nil ?_
      refine WQ.next ?_
      refine WC.yes rfl rfl ?_
      refine WC.seq ?_
      refine WC.region ?_
      refine WL.op rfl rfl (op_assign rfl ?_)
      refine WL.nil ?_
      refine WQ.next ?_
      refine WC.ret ?_
      refine WQ.thenRet ?_
      refine WQ.out (.tmp rfl .nil) ?_
      exact ⟨by (rw [mfE, mfMay, hb3, hn5]) <;> rfl, H4.fr⟩
    ·
      have hn5 := (Bool.not_eq_false' _).mp hb5
      refine WL.yes rfl rfl rfl hb5 rfl (op_fieldAddr rfl Fa.F30_2 ?_)
      refine WL.yes rfl rfl rfl hb5 rfl (op_load rfl (H4.cell (i := 0) rfl rfl) Try.underlying28 rfl ?_)
      refine WL.yes rfl rfl rfl hb5 rfl (op_callF Fa.C36 rfl ((ris16_ok _ ps _ (H4.arr hP) (by omega)).mono (fun e w6 hq => ?_)))
      obtain ⟨rfl, hf6⟩ := hq
      refine ⟨_, rfl, ?_⟩
      have H6 := H4.fr' hf6
      refine WL.yes rfl rfl rfl hb5 rfl (op_not rfl ?_)
      refine WL.op rfl rfl (op_pickF rfl hb5 rfl ?_)
      refine WL.op rfl rfl (op_move rfl ?_)
      refine WL.split (t := 20) rfl (fun (hb7 : (!(ris u16Lt ps)) = true) => ?_) (fun (hb7 : (!(ris u16Lt ps)) = false) => ?_)
      ·
        have hn7 := (Bool.not_eq_true' _).mp hb7
        refine WL.no rfl rfl rfl hb7 rfl ?_
        refine WL.no rfl rfl rfl hb7 rfl ?_
        refine WL.no rfl rfl rfl hb7 rfl ?_
        refine WL.op rfl rfl (op_pickT rfl hb7 rfl ?_)
        refine WL.op rfl rfl (op_move rfl ?_)
        refine WL.no rfl rfl rfl rfl rfl ?_
        refine WL.no rfl rfl rfl rfl rfl ?_
        refine WL.no rfl rfl rfl rfl rfl ?_
        refine WL.no rfl rfl rfl rfl rfl ?_
        refine WL.op rfl rfl (op_pickT rfl rfl rfl ?_)
        refine WL.op rfl rfl (op_move rfl ?_)
        refine WL.no rfl rfl rfl rfl rfl ?_
        refine WL.no rfl rfl rfl rfl rfl ?_
        refine WL.no rfl rfl rfl rfl rfl ?_
        refine WL.op rfl rfl (op_pickT rfl rfl rfl ?_)
        refine WL.nil ?_
        refine WQ.next ?_
        refine WC.yes rfl rfl ?_
        refine WC.seq ?_
        refine WC.region ?_
        refine WL.op rfl rfl (op_assign rfl ?_)
        refine WL.nil ?_
        refine WQ.next ?_
        refine WC.ret ?_
        refine WQ.thenRet ?_
        refine WQ.out (.tmp rfl .nil) ?_
        exact ⟨by (rw [mfE, mfMay, hb3, hn5, hn7]) <;> rfl, H6.fr⟩
      ·
        have hn7 := (Bool.not_eq_false' _).mp hb7
        refine WL.yes rfl rfl rfl hb7 rfl (op_fieldAddr rfl Fa.F30_2 ?_)
        refine WL.yes rfl rfl rfl hb7 rfl (op_load rfl (H6.cell (i := 0) rfl rfl) Try.underlying28 rfl ?_)
        refine WL.yes rfl rfl rfl hb7 rfl (op_callF Fa.C38 rfl ((con16_ok _ ps 0 _ (H6.arr hP) (by omega)).mono (fun e w8 hq => ?_)))
        obtain ⟨rfl, hf8⟩ := hq
        refine ⟨_, rfl, ?_⟩
        have H8 := H6.fr' hf8
        refine WL.op rfl rfl (op_pickF rfl hb7 rfl ?_)
        refine WL.op rfl rfl (op_move rfl ?_)
        refine WL.split (t := 25) rfl (fun (hb9 : (ps.any (u16Is 0)) = true) => ?_) (fun (hb9 : (ps.any (u16Is 0)) = false) => ?_)
        ·
          refine WL.no rfl rfl rfl hb9 rfl ?_
          refine WL.no rfl rfl rfl hb9 rfl ?_
          refine WL.no rfl rfl rfl hb9 rfl ?_
          refine WL.no rfl rfl rfl hb9 rfl ?_
          refine WL.op rfl rfl (op_pickT rfl hb9 rfl ?_)
          refine WL.op rfl rfl (op_move rfl ?_)
          refine WL.no rfl rfl rfl rfl rfl ?_
          refine WL.no rfl rfl rfl rfl rfl ?_
          refine WL.no rfl rfl rfl rfl rfl ?_
          refine WL.op rfl rfl (op_pickT rfl rfl rfl ?_)
          refine WL.nil ?_
          refine WQ.next ?_
          refine WC.yes rfl rfl ?_
          refine WC.seq ?_
          refine WC.region ?_
          refine WL.op rfl rfl (op_assign rfl ?_)
          refine WL.nil ?_
          refine WQ.next ?_
          refine WC.ret ?_
          refine WQ.thenRet ?_
          refine WQ.out (.tmp rfl .nil) ?_
          exact ⟨by (rw [mfE, mfMay, hb3, hn5, hn7, hb9]) <;> rfl, H8.fr⟩
        ·
          refine WL.yes rfl rfl rfl hb9 rfl (op_fieldAddr rfl Fa.F30_2 ?_)
          refine WL.yes rfl rfl rfl hb9 rfl (op_load rfl (H8.cell (i := 0) rfl rfl) Try.underlying28 rfl ?_)
          refine WL.yes rfl rfl rfl hb9 rfl (op_lenA Try.underlying28 rfl (H8.arr hP) ?_)
          refine WL.yes rfl rfl rfl hb9 rfl (op_gtrN (b := 16) rfl rfl ?_)
          refine WL.op rfl rfl (op_pickF rfl hb9 rfl ?_)
          refine WL.op rfl rfl (op_move rfl ?_)
          refine WL.split (t := 31) rfl (fun (hb10 : (decide (ps.length > 16)) = true) => ?_) (fun (hb10 : (decide (ps.length > 16)) = false) => ?_)
          ·
            have hc10 := of_decide_eq_true hb10
            refine WL.no rfl rfl rfl hb10 rfl ?_
            refine WL.no rfl rfl rfl hb10 rfl ?_
            refine WL.no rfl rfl rfl hb10 rfl ?_
            refine WL.op rfl rfl (op_pickT rfl hb10 rfl ?_)
            refine WL.nil ?_
            refine WQ.next ?_
            refine WC.yes rfl rfl ?_
            refine WC.seq ?_
            refine WC.region ?_
            refine WL.op rfl rfl (op_assign rfl ?_)
            refine WL.nil ?_
            refine WQ.next ?_
            refine WC.ret ?_
            refine WQ.thenRet ?_
            refine WQ.out (.tmp rfl .nil) ?_
            exact ⟨by (rw [mfE, mfMay, hb3, hn5, hn7, hb9, hb10]) <;> rfl, H8.fr⟩
          ·
            have hc10 := of_decide_eq_false hb10
            refine WL.yes rfl rfl rfl hb10 rfl (op_fieldAddr rfl Fa.F30_0 ?_)
            refine WL.yes rfl rfl rfl hb10 rfl (op_load rfl (H8.cell (i := 0) rfl rfl) Try.underlying26 rfl ?_)
            refine WL.yes rfl rfl rfl hb10 rfl (op_gtrU32 (b := 1024) rfl rfl ?_)
            refine WL.op rfl rfl (op_pickF rfl hb10 rfl ?_)
            refine WL.nil ?_
            refine WQ.next ?_
            refine WC.cond rfl (fun (hb11 : (decide (pg > (1024 : UInt32))) = true) => ?_) (fun (hb11 : (decide (pg > (1024 : UInt32))) = false) => ?_)
            ·
              have hc11 := of_decide_eq_true hb11
              refine WC.seq ?_
              refine WC.region ?_
              refine WL.op rfl rfl (op_assign rfl ?_)
              refine WL.nil ?_
              refine WQ.next ?_
              refine WC.ret ?_
              refine WQ.thenRet ?_
              refine WQ.out (.tmp rfl .nil) ?_
              exact ⟨by (rw [mfE, mfMay, hb3, hn5, hn7, hb9, hb10, hb11]) <;> rfl, H8.fr⟩
            ·
              have hc11 := of_decide_eq_false hb11
              refine WC.skip ?_
              refine WQ.next ?_
              refine WC.seq ?_
              refine WC.region ?_
              refine WL.op rfl rfl (op_assign rfl ?_)
              refine WL.nil ?_
              refine WQ.next ?_
              refine WC.ret ?_
              refine WQ.out (.tmp rfl .nil) ?_
              exact ⟨by (rw [mfE, mfMay, hb3, hn5, hn7, hb9, hb10, hb11]) <;> rfl, H8.fr⟩
end Go.Proofs.Ytnngbnenekjffaa
/-! from EDem2 -/
namespace Go.Proofs.Ytnngbnenekjffaa
open Go.Owl Go.Spec
set_option maxRecDepth 100000 in
theorem eqX_ok (va vb : Value) (a b : List Xt) (w : World) (hA : Arr w va 2 a.length (List.flatMap xtc a)) (hB : Arr w vb 2 b.length (List.flatMap xtc b)) (hn : a.length < 2 ^ 47) :
    Calls Try.prog 39 #[va, vb] w (fun e w' => e = .returned (.bool (decide (a = b))) ∧ Fr [] w w') := by
  refine enter (args := [va, vb]) Try.func39 rfl rfl ?_
  have H0 : Own [] w w [] := Own.start w []
  refine WC.seq ?_
  refine WC.region ?_
  refine WL.op rfl rfl (op_assign rfl ?_)
  refine WL.nil ?_
  refine WQ.next ?_
  refine WC.seq ?_
  refine WC.seq ?_
  refine WC.region ?_
  refine WL.op rfl rfl (op_move rfl ?_)
  refine WL.op rfl rfl (op_lenA Try.underlying27 rfl (H0.arr hA) ?_)
  refine WL.op rfl rfl (op_move rfl ?_)
  refine WL.op rfl rfl (op_lenA Try.underlying27 rfl (H0.arr hB) ?_)
  refine WL.op rfl rfl (op_neqN rfl rfl ?_)
  refine WL.nil ?_
  refine WQ.next ?_
  refine WC.cond rfl (fun (hb1 : (decide (a.length ≠ b.length)) = true) => ?_) (fun (hb1 : (decide (a.length ≠ b.length)) = false) => ?_)
  ·
    have hc1 := of_decide_eq_true hb1
    refine WC.seq ?_
    refine WC.region ?_
    refine WL.op rfl rfl (op_assign rfl ?_)
    refine WL.nil ?_
    refine WQ.next ?_
    refine WC.ret ?_
    refine WQ.thenRet ?_
    refine WQ.out (.tmp rfl .nil) ?_
    exact ⟨by rw [decide_eq_false (fun h : a = b => hc1 (by rw [h]))]; rfl, H0.fr⟩
  ·
    have hc1 := of_decide_eq_false hb1
    refine WC.skip ?_
    refine WQ.next ?_
    refine WC.seq ?_
    refine WC.seq ?_
    refine WC.region ?_
    refine WL.op rfl rfl (op_move rfl ?_)
    refine WL.op rfl rfl (op_lenA Try.underlying27 rfl (H0.arr hA) ?_)
    refine WL.op rfl rfl (op_move rfl ?_)
    refine WL.nil ?_
    refine WQ.next ?_
    refine WC.block ?_
    refine WC.loop (α := Nat) (fun k => [(0, va), (1, vb), (12, (vN a.length)), (13, (vN k))]) (fun k w' => (k ≤ a.length ∧ (∀ j, j < k → a.getD j Xt.zero = b.getD j Xt.zero)) ∧ Own [] w w' []) (fun k => a.length - k) 0 ⟨⟨Nat.zero_le _, fun j h => by omega⟩, H0⟩ ⟨rfl, rfl, rfl, rfl, trivial⟩ ?_
    rintro k w2 ⟨⟨hk1, hok⟩, H2⟩
    show WC _ _ _ _ _ [(0, va), (1, vb), (12, (vN a.length)), (13, (vN k))] _
    refine WC.seq ?_
    refine WC.region ?_
    refine WL.op rfl rfl (op_lssN rfl rfl ?_)
    refine WL.nil ?_
    refine WQ.next ?_
    refine WC.seq ?_
    refine WC.cond rfl (fun (hb3 : (decide (k < a.length)) = true) => ?_) (fun (hb3 : (decide (k < a.length)) = false) => ?_)
    ·
      have hc3 := of_decide_eq_true hb3
      refine WC.skip ?_
      refine WQ.next ?_
      refine WC.seq ?_
      refine WC.block ?_
      refine WC.seq ?_
      refine WC.region ?_
      refine WL.op rfl rfl (op_move rfl ?_)
      refine WL.op rfl rfl (op_assign rfl ?_)
      refine WL.nil ?_
      refine WQ.next ?_
      refine WC.seq ?_
      refine WC.draw 9 Fa.M H2 (HW.op rfl (fun w1 H1 => op_move rfl ⟨rfl, Fr.refl _ _⟩) (HW.op rfl (fun w1 H1 => op_move rfl ⟨rfl, Fr.refl _ _⟩) (HW.op rfl (fun w1 H1 => op_indexAddr Try.underlying27 Fa.I50 rfl (H1.arr hA) rfl (by omega) ⟨rfl, Fr.refl _ _⟩) (HW.op rfl (fun w1 H1 => op_loadSP (vs := xtc (a.getD k Xt.zero)) rfl (Arr.atsF (H1.arr hA) (fun _ => rfl) (by decide) Xt.zero (by omega)) Try.underlying50 rfl Fa.I50 rfl ⟨rfl, Fr.refl _ _⟩) (HW.op rfl (fun w1 H1 => op_move rfl ⟨rfl, Fr.refl _ _⟩) (HW.op rfl (fun w1 H1 => op_move rfl ⟨rfl, Fr.refl _ _⟩) (HW.op rfl (fun w1 H1 => op_indexAddr Try.underlying27 Fa.I50 rfl (H1.arr hB) rfl (by omega) ⟨rfl, Fr.refl _ _⟩) (HW.op rfl (fun w1 H1 => op_loadSP (vs := xtc (b.getD k Xt.zero)) rfl (Arr.atsF (H1.arr hB) (fun _ => rfl) (by decide) Xt.zero (by omega)) Try.underlying50 rfl Fa.I50 rfl ⟨rfl, Fr.refl _ _⟩) (HW.op rfl (fun w1 H1 => op_neqS (xs := [_, _]) (ys := [_, _]) (b := (!((decide ((a.getD k Xt.zero).id = (b.getD k Xt.zero).id)) && (decide ((a.getD k Xt.zero).bl = (b.getD k Xt.zero).bl))))) Fa.FL50 rfl rfl rfl (by simp [eqAll, veqU32]) ⟨rfl, Fr.refl _ _⟩)  HW.nil))))))))) (by kernel_rfl) ?_
      intro β4 w4 H4
      refine WL.nil ?_
      refine WQ.next ?_
      refine WC.cond rfl (fun (hb5 : (!((decide ((a.getD k Xt.zero).id = (b.getD k Xt.zero).id)) && (decide ((a.getD k Xt.zero).bl = (b.getD k Xt.zero).bl)))) = true) => ?_) (fun (hb5 : (!((decide ((a.getD k Xt.zero).id = (b.getD k Xt.zero).id)) && (decide ((a.getD k Xt.zero).bl = (b.getD k Xt.zero).bl)))) = false) => ?_)
      ·
        have hn5 := (Bool.not_eq_true' _).mp hb5
        refine WC.seq ?_
        refine WC.region ?_
        refine WL.op rfl rfl (op_assign rfl ?_)
        refine WL.nil ?_
        refine WQ.next ?_
        refine WC.ret ?_
        refine WQ.inRet ?_
        refine WQ.thenRet ?_
        refine WQ.thenRet ?_
        refine WQ.inRet ?_
        refine WQ.thenRet ?_
        refine WQ.out (.tmp rfl .nil) ?_
        exact ⟨by rw [decide_eq_false (fun h : a = b => (xt_ne hn5) (by rw [h]))]; rfl, H4.fr⟩
      ·
        have hn5 := (Bool.not_eq_false' _).mp hb5
        refine WC.skip ?_
        refine WQ.inNormal ?_
        refine WQ.next ?_
        refine WC.region ?_
        refine WL.op rfl rfl (op_addN (b := 1) rfl rfl (by omega) ?_)
        refine WL.op rfl rfl (op_move rfl ?_)
        refine WL.nil ?_
        exact WQ.round (k + 1) ⟨⟨by omega, allPrev hok (xt_eq hn5)⟩, H4⟩ ⟨rfl, rfl, rfl, rfl, trivial⟩ (by omega)
    ·
      have hc3 := of_decide_eq_false hb3
      refine WC.exit ?_
      refine WQ.thenExit ?_
      refine WQ.thenExit ?_
      refine WQ.inHere ?_
      refine WQ.next ?_
      refine WC.seq ?_
      refine WC.region ?_
      refine WL.op rfl rfl (op_assign rfl ?_)
      refine WL.nil ?_
      refine WQ.next ?_
      refine WC.ret ?_
      refine WQ.out (.tmp rfl .nil) ?_
      exact ⟨by rw [decide_eq_true (list_eqD (by omega) (fun j hj => hok j (by omega)))]; rfl, H2.fr⟩
set_option maxRecDepth 100000 in
theorem eq16_ok (va vb : Value) (a b : List UInt16) (w : World) (hA : Arr w va 1 a.length (List.map vU16 a)) (hB : Arr w vb 1 b.length (List.map vU16 b)) (hn : a.length < 2 ^ 47) :
    Calls Try.prog 40 #[va, vb] w (fun e w' => e = .returned (.bool (decide (a = b))) ∧ Fr [] w w') := by
  refine enter (args := [va, vb]) Try.func40 rfl rfl ?_
  have H0 : Own [] w w [] := Own.start w []
  refine WC.seq ?_
  refine WC.region ?_
  refine WL.op rfl rfl (op_assign rfl ?_)
  refine WL.nil ?_
  refine WQ.next ?_
  refine WC.seq ?_
  refine WC.seq ?_
  refine WC.region ?_
  refine WL.op rfl rfl (op_move rfl ?_)
  refine WL.op rfl rfl (op_lenA Try.underlying28 rfl (H0.arr hA) ?_)
  refine WL.op rfl rfl (op_move rfl ?_)
  refine WL.op rfl rfl (op_lenA Try.underlying28 rfl (H0.arr hB) ?_)
  refine WL.op rfl rfl (op_neqN rfl rfl ?_)
  refine WL.nil ?_
  refine WQ.next ?_
  refine WC.cond rfl (fun (hb1 : (decide (a.length ≠ b.length)) = true) => ?_) (fun (hb1 : (decide (a.length ≠ b.length)) = false) => ?_)
  ·
    have hc1 := of_decide_eq_true hb1
    refine WC.seq ?_
    refine WC.region ?_
    refine WL.op rfl rfl (op_assign rfl ?_)
    refine WL.nil ?_
    refine WQ.next ?_
    refine WC.ret ?_
    refine WQ.thenRet ?_
    refine WQ.out (.tmp rfl .nil) ?_
    exact ⟨by rw [decide_eq_false (fun h : a = b => hc1 (by rw [h]))]; rfl, H0.fr⟩
  ·
    have hc1 := of_decide_eq_false hb1
    refine WC.skip ?_
    refine WQ.next ?_
    refine WC.seq ?_
    refine WC.seq ?_
    refine WC.region ?_
    refine WL.op rfl rfl (op_move rfl ?_)
    refine WL.op rfl rfl (op_lenA Try.underlying28 rfl (H0.arr hA) ?_)
    refine WL.op rfl rfl (op_move rfl ?_)
    refine WL.nil ?_
    refine WQ.next ?_
    refine WC.block ?_
    refine WC.loop (α := Nat) (fun k => [(0, va), (1, vb), (12, (vN a.length)), (13, (vN k))]) (fun k w' => (k ≤ a.length ∧ (∀ j, j < k → a.getD j 0 = b.getD j 0)) ∧ Own [] w w' []) (fun k => a.length - k) 0 ⟨⟨Nat.zero_le _, fun j h => by omega⟩, H0⟩ ⟨rfl, rfl, rfl, rfl, trivial⟩ ?_
    rintro k w2 ⟨⟨hk1, hok⟩, H2⟩
    show WC _ _ _ _ _ [(0, va), (1, vb), (12, (vN a.length)), (13, (vN k))] _
    refine WC.seq ?_
    refine WC.region ?_
    refine WL.op rfl rfl (op_lssN rfl rfl ?_)
    refine WL.nil ?_
    refine WQ.next ?_
    refine WC.seq ?_
    refine WC.cond rfl (fun (hb3 : (decide (k < a.length)) = true) => ?_) (fun (hb3 : (decide (k < a.length)) = false) => ?_)
    ·
      have hc3 := of_decide_eq_true hb3
      refine WC.skip ?_
      refine WQ.next ?_
      refine WC.seq ?_
      refine WC.block ?_
      refine WC.seq ?_
      refine WC.region ?_
      refine WL.op rfl rfl (op_move rfl ?_)
      refine WL.op rfl rfl (op_assign rfl ?_)
      refine WL.nil ?_
      refine WQ.next ?_
      refine WC.seq ?_
      refine WC.draw 9 Fa.M H2 (HW.op rfl (fun w1 H1 => op_move rfl ⟨rfl, Fr.refl _ _⟩) (HW.op rfl (fun w1 H1 => op_move rfl ⟨rfl, Fr.refl _ _⟩) (HW.op rfl (fun w1 H1 => op_indexAddr1 Try.underlying28 Fa.I51 rfl (H1.arr hA) rfl (by omega) ⟨rfl, Fr.refl _ _⟩) (HW.op rfl (fun w1 H1 => op_load rfl ((H1.arr hA).at (get_map vU16 0 (Arr.ltM (H1.arr hA) (by omega)))) Try.underlying51 rfl ⟨rfl, Fr.refl _ _⟩) (HW.op rfl (fun w1 H1 => op_move rfl ⟨rfl, Fr.refl _ _⟩) (HW.op rfl (fun w1 H1 => op_move rfl ⟨rfl, Fr.refl _ _⟩) (HW.op rfl (fun w1 H1 => op_indexAddr1 Try.underlying28 Fa.I51 rfl (H1.arr hB) rfl (by omega) ⟨rfl, Fr.refl _ _⟩) (HW.op rfl (fun w1 H1 => op_load rfl ((H1.arr hB).at (get_map vU16 0 (Arr.ltM (H1.arr hB) (by omega)))) Try.underlying51 rfl ⟨rfl, Fr.refl _ _⟩) (HW.op rfl (fun w1 H1 => op_neqU16 rfl rfl ⟨rfl, Fr.refl _ _⟩)  HW.nil))))))))) (by kernel_rfl) ?_
      intro β4 w4 H4
      refine WL.nil ?_
      refine WQ.next ?_
      refine WC.cond rfl (fun (hb5 : (decide ((a.getD k 0) ≠ (b.getD k 0))) = true) => ?_) (fun (hb5 : (decide ((a.getD k 0) ≠ (b.getD k 0))) = false) => ?_)
      ·
        have hc5 := of_decide_eq_true hb5
        refine WC.seq ?_
        refine WC.region ?_
        refine WL.op rfl rfl (op_assign rfl ?_)
        refine WL.nil ?_
        refine WQ.next ?_
        refine WC.ret ?_
        refine WQ.inRet ?_
        refine WQ.thenRet ?_
        refine WQ.thenRet ?_
        refine WQ.inRet ?_
        refine WQ.thenRet ?_
        refine WQ.out (.tmp rfl .nil) ?_
        exact ⟨by rw [decide_eq_false (fun h : a = b => hc5 (by rw [h]))]; rfl, H4.fr⟩
      ·
        have hc5 := of_decide_eq_false hb5
        refine WC.skip ?_
        refine WQ.inNormal ?_
        refine WQ.next ?_
        refine WC.region ?_
        refine WL.op rfl rfl (op_addN (b := 1) rfl rfl (by omega) ?_)
        refine WL.op rfl rfl (op_move rfl ?_)
        refine WL.nil ?_
        exact WQ.round (k + 1) ⟨⟨by omega, allPrev hok (Decidable.not_not.mp hc5)⟩, H4⟩ ⟨rfl, rfl, rfl, rfl, trivial⟩ (by omega)
    ·
      have hc3 := of_decide_eq_false hb3
      refine WC.exit ?_
      refine WQ.thenExit ?_
      refine WQ.thenExit ?_
      refine WQ.inHere ?_
      refine WQ.next ?_
      refine WC.seq ?_
      refine WC.region ?_
      refine WL.op rfl rfl (op_assign rfl ?_)
      refine WL.nil ?_
      refine WQ.next ?_
      refine WC.ret ?_
      refine WQ.out (.tmp rfl .nil) ?_
      exact ⟨by rw [decide_eq_true (list_eqD (by omega) (fun j hj => hok j (by omega)))]; rfl, H2.fr⟩
set_option maxRecDepth 100000 in
theorem dsame_ok (pg : UInt32) (c : Bool) (ev pv : Value) (xs : List Xt) (ps : List UInt16) (pg' : UInt32) (c' : Bool) (ev' pv' : Value) (xs' : List Xt) (ps' : List UInt16) (w : World) (hE : Arr w ev 2 xs.length (List.flatMap xtc xs)) (hP : Arr w pv 1 ps.length (List.map vU16 ps)) (hF : Arr w ev' 2 xs'.length (List.flatMap xtc xs')) (hQ : Arr w pv' 1 ps'.length (List.map vU16 ps')) (hn : xs.length < 2 ^ 47) (hm : ps.length < 2 ^ 47) :
    Calls Try.prog 21 #[(.agg #[(vU32 pg), ev, pv, (.bool c)]), (.agg #[(vU32 pg'), ev', pv', (.bool c')])] w (fun e w' => e = .returned (.bool (sameM pg c xs ps pg' c' xs' ps')) ∧ Fr [] w w') := by
  refine enter (args := [(.agg #[(vU32 pg), ev, pv, (.bool c)]), (.agg #[(vU32 pg'), ev', pv', (.bool c')])]) Try.func21 rfl rfl ?_
  have H0 : Own [] w w [] := Own.start w []
  refine WC.seq ?_
  refine WC.region ?_
  refine WL.op rfl rfl (op_box H0 rfl rfl (fun b1 w1 H1 => ?_))
  refine WL.op rfl rfl (op_box H1 rfl rfl (fun b2 w2 H2 => ?_))
  refine WL.op rfl rfl (op_assign rfl ?_)
  refine WL.nil ?_
  refine WQ.next ?_
  refine WC.seq ?_
  refine WC.region ?_
  refine WL.op rfl rfl (op_fieldAddr rfl Fa.F30_0 ?_)
  refine WL.op rfl rfl (op_load rfl (H2.cell (i := 0) rfl rfl) Try.underlying26 rfl ?_)
  refine WL.op rfl rfl (op_fieldAddr rfl Fa.F30_0 ?_)
  refine WL.op rfl rfl (op_load rfl (H2.cell (i := 1) rfl rfl) Try.underlying26 rfl ?_)
  refine WL.op rfl rfl (op_eqlU32 rfl rfl ?_)
  refine WL.op rfl rfl (op_move rfl ?_)
  refine WL.split (t := 10) rfl (fun (hb3 : (decide (pg = pg')) = true) => ?_) (fun (hb3 : (decide (pg = pg')) = false) => ?_)
  ·
    have hc3 := of_decide_eq_true hb3
    refine WL.yes rfl rfl rfl hb3 rfl (op_fieldAddr rfl Fa.F30_3 ?_)
    refine WL.yes rfl rfl rfl hb3 rfl (op_load rfl (H2.cell (i := 0) rfl rfl) Try.underlying4 rfl ?_)
    refine WL.yes rfl rfl rfl hb3 rfl (op_fieldAddr rfl Fa.F30_3 ?_)
    refine WL.yes rfl rfl rfl hb3 rfl (op_load rfl (H2.cell (i := 1) rfl rfl) Try.underlying4 rfl ?_)
    refine WL.yes rfl rfl rfl hb3 rfl (op_eqlB Try.underlying4 rfl rfl ?_)
    refine WL.op rfl rfl (op_pickT rfl hb3 rfl ?_)
    refine WL.op rfl rfl (op_move rfl ?_)
    refine WL.split (t := 17) rfl (fun (hb4 : (c == c') = true) => ?_) (fun (hb4 : (c == c') = false) => ?_)
    ·
      refine WL.yes rfl rfl rfl hb4 rfl (op_fieldAddr rfl Fa.F30_1 ?_)
      refine WL.yes rfl rfl rfl hb4 rfl (op_load rfl (H2.cell (i := 0) rfl rfl) Try.underlying27 rfl ?_)
      refine WL.yes rfl rfl rfl hb4 rfl (op_fieldAddr rfl Fa.F30_1 ?_)
      refine WL.yes rfl rfl rfl hb4 rfl (op_load rfl (H2.cell (i := 1) rfl rfl) Try.underlying27 rfl ?_)
      refine WL.yes rfl rfl rfl hb4 rfl (op_callF Fa.C39 rfl ((eqX_ok _ _ xs xs' _ (H2.arr hE) (H2.arr hF) (by omega)).mono (fun e w5 hq => ?_)))
      obtain ⟨rfl, hf5⟩ := hq
      refine ⟨_, rfl, ?_⟩
      have H5 := H2.fr' hf5
      refine WL.op rfl rfl (op_pickT rfl hb4 rfl ?_)
      refine WL.op rfl rfl (op_move rfl ?_)
      refine WL.split (t := 24) rfl (fun (hb6 : (decide (xs = xs')) = true) => ?_) (fun (hb6 : (decide (xs = xs')) = false) => ?_)
      ·
        have hc6 := of_decide_eq_true hb6
        refine WL.yes rfl rfl rfl hb6 rfl (op_fieldAddr rfl Fa.F30_2 ?_)
        refine WL.yes rfl rfl rfl hb6 rfl (op_load rfl (H5.cell (i := 0) rfl rfl) Try.underlying28 rfl ?_)
        refine WL.yes rfl rfl rfl hb6 rfl (op_fieldAddr rfl Fa.F30_2 ?_)
        refine WL.yes rfl rfl rfl hb6 rfl (op_load rfl (H5.cell (i := 1) rfl rfl) Try.underlying28 rfl ?_)
        refine WL.yes rfl rfl rfl hb6 rfl (op_callF Fa.C40 rfl ((eq16_ok _ _ ps ps' _ (H5.arr hP) (H5.arr hQ) (by omega)).mono (fun e w7 hq => ?_)))
        obtain ⟨rfl, hf7⟩ := hq
        refine ⟨_, rfl, ?_⟩
        have H7 := H5.fr' hf7
        refine WL.op rfl rfl (op_pickT rfl hb6 rfl ?_)
        refine WL.op rfl rfl (op_assign rfl ?_)
        refine WL.nil ?_
        refine WQ.next ?_
        refine WC.ret ?_
        refine WQ.out (.tmp rfl .nil) ?_
        exact ⟨by (rw [sameM, hb3, hb4, hb6]) <;> rfl, H7.fr⟩
      ·
        have hc6 := of_decide_eq_false hb6
        refine WL.no rfl rfl rfl hb6 rfl ?_
        refine WL.no rfl rfl rfl hb6 rfl ?_
        refine WL.no rfl rfl rfl hb6 rfl ?_
        refine WL.no rfl rfl rfl hb6 rfl ?_
        refine WL.no rfl rfl rfl hb6 rfl ?_
        refine WL.op rfl rfl (op_pickF rfl hb6 rfl ?_)
        refine WL.op rfl rfl (op_assign rfl ?_)
        refine WL.nil ?_
        refine WQ.next ?_
        refine WC.ret ?_
        refine WQ.out (.tmp rfl .nil) ?_
        exact ⟨by (rw [sameM, hb3, hb4, hb6]) <;> rfl, H5.fr⟩
    ·
      refine WL.no rfl rfl rfl hb4 rfl ?_
      refine WL.no rfl rfl rfl hb4 rfl ?_
      refine WL.no rfl rfl rfl hb4 rfl ?_
      refine WL.no rfl rfl rfl hb4 rfl ?_
      refine WL.no rfl rfl rfl hb4 rfl ?_
      refine WL.op rfl rfl (op_pickF rfl hb4 rfl ?_)
      refine WL.op rfl rfl (op_move rfl ?_)
      refine WL.no rfl rfl rfl rfl rfl ?_
      refine WL.no rfl rfl rfl rfl rfl ?_
      refine WL.no rfl rfl rfl rfl rfl ?_
      refine WL.no rfl rfl rfl rfl rfl ?_
      refine WL.no rfl rfl rfl rfl rfl ?_
      refine WL.op rfl rfl (op_pickF rfl rfl rfl ?_)
      refine WL.op rfl rfl (op_assign rfl ?_)
      refine WL.nil ?_
      refine WQ.next ?_
      refine WC.ret ?_
      refine WQ.out (.tmp rfl .nil) ?_
      exact ⟨by (rw [sameM, hb3, hb4]) <;> rfl, H2.fr⟩
  ·
    have hc3 := of_decide_eq_false hb3
    refine WL.no rfl rfl rfl hb3 rfl ?_
    refine WL.no rfl rfl rfl hb3 rfl ?_
    refine WL.no rfl rfl rfl hb3 rfl ?_
    refine WL.no rfl rfl rfl hb3 rfl ?_
    refine WL.no rfl rfl rfl hb3 rfl ?_
    refine WL.op rfl rfl (op_pickF rfl hb3 rfl ?_)
    refine WL.op rfl rfl (op_move rfl ?_)
    refine WL.no rfl rfl rfl rfl rfl ?_
    refine WL.no rfl rfl rfl rfl rfl ?_
    refine WL.no rfl rfl rfl rfl rfl ?_
    refine WL.no rfl rfl rfl rfl rfl ?_
    refine WL.no rfl rfl rfl rfl rfl ?_
    refine WL.op rfl rfl (op_pickF rfl rfl rfl ?_)
    refine WL.op rfl rfl (op_move rfl ?_)
    refine WL.no rfl rfl rfl rfl rfl ?_
    refine WL.no rfl rfl rfl rfl rfl ?_
    refine WL.no rfl rfl rfl rfl rfl ?_
    refine WL.no rfl rfl rfl rfl rfl ?_
    refine WL.no rfl rfl rfl rfl rfl ?_
    refine WL.op rfl rfl (op_pickF rfl rfl rfl ?_)
    refine WL.op rfl rfl (op_assign rfl ?_)
    refine WL.nil ?_
    refine WQ.next ?_
    refine WC.ret ?_
    refine WQ.out (.tmp rfl .nil) ?_
    exact ⟨by (rw [sameM, hb3]) <;> rfl, H2.fr⟩
set_option maxRecDepth 100000 in
theorem rmsame_ok (pg : UInt32) (c : Bool) (ev pv : Value) (xs : List Xt) (ps : List UInt16) (pg' : UInt32) (c' : Bool) (ev' pv' : Value) (xs' : List Xt) (ps' : List UInt16) (w : World) (hE : Arr w ev 2 xs.length (List.flatMap xtc xs)) (hP : Arr w pv 1 ps.length (List.map vU16 ps)) (hF : Arr w ev' 2 xs'.length (List.flatMap xtc xs')) (hQ : Arr w pv' 1 ps'.length (List.map vU16 ps')) (hn : xs.length < 2 ^ 47) (hm : ps.length < 2 ^ 47) :
    Calls Try.prog 13 #[(.agg #[(vU32 pg), ev, pv, (.bool c)]), (.agg #[(vU32 pg'), ev', pv', (.bool c')])] w (fun e w' => e = .returned (.bool (sameM pg c xs ps pg' c' xs' ps')) ∧ Fr [] w w') := by
  refine enter (args := [(.agg #[(vU32 pg), ev, pv, (.bool c)]), (.agg #[(vU32 pg'), ev', pv', (.bool c')])]) Try.func13 rfl rfl ?_
  have H0 : Own [] w w [] := Own.start w []
  refine WC.seq ?_
  refine WC.region ?_
  refine WL.op rfl rfl (op_box H0 rfl rfl (fun b1 w1 H1 => ?_))
  refine WL.op rfl rfl (op_box H1 rfl rfl (fun b2 w2 H2 => ?_))
  refine WL.op rfl rfl (op_assign rfl ?_)
  refine WL.nil ?_
  refine WQ.next ?_
  refine WC.seq ?_
  refine WC.seq ?_
  refine WC.region ?_
  refine WL.op rfl rfl (op_fieldAddr rfl Fa.F30_0 ?_)
  refine WL.op rfl rfl (op_load rfl (H2.cell (i := 0) rfl rfl) Try.underlying26 rfl ?_)
  refine WL.op rfl rfl (op_fieldAddr rfl Fa.F30_0 ?_)
  refine WL.op rfl rfl (op_load rfl (H2.cell (i := 1) rfl rfl) Try.underlying26 rfl ?_)
  refine WL.op rfl rfl (op_neqU32 rfl rfl ?_)
  refine WL.op rfl rfl (op_move rfl ?_)
  refine WL.split (t := 12) rfl (fun (hb3 : (decide (pg ≠ pg')) = true) => ?_) (fun (hb3 : (decide (pg ≠ pg')) = false) => ?_)
  ·
    have hc3 := of_decide_eq_true hb3
    refine WL.no rfl rfl rfl hb3 rfl ?_
    refine WL.no rfl rfl rfl hb3 rfl ?_
    refine WL.no rfl rfl rfl hb3 rfl ?_
    refine WL.no rfl rfl rfl hb3 rfl ?_
    refine WL.no rfl rfl rfl hb3 rfl ?_
    refine WL.op rfl rfl (op_pickT rfl hb3 rfl ?_)
    refine WL.op rfl rfl (op_move rfl ?_)
    refine WL.no rfl rfl rfl rfl rfl ?_
    refine WL.no rfl rfl rfl rfl rfl ?_
    refine WL.no rfl rfl rfl rfl rfl ?_
    refine WL.no rfl rfl rfl rfl rfl ?_
    refine WL.no rfl rfl rfl rfl rfl ?_
    refine WL.no rfl rfl rfl rfl rfl ?_
    refine WL.no rfl rfl rfl rfl rfl ?_
    refine WL.op rfl rfl (op_pickT rfl rfl rfl ?_)
    refine WL.op rfl rfl (op_move rfl ?_)
    refine WL.no rfl rfl rfl rfl rfl ?_
    refine WL.no rfl rfl rfl rfl rfl ?_
    refine WL.no rfl rfl rfl rfl rfl ?_
    refine WL.no rfl rfl rfl rfl rfl ?_
    refine WL.no rfl rfl rfl rfl rfl ?_
    refine WL.no rfl rfl rfl rfl rfl ?_
    refine WL.no rfl rfl rfl rfl rfl ?_
    refine WL.op rfl rfl (op_pickT rfl rfl rfl ?_)
    refine WL.nil ?_
    refine WQ.next ?_
    refine WC.yes rfl rfl ?_
    refine WC.seq ?_
    refine WC.region ?_
    refine WL.op rfl rfl (op_assign rfl ?_)
    refine WL.nil ?_
    refine WQ.next ?_
    refine WC.ret ?_
    refine WQ.thenRet ?_
    refine WQ.out (.tmp rfl .nil) ?_
    exact ⟨by rw [sameM_no (fun h => hc3 h.1)]; rfl, H2.fr⟩
  ·
    have hc3 := of_decide_eq_false hb3
    refine WL.yes rfl rfl rfl hb3 rfl (op_fieldAddr rfl Fa.F30_3 ?_)
    refine WL.yes rfl rfl rfl hb3 rfl (op_load rfl (H2.cell (i := 0) rfl rfl) Try.underlying4 rfl ?_)
    refine WL.yes rfl rfl rfl hb3 rfl (op_fieldAddr rfl Fa.F30_3 ?_)
    refine WL.yes rfl rfl rfl hb3 rfl (op_load rfl (H2.cell (i := 1) rfl rfl) Try.underlying4 rfl ?_)
    refine WL.yes rfl rfl rfl hb3 rfl (op_neqB Try.underlying4 rfl rfl ?_)
    refine WL.op rfl rfl (op_pickF rfl hb3 rfl ?_)
    refine WL.op rfl rfl (op_move rfl ?_)
    refine WL.split (t := 19) rfl (fun (hb4 : (!(c == c')) = true) => ?_) (fun (hb4 : (!(c == c')) = false) => ?_)
    ·
      have hn4 := (Bool.not_eq_true' _).mp hb4
      refine WL.no rfl rfl rfl hb4 rfl ?_
      refine WL.no rfl rfl rfl hb4 rfl ?_
      refine WL.no rfl rfl rfl hb4 rfl ?_
      refine WL.no rfl rfl rfl hb4 rfl ?_
      refine WL.no rfl rfl rfl hb4 rfl ?_
      refine WL.no rfl rfl rfl hb4 rfl ?_
      refine WL.no rfl rfl rfl hb4 rfl ?_
      refine WL.op rfl rfl (op_pickT rfl hb4 rfl ?_)
      refine WL.op rfl rfl (op_move rfl ?_)
      refine WL.no rfl rfl rfl rfl rfl ?_
      refine WL.no rfl rfl rfl rfl rfl ?_
      refine WL.no rfl rfl rfl rfl rfl ?_
      refine WL.no rfl rfl rfl rfl rfl ?_
      refine WL.no rfl rfl rfl rfl rfl ?_
      refine WL.no rfl rfl rfl rfl rfl ?_
      refine WL.no rfl rfl rfl rfl rfl ?_
      refine WL.op rfl rfl (op_pickT rfl rfl rfl ?_)
      refine WL.nil ?_
      refine WQ.next ?_
      refine WC.yes rfl rfl ?_
      refine WC.seq ?_
      refine WC.region ?_
      refine WL.op rfl rfl (op_assign rfl ?_)
      refine WL.nil ?_
      refine WQ.next ?_
      refine WC.ret ?_
      refine WQ.thenRet ?_
      refine WQ.out (.tmp rfl .nil) ?_
      exact ⟨by rw [sameM_no (fun h => by have h1 := hn4; rw [h.2.1] at h1; simp at h1)]; rfl, H2.fr⟩
    ·
      have hn4 := (Bool.not_eq_false' _).mp hb4
      refine WL.yes rfl rfl rfl hb4 rfl (op_fieldAddr rfl Fa.F30_1 ?_)
      refine WL.yes rfl rfl rfl hb4 rfl (op_load rfl (H2.cell (i := 0) rfl rfl) Try.underlying27 rfl ?_)
      refine WL.yes rfl rfl rfl hb4 rfl (op_lenA Try.underlying27 rfl (H2.arr hE) ?_)
      refine WL.yes rfl rfl rfl hb4 rfl (op_fieldAddr rfl Fa.F30_1 ?_)
      refine WL.yes rfl rfl rfl hb4 rfl (op_load rfl (H2.cell (i := 1) rfl rfl) Try.underlying27 rfl ?_)
      refine WL.yes rfl rfl rfl hb4 rfl (op_lenA Try.underlying27 rfl (H2.arr hF) ?_)
      refine WL.yes rfl rfl rfl hb4 rfl (op_neqN rfl rfl ?_)
      refine WL.op rfl rfl (op_pickF rfl hb4 rfl ?_)
      refine WL.op rfl rfl (op_move rfl ?_)
      refine WL.split (t := 28) rfl (fun (hb5 : (decide (xs.length ≠ xs'.length)) = true) => ?_) (fun (hb5 : (decide (xs.length ≠ xs'.length)) = false) => ?_)
      ·
        have hc5 := of_decide_eq_true hb5
        refine WL.no rfl rfl rfl hb5 rfl ?_
        refine WL.no rfl rfl rfl hb5 rfl ?_
        refine WL.no rfl rfl rfl hb5 rfl ?_
        refine WL.no rfl rfl rfl hb5 rfl ?_
        refine WL.no rfl rfl rfl hb5 rfl ?_
        refine WL.no rfl rfl rfl hb5 rfl ?_
        refine WL.no rfl rfl rfl hb5 rfl ?_
        refine WL.op rfl rfl (op_pickT rfl hb5 rfl ?_)
        refine WL.nil ?_
        refine WQ.next ?_
        refine WC.yes rfl rfl ?_
        refine WC.seq ?_
        refine WC.region ?_
        refine WL.op rfl rfl (op_assign rfl ?_)
        refine WL.nil ?_
        refine WQ.next ?_
        refine WC.ret ?_
        refine WQ.thenRet ?_
        refine WQ.out (.tmp rfl .nil) ?_
        exact ⟨by rw [sameM_no (fun h => hc5 (by rw [h.2.2.1]))]; rfl, H2.fr⟩
      ·
        have hc5 := of_decide_eq_false hb5
        refine WL.yes rfl rfl rfl hb5 rfl (op_fieldAddr rfl Fa.F30_2 ?_)
        refine WL.yes rfl rfl rfl hb5 rfl (op_load rfl (H2.cell (i := 0) rfl rfl) Try.underlying28 rfl ?_)
        refine WL.yes rfl rfl rfl hb5 rfl (op_lenA Try.underlying28 rfl (H2.arr hP) ?_)
        refine WL.yes rfl rfl rfl hb5 rfl (op_fieldAddr rfl Fa.F30_2 ?_)
        refine WL.yes rfl rfl rfl hb5 rfl (op_load rfl (H2.cell (i := 1) rfl rfl) Try.underlying28 rfl ?_)
        refine WL.yes rfl rfl rfl hb5 rfl (op_lenA Try.underlying28 rfl (H2.arr hQ) ?_)
        refine WL.yes rfl rfl rfl hb5 rfl (op_neqN rfl rfl ?_)
        refine WL.op rfl rfl (op_pickF rfl hb5 rfl ?_)
        refine WL.nil ?_
        refine WQ.next ?_
        refine WC.cond rfl (fun (hb6 : (decide (ps.length ≠ ps'.length)) = true) => ?_) (fun (hb6 : (decide (ps.length ≠ ps'.length)) = false) => ?_)
        ·
          have hc6 := of_decide_eq_true hb6
          refine WC.seq ?_
          refine WC.region ?_
          refine WL.op rfl rfl (op_assign rfl ?_)
          refine WL.nil ?_
          refine WQ.next ?_
          refine WC.ret ?_
          refine WQ.thenRet ?_
          refine WQ.out (.tmp rfl .nil) ?_
          exact ⟨by rw [sameM_no (fun h => hc6 (by rw [h.2.2.2]))]; rfl, H2.fr⟩
        ·
          have hc6 := of_decide_eq_false hb6
          refine WC.skip ?_
          refine WQ.next ?_
          refine WC.seq ?_
          refine WC.seq ?_
          refine WC.region ?_
          refine WL.op rfl rfl (op_assign rfl ?_)
          refine WL.nil ?_
          refine WQ.next ?_
          refine WC.block ?_
          refine WC.loop (α := Nat) (fun k => [(2, (ptr b1 0)), (3, (ptr b2 0)), (5, (vN k))]) (fun k w' => (k ≤ xs.length ∧ (∀ j, j < k → xs.getD j Xt.zero = xs'.getD j Xt.zero)) ∧ Own [] w w' [.blk b1 [(vU32 pg), ev, pv, (.bool c)] 30, .blk b2 [(vU32 pg'), ev', pv', (.bool c')] 30]) (fun k => xs.length - k) 0 ⟨⟨Nat.zero_le _, fun j h => by omega⟩, H2⟩ ⟨rfl, rfl, rfl, trivial⟩ ?_
          rintro k w7 ⟨⟨hk1, hok⟩, H7⟩
          show WC _ _ _ _ _ [(2, (ptr b1 0)), (3, (ptr b2 0)), (5, (vN k))] _
          refine WC.seq ?_
          refine WC.seq ?_
          refine WC.region ?_
          refine WL.op rfl rfl (op_move rfl ?_)
          refine WL.op rfl rfl (op_fieldAddr rfl Fa.F30_1 ?_)
          refine WL.op rfl rfl (op_load rfl (H7.cell (i := 0) rfl rfl) Try.underlying27 rfl ?_)
          refine WL.op rfl rfl (op_lenA Try.underlying27 rfl (H7.arr hE) ?_)
          refine WL.op rfl rfl (op_lssN rfl rfl ?_)
          refine WL.nil ?_
          refine WQ.next ?_
          refine WC.cond rfl (fun (hb8 : (decide (k < xs.length)) = true) => ?_) (fun (hb8 : (decide (k < xs.length)) = false) => ?_)
          ·
            have hc8 := of_decide_eq_true hb8
            refine WC.skip ?_
            refine WQ.next ?_
            refine WC.seq ?_
            refine WC.block ?_
            refine WC.seq ?_
            refine WC.draw 11 Fa.M H7 (HW.op rfl (fun w1 H1 => op_fieldAddr rfl Fa.F30_1 ⟨rfl, Fr.refl _ _⟩) (HW.op rfl (fun w1 H1 => op_load rfl (H1.cell (i := 0) rfl rfl) Try.underlying27 rfl ⟨rfl, Fr.refl _ _⟩) (HW.op rfl (fun w1 H1 => op_move rfl ⟨rfl, Fr.refl _ _⟩) (HW.op rfl (fun w1 H1 => op_indexAddr Try.underlying27 Fa.I50 rfl (H1.arr hE) rfl (by omega) ⟨rfl, Fr.refl _ _⟩) (HW.op rfl (fun w1 H1 => op_loadSP (vs := xtc (xs.getD k Xt.zero)) rfl (Arr.atsF (H1.arr hE) (fun _ => rfl) (by decide) Xt.zero (by omega)) Try.underlying50 rfl Fa.I50 rfl ⟨rfl, Fr.refl _ _⟩) (HW.op rfl (fun w1 H1 => op_fieldAddr rfl Fa.F30_1 ⟨rfl, Fr.refl _ _⟩) (HW.op rfl (fun w1 H1 => op_load rfl (H1.cell (i := 1) rfl rfl) Try.underlying27 rfl ⟨rfl, Fr.refl _ _⟩) (HW.op rfl (fun w1 H1 => op_move rfl ⟨rfl, Fr.refl _ _⟩) (HW.op rfl (fun w1 H1 => op_indexAddr Try.underlying27 Fa.I50 rfl (H1.arr hF) rfl (by omega) ⟨rfl, Fr.refl _ _⟩) (HW.op rfl (fun w1 H1 => op_loadSP (vs := xtc (xs'.getD k Xt.zero)) rfl (Arr.atsF (H1.arr hF) (fun _ => rfl) (by decide) Xt.zero (by omega)) Try.underlying50 rfl Fa.I50 rfl ⟨rfl, Fr.refl _ _⟩) (HW.op rfl (fun w1 H1 => op_neqS (xs := [_, _]) (ys := [_, _]) (b := (!((decide ((xs.getD k Xt.zero).id = (xs'.getD k Xt.zero).id)) && (decide ((xs.getD k Xt.zero).bl = (xs'.getD k Xt.zero).bl))))) Fa.FL50 rfl rfl rfl (by simp [eqAll, veqU32]) ⟨rfl, Fr.refl _ _⟩)  HW.nil))))))))))) (by kernel_rfl) ?_
            intro β9 w9 H9
            refine WL.nil ?_
            refine WQ.next ?_
            refine WC.cond rfl (fun (hb10 : (!((decide ((xs.getD k Xt.zero).id = (xs'.getD k Xt.zero).id)) && (decide ((xs.getD k Xt.zero).bl = (xs'.getD k Xt.zero).bl)))) = true) => ?_) (fun (hb10 : (!((decide ((xs.getD k Xt.zero).id = (xs'.getD k Xt.zero).id)) && (decide ((xs.getD k Xt.zero).bl = (xs'.getD k Xt.zero).bl)))) = false) => ?_)
            ·
              have hn10 := (Bool.not_eq_true' _).mp hb10
              refine WC.seq ?_
              refine WC.region ?_
              refine WL.op rfl rfl (op_assign rfl ?_)
              refine WL.nil ?_
              refine WQ.next ?_
              refine WC.ret ?_
              refine WQ.inRet ?_
              refine WQ.thenRet ?_
              refine WQ.thenRet ?_
              refine WQ.inRet ?_
              refine WQ.thenRet ?_
              refine WQ.out (.tmp rfl .nil) ?_
              exact ⟨by rw [sameM_no (fun h => xt_ne hn10 (by rw [h.2.2.1]))]; rfl, H9.fr⟩
            ·
              have hn10 := (Bool.not_eq_false' _).mp hb10
              refine WC.skip ?_
              refine WQ.inNormal ?_
              refine WQ.next ?_
              refine WC.region ?_
              refine WL.op rfl rfl (op_move rfl ?_)
              refine WL.op rfl rfl (op_addN (b := 1) rfl rfl (by omega) ?_)
              refine WL.op rfl rfl (op_assign rfl ?_)
              refine WL.nil ?_
              exact WQ.round (k + 1) ⟨⟨by omega, allPrev hok (xt_eq hn10)⟩, H9⟩ ⟨rfl, rfl, rfl, trivial⟩ (by omega)
          ·
            have hc8 := of_decide_eq_false hb8
            refine WC.exit ?_
            refine WQ.thenExit ?_
            refine WQ.thenExit ?_
            refine WQ.inHere ?_
            refine WQ.next ?_
            refine WC.seq ?_
            refine WC.seq ?_
            refine WC.region ?_
            refine WL.op rfl rfl (op_assign rfl ?_)
            refine WL.nil ?_
            refine WQ.next ?_
            refine WC.block ?_
            refine WC.loop (α := Nat) (fun i => [(2, (ptr b1 0)), (3, (ptr b2 0)), (6, (vN i))]) (fun i w' => (i ≤ ps.length ∧ (∀ j, j < i → ps.getD j 0 = ps'.getD j 0)) ∧ Own [] w w' [.blk b1 [(vU32 pg), ev, pv, (.bool c)] 30, .blk b2 [(vU32 pg'), ev', pv', (.bool c')] 30]) (fun i => ps.length - i) 0 ⟨⟨Nat.zero_le _, fun j h => by omega⟩, H7⟩ ⟨rfl, rfl, rfl, trivial⟩ ?_
            rintro i w11 ⟨⟨hi1, hoi⟩, H11⟩
            show WC _ _ _ _ _ [(2, (ptr b1 0)), (3, (ptr b2 0)), (6, (vN i))] _
            refine WC.seq ?_
            refine WC.seq ?_
            refine WC.region ?_
            refine WL.op rfl rfl (op_move rfl ?_)
            refine WL.op rfl rfl (op_fieldAddr rfl Fa.F30_2 ?_)
            refine WL.op rfl rfl (op_load rfl (H11.cell (i := 0) rfl rfl) Try.underlying28 rfl ?_)
            refine WL.op rfl rfl (op_lenA Try.underlying28 rfl (H11.arr hP) ?_)
            refine WL.op rfl rfl (op_lssN rfl rfl ?_)
            refine WL.nil ?_
            refine WQ.next ?_
            refine WC.cond rfl (fun (hb12 : (decide (i < ps.length)) = true) => ?_) (fun (hb12 : (decide (i < ps.length)) = false) => ?_)
            ·
              have hc12 := of_decide_eq_true hb12
              refine WC.skip ?_
              refine WQ.next ?_
              refine WC.seq ?_
              refine WC.block ?_
              refine WC.seq ?_
              refine WC.draw 11 Fa.M H11 (HW.op rfl (fun w1 H1 => op_fieldAddr rfl Fa.F30_2 ⟨rfl, Fr.refl _ _⟩) (HW.op rfl (fun w1 H1 => op_load rfl (H1.cell (i := 0) rfl rfl) Try.underlying28 rfl ⟨rfl, Fr.refl _ _⟩) (HW.op rfl (fun w1 H1 => op_move rfl ⟨rfl, Fr.refl _ _⟩) (HW.op rfl (fun w1 H1 => op_indexAddr1 Try.underlying28 Fa.I51 rfl (H1.arr hP) rfl (by omega) ⟨rfl, Fr.refl _ _⟩) (HW.op rfl (fun w1 H1 => op_load rfl ((H1.arr hP).at (get_map vU16 0 (Arr.ltM (H1.arr hP) (by omega)))) Try.underlying51 rfl ⟨rfl, Fr.refl _ _⟩) (HW.op rfl (fun w1 H1 => op_fieldAddr rfl Fa.F30_2 ⟨rfl, Fr.refl _ _⟩) (HW.op rfl (fun w1 H1 => op_load rfl (H1.cell (i := 1) rfl rfl) Try.underlying28 rfl ⟨rfl, Fr.refl _ _⟩) (HW.op rfl (fun w1 H1 => op_move rfl ⟨rfl, Fr.refl _ _⟩) (HW.op rfl (fun w1 H1 => op_indexAddr1 Try.underlying28 Fa.I51 rfl (H1.arr hQ) rfl (by omega) ⟨rfl, Fr.refl _ _⟩) (HW.op rfl (fun w1 H1 => op_load rfl ((H1.arr hQ).at (get_map vU16 0 (Arr.ltM (H1.arr hQ) (by omega)))) Try.underlying51 rfl ⟨rfl, Fr.refl _ _⟩) (HW.op rfl (fun w1 H1 => op_neqU16 rfl rfl ⟨rfl, Fr.refl _ _⟩)  HW.nil))))))))))) (by kernel_rfl) ?_
              intro β13 w13 H13
              refine WL.nil ?_
              refine WQ.next ?_
              refine WC.cond rfl (fun (hb14 : (decide ((ps.getD i 0) ≠ (ps'.getD i 0))) = true) => ?_) (fun (hb14 : (decide ((ps.getD i 0) ≠ (ps'.getD i 0))) = false) => ?_)
              ·
                have hc14 := of_decide_eq_true hb14
                refine WC.seq ?_
                refine WC.region ?_
                refine WL.op rfl rfl (op_assign rfl ?_)
                refine WL.nil ?_
                refine WQ.next ?_
                refine WC.ret ?_
                refine WQ.inRet ?_
                refine WQ.thenRet ?_
                refine WQ.thenRet ?_
                refine WQ.inRet ?_
                refine WQ.thenRet ?_
                refine WQ.out (.tmp rfl .nil) ?_
                exact ⟨by rw [sameM_no (fun h => hc14 (by rw [h.2.2.2]))]; rfl, H13.fr⟩
              ·
                have hc14 := of_decide_eq_false hb14
                refine WC.skip ?_
                refine WQ.inNormal ?_
                refine WQ.next ?_
                refine WC.region ?_
                refine WL.op rfl rfl (op_move rfl ?_)
                refine WL.op rfl rfl (op_addN (b := 1) rfl rfl (by omega) ?_)
                refine WL.op rfl rfl (op_assign rfl ?_)
                refine WL.nil ?_
                exact WQ.round (i + 1) ⟨⟨by omega, allPrev hoi (Decidable.not_not.mp hc14)⟩, H13⟩ ⟨rfl, rfl, rfl, trivial⟩ (by omega)
            ·
              have hc12 := of_decide_eq_false hb12
              refine WC.exit ?_
              refine WQ.thenExit ?_
              refine WQ.thenExit ?_
              refine WQ.inHere ?_
              refine WQ.next ?_
              refine WC.seq ?_
              refine WC.region ?_
              refine WL.op rfl rfl (op_assign rfl ?_)
              refine WL.nil ?_
              refine WQ.next ?_
              refine WC.ret ?_
              refine WQ.out (.tmp rfl .nil) ?_
              exact ⟨by rw [sameM_iff.2 ⟨Decidable.not_not.mp hc3, by simpa using hn4, list_eqD (by omega) (fun j hj => hok j (by omega)), list_eqD (by omega) (fun j hj => hoi j (by omega))⟩]; rfl, H11.fr⟩
set_option maxRecDepth 100000 in
theorem told_ok (b : Bool) (w : World) :
    Calls Try.prog 41 #[(.bool b)] w (fun e w' => e = .returned (vN (toldN b)) ∧ Fr [] w w') := by
  refine enter (args := [(.bool b)]) Try.func41 rfl rfl ?_
  have H0 : Own [] w w [] := Own.start w []
  refine WC.seq ?_
  refine WC.region ?_
  refine WL.op rfl rfl (op_assign rfl ?_)
  refine WL.nil ?_
  refine WQ.next ?_
  refine WC.seq ?_
  refine WC.seq ?_
  refine WC.region ?_
  refine WL.op rfl rfl (op_move rfl ?_)
  refine WL.op rfl rfl (op_not rfl ?_)
  refine WL.nil ?_
  refine WQ.next ?_
  refine WC.cond rfl (fun (hb1 : (!b) = true) => ?_) (fun (hb1 : (!b) = false) => ?_)
  ·
    have hn1 := (Bool.not_eq_true' _).mp hb1
    refine WC.seq ?_
    refine WC.region ?_
    refine WL.op rfl rfl (op_assign rfl ?_)
    refine WL.nil ?_
    refine WQ.next ?_
    refine WC.ret ?_
    refine WQ.thenRet ?_
    refine WQ.out (.tmp rfl .nil) ?_
    exact ⟨by (rw [toldN, hn1]) <;> rfl, H0.fr⟩
  ·
    have hn1 := (Bool.not_eq_false' _).mp hb1
    refine WC.skip ?_
    refine WQ.next ?_
    refine WC.seq ?_
    refine WC.region ?_
    refine WL.op rfl rfl (op_assign rfl ?_)
    refine WL.nil ?_
    refine WQ.next ?_
    refine WC.ret ?_
    refine WQ.out (.tmp rfl .nil) ?_
    exact ⟨by (rw [toldN, hn1]) <;> rfl, H0.fr⟩
set_option maxRecDepth 100000 in
theorem onote_ok (x : Nt) (w : World) :
    Calls Try.prog 24 #[(.agg #[(vU8 x.kind), (vU32 x.n), (vU32 x.m)])] w (fun e w' => e = .returned (vN (noteE x)) ∧ Fr [] w w') := by
  refine enter (args := [(.agg #[(vU8 x.kind), (vU32 x.n), (vU32 x.m)])]) Try.func24 rfl rfl ?_
  have H0 : Own [] w w [] := Own.start w []
  refine WC.seq ?_
  refine WC.region ?_
  refine WL.op rfl rfl (op_box H0 rfl rfl (fun b1 w1 H1 => ?_))
  refine WL.op rfl rfl (op_assign rfl ?_)
  refine WL.nil ?_
  refine WQ.next ?_
  refine WC.seq ?_
  refine WC.seq ?_
  refine WC.region ?_
  refine WL.op rfl rfl (op_fieldAddr rfl Fa.F36_0 ?_)
  refine WL.op rfl rfl (op_load rfl (H1.cell (i := 0) rfl rfl) Try.underlying5 rfl ?_)
  refine WL.nil ?_
  refine WQ.next ?_
  refine WC.block ?_
  refine WC.seq ?_
  refine WC.region ?_
  refine WL.op rfl rfl (op_eqlU8 (b := 1) rfl rfl ?_)
  refine WL.op rfl rfl (op_assign rfl ?_)
  refine WL.nil ?_
  refine WQ.next ?_
  refine WC.cond rfl (fun (hb2 : (decide (x.kind = (1 : UInt8))) = true) => ?_) (fun (hb2 : (decide (x.kind = (1 : UInt8))) = false) => ?_)
  ·
    have hc2 := of_decide_eq_true hb2
    refine WC.seq ?_
    refine WC.region ?_
    refine WL.op rfl rfl (op_fieldAddr rfl Fa.F36_1 ?_)
    refine WL.op rfl rfl (op_load rfl (H1.cell (i := 0) rfl rfl) Try.underlying26 rfl ?_)
    refine WL.op rfl rfl (op_leqU32 (b := 1024) rfl rfl ?_)
    refine WL.op rfl rfl (op_move rfl ?_)
    refine WL.split (t := 10) rfl (fun (hb3 : (decide (x.n ≤ (1024 : UInt32))) = true) => ?_) (fun (hb3 : (decide (x.n ≤ (1024 : UInt32))) = false) => ?_)
    ·
      have hc3 := of_decide_eq_true hb3
      refine WL.yes rfl rfl rfl hb3 rfl (op_fieldAddr rfl Fa.F36_2 ?_)
      refine WL.yes rfl rfl rfl hb3 rfl (op_load rfl (H1.cell (i := 0) rfl rfl) Try.underlying26 rfl ?_)
      refine WL.yes rfl rfl rfl hb3 rfl (op_eqlU32 (b := 0) rfl rfl ?_)
      refine WL.op rfl rfl (op_pickT rfl hb3 rfl ?_)
      refine WL.op rfl rfl (op_callF Fa.C41 rfl ((told_ok (decide (x.m = (0 : UInt32))) _).mono (fun e w4 hq => ?_)))
      obtain ⟨rfl, hf4⟩ := hq
      refine ⟨_, rfl, ?_⟩
      have H4 := H1.fr' hf4
      refine WL.op rfl rfl (op_assign rfl ?_)
      refine WL.nil ?_
      refine WQ.next ?_
      refine WC.ret ?_
      refine WQ.inRet ?_
      refine WQ.thenRet ?_
      refine WQ.out (.tmp rfl .nil) ?_
      exact ⟨by (rw [noteE, noteB, hb2, hb3]) <;> rfl, H4.fr⟩
    ·
      have hc3 := of_decide_eq_false hb3
      refine WL.no rfl rfl rfl hb3 rfl ?_
      refine WL.no rfl rfl rfl hb3 rfl ?_
      refine WL.no rfl rfl rfl hb3 rfl ?_
      refine WL.op rfl rfl (op_pickF rfl hb3 rfl ?_)
      refine WL.op rfl rfl (op_callF Fa.C41 rfl ((told_ok false _).mono (fun e w5 hq => ?_)))
      obtain ⟨rfl, hf5⟩ := hq
      refine ⟨_, rfl, ?_⟩
      have H5 := H1.fr' hf5
      refine WL.op rfl rfl (op_assign rfl ?_)
      refine WL.nil ?_
      refine WQ.next ?_
      refine WC.ret ?_
      refine WQ.inRet ?_
      refine WQ.thenRet ?_
      refine WQ.out (.tmp rfl .nil) ?_
      exact ⟨by (rw [noteE, noteB, hb2, hb3]) <;> rfl, H5.fr⟩
  ·
    have hc2 := of_decide_eq_false hb2
    refine WC.seq ?_
    refine WC.region ?_
    refine WL.op rfl rfl (op_eqlU8 (b := 2) rfl rfl ?_)
    refine WL.op rfl rfl (op_assign rfl ?_)
    refine WL.nil ?_
    refine WQ.next ?_
    refine WC.cond rfl (fun (hb6 : (decide (x.kind = (2 : UInt8))) = true) => ?_) (fun (hb6 : (decide (x.kind = (2 : UInt8))) = false) => ?_)
    ·
      have hc6 := of_decide_eq_true hb6
      refine WC.seq ?_
      refine WC.region ?_
      refine WL.op rfl rfl (op_fieldAddr rfl Fa.F36_1 ?_)
      refine WL.op rfl rfl (op_load rfl (H1.cell (i := 0) rfl rfl) Try.underlying26 rfl ?_)
      refine WL.op rfl rfl (op_lssU32 (b := 16) rfl rfl ?_)
      refine WL.op rfl rfl (op_move rfl ?_)
      refine WL.split (t := 21) rfl (fun (hb7 : (decide (x.n < (16 : UInt32))) = true) => ?_) (fun (hb7 : (decide (x.n < (16 : UInt32))) = false) => ?_)
      ·
        have hc7 := of_decide_eq_true hb7
        refine WL.yes rfl rfl rfl hb7 rfl (op_fieldAddr rfl Fa.F36_2 ?_)
        refine WL.yes rfl rfl rfl hb7 rfl (op_load rfl (H1.cell (i := 0) rfl rfl) Try.underlying26 rfl ?_)
        refine WL.yes rfl rfl rfl hb7 rfl (op_geqU32 (b := 1) rfl rfl ?_)
        refine WL.op rfl rfl (op_pickT rfl hb7 rfl ?_)
        refine WL.op rfl rfl (op_move rfl ?_)
        refine WL.split (t := 26) rfl (fun (hb8 : (decide (x.m ≥ (1 : UInt32))) = true) => ?_) (fun (hb8 : (decide (x.m ≥ (1 : UInt32))) = false) => ?_)
        ·
          have hc8 := of_decide_eq_true hb8
          refine WL.yes rfl rfl rfl hb8 rfl (op_fieldAddr rfl Fa.F36_2 ?_)
          refine WL.yes rfl rfl rfl hb8 rfl (op_load rfl (H1.cell (i := 0) rfl rfl) Try.underlying26 rfl ?_)
          refine WL.yes rfl rfl rfl hb8 rfl (op_leqU32 (b := 1024) rfl rfl ?_)
          refine WL.op rfl rfl (op_pickT rfl hb8 rfl ?_)
          refine WL.op rfl rfl (op_callF Fa.C41 rfl ((told_ok (decide (x.m ≤ (1024 : UInt32))) _).mono (fun e w9 hq => ?_)))
          obtain ⟨rfl, hf9⟩ := hq
          refine ⟨_, rfl, ?_⟩
          have H9 := H1.fr' hf9
          refine WL.op rfl rfl (op_assign rfl ?_)
          refine WL.nil ?_
          refine WQ.next ?_
          refine WC.ret ?_
          refine WQ.inRet ?_
          refine WQ.thenRet ?_
          refine WQ.out (.tmp rfl .nil) ?_
          exact ⟨by (rw [noteE, noteB, hb2, hb6, hb7, hb8]) <;> rfl, H9.fr⟩
        ·
          have hc8 := of_decide_eq_false hb8
          refine WL.no rfl rfl rfl hb8 rfl ?_
          refine WL.no rfl rfl rfl hb8 rfl ?_
          refine WL.no rfl rfl rfl hb8 rfl ?_
          refine WL.op rfl rfl (op_pickF rfl hb8 rfl ?_)
          refine WL.op rfl rfl (op_callF Fa.C41 rfl ((told_ok false _).mono (fun e w10 hq => ?_)))
          obtain ⟨rfl, hf10⟩ := hq
          refine ⟨_, rfl, ?_⟩
          have H10 := H1.fr' hf10
          refine WL.op rfl rfl (op_assign rfl ?_)
          refine WL.nil ?_
          refine WQ.next ?_
          refine WC.ret ?_
          refine WQ.inRet ?_
          refine WQ.thenRet ?_
          refine WQ.out (.tmp rfl .nil) ?_
          exact ⟨by (rw [noteE, noteB, hb2, hb6, hb7, hb8]) <;> rfl, H10.fr⟩
      ·
        have hc7 := of_decide_eq_false hb7
        refine WL.no rfl rfl rfl hb7 rfl ?_
        refine WL.no rfl rfl rfl hb7 rfl ?_
        refine WL.no rfl rfl rfl hb7 rfl ?_
        refine WL.op rfl rfl (op_pickF rfl hb7 rfl ?_)
        refine WL.op rfl rfl (op_move rfl ?_)
        refine WL.no rfl rfl rfl rfl rfl ?_
        refine WL.no rfl rfl rfl rfl rfl ?_
        refine WL.no rfl rfl rfl rfl rfl ?_
        refine WL.op rfl rfl (op_pickF rfl rfl rfl ?_)
        refine WL.op rfl rfl (op_callF Fa.C41 rfl ((told_ok false _).mono (fun e w11 hq => ?_)))
        obtain ⟨rfl, hf11⟩ := hq
        refine ⟨_, rfl, ?_⟩
        have H11 := H1.fr' hf11
        refine WL.op rfl rfl (op_assign rfl ?_)
        refine WL.nil ?_
        refine WQ.next ?_
        refine WC.ret ?_
        refine WQ.inRet ?_
        refine WQ.thenRet ?_
        refine WQ.out (.tmp rfl .nil) ?_
        exact ⟨by (rw [noteE, noteB, hb2, hb6, hb7]) <;> rfl, H11.fr⟩
    ·
      have hc6 := of_decide_eq_false hb6
      refine WC.seq ?_
      refine WC.region ?_
      refine WL.op rfl rfl (op_eqlU8 (b := 3) rfl rfl ?_)
      refine WL.op rfl rfl (op_assign rfl ?_)
      refine WL.nil ?_
      refine WQ.next ?_
      refine WC.cond rfl (fun (hb12 : (decide (x.kind = (3 : UInt8))) = true) => ?_) (fun (hb12 : (decide (x.kind = (3 : UInt8))) = false) => ?_)
      ·
        have hc12 := of_decide_eq_true hb12
        refine WC.seq ?_
        refine WC.region ?_
        refine WL.op rfl rfl (op_fieldAddr rfl Fa.F36_1 ?_)
        refine WL.op rfl rfl (op_load rfl (H1.cell (i := 0) rfl rfl) Try.underlying26 rfl ?_)
        refine WL.op rfl rfl (op_geqU32 (b := 1) rfl rfl ?_)
        refine WL.op rfl rfl (op_move rfl ?_)
        refine WL.split (t := 37) rfl (fun (hb13 : (decide (x.n ≥ (1 : UInt32))) = true) => ?_) (fun (hb13 : (decide (x.n ≥ (1 : UInt32))) = false) => ?_)
        ·
          have hc13 := of_decide_eq_true hb13
          refine WL.yes rfl rfl rfl hb13 rfl (op_fieldAddr rfl Fa.F36_1 ?_)
          refine WL.yes rfl rfl rfl hb13 rfl (op_load rfl (H1.cell (i := 0) rfl rfl) Try.underlying26 rfl ?_)
          refine WL.yes rfl rfl rfl hb13 rfl (op_leqU32 (b := 65535) rfl rfl ?_)
          refine WL.op rfl rfl (op_pickT rfl hb13 rfl ?_)
          refine WL.op rfl rfl (op_move rfl ?_)
          refine WL.split (t := 42) rfl (fun (hb14 : (decide (x.n ≤ (65535 : UInt32))) = true) => ?_) (fun (hb14 : (decide (x.n ≤ (65535 : UInt32))) = false) => ?_)
          ·
            have hc14 := of_decide_eq_true hb14
            refine WL.yes rfl rfl rfl hb14 rfl (op_fieldAddr rfl Fa.F36_2 ?_)
            refine WL.yes rfl rfl rfl hb14 rfl (op_load rfl (H1.cell (i := 0) rfl rfl) Try.underlying26 rfl ?_)
            refine WL.yes rfl rfl rfl hb14 rfl (op_eqlU32 (b := 0) rfl rfl ?_)
            refine WL.op rfl rfl (op_pickT rfl hb14 rfl ?_)
            refine WL.op rfl rfl (op_callF Fa.C41 rfl ((told_ok (decide (x.m = (0 : UInt32))) _).mono (fun e w15 hq => ?_)))
            obtain ⟨rfl, hf15⟩ := hq
            refine ⟨_, rfl, ?_⟩
            have H15 := H1.fr' hf15
            refine WL.op rfl rfl (op_assign rfl ?_)
            refine WL.nil ?_
            refine WQ.next ?_
            refine WC.ret ?_
            refine WQ.inRet ?_
            refine WQ.thenRet ?_
            refine WQ.out (.tmp rfl .nil) ?_
            exact ⟨by (rw [noteE, noteB, hb2, hb6, hb12, hb13, hb14]) <;> rfl, H15.fr⟩
          ·
            have hc14 := of_decide_eq_false hb14
            refine WL.no rfl rfl rfl hb14 rfl ?_
            refine WL.no rfl rfl rfl hb14 rfl ?_
            refine WL.no rfl rfl rfl hb14 rfl ?_
            refine WL.op rfl rfl (op_pickF rfl hb14 rfl ?_)
            refine WL.op rfl rfl (op_callF Fa.C41 rfl ((told_ok false _).mono (fun e w16 hq => ?_)))
            obtain ⟨rfl, hf16⟩ := hq
            refine ⟨_, rfl, ?_⟩
            have H16 := H1.fr' hf16
            refine WL.op rfl rfl (op_assign rfl ?_)
            refine WL.nil ?_
            refine WQ.next ?_
            refine WC.ret ?_
            refine WQ.inRet ?_
            refine WQ.thenRet ?_
            refine WQ.out (.tmp rfl .nil) ?_
            exact ⟨by (rw [noteE, noteB, hb2, hb6, hb12, hb13, hb14]) <;> rfl, H16.fr⟩
        ·
          have hc13 := of_decide_eq_false hb13
          refine WL.no rfl rfl rfl hb13 rfl ?_
          refine WL.no rfl rfl rfl hb13 rfl ?_
          refine WL.no rfl rfl rfl hb13 rfl ?_
          refine WL.op rfl rfl (op_pickF rfl hb13 rfl ?_)
          refine WL.op rfl rfl (op_move rfl ?_)
          refine WL.no rfl rfl rfl rfl rfl ?_
          refine WL.no rfl rfl rfl rfl rfl ?_
          refine WL.no rfl rfl rfl rfl rfl ?_
          refine WL.op rfl rfl (op_pickF rfl rfl rfl ?_)
          refine WL.op rfl rfl (op_callF Fa.C41 rfl ((told_ok false _).mono (fun e w17 hq => ?_)))
          obtain ⟨rfl, hf17⟩ := hq
          refine ⟨_, rfl, ?_⟩
          have H17 := H1.fr' hf17
          refine WL.op rfl rfl (op_assign rfl ?_)
          refine WL.nil ?_
          refine WQ.next ?_
          refine WC.ret ?_
          refine WQ.inRet ?_
          refine WQ.thenRet ?_
          refine WQ.out (.tmp rfl .nil) ?_
          exact ⟨by (rw [noteE, noteB, hb2, hb6, hb12, hb13]) <;> rfl, H17.fr⟩
      ·
        have hc12 := of_decide_eq_false hb12
        refine WC.seq ?_
        refine WC.region ?_
        refine WL.op rfl rfl (op_eqlU8 (b := 4) rfl rfl ?_)
        refine WL.op rfl rfl (op_assign rfl ?_)
        refine WL.nil ?_
        refine WQ.next ?_
        refine WC.cond rfl (fun (hb18 : (decide (x.kind = (4 : UInt8))) = true) => ?_) (fun (hb18 : (decide (x.kind = (4 : UInt8))) = false) => ?_)
        ·
          have hc18 := of_decide_eq_true hb18
          refine WC.seq ?_
          refine WC.region ?_
          refine WL.op rfl rfl (op_fieldAddr rfl Fa.F36_1 ?_)
          refine WL.op rfl rfl (op_load rfl (H1.cell (i := 0) rfl rfl) Try.underlying26 rfl ?_)
          refine WL.op rfl rfl (op_fieldAddr rfl Fa.F36_2 ?_)
          refine WL.op rfl rfl (op_load rfl (H1.cell (i := 0) rfl rfl) Try.underlying26 rfl ?_)
          refine WL.op rfl rfl (op_orU32 rfl rfl ?_)
          refine WL.op rfl rfl (op_eqlU32 (b := 0) rfl rfl ?_)
          refine WL.op rfl rfl (op_callF Fa.C41 rfl ((told_ok (decide ((x.n ||| x.m) = (0 : UInt32))) _).mono (fun e w19 hq => ?_)))
          obtain ⟨rfl, hf19⟩ := hq
          refine ⟨_, rfl, ?_⟩
          have H19 := H1.fr' hf19
          refine WL.op rfl rfl (op_assign rfl ?_)
          refine WL.nil ?_
          refine WQ.next ?_
          refine WC.ret ?_
          refine WQ.inRet ?_
          refine WQ.thenRet ?_
          refine WQ.out (.tmp rfl .nil) ?_
          exact ⟨by (rw [noteE, noteB, ← or_nil, hb2, hb6, hb12, hb18]) <;> rfl, H19.fr⟩
        ·
          have hc18 := of_decide_eq_false hb18
          refine WC.skip ?_
          refine WQ.inNormal ?_
          refine WQ.next ?_
          refine WC.seq ?_
          refine WC.region ?_
          refine WL.op rfl rfl (op_assign rfl ?_)
          refine WL.nil ?_
          refine WQ.next ?_
          refine WC.ret ?_
          refine WQ.out (.tmp rfl .nil) ?_
          exact ⟨by (rw [noteE, noteB, hb2, hb6, hb12, hb18]) <;> rfl, H1.fr⟩
end Go.Proofs.Ytnngbnenekjffaa
/-! from ESort -/
namespace Go.Proofs.Ytnngbnenekjffaa
open Go.Owl Go.Spec
set_option maxRecDepth 100000 in
theorem nan_ok (x : UInt16) (w : World) :
    Calls Try.prog 68 #[(vU16 x)] w (fun e w' => e = .returned (.bool false) ∧ Fr [] w w') := by
  refine enter (args := [(vU16 x)]) Try.func68 rfl rfl ?_
  have H0 : Own [] w w [] := Own.start w []
  refine WC.seq ?_
  refine WC.region ?_
  refine WL.op rfl rfl (op_assign rfl ?_)
  refine WL.nil ?_
  refine WQ.next ?_
  refine WC.seq ?_
  refine WC.region ?_
  refine WL.op rfl rfl (op_move rfl ?_)
  refine WL.op rfl rfl (op_move rfl ?_)
  refine WL.op rfl rfl (op_neqU16 rfl rfl ?_)
  refine WL.op rfl rfl (op_assign rfl ?_)
  refine WL.nil ?_
  refine WQ.next ?_
  refine WC.ret ?_
  refine WQ.out (.tmp rfl .nil) ?_
  exact ⟨by rw [show decide (x ≠ x) = false from decide_eq_false (fun h => h rfl)]; rfl, H0.fr⟩
set_option maxRecDepth 100000 in
theorem less_ok (x y : UInt16) (w : World) :
    Calls Try.prog 58 #[(vU16 x), (vU16 y)] w (fun e w' => e = .returned (.bool (ltU16 x y)) ∧ Fr [] w w') := by
  refine enter (args := [(vU16 x), (vU16 y)]) Try.func58 rfl rfl ?_
  have H0 : Own [] w w [] := Own.start w []
  refine WC.seq ?_
  refine WC.region ?_
  refine WL.op rfl rfl (op_assign rfl ?_)
  refine WL.nil ?_
  refine WQ.next ?_
  refine WC.seq ?_
  refine WC.region ?_
  refine WL.op rfl rfl (op_move rfl ?_)
  refine WL.op rfl rfl (op_callF Fa.C68 rfl ((nan_ok x _).mono (fun e w1 hq => ?_)))
  obtain ⟨rfl, hf1⟩ := hq
  refine ⟨_, rfl, ?_⟩
  have H1 := H0.fr' hf1
  refine WL.op rfl rfl (op_move rfl ?_)
  refine WL.no rfl rfl rfl rfl rfl ?_
  refine WL.no rfl rfl rfl rfl rfl ?_
  refine WL.no rfl rfl rfl rfl rfl ?_
  refine WL.op rfl rfl (op_pickF rfl rfl rfl ?_)
  refine WL.op rfl rfl (op_move rfl ?_)
  refine WL.yes rfl rfl rfl rfl rfl (op_move rfl ?_)
  refine WL.yes rfl rfl rfl rfl rfl (op_move rfl ?_)
  refine WL.yes rfl rfl rfl rfl rfl (op_lssU16 rfl rfl ?_)
  refine WL.op rfl rfl (op_pickF rfl rfl rfl ?_)
  refine WL.op rfl rfl (op_assign rfl ?_)
  refine WL.nil ?_
  refine WQ.next ?_
  refine WC.ret ?_
  refine WQ.out (.tmp rfl .nil) ?_
  exact ⟨rfl, H1.fr⟩
set_option maxRecDepth 100000 in
theorem ins_ok (v : Value) (n : Nat) (l : List UInt16) (a b : Nat) (T : List Nat) (w : World) (H : Own T w w [.row v 51 1 n (List.map vU16 l)]) (hn : l.length = n) (hN : n < 2 ^ 62) (hb : b ≤ n) (ha : a ≤ n) :
    Calls Try.prog 52 #[v, (vN a), (vN b)] w (fun e w' => ∃ l' : List UInt16, e = .returned undef ∧ (Sw 0 a b l l' ∧ SortS ltU16 0 a b l') ∧ Own T w w' [.row v 51 1 n (List.map vU16 l')]) := by
  refine enter (args := [v, (vN a), (vN b)]) Try.func52 rfl rfl ?_
  refine WC.seq ?_
  refine WC.region ?_
  refine WL.op rfl rfl (op_move rfl ?_)
  refine WL.op rfl rfl (op_addN (b := 1) rfl rfl (by omega) ?_)
  refine WL.op rfl rfl (op_assign rfl ?_)
  refine WL.nil ?_
  refine WQ.next ?_
  refine WC.block ?_
  refine WC.loop (α := Nat × List UInt16) (fun (i, l1) => [(0, v), (1, (vN a)), (2, (vN b)), (6, (vN i))]) (fun (i, l1) w' => (a + 1 ≤ i ∧ i ≤ max b (a + 1) ∧ Sw 0 a b l l1 ∧ SortS ltU16 0 a i l1) ∧ Own T w w' [.row v 51 1 n (List.map vU16 l1)]) (fun (i, l1) => b - i) (a + 1, l) ⟨⟨Nat.le_refl _, by omega, .refl _, SortS.nil (by omega)⟩, H⟩ ⟨rfl, rfl, rfl, rfl, trivial⟩ ?_
  rintro ⟨i, l1⟩ w1 ⟨⟨hi1, hi2, hs1, ho1⟩, H1⟩
  show WC _ _ _ _ _ [(0, v), (1, (vN a)), (2, (vN b)), (6, (vN i))] _
  have hL1 := hs1.len
  refine WC.seq ?_
  refine WC.seq ?_
  refine WC.region ?_
  refine WL.op rfl rfl (op_move rfl ?_)
  refine WL.op rfl rfl (op_move rfl ?_)
  refine WL.op rfl rfl (op_lssN rfl rfl ?_)
  refine WL.nil ?_
  refine WQ.next ?_
  refine WC.cond rfl (fun (hb2 : (decide (i < b)) = true) => ?_) (fun (hb2 : (decide (i < b)) = false) => ?_)
  ·
    have hc2 := of_decide_eq_true hb2
    refine WC.skip ?_
    refine WQ.next ?_
    refine WC.seq ?_
    refine WC.block ?_
    refine WC.seq ?_
    refine WC.region ?_
    refine WL.op rfl rfl (op_move rfl ?_)
    refine WL.op rfl rfl (op_assign rfl ?_)
    refine WL.nil ?_
    refine WQ.next ?_
    refine WC.block ?_
    refine WC.loop (α := Nat × List UInt16) (fun (j, l2) => [(0, v), (1, (vN a)), (2, (vN b)), (6, (vN i)), (7, (vN j))]) (fun (j, l2) w' => (a ≤ j ∧ j ≤ i ∧ Sw 0 a b l l2 ∧ InsI ltU16 0 a i j l2) ∧ Own T w w' [.row v 51 1 n (List.map vU16 l2)]) (fun (j, l2) => j) (i, l1) ⟨⟨by omega, Nat.le_refl _, hs1, ins_init ho1⟩, H1⟩ ⟨rfl, rfl, rfl, rfl, rfl, trivial⟩ ?_
    rintro ⟨j, l2⟩ w3 ⟨⟨hj1, hj2, hs2, hj3⟩, H3⟩
    show WC _ _ _ _ _ [(0, v), (1, (vN a)), (2, (vN b)), (6, (vN i)), (7, (vN j))] _
    have hL2 := hs2.len
    refine WC.seq ?_
    refine WC.seq ?_
    refine bsplit (fun (hb4 : (decide (j > a)) = true) => ?_) (fun (hb4 : (decide (j > a)) = false) => ?_)
    ·
      have hc4 := of_decide_eq_true hb4
      refine WC.draw 15 Fa.M H3 (HW.op rfl (fun w1 H1 => op_move rfl ⟨rfl, Fr.refl _ _⟩) (HW.op rfl (fun w1 H1 => op_move rfl ⟨rfl, Fr.refl _ _⟩) (HW.op rfl (fun w1 H1 => op_gtrN rfl rfl ⟨rfl, Fr.refl _ _⟩) (HW.op rfl (fun w1 H1 => op_move rfl ⟨rfl, Fr.refl _ _⟩) (HW.yes rfl rfl rfl hb4 (fun w1 H1 => op_move rfl ⟨rfl, Fr.refl _ _⟩) (HW.yes rfl rfl rfl hb4 (fun w1 H1 => op_move rfl ⟨rfl, Fr.refl _ _⟩) (HW.yes rfl rfl rfl hb4 (fun w1 H1 => op_indexAddr1 Try.underlying28 Fa.I51 rfl (H1.arrR (i := 0) rfl) rfl (by omega) ⟨rfl, Fr.refl _ _⟩) (HW.yes rfl rfl rfl hb4 (fun w1 H1 => op_load rfl ((H1.arrR (i := 0) rfl).at (get_map vU16 0 (Arr.ltM (H1.arrR (i := 0) rfl) (by omega)))) Try.underlying51 rfl ⟨rfl, Fr.refl _ _⟩) (HW.yes rfl rfl rfl hb4 (fun w1 H1 => op_move rfl ⟨rfl, Fr.refl _ _⟩) (HW.yes rfl rfl rfl hb4 (fun w1 H1 => op_move rfl ⟨rfl, Fr.refl _ _⟩) (HW.yes rfl rfl rfl hb4 (fun w1 H1 => op_subN (b := 1) rfl rfl (by omega) (by omega) ⟨rfl, Fr.refl _ _⟩) (HW.yes rfl rfl rfl hb4 (fun w1 H1 => op_indexAddr1 Try.underlying28 Fa.I51 rfl (H1.arrR (i := 0) rfl) rfl (by omega) ⟨rfl, Fr.refl _ _⟩) (HW.yes rfl rfl rfl hb4 (fun w1 H1 => op_load rfl ((H1.arrR (i := 0) rfl).at (get_map vU16 0 (Arr.ltM (H1.arrR (i := 0) rfl) (by omega)))) Try.underlying51 rfl ⟨rfl, Fr.refl _ _⟩) (HW.yes rfl rfl rfl hb4 (fun w1 H1 => op_callF Fa.C58 rfl ((less_ok (l2.getD j 0) (l2.getD (j - 1) 0) _).mono (fun e w2 hq => ⟨_, hq.1, rfl, hq.2⟩))) (HW.op rfl (fun w1 H1 => op_pickT rfl hb4 rfl ⟨rfl, Fr.refl _ _⟩)  HW.nil))))))))))))))) (by kernel_rfl) ?_
      intro β6 w6 H6
      refine WL.nil ?_
      refine WQ.next ?_
      refine WC.cond rfl (fun (hb7 : (ltU16 (l2.getD j 0) (l2.getD (j - 1) 0)) = true) => ?_) (fun (hb7 : (ltU16 (l2.getD j 0) (l2.getD (j - 1) 0)) = false) => ?_)
      ·
        refine WC.skip ?_
        refine WQ.next ?_
        refine WC.seq ?_
        refine WC.block ?_
        refine WC.held 18 rfl Fa.M H6 (fun w' => ∃ L', Own T w w' ([] ++ L')) ?_
        intro w8 H8
        refine WH.take (i := 0) (v := v) rfl rfl (.inl rfl) rfl (by kernel_rfl) ⟨[.row v 51 1 n (List.map vU16 l2)], H8⟩ (fun wX hSX => hSX.elim fun LX HX => op_move rfl ⟨rfl, rfl⟩) ?_
        refine WH.take (i := 1) (v := (vN j)) rfl rfl (.inl rfl) rfl (by kernel_rfl) ⟨[.row v 51 1 n (List.map vU16 l2)], H8⟩ (fun wX hSX => hSX.elim fun LX HX => op_move rfl ⟨rfl, rfl⟩) ?_
        refine WH.take (i := 2) (v := v) rfl rfl (.inl rfl) rfl (by kernel_rfl) ⟨[.row v 51 1 n (List.map vU16 l2)], H8⟩ (fun wX hSX => hSX.elim fun LX HX => op_move rfl ⟨rfl, rfl⟩) ?_
        refine WH.take (i := 3) (v := (vN j)) rfl rfl (.inl rfl) rfl (by kernel_rfl) ⟨[.row v 51 1 n (List.map vU16 l2)], H8⟩ (fun wX hSX => hSX.elim fun LX HX => op_move rfl ⟨rfl, rfl⟩) ?_
        refine WH.take (i := 4) (v := (vN (j - 1))) rfl rfl (.inl rfl) rfl (by kernel_rfl) ⟨[.row v 51 1 n (List.map vU16 l2)], H8⟩ (fun wX hSX => hSX.elim fun LX HX => op_subN (b := 1) rfl rfl (by omega) (by omega) ⟨rfl, rfl⟩) ?_
        refine WH.take (i := 5) (v := v) rfl rfl (.inl rfl) rfl (by kernel_rfl) ⟨[.row v 51 1 n (List.map vU16 l2)], H8⟩ (fun wX hSX => hSX.elim fun LX HX => op_move rfl ⟨rfl, rfl⟩) ?_
        refine WH.take (i := 6) (v := (vN j)) rfl rfl (.inl rfl) rfl (by kernel_rfl) ⟨[.row v 51 1 n (List.map vU16 l2)], H8⟩ (fun wX hSX => hSX.elim fun LX HX => op_move rfl ⟨rfl, rfl⟩) ?_
        refine WH.take (i := 7) (v := (vN (j - 1))) rfl rfl (.inl rfl) rfl (by kernel_rfl) ⟨[.row v 51 1 n (List.map vU16 l2)], H8⟩ (fun wX hSX => hSX.elim fun LX HX => op_subN (b := 1) rfl rfl (by omega) (by omega) ⟨rfl, rfl⟩) ?_
        refine WH.take (i := 8) (v := (.pointer (some (sp v (j - 1))))) rfl rfl (.inl rfl) rfl (by kernel_rfl) ⟨[.row v 51 1 n (List.map vU16 l2)], H8⟩ (fun wX hSX => hSX.elim fun LX HX => op_indexAddr1W Try.underlying28 Fa.I51 rfl (H8.arrR (i := 0) rfl) rfl (by omega) ⟨rfl, rfl⟩) ?_
        refine WH.take (i := 10) (v := v) rfl rfl (.inl rfl) rfl (by kernel_rfl) ⟨[.row v 51 1 n (List.map vU16 l2)], H8⟩ (fun wX hSX => hSX.elim fun LX HX => op_move rfl ⟨rfl, rfl⟩) ?_
        refine WH.take (i := 11) (v := (vN j)) rfl rfl (.inl rfl) rfl (by kernel_rfl) ⟨[.row v 51 1 n (List.map vU16 l2)], H8⟩ (fun wX hSX => hSX.elim fun LX HX => op_move rfl ⟨rfl, rfl⟩) ?_
        refine WH.take (i := 12) (v := (.pointer (some (sp v j)))) rfl rfl (.inl rfl) rfl (by kernel_rfl) ⟨[.row v 51 1 n (List.map vU16 l2)], H8⟩ (fun wX hSX => hSX.elim fun LX HX => op_indexAddr1W Try.underlying28 Fa.I51 rfl (H8.arrR (i := 0) rfl) rfl (by omega) ⟨rfl, rfl⟩) ?_
        refine WH.named (fun W hW => ?_)
        have st6_5 : ∀ (wS : World), Own T w wS [.row v 51 1 n (List.map vU16 ((l2.set j (l2.getD (j - 1) 0)).set (j - 1) (l2.getD j 0)))] → W 0 #[true, true, true, true, true, true, true, true, true, true, true, true, true, true, true, true, true, true] [(0, v), (1, (vN a)), (2, (vN b)), (6, (vN i)), (7, (vN j)), (16, (vN j)), (17, (vN a)), (18, (.bool (decide (j > a)))), (19, (.bool (decide (j > a)))), (20, v), (21, (vN j)), (22, (.pointer (some (sp v j)))), (23, (vU16 (l2.getD j 0))), (24, v), (25, (vN j)), (26, (vN (j - 1))), (27, (.pointer (some (sp v (j - 1))))), (28, (vU16 (l2.getD (j - 1) 0))), (29, (.bool (ltU16 (l2.getD j 0) (l2.getD (j - 1) 0)))), (30, (.bool (ltU16 (l2.getD j 0) (l2.getD (j - 1) 0)))), (33, v), (34, (vN j)), (35, v), (36, (vN j)), (37, (vN (j - 1))), (38, v), (39, (vN j)), (40, (vN (j - 1))), (41, (.pointer (some (sp v (j - 1))))), (42, (vU16 (l2.getD (j - 1) 0))), (43, v), (44, (vN j)), (45, (.pointer (some (sp v j)))), (46, (vU16 (l2.getD j 0))), (47, (.pointer (some (sp v j)))), (48, (.pointer (some (sp v (j - 1)))))] wS := by
          intro wS HS
          rw [hW]
          refine WH.done (by kernel_rfl) ?_
          refine WQ.inNormal ?_
          refine WQ.next ?_
          refine WC.region ?_
          refine WL.op rfl rfl (op_move rfl ?_)
          refine WL.op rfl rfl (op_subN (b := 1) rfl rfl (by omega) (by omega) ?_)
          refine WL.op rfl rfl (op_assign rfl ?_)
          refine WL.nil ?_
          exact WQ.round (j - 1, swapL 0 l2 j (j - 1)) ⟨⟨by omega, by omega, hs2.step (by omega) (by omega) (by omega) (by omega), ins_step ltU16OK (by omega) hj3 (by omega) hj2 hb7⟩, HS⟩ ⟨rfl, rfl, rfl, rfl, rfl, trivial⟩ (by show j - 1 < j; omega)
        have st6_4 : ∀ (wS : World), Own T w wS [.row v 51 1 n (List.map vU16 (l2.set j (l2.getD (j - 1) 0)))] → W 1 #[true, true, true, true, true, true, true, true, true, true, true, true, true, true, true, true, true, false] [(0, v), (1, (vN a)), (2, (vN b)), (6, (vN i)), (7, (vN j)), (16, (vN j)), (17, (vN a)), (18, (.bool (decide (j > a)))), (19, (.bool (decide (j > a)))), (20, v), (21, (vN j)), (22, (.pointer (some (sp v j)))), (23, (vU16 (l2.getD j 0))), (24, v), (25, (vN j)), (26, (vN (j - 1))), (27, (.pointer (some (sp v (j - 1))))), (28, (vU16 (l2.getD (j - 1) 0))), (29, (.bool (ltU16 (l2.getD j 0) (l2.getD (j - 1) 0)))), (30, (.bool (ltU16 (l2.getD j 0) (l2.getD (j - 1) 0)))), (33, v), (34, (vN j)), (35, v), (36, (vN j)), (37, (vN (j - 1))), (38, v), (39, (vN j)), (40, (vN (j - 1))), (41, (.pointer (some (sp v (j - 1))))), (42, (vU16 (l2.getD (j - 1) 0))), (43, v), (44, (vN j)), (45, (.pointer (some (sp v j)))), (46, (vU16 (l2.getD j 0))), (47, (.pointer (some (sp v j)))), (48, (.pointer (some (sp v (j - 1)))))] wS := by
          intro wS HS
          rw [hW]
          refine WH.all1 (i := 17) (by kernel_rfl) ?_
          ·
            refine WHS.op (i := 17) rfl (.inl rfl) rfl (op_storeRM (i := 0) (f := vU16) (l := (l2.set j (l2.getD (j - 1) 0))) (c := (l2.getD j 0)) HS rfl rfl rfl (by omega) rfl Fa.I51 (fun w19341 H19341 => ?_))
            refine ⟨⟨[.row v 51 1 n (List.map vU16 ((l2.set j (l2.getD (j - 1) 0)).set (j - 1) (l2.getD j 0)))], H19341⟩, ?_⟩
            have hq := st6_5 w19341 H19341
            rw [hW] at hq
            refine WH.cov ?_ hq
            exact by repeat (first | exact trivial | refine ⟨rfl, ?_⟩)
        have st6_3 : ∀ (wS : World), Own T w wS [.row v 51 1 n (List.map vU16 l2)] → W 3 #[true, true, true, true, true, true, true, true, true, true, true, true, true, true, true, false, false, false] [(0, v), (1, (vN a)), (2, (vN b)), (6, (vN i)), (7, (vN j)), (16, (vN j)), (17, (vN a)), (18, (.bool (decide (j > a)))), (19, (.bool (decide (j > a)))), (20, v), (21, (vN j)), (22, (.pointer (some (sp v j)))), (23, (vU16 (l2.getD j 0))), (24, v), (25, (vN j)), (26, (vN (j - 1))), (27, (.pointer (some (sp v (j - 1))))), (28, (vU16 (l2.getD (j - 1) 0))), (29, (.bool (ltU16 (l2.getD j 0) (l2.getD (j - 1) 0)))), (30, (.bool (ltU16 (l2.getD j 0) (l2.getD (j - 1) 0)))), (33, v), (34, (vN j)), (35, v), (36, (vN j)), (37, (vN (j - 1))), (38, v), (39, (vN j)), (40, (vN (j - 1))), (41, (.pointer (some (sp v (j - 1))))), (42, (vU16 (l2.getD (j - 1) 0))), (43, v), (44, (vN j)), (45, (.pointer (some (sp v j)))), (46, (vU16 (l2.getD j 0))), (47, (.pointer (some (sp v j))))] wS := by
          intro wS HS
          rw [hW]
          refine WH.all1 (i := 15) (by kernel_rfl) ?_
          ·
            refine WHS.op (i := 15) rfl (.inl rfl) rfl (op_storeRM (i := 0) (f := vU16) (l := l2) (c := (l2.getD (j - 1) 0)) HS rfl rfl rfl (by omega) rfl Fa.I51 (fun w19301 H19301 => ?_))
            refine ⟨⟨[.row v 51 1 n (List.map vU16 (l2.set j (l2.getD (j - 1) 0)))], H19301⟩, ?_⟩
            refine WH.take (i := 16) (v := (.pointer (some (sp v (j - 1))))) rfl rfl (.inl rfl) rfl (by kernel_rfl) ⟨[.row v 51 1 n (List.map vU16 (l2.set j (l2.getD (j - 1) 0)))], H19301⟩ (fun wX hSX => hSX.elim fun LX HX => op_indexAddr1W Try.underlying28 Fa.I51 rfl (H19301.arrR (i := 0) rfl) rfl (by omega) ⟨rfl, rfl⟩) ?_
            have hq := st6_4 w19301 H19301
            rw [hW] at hq
            refine WH.cov ?_ hq
            exact by repeat (first | exact trivial | refine ⟨rfl, ?_⟩)
        have st6_1 : ∀ (wS : World), Own T w wS [.row v 51 1 n (List.map vU16 l2)] → W 5 #[true, true, true, true, true, true, true, true, true, true, true, true, true, false, false, false, false, false] [(0, v), (1, (vN a)), (2, (vN b)), (6, (vN i)), (7, (vN j)), (16, (vN j)), (17, (vN a)), (18, (.bool (decide (j > a)))), (19, (.bool (decide (j > a)))), (20, v), (21, (vN j)), (22, (.pointer (some (sp v j)))), (23, (vU16 (l2.getD j 0))), (24, v), (25, (vN j)), (26, (vN (j - 1))), (27, (.pointer (some (sp v (j - 1))))), (28, (vU16 (l2.getD (j - 1) 0))), (29, (.bool (ltU16 (l2.getD j 0) (l2.getD (j - 1) 0)))), (30, (.bool (ltU16 (l2.getD j 0) (l2.getD (j - 1) 0)))), (33, v), (34, (vN j)), (35, v), (36, (vN j)), (37, (vN (j - 1))), (38, v), (39, (vN j)), (40, (vN (j - 1))), (41, (.pointer (some (sp v (j - 1))))), (42, (vU16 (l2.getD (j - 1) 0))), (43, v), (44, (vN j)), (45, (.pointer (some (sp v j))))] wS := by
          intro wS HS
          rw [hW]
          refine WH.all1 (i := 13) (by kernel_rfl) ?_
          ·
            refine WHS.op (i := 13) rfl (.inl rfl) rfl (op_load rfl ((HS.arrR (i := 0) rfl).at (get_map vU16 0 (Arr.ltM (HS.arrR (i := 0) rfl) (by omega)))) Try.underlying51 rfl ?_)
            refine ⟨⟨[.row v 51 1 n (List.map vU16 l2)], HS⟩, ?_⟩
            refine WH.take (i := 14) (v := (.pointer (some (sp v j)))) rfl rfl (.inl rfl) rfl (by kernel_rfl) ⟨[.row v 51 1 n (List.map vU16 l2)], HS⟩ (fun wX hSX => hSX.elim fun LX HX => op_indexAddr1W Try.underlying28 Fa.I51 rfl (HS.arrR (i := 0) rfl) rfl (by omega) ⟨rfl, rfl⟩) ?_
            have hq := st6_3 wS HS
            rw [hW] at hq
            refine WH.cov ?_ hq
            exact by repeat (first | exact trivial | refine ⟨rfl, ?_⟩)
        have st6_2 : ∀ (wS : World), Own T w wS [.row v 51 1 n (List.map vU16 l2)] → W 5 #[true, true, true, true, true, true, true, true, true, false, true, true, true, true, false, false, false, false] [(0, v), (1, (vN a)), (2, (vN b)), (6, (vN i)), (7, (vN j)), (16, (vN j)), (17, (vN a)), (18, (.bool (decide (j > a)))), (19, (.bool (decide (j > a)))), (20, v), (21, (vN j)), (22, (.pointer (some (sp v j)))), (23, (vU16 (l2.getD j 0))), (24, v), (25, (vN j)), (26, (vN (j - 1))), (27, (.pointer (some (sp v (j - 1))))), (28, (vU16 (l2.getD (j - 1) 0))), (29, (.bool (ltU16 (l2.getD j 0) (l2.getD (j - 1) 0)))), (30, (.bool (ltU16 (l2.getD j 0) (l2.getD (j - 1) 0)))), (33, v), (34, (vN j)), (35, v), (36, (vN j)), (37, (vN (j - 1))), (38, v), (39, (vN j)), (40, (vN (j - 1))), (41, (.pointer (some (sp v (j - 1))))), (43, v), (44, (vN j)), (45, (.pointer (some (sp v j)))), (46, (vU16 (l2.getD j 0)))] wS := by
          intro wS HS
          rw [hW]
          refine WH.all1 (i := 9) (by kernel_rfl) ?_
          ·
            refine WHS.op (i := 9) rfl (.inl rfl) rfl (op_load rfl ((HS.arrR (i := 0) rfl).at (get_map vU16 0 (Arr.ltM (HS.arrR (i := 0) rfl) (by omega)))) Try.underlying51 rfl ?_)
            refine ⟨⟨[.row v 51 1 n (List.map vU16 l2)], HS⟩, ?_⟩
            refine WH.take (i := 14) (v := (.pointer (some (sp v j)))) rfl rfl (.inl rfl) rfl (by kernel_rfl) ⟨[.row v 51 1 n (List.map vU16 l2)], HS⟩ (fun wX hSX => hSX.elim fun LX HX => op_indexAddr1W Try.underlying28 Fa.I51 rfl (HS.arrR (i := 0) rfl) rfl (by omega) ⟨rfl, rfl⟩) ?_
            have hq := st6_3 wS HS
            rw [hW] at hq
            refine WH.cov ?_ hq
            exact by repeat (first | exact trivial | refine ⟨rfl, ?_⟩)
        have st6_0 : ∀ (wS : World), Own T w wS [.row v 51 1 n (List.map vU16 l2)] → W 6 #[true, true, true, true, true, true, true, true, true, false, true, true, true, false, false, false, false, false] [(0, v), (1, (vN a)), (2, (vN b)), (6, (vN i)), (7, (vN j)), (16, (vN j)), (17, (vN a)), (18, (.bool (decide (j > a)))), (19, (.bool (decide (j > a)))), (20, v), (21, (vN j)), (22, (.pointer (some (sp v j)))), (23, (vU16 (l2.getD j 0))), (24, v), (25, (vN j)), (26, (vN (j - 1))), (27, (.pointer (some (sp v (j - 1))))), (28, (vU16 (l2.getD (j - 1) 0))), (29, (.bool (ltU16 (l2.getD j 0) (l2.getD (j - 1) 0)))), (30, (.bool (ltU16 (l2.getD j 0) (l2.getD (j - 1) 0)))), (33, v), (34, (vN j)), (35, v), (36, (vN j)), (37, (vN (j - 1))), (38, v), (39, (vN j)), (40, (vN (j - 1))), (41, (.pointer (some (sp v (j - 1))))), (43, v), (44, (vN j)), (45, (.pointer (some (sp v j))))] wS := by
          intro wS HS
          rw [hW]
          refine WH.all2 (i := 9) (j := 13) (by kernel_rfl) ?_ ?_
          ·
            refine WHS.op (i := 9) rfl (.inl rfl) rfl (op_load rfl ((HS.arrR (i := 0) rfl).at (get_map vU16 0 (Arr.ltM (HS.arrR (i := 0) rfl) (by omega)))) Try.underlying51 rfl ?_)
            refine ⟨⟨[.row v 51 1 n (List.map vU16 l2)], HS⟩, ?_⟩
            have hq := st6_1 wS HS
            rw [hW] at hq
            refine WH.cov ?_ hq
            exact by repeat (first | exact trivial | refine ⟨rfl, ?_⟩)
          ·
            refine WHS.op (i := 13) rfl (.inl rfl) rfl (op_load rfl ((HS.arrR (i := 0) rfl).at (get_map vU16 0 (Arr.ltM (HS.arrR (i := 0) rfl) (by omega)))) Try.underlying51 rfl ?_)
            refine ⟨⟨[.row v 51 1 n (List.map vU16 l2)], HS⟩, ?_⟩
            have hq := st6_2 wS HS
            rw [hW] at hq
            refine WH.cov ?_ hq
            exact by repeat (first | exact trivial | refine ⟨rfl, ?_⟩)
        have hq := st6_0 w8 H8
        rw [hW] at hq ⊢
        refine WH.cov ?_ hq
        exact by repeat (first | exact trivial | refine ⟨rfl, ?_⟩)
      ·
        refine WC.exit ?_
        refine WQ.thenExit ?_
        refine WQ.thenExit ?_
        refine WQ.inHere ?_
        refine WQ.inNormal ?_
        refine WQ.next ?_
        refine WC.region ?_
        refine WL.op rfl rfl (op_move rfl ?_)
        refine WL.op rfl rfl (op_addN (b := 1) rfl rfl (by omega) ?_)
        refine WL.op rfl rfl (op_assign rfl ?_)
        refine WL.nil ?_
        exact WQ.round (i + 1, l2) ⟨⟨by omega, by omega, hs2, ins_done ltU16OK hj3 (.inr hb7) hj1⟩, H6⟩ ⟨rfl, rfl, rfl, rfl, trivial⟩ (by show b - (i + 1) < b - i; omega)
    ·
      have hc4 := of_decide_eq_false hb4
      refine WC.draw 15 Fa.M H3 (HW.op rfl (fun w1 H1 => op_move rfl ⟨rfl, Fr.refl _ _⟩) (HW.op rfl (fun w1 H1 => op_move rfl ⟨rfl, Fr.refl _ _⟩) (HW.op rfl (fun w1 H1 => op_gtrN rfl rfl ⟨rfl, Fr.refl _ _⟩) (HW.op rfl (fun w1 H1 => op_move rfl ⟨rfl, Fr.refl _ _⟩) (HW.no rfl rfl rfl hb4 (HW.no rfl rfl rfl hb4 (HW.no rfl rfl rfl hb4 (HW.no rfl rfl rfl hb4 (HW.no rfl rfl rfl hb4 (HW.no rfl rfl rfl hb4 (HW.no rfl rfl rfl hb4 (HW.no rfl rfl rfl hb4 (HW.no rfl rfl rfl hb4 (HW.no rfl rfl rfl hb4 (HW.op rfl (fun w1 H1 => op_pickF rfl hb4 rfl ⟨rfl, Fr.refl _ _⟩)  HW.nil))))))))))))))) (by kernel_rfl) ?_
      intro β10 w10 H10
      refine WL.nil ?_
      refine WQ.next ?_
      refine WC.no rfl rfl ?_
      refine WC.exit ?_
      refine WQ.thenExit ?_
      refine WQ.thenExit ?_
      refine WQ.inHere ?_
      refine WQ.inNormal ?_
      refine WQ.next ?_
      refine WC.region ?_
      refine WL.op rfl rfl (op_move rfl ?_)
      refine WL.op rfl rfl (op_addN (b := 1) rfl rfl (by omega) ?_)
      refine WL.op rfl rfl (op_assign rfl ?_)
      refine WL.nil ?_
      exact WQ.round (i + 1, l2) ⟨⟨by omega, by omega, hs2, ins_done ltU16OK hj3 (.inl (by omega)) hj1⟩, H10⟩ ⟨rfl, rfl, rfl, rfl, trivial⟩ (by show b - (i + 1) < b - i; omega)
  ·
    have hc2 := of_decide_eq_false hb2
    refine WC.exit ?_
    refine WQ.thenExit ?_
    refine WQ.thenExit ?_
    refine WQ.inHere ?_
    refine WQ.outEnd .nil ?_
    exact ⟨_, rfl, ⟨hs1, fun p q h1 h2 h3 => ho1 p q h1 h2 (by omega)⟩, H1⟩
end Go.Proofs.Ytnngbnenekjffaa
