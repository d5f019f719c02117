/- General lemmas and walks: WRef2, WMac, WBuild, WSlot, WRep. No condition but what each theorem names. -/
import Derived.Test.YtbjhccnffacbcaaGreatQe22db859
import Derived.Test.YtbjhccnffacbcaaGreatQ54427b1e
import Derived.Shelf.Strings.Repeat
import Derived.Ground.Names2Prog
import Derived.Test.YtbjhccnffacbcaaGreatProg
/-! from WRef2 -/
namespace Go.Proofs.YtbjhccnffacbcaaGreat
open Go.Owl Go.Spec
set_option maxRecDepth 100000 in
theorem mul_ok (va vb : Value) (a b : List UInt32) (na nb : Nat) (w : World) (hVA : Arr w va 1 na (List.map vU32 a)) (hVB : Arr w vb 1 nb (List.map vU32 b)) (hs : na + nb ≤ 1000) :
    Calls Tryz.prog 246 #[va, vb] w (fun e w' => ∃ v, e = .returned v ∧ Own [] w w' [.row v 22 1 (na + nb) (List.map vU32 (mulL a b))]) := by
  refine enter (args := [va, vb]) Tryz.func246 rfl rfl ?_
  have H0 : Own [] w w [] := Own.start w []
  obtain rfl := hVA.mapLen
  obtain rfl := hVB.mapLen
  refine WC.seq ?_
  refine WC.region ?_
  refine WL.op rfl rfl (op_assign rfl ?_)
  refine WL.nil ?_
  refine WQ.next ?_
  refine WC.seq ?_
  refine WC.region ?_
  refine WL.op rfl rfl (op_move rfl ?_)
  refine WL.op rfl rfl (op_lenA Tryz.underlying73 rfl (H0.arr hVA) ?_)
  refine WL.op rfl rfl (op_move rfl ?_)
  refine WL.op rfl rfl (op_lenA Tryz.underlying73 rfl (H0.arr hVB) ?_)
  refine WL.op rfl rfl (op_addN rfl rfl (by omega) ?_)
  refine WL.op rfl rfl (op_makeSliceM (f := vU32) (c := 0) H0 Tryz.underlying73 Fa.I22 rfl rfl (by omega) (by omega) (fun b1 w1 H1 => ?_))
  refine WL.op rfl rfl (op_assign rfl ?_)
  refine WL.nil ?_
  refine WQ.next ?_
  refine WC.seq ?_
  refine WC.seq ?_
  refine WC.region ?_
  refine WL.op rfl rfl (op_assign rfl ?_)
  refine WL.nil ?_
  refine WQ.next ?_
  refine WC.block ?_
  refine WC.loop (α := Nat) (fun i => [(0, va), (1, vb), (5, (.slice (some ⟨b1, 0, none⟩) (a.length + b.length) (a.length + b.length))), (6, (vN i))]) (fun i w' => (i ≤ a.length) ∧ Own [] w w' [.row (.slice (some ⟨b1, 0, none⟩) (a.length + b.length) (a.length + b.length)) 22 1 (a.length + b.length) (List.map vU32 (mulOut a b i))]) (fun i => a.length - i) 0 ⟨(by omega), H1⟩ ⟨rfl, rfl, rfl, rfl, trivial⟩ ?_
  rintro i w2 ⟨hinv, H2⟩
  show WC _ _ _ _ _ [(0, va), (1, vb), (5, (.slice (some ⟨b1, 0, none⟩) (a.length + b.length) (a.length + b.length))), (6, (vN i))] _
  have hl1 := mulOut_length a b i
  refine WC.seq ?_
  refine WC.seq ?_
  refine WC.region ?_
  refine WL.op rfl rfl (op_move rfl ?_)
  refine WL.op rfl rfl (op_move rfl ?_)
  refine WL.op rfl rfl (op_lenA Tryz.underlying73 rfl (H2.arr hVA) ?_)
  refine WL.op rfl rfl (op_lssN rfl rfl ?_)
  refine WL.nil ?_
  refine WQ.next ?_
  refine WC.cond rfl (fun (hb3 : (decide (i < a.length)) = true) => ?_) (fun (hb3 : (decide (i < a.length)) = false) => ?_)
  ·
    have hc3 := of_decide_eq_true hb3
    refine WC.skip ?_
    refine WQ.next ?_
    refine WC.seq ?_
    refine WC.block ?_
    refine WC.seq ?_
    refine WC.region ?_
    refine WL.op rfl rfl (op_assign rfl ?_)
    refine WL.nil ?_
    refine WQ.next ?_
    refine WC.seq ?_
    refine WC.seq ?_
    refine WC.region ?_
    refine WL.op rfl rfl (op_assign rfl ?_)
    refine WL.nil ?_
    refine WQ.next ?_
    refine WC.block ?_
    refine WC.loop (α := Nat) (fun j => [(0, va), (1, vb), (5, (.slice (some ⟨b1, 0, none⟩) (a.length + b.length) (a.length + b.length))), (6, (vN i)), (7, (vU64 (mulIn (a.getD i 0) b i (mulOut a b i) j).2)), (8, (vN j))]) (fun j w' => (j ≤ b.length) ∧ Own [] w w' [.row (.slice (some ⟨b1, 0, none⟩) (a.length + b.length) (a.length + b.length)) 22 1 (a.length + b.length) (List.map vU32 (mulIn (a.getD i 0) b i (mulOut a b i) j).1)]) (fun j => b.length - j) 0 ⟨(by omega), H2⟩ ⟨rfl, rfl, rfl, rfl, rfl, rfl, trivial⟩ ?_
    rintro j w4 ⟨hinv, H4⟩
    show WC _ _ _ _ _ [(0, va), (1, vb), (5, (.slice (some ⟨b1, 0, none⟩) (a.length + b.length) (a.length + b.length))), (6, (vN i)), (7, (vU64 (mulIn (a.getD i 0) b i (mulOut a b i) j).2)), (8, (vN j))] _
    refine WC.seq ?_
    refine WC.seq ?_
    refine WC.region ?_
    refine WL.op rfl rfl (op_move rfl ?_)
    refine WL.op rfl rfl (op_move rfl ?_)
    refine WL.op rfl rfl (op_lenA Tryz.underlying73 rfl (H4.arr hVB) ?_)
    refine WL.op rfl rfl (op_lssN rfl rfl ?_)
    refine WL.nil ?_
    refine WQ.next ?_
    refine WC.cond rfl (fun (hb5 : (decide (j < b.length)) = true) => ?_) (fun (hb5 : (decide (j < b.length)) = false) => ?_)
    ·
      have hc5 := of_decide_eq_true hb5
      refine WC.skip ?_
      refine WQ.next ?_
      refine WC.seq ?_
      refine WC.block ?_
      refine WC.seq ?_
      refine WC.draw 22 Fa.M H4 (HW.op rfl (fun w1 H1 => op_move rfl ⟨rfl, Fr.refl _ _⟩) (HW.op rfl (fun w1 H1 => op_move rfl ⟨rfl, Fr.refl _ _⟩) (HW.op rfl (fun w1 H1 => op_indexAddr1 Tryz.underlying73 Fa.I22 rfl (H1.arr hVA) rfl (by omega) ⟨rfl, Fr.refl _ _⟩) (HW.op rfl (fun w1 H1 => op_load rfl ((H1.arr hVA).at (get_map vU32 0 (Arr.ltM (H1.arr hVA) (by omega)))) Tryz.underlying22 rfl ⟨rfl, Fr.refl _ _⟩) (HW.op rfl (fun w1 H1 => op_convU32U64 (hs := Tryz.underlying22) (hd := Tryz.underlying154) rfl ⟨rfl, Fr.refl _ _⟩) (HW.op rfl (fun w1 H1 => op_move rfl ⟨rfl, Fr.refl _ _⟩) (HW.op rfl (fun w1 H1 => op_move rfl ⟨rfl, Fr.refl _ _⟩) (HW.op rfl (fun w1 H1 => op_indexAddr1 Tryz.underlying73 Fa.I22 rfl (H1.arr hVB) rfl (by omega) ⟨rfl, Fr.refl _ _⟩) (HW.op rfl (fun w1 H1 => op_load rfl ((H1.arr hVB).at (get_map vU32 0 (Arr.ltM (H1.arr hVB) (by omega)))) Tryz.underlying22 rfl ⟨rfl, Fr.refl _ _⟩) (HW.op rfl (fun w1 H1 => op_convU32U64 (hs := Tryz.underlying22) (hd := Tryz.underlying154) rfl ⟨rfl, Fr.refl _ _⟩) (HW.op rfl (fun w1 H1 => op_mulU64 rfl rfl ⟨rfl, Fr.refl _ _⟩) (HW.op rfl (fun w1 H1 => op_move rfl ⟨rfl, Fr.refl _ _⟩) (HW.op rfl (fun w1 H1 => op_move rfl ⟨rfl, Fr.refl _ _⟩) (HW.op rfl (fun w1 H1 => op_move rfl ⟨rfl, Fr.refl _ _⟩) (HW.op rfl (fun w1 H1 => op_addN rfl rfl (by omega) ⟨rfl, Fr.refl _ _⟩) (HW.op rfl (fun w1 H1 => op_indexAddr1 Tryz.underlying73 Fa.I22 rfl (H1.arrR (i := 0) rfl) rfl (by omega) ⟨rfl, Fr.refl _ _⟩) (HW.op rfl (fun w1 H1 => op_load rfl ((H1.arrR (i := 0) rfl).at (get_map vU32 0 (Arr.ltM (H1.arrR (i := 0) rfl) (by omega)))) Tryz.underlying22 rfl ⟨rfl, Fr.refl _ _⟩) (HW.op rfl (fun w1 H1 => op_convU32U64 (hs := Tryz.underlying22) (hd := Tryz.underlying154) rfl ⟨rfl, Fr.refl _ _⟩) (HW.op rfl (fun w1 H1 => op_addU64 rfl rfl ⟨rfl, Fr.refl _ _⟩) (HW.op rfl (fun w1 H1 => op_move rfl ⟨rfl, Fr.refl _ _⟩) (HW.op rfl (fun w1 H1 => op_addU64 rfl rfl ⟨rfl, Fr.refl _ _⟩) (HW.op rfl (fun w1 H1 => op_assign rfl ⟨rfl, Fr.refl _ _⟩)  HW.nil)))))))))))))))))))))) (by kernel_rfl) ?_
      intro β6 w6 H6
      refine WL.nil ?_
      refine WQ.next ?_
      refine WC.seq ?_
      refine WC.region ?_
      refine WL.op rfl rfl (op_move rfl ?_)
      refine WL.op rfl rfl (op_move rfl ?_)
      refine WL.op rfl rfl (op_move rfl ?_)
      refine WL.op rfl rfl (op_addN rfl rfl (by omega) ?_)
      refine WL.op rfl rfl (op_move rfl ?_)
      refine WL.op rfl rfl (op_remU64 (b := 4294967296) rfl rfl (by decide) ?_)
      refine WL.op rfl rfl (op_convU64U32 (hs := Tryz.underlying154) (hd := Tryz.underlying22) rfl ?_)
      refine WL.op rfl rfl (op_indexAddr1 Tryz.underlying73 Fa.I22 rfl (H6.arrR (i := 0) rfl) rfl (by omega) ?_)
      refine WL.op rfl rfl (op_storeRM (i := 0) (f := vU32) (l := (mulIn (a.getD i 0) b i (mulOut a b i) j).1) (c := (UInt32.ofNat (((((UInt64.ofNat (a.getD i 0).toNat) * (UInt64.ofNat (b.getD j 0).toNat)) + (UInt64.ofNat ((mulIn (a.getD i 0) b i (mulOut a b i) j).1.getD (i + j) 0).toNat)) + (mulIn (a.getD i 0) b i (mulOut a b i) j).2) % (4294967296 : UInt64)).toNat)) H6 rfl rfl rfl (by omega) rfl Fa.I22 (fun w7 H7 => ?_))
      refine WL.nil ?_
      refine WQ.next ?_
      refine WC.region ?_
      refine WL.op rfl rfl (op_move rfl ?_)
      refine WL.op rfl rfl (op_shrU64 (s := 32) rfl rfl ?_)
      refine WL.op rfl rfl (op_assign rfl ?_)
      refine WL.nil ?_
      refine WQ.inNormal ?_
      refine WQ.next ?_
      refine WC.region ?_
      refine WL.op rfl rfl (op_move rfl ?_)
      refine WL.op rfl rfl (op_addN (b := 1) rfl rfl (by omega) ?_)
      refine WL.op rfl rfl (op_assign rfl ?_)
      refine WL.nil ?_
      exact WQ.round (j + 1) ⟨(by omega), H7⟩ ⟨rfl, rfl, rfl, rfl, rfl, rfl, trivial⟩ (by omega)
    ·
      have hc5 := of_decide_eq_false hb5
      have hj : j = b.length := (by omega)
      subst hj
      refine WC.exit ?_
      refine WQ.thenExit ?_
      refine WQ.thenExit ?_
      refine WQ.inHere ?_
      refine WQ.next ?_
      refine WC.region ?_
      refine WL.op rfl rfl (op_move rfl ?_)
      refine WL.op rfl rfl (op_move rfl ?_)
      refine WL.op rfl rfl (op_move rfl ?_)
      refine WL.op rfl rfl (op_lenA Tryz.underlying73 rfl (H4.arr hVB) ?_)
      refine WL.op rfl rfl (op_addN rfl rfl (by omega) ?_)
      refine WL.op rfl rfl (op_move rfl ?_)
      refine WL.op rfl rfl (op_convU64U32 (hs := Tryz.underlying154) (hd := Tryz.underlying22) rfl ?_)
      refine WL.op rfl rfl (op_indexAddr1 Tryz.underlying73 Fa.I22 rfl (H4.arrR (i := 0) rfl) rfl (by omega) ?_)
      refine WL.op rfl rfl (op_storeRM (i := 0) (f := vU32) (l := (mulIn (a.getD i 0) b i (mulOut a b i) b.length).1) (c := (UInt32.ofNat (mulIn (a.getD i 0) b i (mulOut a b i) b.length).2.toNat)) H4 rfl rfl rfl (by omega) rfl Fa.I22 (fun w8 H8 => ?_))
      refine WL.nil ?_
      refine WQ.inNormal ?_
      refine WQ.next ?_
      refine WC.region ?_
      refine WL.op rfl rfl (op_move rfl ?_)
      refine WL.op rfl rfl (op_addN (b := 1) rfl rfl (by omega) ?_)
      refine WL.op rfl rfl (op_assign rfl ?_)
      refine WL.nil ?_
      exact WQ.round (i + 1) ⟨(by omega), H8⟩ ⟨rfl, rfl, rfl, rfl, trivial⟩ (by omega)
  ·
    have hc3 := of_decide_eq_false hb3
    refine WC.exit ?_
    refine WQ.thenExit ?_
    refine WQ.thenExit ?_
    refine WQ.inHere ?_
    refine WQ.next ?_
    refine WC.seq ?_
    refine WC.region ?_
    refine WL.op rfl rfl (op_move rfl ?_)
    refine WL.op rfl rfl (op_assign rfl ?_)
    refine WL.nil ?_
    refine WQ.next ?_
    refine WC.ret ?_
    refine WQ.out (.tmp rfl .nil) ?_
    exact ⟨_, rfl, (by have hi : i = a.length := (by omega); subst hi; exact H2)⟩
set_option maxRecDepth 100000 in
theorem above_ok (va : Value) (a : List UInt32) (p : UInt32) (na n : Nat) (w : World) (hVA : Arr w va 1 na (List.map vU32 a)) (hl : n < na) (hs : na ≤ 1000) :
    Calls Tryz.prog 247 #[va, (vU32 p), (vN n)] w (fun e w' => e = .returned (.bool (aboveB a p n)) ∧ Fr [] w w') := by
  refine enter (args := [va, (vU32 p), (vN n)]) Tryz.func247 rfl rfl ?_
  have H0 : Own [] w w [] := Own.start w []
  obtain rfl := hVA.mapLen
  refine WC.seq ?_
  refine WC.region ?_
  refine WL.op rfl rfl (op_assign rfl ?_)
  refine WL.nil ?_
  refine WQ.next ?_
  refine WC.seq ?_
  refine WC.seq ?_
  refine WC.region ?_
  refine WL.op rfl rfl (op_move rfl ?_)
  refine WL.op rfl rfl (op_lenA Tryz.underlying73 rfl (H0.arr hVA) ?_)
  refine WL.op rfl rfl (op_subN (b := 1) rfl rfl (by omega) (by omega) ?_)
  refine WL.op rfl rfl (op_assign rfl ?_)
  refine WL.nil ?_
  refine WQ.next ?_
  refine WC.block ?_
  refine WC.loop (α := Nat) (fun i => [(0, va), (1, (vU32 p)), (2, (vN n)), (7, (vN i))]) (fun i w' => (n ≤ i ∧ i < a.length ∧ ∀ q, i < q → q < a.length → a.getD q 0 = 0) ∧ Own [] w w' []) (fun i => i) (a.length - 1) ⟨⟨by omega, by omega, fun q h1 h2 => by omega⟩, H0⟩ ⟨rfl, rfl, rfl, rfl, trivial⟩ ?_
  rintro i w1 ⟨⟨hi1, hi2, hi3⟩, H1⟩
  show WC _ _ _ _ _ [(0, va), (1, (vU32 p)), (2, (vN n)), (7, (vN i))] _
  refine WC.seq ?_
  refine WC.seq ?_
  refine WC.region ?_
  refine WL.op rfl rfl (op_move rfl ?_)
  refine WL.op rfl rfl (op_move rfl ?_)
  refine WL.op rfl rfl (op_gtrN rfl rfl ?_)
  refine WL.nil ?_
  refine WQ.next ?_
  refine WC.cond rfl (fun (hb2 : (decide (i > n)) = true) => ?_) (fun (hb2 : (decide (i > n)) = false) => ?_)
  ·
    have hc2 := of_decide_eq_true hb2
    refine WC.skip ?_
    refine WQ.next ?_
    refine WC.seq ?_
    refine WC.block ?_
    refine WC.seq ?_
    refine WC.region ?_
    refine WL.op rfl rfl (op_move rfl ?_)
    refine WL.op rfl rfl (op_move rfl ?_)
    refine WL.op rfl rfl (op_indexAddr1 Tryz.underlying73 Fa.I22 rfl (H1.arr hVA) rfl (by omega) ?_)
    refine WL.op rfl rfl (op_load rfl ((H1.arr hVA).at (get_map vU32 0 (Arr.ltM (H1.arr hVA) (by omega)))) Tryz.underlying22 rfl ?_)
    refine WL.op rfl rfl (op_neqU32 (b := 0) rfl rfl ?_)
    refine WL.nil ?_
    refine WQ.next ?_
    refine WC.cond rfl (fun (hb3 : (decide ((a.getD i 0) ≠ (0 : UInt32))) = true) => ?_) (fun (hb3 : (decide ((a.getD i 0) ≠ (0 : UInt32))) = false) => ?_)
    ·
      have hc3 := of_decide_eq_true hb3
      refine WC.seq ?_
      refine WC.region ?_
      refine WL.op rfl rfl (op_assign rfl ?_)
      refine WL.nil ?_
      refine WQ.next ?_
      refine WC.ret ?_
      refine WQ.inRet ?_
      refine WQ.thenRet ?_
      refine WQ.thenRet ?_
      refine WQ.inRet ?_
      refine WQ.thenRet ?_
      refine WQ.out (.tmp rfl .nil) ?_
      exact ⟨by rw [aboveB_1 (i := i) (by omega) (by omega) hc3]; rfl, H1.fr⟩
    ·
      have hc3 := of_decide_eq_false hb3
      refine WC.skip ?_
      refine WQ.inNormal ?_
      refine WQ.next ?_
      refine WC.region ?_
      refine WL.op rfl rfl (op_move rfl ?_)
      refine WL.op rfl rfl (op_subN (b := 1) rfl rfl (by omega) (by omega) ?_)
      refine WL.op rfl rfl (op_assign rfl ?_)
      refine WL.nil ?_
      exact WQ.round (i - 1) ⟨⟨by omega, by omega, fun q h1 h2 => (by rcases Nat.lt_or_ge i q with h | h; exact hi3 q h h2; rw [show q = i by omega]; exact Decidable.not_not.mp hc3)⟩, H1⟩ ⟨rfl, rfl, rfl, rfl, trivial⟩ (by omega)
  ·
    have hc2 := of_decide_eq_false hb2
    have hz := anyN_no a (n + 1) (a.length - (n + 1)) (fun q h1 h2 h3 => hi3 q (by omega) h3)
    refine WC.exit ?_
    refine WQ.thenExit ?_
    refine WQ.thenExit ?_
    refine WQ.inHere ?_
    refine WQ.next ?_
    refine WC.seq ?_
    refine WC.seq ?_
    refine WC.region ?_
    refine WL.op rfl rfl (op_move rfl ?_)
    refine WL.op rfl rfl (op_lenA Tryz.underlying73 rfl (H1.arr hVA) ?_)
    refine WL.op rfl rfl (op_move rfl ?_)
    refine WL.op rfl rfl (op_leqN rfl rfl ?_)
    refine WL.op rfl rfl (op_move rfl ?_)
    refine WL.yes rfl rfl rfl (decide_eq_false (by omega)) rfl (op_move rfl ?_)
    refine WL.yes rfl rfl rfl (decide_eq_false (by omega)) rfl (op_move rfl ?_)
    refine WL.yes rfl rfl rfl (decide_eq_false (by omega)) rfl (op_indexAddr1 Tryz.underlying73 Fa.I22 rfl (H1.arr hVA) rfl (by omega) ?_)
    refine WL.yes rfl rfl rfl (decide_eq_false (by omega)) rfl (op_load rfl ((H1.arr hVA).at (get_map vU32 0 (Arr.ltM (H1.arr hVA) (by omega)))) Tryz.underlying22 rfl ?_)
    refine WL.yes rfl rfl rfl (decide_eq_false (by omega)) rfl (op_move rfl ?_)
    refine WL.yes rfl rfl rfl (decide_eq_false (by omega)) rfl (op_neqU32 rfl rfl ?_)
    refine WL.op rfl rfl (op_pickF rfl (decide_eq_false (by omega)) rfl ?_)
    refine WL.nil ?_
    refine WQ.next ?_
    refine WC.cond rfl (fun (hb4 : (decide ((a.getD n 0) ≠ p)) = true) => ?_) (fun (hb4 : (decide ((a.getD n 0) ≠ p)) = false) => ?_)
    ·
      have hc4 := of_decide_eq_true hb4
      refine WC.seq ?_
      refine WC.region ?_
      refine WL.op rfl rfl (op_move rfl ?_)
      refine WL.op rfl rfl (op_lenA Tryz.underlying73 rfl (H1.arr hVA) ?_)
      refine WL.op rfl rfl (op_move rfl ?_)
      refine WL.op rfl rfl (op_gtrN rfl rfl ?_)
      refine WL.op rfl rfl (op_move rfl ?_)
      refine WL.yes rfl rfl rfl (decide_eq_true (by omega)) rfl (op_move rfl ?_)
      refine WL.yes rfl rfl rfl (decide_eq_true (by omega)) rfl (op_move rfl ?_)
      refine WL.yes rfl rfl rfl (decide_eq_true (by omega)) rfl (op_indexAddr1 Tryz.underlying73 Fa.I22 rfl (H1.arr hVA) rfl (by omega) ?_)
      refine WL.yes rfl rfl rfl (decide_eq_true (by omega)) rfl (op_load rfl ((H1.arr hVA).at (get_map vU32 0 (Arr.ltM (H1.arr hVA) (by omega)))) Tryz.underlying22 rfl ?_)
      refine WL.yes rfl rfl rfl (decide_eq_true (by omega)) rfl (op_move rfl ?_)
      refine WL.yes rfl rfl rfl (decide_eq_true (by omega)) rfl (op_gtrU32 rfl rfl ?_)
      refine WL.op rfl rfl (op_pickT rfl (decide_eq_true (by omega)) rfl ?_)
      refine WL.op rfl rfl (op_assign rfl ?_)
      refine WL.nil ?_
      refine WQ.next ?_
      refine WC.ret ?_
      refine WQ.thenRet ?_
      refine WQ.out (.tmp rfl .nil) ?_
      exact ⟨by rw [aboveB_2 hz (by omega) hc4]; rfl, H1.fr⟩
    ·
      have hc4 := of_decide_eq_false hb4
      have hn0 := Decidable.not_not.mp hc4
      refine WC.skip ?_
      refine WQ.next ?_
      refine WC.seq ?_
      refine WC.seq ?_
      refine WC.region ?_
      refine WL.op rfl rfl (op_assign rfl ?_)
      refine WL.nil ?_
      refine WQ.next ?_
      refine WC.block ?_
      refine WC.loop (α := Nat) (fun k => [(0, va), (2, (vN n)), (8, (vN k))]) (fun k w' => (k ≤ n ∧ ∀ q, q < k → a.getD q 0 = 0) ∧ Own [] w w' []) (fun k => n - k) 0 ⟨⟨Nat.zero_le _, fun q h => by omega⟩, H1⟩ ⟨rfl, rfl, rfl, trivial⟩ ?_
      rintro k w5 ⟨⟨hk1, hk2⟩, H5⟩
      show WC _ _ _ _ _ [(0, va), (2, (vN n)), (8, (vN k))] _
      refine WC.seq ?_
      refine WC.seq ?_
      refine WC.region ?_
      refine WL.op rfl rfl (op_move rfl ?_)
      refine WL.op rfl rfl (op_move rfl ?_)
      refine WL.op rfl rfl (op_lssN rfl rfl ?_)
      refine WL.nil ?_
      refine WQ.next ?_
      refine WC.cond rfl (fun (hb6 : (decide (k < n)) = true) => ?_) (fun (hb6 : (decide (k < n)) = false) => ?_)
      ·
        have hc6 := of_decide_eq_true hb6
        refine WC.skip ?_
        refine WQ.next ?_
        refine WC.seq ?_
        refine WC.block ?_
        refine WC.seq ?_
        refine WC.region ?_
        refine WL.op rfl rfl (op_move rfl ?_)
        refine WL.op rfl rfl (op_move rfl ?_)
        refine WL.op rfl rfl (op_indexAddr1 Tryz.underlying73 Fa.I22 rfl (H5.arr hVA) rfl (by omega) ?_)
        refine WL.op rfl rfl (op_load rfl ((H5.arr hVA).at (get_map vU32 0 (Arr.ltM (H5.arr hVA) (by omega)))) Tryz.underlying22 rfl ?_)
        refine WL.op rfl rfl (op_neqU32 (b := 0) rfl rfl ?_)
        refine WL.nil ?_
        refine WQ.next ?_
        refine WC.cond rfl (fun (hb7 : (decide ((a.getD k 0) ≠ (0 : UInt32))) = true) => ?_) (fun (hb7 : (decide ((a.getD k 0) ≠ (0 : UInt32))) = false) => ?_)
        ·
          have hc7 := of_decide_eq_true hb7
          refine WC.seq ?_
          refine WC.region ?_
          refine WL.op rfl rfl (op_assign rfl ?_)
          refine WL.nil ?_
          refine WQ.next ?_
          refine WC.ret ?_
          refine WQ.inRet ?_
          refine WQ.thenRet ?_
          refine WQ.thenRet ?_
          refine WQ.inRet ?_
          refine WQ.thenRet ?_
          refine WQ.out (.tmp rfl .nil) ?_
          exact ⟨by rw [aboveB_3 hz (by omega) hn0, anyN_out a 0 n k (by omega) (by omega) (by omega) hc7]; rfl, H5.fr⟩
        ·
          have hc7 := of_decide_eq_false hb7
          refine WC.skip ?_
          refine WQ.inNormal ?_
          refine WQ.next ?_
          refine WC.region ?_
          refine WL.op rfl rfl (op_move rfl ?_)
          refine WL.op rfl rfl (op_addN (b := 1) rfl rfl (by omega) ?_)
          refine WL.op rfl rfl (op_assign rfl ?_)
          refine WL.nil ?_
          exact WQ.round (k + 1) ⟨⟨by omega, fun q h1 => (by rcases Nat.lt_or_ge q k with h | h; exact hk2 q h; rw [show q = k by omega]; exact Decidable.not_not.mp hc7)⟩, H5⟩ ⟨rfl, rfl, rfl, trivial⟩ (by omega)
      ·
        have hc6 := of_decide_eq_false hb6
        refine WC.exit ?_
        refine WQ.thenExit ?_
        refine WQ.thenExit ?_
        refine WQ.inHere ?_
        refine WQ.next ?_
        refine WC.seq ?_
        refine WC.region ?_
        refine WL.op rfl rfl (op_assign rfl ?_)
        refine WL.nil ?_
        refine WQ.next ?_
        refine WC.ret ?_
        refine WQ.out (.tmp rfl .nil) ?_
        exact ⟨by rw [aboveB_3 hz (by omega) hn0, anyN_no a 0 n (fun q _ h1 _ => hk2 q (by omega))]; rfl, H5.fr⟩
set_option maxRecDepth 100000 in
theorem root_ok (p : UInt32) (n : Nat) (w : World) (hn : 2 ≤ n ∧ n ≤ 3) :
    Calls Tryz.prog 230 #[(vU32 p), (vN n)] w (fun e w' => e = .returned (vU32 (rootV p n)) ∧ Fr [] w w') := by
  refine enter (args := [(vU32 p), (vN n)]) Tryz.func230 rfl rfl ?_
  have H0 : Own [] w w [] := Own.start w []
  refine WC.seq ?_
  refine WC.region ?_
  refine WL.op rfl rfl (op_assign rfl ?_)
  refine WL.nil ?_
  refine WQ.next ?_
  refine WC.seq ?_
  refine WC.region ?_
  refine WL.op rfl rfl (op_assign rfl ?_)
  refine WL.nil ?_
  refine WQ.next ?_
  refine WC.seq ?_
  refine WC.seq ?_
  refine WC.region ?_
  refine WL.op rfl rfl (op_assign rfl ?_)
  refine WL.nil ?_
  refine WQ.next ?_
  refine WC.block ?_
  refine WC.loop (α := Nat) (fun j => [(0, (vU32 p)), (1, (vN n)), (5, (vU64 (rootTo p n j))), (6, (vI ((36 : Int) - (j : Int))))]) (fun j w' => (j ≤ 37) ∧ Own [] w w' []) (fun j => 37 - j) 0 ⟨(by omega), H0⟩ ⟨rfl, rfl, rfl, rfl, trivial⟩ ?_
  rintro j w1 ⟨hinv, H1⟩
  show WC _ _ _ _ _ [(0, (vU32 p)), (1, (vN n)), (5, (vU64 (rootTo p n j))), (6, (vI ((36 : Int) - (j : Int))))] _
  refine WC.seq ?_
  refine WC.seq ?_
  refine WC.region ?_
  refine WL.op rfl rfl (op_move rfl ?_)
  refine WL.op rfl rfl (op_geqI (b := (0 : Int)) rfl rfl ?_)
  refine WL.nil ?_
  refine WQ.next ?_
  refine WC.cond rfl (fun (hb2 : (decide (((36 : Int) - (j : Int)) ≥ (0 : Int))) = true) => ?_) (fun (hb2 : (decide (((36 : Int) - (j : Int)) ≥ (0 : Int))) = false) => ?_)
  ·
    have hc2 := of_decide_eq_true hb2
    rw [show ((36 : Int) - (j : Int)) = ((36 - j : Nat) : Int) from by omega]
    refine WC.skip ?_
    refine WQ.next ?_
    refine WC.seq ?_
    refine WC.block ?_
    refine WC.seq ?_
    refine WC.region ?_
    refine WL.op rfl rfl (op_move rfl ?_)
    refine WL.op rfl rfl (op_move rfl ?_)
    refine WL.op rfl rfl (op_convNU64 (hs := Tryz.underlying3) (hd := Tryz.underlying265) rfl ?_)
    refine WL.op rfl rfl (op_shlU64 (a := 1) rfl rfl ?_)
    refine WL.op rfl rfl (op_addU64 rfl rfl ?_)
    refine WL.op rfl rfl (op_assign rfl ?_)
    refine WL.nil ?_
    refine WQ.next ?_
    refine WC.seq ?_
    refine WC.region ?_
    refine WL.op rfl rfl (op_move rfl ?_)
    refine WL.op rfl rfl (op_remU64 (b := 4294967296) rfl rfl (by decide) ?_)
    refine WL.op rfl rfl (op_convU64U32 (hs := Tryz.underlying154) (hd := Tryz.underlying22) rfl ?_)
    refine WL.op rfl rfl (op_move rfl ?_)
    refine WL.op rfl rfl (op_shrU64 (s := 32) rfl rfl ?_)
    refine WL.op rfl rfl (op_convU64U32 (hs := Tryz.underlying154) (hd := Tryz.underlying22) rfl ?_)
    refine WL.op rfl rfl (op_buildSlice (cs := [_, _]) H1 Tryz.underlying73 Fa.I22 rfl rfl rfl rfl (by decide) (by decide) (fun b3 w3 H3 => ?_))
    refine WL.op rfl rfl (op_assign rfl ?_)
    refine WL.nil ?_
    refine WQ.next ?_
    refine WC.seq ?_
    refine WC.region ?_
    refine WL.op rfl rfl (op_move rfl ?_)
    refine WL.op rfl rfl (op_assign rfl ?_)
    refine WL.nil ?_
    refine WQ.next ?_
    refine WC.seq ?_
    refine WC.seq ?_
    refine WC.region ?_
    refine WL.op rfl rfl (op_assign rfl ?_)
    refine WL.nil ?_
    refine WQ.next ?_
    refine WC.block ?_
    have H4 : Own [] w w3 [Ent.ar (.slice (some ⟨b3, 0, none⟩) 2 2) 1 2 (List.map vU32 [(UInt32.ofNat (((rootTo p n j) + (shlU64 1 (UInt64.ofNat (36 - j)).toNat)) % (4294967296 : UInt64)).toNat), (UInt32.ofNat (shrU64 ((rootTo p n j) + (shlU64 1 (UInt64.ofNat (36 - j)).toNat)) 32).toNat)])] := H3.freeze (i := 0) rfl
    have H5 : Own [] w w3 [Ent.ar (.slice (some ⟨b3, 0, none⟩) 2 2) 1 2 (List.map vU32 [(UInt32.ofNat (((rootTo p n j) + (shlU64 1 (UInt64.ofNat (36 - j)).toNat)) % (4294967296 : UInt64)).toNat), (UInt32.ofNat (shrU64 ((rootTo p n j) + (shlU64 1 (UInt64.ofNat (36 - j)).toNat)) 32).toNat)]), Ent.ar (.slice (some ⟨b3, 0, none⟩) 2 2) 1 2 (List.map vU32 [(UInt32.ofNat (((rootTo p n j) + (shlU64 1 (UInt64.ofNat (36 - j)).toNat)) % (4294967296 : UInt64)).toNat), (UInt32.ofNat (shrU64 ((rootTo p n j) + (shlU64 1 (UInt64.ofNat (36 - j)).toNat)) 32).toNat)])] := H4.dup (i := 0) rfl
    refine WC.loop (α := Nat × Value) (fun (k, v) => [(0, (vU32 p)), (1, (vN n)), (5, (vU64 (rootTo p n j))), (6, (vN (36 - j))), (7, (vU64 ((rootTo p n j) + (shlU64 1 (UInt64.ofNat (36 - j)).toNat)))), (8, (.slice (some ⟨b3, 0, none⟩) 2 2)), (9, v), (10, (vN (k + 1)))]) (fun (k, v) w' => (k + 1 ≤ n) ∧ Own [] w w' [Ent.ar (.slice (some ⟨b3, 0, none⟩) 2 2) 1 2 (List.map vU32 [(UInt32.ofNat (((rootTo p n j) + (shlU64 1 (UInt64.ofNat (36 - j)).toNat)) % (4294967296 : UInt64)).toNat), (UInt32.ofNat (shrU64 ((rootTo p n j) + (shlU64 1 (UInt64.ofNat (36 - j)).toNat)) 32).toNat)]), Ent.ar v 1 (2 * (k + 1)) (List.map vU32 (powTo (oneOf (rootY (rootTo p n j) j)) k))]) (fun (k, v) => n - k) (0, (.slice (some ⟨b3, 0, none⟩) 2 2)) ⟨(by omega), H5⟩ ⟨rfl, rfl, rfl, rfl, rfl, rfl, rfl, rfl, trivial⟩ ?_
    rintro ⟨k, v⟩ w6 ⟨hinv, H6⟩
    show WC _ _ _ _ _ [(0, (vU32 p)), (1, (vN n)), (5, (vU64 (rootTo p n j))), (6, (vN (36 - j))), (7, (vU64 ((rootTo p n j) + (shlU64 1 (UInt64.ofNat (36 - j)).toNat)))), (8, (.slice (some ⟨b3, 0, none⟩) 2 2)), (9, v), (10, (vN (k + 1)))] _
    refine WC.seq ?_
    refine WC.seq ?_
    refine WC.region ?_
    refine WL.op rfl rfl (op_move rfl ?_)
    refine WL.op rfl rfl (op_move rfl ?_)
    refine WL.op rfl rfl (op_lssN rfl rfl ?_)
    refine WL.nil ?_
    refine WQ.next ?_
    refine WC.cond rfl (fun (hb7 : (decide ((k + 1) < n)) = true) => ?_) (fun (hb7 : (decide ((k + 1) < n)) = false) => ?_)
    ·
      have hc7 := of_decide_eq_true hb7
      refine WC.skip ?_
      refine WQ.next ?_
      refine WC.seq ?_
      refine WC.block ?_
      refine WC.region ?_
      refine WL.op rfl rfl (op_move rfl ?_)
      refine WL.op rfl rfl (op_move rfl ?_)
      refine WL.op rfl rfl (op_callF Fa.C246 rfl ((mul_ok _ _ (powTo (oneOf (rootY (rootTo p n j) j)) k) ([(UInt32.ofNat (((rootTo p n j) + (shlU64 1 (UInt64.ofNat (36 - j)).toNat)) % (4294967296 : UInt64)).toNat), (UInt32.ofNat (shrU64 ((rootTo p n j) + (shlU64 1 (UInt64.ofNat (36 - j)).toNat)) 32).toNat)]) _ _ _ (H6.arrO (i := 1) rfl) (H6.arrO (i := 0) rfl) (by omega)).mono (fun e w8 hq => ?_)))
      obtain ⟨v8, rfl, hq8⟩ := hq
      refine ⟨_, rfl, ?_⟩
      have H8 : Own [] w w8 [Ent.ar (.slice (some ⟨b3, 0, none⟩) 2 2) 1 2 (List.map vU32 [(UInt32.ofNat (((rootTo p n j) + (shlU64 1 (UInt64.ofNat (36 - j)).toNat)) % (4294967296 : UInt64)).toNat), (UInt32.ofNat (shrU64 ((rootTo p n j) + (shlU64 1 (UInt64.ofNat (36 - j)).toNat)) 32).toNat)]), Ent.ar v 1 (2 * (k + 1)) (List.map vU32 (powTo (oneOf (rootY (rootTo p n j) j)) k)), .row v8 22 1 ((2 * (k + 1)) + 2) (List.map vU32 (mulL (powTo (oneOf (rootY (rootTo p n j) j)) k) [(UInt32.ofNat (((rootTo p n j) + (shlU64 1 (UInt64.ofNat (36 - j)).toNat)) % (4294967296 : UInt64)).toNat), (UInt32.ofNat (shrU64 ((rootTo p n j) + (shlU64 1 (UInt64.ofNat (36 - j)).toNat)) 32).toNat)]))] := H6.splice [] [] [.row v8 22 1 ((2 * (k + 1)) + 2) (List.map vU32 (mulL (powTo (oneOf (rootY (rootTo p n j) j)) k) [(UInt32.ofNat (((rootTo p n j) + (shlU64 1 (UInt64.ofNat (36 - j)).toNat)) % (4294967296 : UInt64)).toNat), (UInt32.ofNat (shrU64 ((rootTo p n j) + (shlU64 1 (UInt64.ofNat (36 - j)).toNat)) 32).toNat)]))] rfl rfl hq8 (Fits.solid True.intro Fits.nil)
      refine WL.op rfl rfl (op_assign rfl ?_)
      refine WL.nil ?_
      refine WQ.inNormal ?_
      refine WQ.next ?_
      refine WC.region ?_
      refine WL.op rfl rfl (op_move rfl ?_)
      refine WL.op rfl rfl (op_addN (b := 1) rfl rfl (by omega) ?_)
      refine WL.op rfl rfl (op_assign rfl ?_)
      refine WL.nil ?_
      have H9 : Own [] w w8 [Ent.ar (.slice (some ⟨b3, 0, none⟩) 2 2) 1 2 (List.map vU32 [(UInt32.ofNat (((rootTo p n j) + (shlU64 1 (UInt64.ofNat (36 - j)).toNat)) % (4294967296 : UInt64)).toNat), (UInt32.ofNat (shrU64 ((rootTo p n j) + (shlU64 1 (UInt64.ofNat (36 - j)).toNat)) 32).toNat)]), Ent.ar v 1 (2 * (k + 1)) (List.map vU32 (powTo (oneOf (rootY (rootTo p n j) j)) k)), Ent.ar v8 1 ((2 * (k + 1)) + 2) (List.map vU32 (mulL (powTo (oneOf (rootY (rootTo p n j) j)) k) [(UInt32.ofNat (((rootTo p n j) + (shlU64 1 (UInt64.ofNat (36 - j)).toNat)) % (4294967296 : UInt64)).toNat), (UInt32.ofNat (shrU64 ((rootTo p n j) + (shlU64 1 (UInt64.ofNat (36 - j)).toNat)) 32).toNat)]))] := H8.freeze (i := 2) rfl
      exact WQ.round (k + 1, v8) ⟨(by omega), (H9.sel [0, 2] rfl rfl)⟩ ⟨rfl, rfl, rfl, rfl, rfl, rfl, rfl, rfl, trivial⟩ (by show n - (k + 1) < n - k; omega)
    ·
      have hc7 := of_decide_eq_false hb7
      have hk : k = n - 1 := (by omega)
      subst hk
      refine WC.exit ?_
      refine WQ.thenExit ?_
      refine WQ.thenExit ?_
      refine WQ.inHere ?_
      refine WQ.next ?_
      refine WC.seq ?_
      refine WC.region ?_
      refine WL.op rfl rfl (op_move rfl ?_)
      refine WL.op rfl rfl (op_move rfl ?_)
      refine WL.op rfl rfl (op_move rfl ?_)
      refine WL.op rfl rfl (op_callF Fa.C247 rfl ((above_ok _ (powTo (oneOf (rootY (rootTo p n j) j)) (n - 1)) p _ n _ (H6.arrO (i := 1) rfl) (by omega) (by omega)).mono (fun e w10 hq => ?_)))
      obtain ⟨rfl, hf10⟩ := hq
      refine ⟨_, rfl, ?_⟩
      have H10 := H6.fr' hf10
      refine WL.op rfl rfl (op_not rfl ?_)
      refine WL.nil ?_
      refine WQ.next ?_
      refine WC.cond rfl (fun (hb11 : (!(aboveB (powTo (oneOf (rootY (rootTo p n j) j)) (n - 1)) p n)) = true) => ?_) (fun (hb11 : (!(aboveB (powTo (oneOf (rootY (rootTo p n j) j)) (n - 1)) p n)) = false) => ?_)
      ·
        have hn11 := (Bool.not_eq_true' _).mp hb11
        refine WC.region ?_
        refine WL.op rfl rfl (op_move rfl ?_)
        refine WL.op rfl rfl (op_assign rfl ?_)
        refine WL.nil ?_
        refine WQ.inNormal ?_
        refine WQ.next ?_
        refine WC.region ?_
        refine WL.op rfl rfl (op_move rfl ?_)
        refine WL.op rfl rfl (op_subI (a := (((36 - j) : Nat) : Int)) (b := ((1 : Nat) : Int)) rfl rfl (by omega) ?_)
        refine WL.op rfl rfl (op_assign rfl ?_)
        refine WL.nil ?_
        exact WQ.round (j + 1) ⟨(by omega), (H10.take 0)⟩ ⟨rfl, rfl, (by show some (vU64 (rootY (rootTo p n j) j)) = some (vU64 (rootTo p n (j + 1))); rw [rootTo, if_pos hb11]), (by show some (vI (((36 - j : Nat) : Int) - 1)) = some (vI ((36 : Int) - ((j + 1 : Nat) : Int))); congr 2; omega), trivial⟩ (by omega)
      ·
        have hn11 := (Bool.not_eq_false' _).mp hb11
        refine WC.skip ?_
        refine WQ.inNormal ?_
        refine WQ.next ?_
        refine WC.region ?_
        refine WL.op rfl rfl (op_move rfl ?_)
        refine WL.op rfl rfl (op_subI (a := (((36 - j) : Nat) : Int)) (b := ((1 : Nat) : Int)) rfl rfl (by omega) ?_)
        refine WL.op rfl rfl (op_assign rfl ?_)
        refine WL.nil ?_
        exact WQ.round (j + 1) ⟨(by omega), (H10.take 0)⟩ ⟨rfl, rfl, (by show some (vU64 (rootTo p n j)) = some (vU64 (rootTo p n (j + 1))); rw [rootTo, if_neg (by rw [hb11]; decide)]), (by show some (vI (((36 - j : Nat) : Int) - 1)) = some (vI ((36 : Int) - ((j + 1 : Nat) : Int))); congr 2; omega), trivial⟩ (by omega)
  ·
    have hc2 := of_decide_eq_false hb2
    refine WC.exit ?_
    refine WQ.thenExit ?_
    refine WQ.thenExit ?_
    refine WQ.inHere ?_
    refine WQ.next ?_
    refine WC.seq ?_
    refine WC.region ?_
    refine WL.op rfl rfl (op_move rfl ?_)
    refine WL.op rfl rfl (op_remU64 (b := 4294967296) rfl rfl (by decide) ?_)
    refine WL.op rfl rfl (op_convU64U32 (hs := Tryz.underlying154) (hd := Tryz.underlying22) rfl ?_)
    refine WL.op rfl rfl (op_assign rfl ?_)
    refine WL.nil ?_
    refine WQ.next ?_
    refine WC.ret ?_
    refine WQ.out (.tmp rfl .nil) ?_
    exact ⟨by have hj : j = 37 := (by omega); subst hj; rfl, H1.fr⟩
set_option maxRecDepth 100000 in
theorem primes_ok (n : Nat) (w : World) (hn : n ≤ 64) :
    Calls Tryz.prog 229 #[(vN n)] w (fun e w' => ∃ v, e = .returned v ∧ Own [] w w' [.row v 22 1 n (List.map vU32 (prs n))]) := by
  refine enter (args := [(vN n)]) Tryz.func229 rfl rfl ?_
  have H0 : Own [] w w [] := Own.start w []
  refine WC.seq ?_
  refine WC.region ?_
  refine WL.op rfl rfl (op_assign rfl ?_)
  refine WL.nil ?_
  refine WQ.next ?_
  refine WC.seq ?_
  refine WC.region ?_
  refine WL.op rfl rfl (op_assign rfl ?_)
  have H1 := H0.nilRow 22 1
  refine WL.nil ?_
  refine WQ.next ?_
  refine WC.seq ?_
  refine WC.seq ?_
  refine WC.region ?_
  refine WL.op rfl rfl (op_assign rfl ?_)
  refine WL.nil ?_
  refine WQ.next ?_
  refine WC.block ?_
  refine WC.loop (α := Nat × Value) (fun (j, v) => [(0, (vN n)), (3, v), (4, (vU32 (2 + UInt32.ofNat j)))]) (fun (j, v) w' => (j ≤ 310 ∧ (prL j).length ≤ n) ∧ Own [] w w' [.row v 22 1 (prL j).length (List.map vU32 (prL j))]) (fun (j, v) => 310 - j) (0, (.slice none 0 0)) ⟨⟨by omega, Nat.zero_le _⟩, H1⟩ ⟨rfl, rfl, rfl, trivial⟩ ?_
  rintro ⟨j, v⟩ w2 ⟨⟨hj1, hj2⟩, H2⟩
  show WC _ _ _ _ _ [(0, (vN n)), (3, v), (4, (vU32 (2 + UInt32.ofNat j)))] _
  refine WC.seq ?_
  refine WC.seq ?_
  refine WC.region ?_
  refine WL.op rfl rfl (op_move rfl ?_)
  refine WL.op rfl rfl (op_lenA Tryz.underlying73 rfl (H2.arrR (i := 0) rfl) ?_)
  refine WL.op rfl rfl (op_move rfl ?_)
  refine WL.op rfl rfl (op_lssN rfl rfl ?_)
  refine WL.nil ?_
  refine WQ.next ?_
  refine WC.cond rfl (fun (hb3 : (decide ((prL j).length < n)) = true) => ?_) (fun (hb3 : (decide ((prL j).length < n)) = false) => ?_)
  ·
    have hc3 := of_decide_eq_true hb3
    have hlt := prL_lt j (by omega)
    refine WC.skip ?_
    refine WQ.next ?_
    refine WC.seq ?_
    refine WC.block ?_
    refine WC.seq ?_
    refine WC.region ?_
    refine WL.op rfl rfl (op_assign rfl ?_)
    refine WL.nil ?_
    refine WQ.next ?_
    refine WC.seq ?_
    refine WC.seq ?_
    refine WC.region ?_
    refine WL.op rfl rfl (op_assign rfl ?_)
    refine WL.nil ?_
    refine WQ.next ?_
    refine WC.block ?_
    refine WC.loop (α := Nat) (fun k => [(0, (vN n)), (3, v), (4, (vU32 (2 + UInt32.ofNat j))), (5, (.bool (isPr (prL j) (2 + UInt32.ofNat j) k))), (6, (vN k))]) (fun k w' => (k ≤ (prL j).length) ∧ Own [] w w' [.row v 22 1 (prL j).length (List.map vU32 (prL j))]) (fun k => (prL j).length - k) 0 ⟨(by omega), H2⟩ ⟨rfl, rfl, rfl, rfl, rfl, trivial⟩ ?_
    rintro k w4 ⟨hinv, H4⟩
    show WC _ _ _ _ _ [(0, (vN n)), (3, v), (4, (vU32 (2 + UInt32.ofNat j))), (5, (.bool (isPr (prL j) (2 + UInt32.ofNat j) k))), (6, (vN k))] _
    refine WC.seq ?_
    refine WC.seq ?_
    refine WC.region ?_
    refine WL.op rfl rfl (op_move rfl ?_)
    refine WL.op rfl rfl (op_move rfl ?_)
    refine WL.op rfl rfl (op_lenA Tryz.underlying73 rfl (H4.arrR (i := 0) rfl) ?_)
    refine WL.op rfl rfl (op_lssN rfl rfl ?_)
    refine WL.nil ?_
    refine WQ.next ?_
    refine WC.cond rfl (fun (hb5 : (decide (k < (prL j).length)) = true) => ?_) (fun (hb5 : (decide (k < (prL j).length)) = false) => ?_)
    ·
      have hc5 := of_decide_eq_true hb5
      refine WC.skip ?_
      refine WQ.next ?_
      refine WC.seq ?_
      refine WC.block ?_
      refine WC.region ?_
      refine WL.op rfl rfl (op_move rfl ?_)
      refine WL.op rfl rfl (op_move rfl ?_)
      refine WL.split (t := 20) rfl (fun (hb6 : (isPr (prL j) (2 + UInt32.ofNat j) k) = true) => ?_) (fun (hb6 : (isPr (prL j) (2 + UInt32.ofNat j) k) = false) => ?_)
      ·
        refine WL.yes rfl rfl rfl hb6 rfl (op_move rfl ?_)
        refine WL.yes rfl rfl rfl hb6 rfl (op_move rfl ?_)
        refine WL.yes rfl rfl rfl hb6 rfl (op_move rfl ?_)
        refine WL.yes rfl rfl rfl hb6 rfl (op_indexAddr1 Tryz.underlying73 Fa.I22 rfl (H4.arrR (i := 0) rfl) rfl (by omega) ?_)
        refine WL.yes rfl rfl rfl hb6 rfl (op_load rfl ((H4.arrR (i := 0) rfl).at (get_map vU32 0 (Arr.ltM (H4.arrR (i := 0) rfl) (by omega)))) Tryz.underlying22 rfl ?_)
        refine WL.yes rfl rfl rfl hb6 rfl (op_remU32 rfl rfl (prL_gnz j (by omega) (by omega)) ?_)
        refine WL.yes rfl rfl rfl hb6 rfl (op_neqU32 (b := 0) rfl rfl ?_)
        refine WL.op rfl rfl (op_pickT rfl hb6 rfl ?_)
        refine WL.op rfl rfl (op_assign rfl ?_)
        refine WL.nil ?_
        refine WQ.inNormal ?_
        refine WQ.next ?_
        refine WC.region ?_
        refine WL.op rfl rfl (op_move rfl ?_)
        refine WL.op rfl rfl (op_addN (b := 1) rfl rfl (by omega) ?_)
        refine WL.op rfl rfl (op_assign rfl ?_)
        refine WL.nil ?_
        exact WQ.round (k + 1) ⟨(by omega), H4⟩ ⟨rfl, rfl, rfl, (by rw [isPr, hb6]; rfl), rfl, trivial⟩ (by omega)
      ·
        refine WL.no rfl rfl rfl hb6 rfl ?_
        refine WL.no rfl rfl rfl hb6 rfl ?_
        refine WL.no rfl rfl rfl hb6 rfl ?_
        refine WL.no rfl rfl rfl hb6 rfl ?_
        refine WL.no rfl rfl rfl hb6 rfl ?_
        refine WL.no rfl rfl rfl hb6 rfl ?_
        refine WL.no rfl rfl rfl hb6 rfl ?_
        refine WL.op rfl rfl (op_pickF rfl hb6 rfl ?_)
        refine WL.op rfl rfl (op_assign rfl ?_)
        refine WL.nil ?_
        refine WQ.inNormal ?_
        refine WQ.next ?_
        refine WC.region ?_
        refine WL.op rfl rfl (op_move rfl ?_)
        refine WL.op rfl rfl (op_addN (b := 1) rfl rfl (by omega) ?_)
        refine WL.op rfl rfl (op_assign rfl ?_)
        refine WL.nil ?_
        exact WQ.round (k + 1) ⟨(by omega), H4⟩ ⟨rfl, rfl, rfl, (by rw [isPr, hb6]; rfl), rfl, trivial⟩ (by omega)
    ·
      have hc5 := of_decide_eq_false hb5
      have hk : k = (prL j).length := (by omega)
      subst hk
      refine WC.exit ?_
      refine WQ.thenExit ?_
      refine WQ.thenExit ?_
      refine WQ.inHere ?_
      refine WQ.next ?_
      refine WC.seq ?_
      refine WC.region ?_
      refine WL.op rfl rfl (op_move rfl ?_)
      refine WL.nil ?_
      refine WQ.next ?_
      refine WC.cond rfl (fun (hb7 : (isPr (prL j) (2 + UInt32.ofNat j) (prL j).length) = true) => ?_) (fun (hb7 : (isPr (prL j) (2 + UInt32.ofNat j) (prL j).length) = false) => ?_)
      ·
        refine WC.region ?_
        refine WL.op rfl rfl (op_move rfl ?_)
        refine WL.op rfl rfl (op_move rfl ?_)
        refine WL.op rfl rfl (op_buildSlice (cs := [_]) H4 Tryz.underlying73 Fa.I22 rfl rfl rfl rfl (by decide) (by decide) (fun b8 w8 H8 => ?_))
        refine WL.op rfl rfl (op_appendM (f := vU32) (l := (prL j)) (l' := [(2 + UInt32.ofNat j)]) (i := 0) H8 Tryz.underlying73 Fa.I22 rfl rfl rfl rfl (Src.ofArr Tryz.underlying73 (H8.arrR (i := 1) rfl)) (one_mapM (fun _ => rfl)) (by omega) (by omega) (fun v9 w9 H9 => ?_))
        refine WL.op rfl rfl (op_assign rfl ?_)
        refine WL.nil ?_
        refine WQ.inNormal ?_
        refine WQ.next ?_
        refine WC.region ?_
        refine WL.op rfl rfl (op_move rfl ?_)
        refine WL.op rfl rfl (op_addU32 (b := 1) rfl rfl ?_)
        refine WL.op rfl rfl (op_assign rfl ?_)
        refine WL.nil ?_
        exact WQ.round (j + 1, v9) ⟨⟨by omega, by have := prL_le1 j; omega⟩, (Own.rowEqN (i := 0) (f := vU32) (l' := prL (j + 1)) (m' := (prL (j + 1)).length) (H9.take 1) rfl (by rw [prL, if_pos hb7]) (by rw [prL, if_pos hb7, List.length_append]; rfl))⟩ ⟨rfl, rfl, (congrArg (fun x => some (vU32 x)) (u32_next j)), trivial⟩ (by show 310 - (j + 1) < 310 - j; omega)
      ·
        refine WC.skip ?_
        refine WQ.inNormal ?_
        refine WQ.next ?_
        refine WC.region ?_
        refine WL.op rfl rfl (op_move rfl ?_)
        refine WL.op rfl rfl (op_addU32 (b := 1) rfl rfl ?_)
        refine WL.op rfl rfl (op_assign rfl ?_)
        refine WL.nil ?_
        exact WQ.round (j + 1, v) ⟨⟨by omega, by have := prL_le1 j; omega⟩, (Own.rowEqN (i := 0) (f := vU32) (l' := prL (j + 1)) (m' := (prL (j + 1)).length) H4 rfl (by rw [prL, if_neg (by rw [hb7]; decide)]) (by rw [prL, if_neg (by rw [hb7]; decide)]))⟩ ⟨rfl, rfl, (congrArg (fun x => some (vU32 x)) (u32_next j)), trivial⟩ (by show 310 - (j + 1) < 310 - j; omega)
  ·
    have hc3 := of_decide_eq_false hb3
    refine WC.exit ?_
    refine WQ.thenExit ?_
    refine WQ.thenExit ?_
    refine WQ.inHere ?_
    refine WQ.next ?_
    refine WC.seq ?_
    refine WC.region ?_
    refine WL.op rfl rfl (op_move rfl ?_)
    refine WL.op rfl rfl (op_assign rfl ?_)
    refine WL.nil ?_
    refine WQ.next ?_
    refine WC.ret ?_
    refine WQ.out (.tmp rfl .nil) ?_
    exact ⟨_, rfl, Own.rowEqN (i := 0) (f := vU32) H2 rfl (prL_end j hj1 (by omega)) (by omega)⟩
set_option maxRecDepth 100000 in
theorem roots_ok (m n : Nat) (w : World) (hm : m ≤ 64) (hn : 2 ≤ n ∧ n ≤ 3) :
    Calls Tryz.prog 202 #[(vN m), (vN n)] w (fun e w' => ∃ v, e = .returned v ∧ Own [] w w' [.row v 22 1 m (List.map vU32 (rootsTo m n m))]) := by
  refine enter (args := [(vN m), (vN n)]) Tryz.func202 rfl rfl ?_
  have H0 : Own [] w w [] := Own.start w []
  refine WC.seq ?_
  refine WC.region ?_
  refine WL.op rfl rfl (op_assign rfl ?_)
  refine WL.nil ?_
  refine WQ.next ?_
  refine WC.seq ?_
  refine WC.region ?_
  refine WL.op rfl rfl (op_move rfl ?_)
  refine WL.op rfl rfl (op_callF Fa.C229 rfl ((primes_ok m _ (by omega)).mono (fun e w1 hq => ?_)))
  obtain ⟨v1, rfl, hq1⟩ := hq
  refine ⟨_, rfl, ?_⟩
  have H1 : Own [] w w1 [.row v1 22 1 m (List.map vU32 (prs m))] := H0.splice [] [] [.row v1 22 1 m (List.map vU32 (prs m))] rfl rfl hq1 (Fits.solid True.intro Fits.nil)
  refine WL.op rfl rfl (op_assign rfl ?_)
  refine WL.nil ?_
  refine WQ.next ?_
  refine WC.seq ?_
  refine WC.region ?_
  refine WL.op rfl rfl (op_assign rfl ?_)
  have H2 := H1.nilRow 22 1
  refine WL.nil ?_
  refine WQ.next ?_
  refine WC.seq ?_
  refine WC.seq ?_
  refine WC.region ?_
  refine WL.op rfl rfl (op_assign rfl ?_)
  refine WL.nil ?_
  refine WQ.next ?_
  refine WC.block ?_
  refine WC.loop (α := Nat × Value) (fun (k, v) => [(0, (vN m)), (1, (vN n)), (5, v1), (6, v), (7, (vN k))]) (fun (k, v) w' => (k ≤ m) ∧ Own [] w w' [.row v1 22 1 m (List.map vU32 (prs m)), .row v 22 1 k (List.map vU32 (rootsTo m n k))]) (fun (k, v) => m - k) (0, (.slice none 0 0)) ⟨(by omega), H2⟩ ⟨rfl, rfl, rfl, rfl, rfl, trivial⟩ ?_
  rintro ⟨k, v⟩ w3 ⟨hinv, H3⟩
  show WC _ _ _ _ _ [(0, (vN m)), (1, (vN n)), (5, v1), (6, v), (7, (vN k))] _
  refine WC.seq ?_
  refine WC.seq ?_
  refine WC.region ?_
  refine WL.op rfl rfl (op_move rfl ?_)
  refine WL.op rfl rfl (op_move rfl ?_)
  refine WL.op rfl rfl (op_lssN rfl rfl ?_)
  refine WL.nil ?_
  refine WQ.next ?_
  refine WC.cond rfl (fun (hb4 : (decide (k < m)) = true) => ?_) (fun (hb4 : (decide (k < m)) = false) => ?_)
  ·
    have hc4 := of_decide_eq_true hb4
    refine WC.skip ?_
    refine WQ.next ?_
    refine WC.seq ?_
    refine WC.block ?_
    refine WC.region ?_
    refine WL.op rfl rfl (op_move rfl ?_)
    refine WL.op rfl rfl (op_move rfl ?_)
    refine WL.op rfl rfl (op_move rfl ?_)
    refine WL.op rfl rfl (op_indexAddr1 Tryz.underlying73 Fa.I22 rfl (H3.arrR (i := 0) rfl) rfl (by omega) ?_)
    refine WL.op rfl rfl (op_load rfl ((H3.arrR (i := 0) rfl).at (get_map vU32 0 (Arr.ltM (H3.arrR (i := 0) rfl) (by omega)))) Tryz.underlying22 rfl ?_)
    refine WL.op rfl rfl (op_move rfl ?_)
    refine WL.op rfl rfl (op_callF Fa.C230 rfl ((root_ok ((prs m).getD k 0) n _ (by omega)).mono (fun e w5 hq => ?_)))
    obtain ⟨rfl, hf5⟩ := hq
    refine ⟨_, rfl, ?_⟩
    have H5 := H3.fr' hf5
    refine WL.op rfl rfl (op_buildSlice (cs := [_]) H5 Tryz.underlying73 Fa.I22 rfl rfl rfl rfl (by decide) (by decide) (fun b6 w6 H6 => ?_))
    refine WL.op rfl rfl (op_appendM (f := vU32) (l := (rootsTo m n k)) (l' := [(rootV ((prs m).getD k 0) n)]) (i := 1) H6 Tryz.underlying73 Fa.I22 rfl rfl rfl rfl (Src.ofArr Tryz.underlying73 (H6.arrR (i := 2) rfl)) (one_mapM (fun _ => rfl)) (by omega) (by omega) (fun v7 w7 H7 => ?_))
    refine WL.op rfl rfl (op_assign rfl ?_)
    refine WL.nil ?_
    refine WQ.inNormal ?_
    refine WQ.next ?_
    refine WC.region ?_
    refine WL.op rfl rfl (op_move rfl ?_)
    refine WL.op rfl rfl (op_addN (b := 1) rfl rfl (by omega) ?_)
    refine WL.op rfl rfl (op_assign rfl ?_)
    refine WL.nil ?_
    exact WQ.round (k + 1, v7) ⟨(by omega), (H7.take 2)⟩ ⟨rfl, rfl, rfl, rfl, rfl, trivial⟩ (by show m - (k + 1) < m - k; omega)
  ·
    have hc4 := of_decide_eq_false hb4
    refine WC.exit ?_
    refine WQ.thenExit ?_
    refine WQ.thenExit ?_
    refine WQ.inHere ?_
    refine WQ.next ?_
    refine WC.seq ?_
    refine WC.region ?_
    refine WL.op rfl rfl (op_move rfl ?_)
    refine WL.op rfl rfl (op_assign rfl ?_)
    refine WL.nil ?_
    refine WQ.next ?_
    refine WC.ret ?_
    refine WQ.out (.tmp rfl .nil) ?_
    exact ⟨_, rfl, (by have hk : k = m := (by omega); subst hk; exact H3.sel [1] rfl rfl)⟩
theorem roots8_ok (w : World) : Calls Tryz.prog 202 #[vN 8, vN 2] w (fun e w' => ∃ v, e = .returned v ∧ Own [] w w' [.row v 22 1 8 (List.map vU32 firstS.vals)]) :=
  (roots_ok 8 2 w (by decide) (by decide)).mono fun e w' ⟨v, h1, h2⟩ => ⟨v, h1, by rw [← roots8]; exact h2⟩
theorem roots64_ok (w : World) : Calls Tryz.prog 202 #[vN 64, vN 3] w (fun e w' => ∃ v, e = .returned v ∧ Own [] w w' [.row v 22 1 64 (List.map vU32 keyL)]) :=
  (roots_ok 64 3 w (by decide) (by decide)).mono fun e w' ⟨v, h1, h2⟩ => ⟨v, h1, by rw [← roots64]; exact h2⟩
set_option maxRecDepth 100000 in
theorem rturn_ok (x : UInt32) (m : Nat) (hm : m ≤ 32) (w : World) :
    Calls Tryz.prog 232 #[(vU32 x), (vU64 (UInt64.ofNat m))] w (fun e w' => e = .returned (vU32 (rot x m)) ∧ Fr [] w w') := by
  refine enter (args := [(vU32 x), (vU64 (UInt64.ofNat m))]) Tryz.func232 rfl rfl ?_
  have H0 : Own [] w w [] := Own.start w []
  refine WC.seq ?_
  refine WC.region ?_
  refine WL.op rfl rfl (op_assign rfl ?_)
  refine WL.nil ?_
  refine WQ.next ?_
  refine WC.seq ?_
  refine WC.region ?_
  refine WL.op rfl rfl (op_move rfl ?_)
  refine WL.op rfl rfl (op_move rfl ?_)
  refine WL.op rfl rfl (op_shrU32 rfl rfl ?_)
  refine WL.op rfl rfl (op_move rfl ?_)
  refine WL.op rfl rfl (op_move rfl ?_)
  refine WL.op rfl rfl (op_subU64 (a := 32) rfl rfl ?_)
  refine WL.op rfl rfl (op_shlU32 rfl rfl ?_)
  refine WL.op rfl rfl (op_orU32 rfl rfl ?_)
  refine WL.op rfl rfl (op_assign rfl ?_)
  refine WL.nil ?_
  refine WQ.next ?_
  refine WC.ret ?_
  refine WQ.out (.tmp rfl .nil) ?_
  exact ⟨by rw [u64_32 hm, u64_nat (by omega)]; rfl, H0.fr⟩
set_option maxRecDepth 100000 in
theorem filled_ok (s : List UInt8) (w : World) (hs : s.length < 2 ^ 40) :
    Calls Tryz.prog 203 #[(str s)] w (fun e w' => ∃ v, e = .returned v ∧ Own [] w w' [.row v 5 1 (s ++ pads s.length).length (List.map vU8 (s ++ pads s.length))]) := by
  refine enter (args := [(str s)]) Tryz.func203 rfl rfl ?_
  have H0 : Own [] w w [] := Own.start w []
  have hp0 : padZ s.length = (119 - s.length % 64) % 64 := rfl
  refine WC.seq ?_
  refine WC.region ?_
  refine WL.op rfl rfl (op_assign rfl ?_)
  refine WL.nil ?_
  refine WQ.next ?_
  refine WC.seq ?_
  refine WC.region ?_
  refine WL.op rfl rfl (op_move rfl ?_)
  refine WL.op rfl rfl (op_strBytes H0 Tryz.underlying9 Tryz.underlying5 Tryz.underlying114 rfl (by omega) (fun v1 w1 H1 => ?_))
  refine WL.op rfl rfl (op_buildSlice (cs := [_]) H1 Tryz.underlying114 Fa.I5 rfl rfl rfl rfl (by decide) (by decide) (fun b2 w2 H2 => ?_))
  refine WL.op rfl rfl (op_appendM (f := vU8) (l := s) (l' := [128]) (i := 0) H2 Tryz.underlying114 Fa.I5 rfl rfl rfl rfl (Src.ofArr Tryz.underlying114 (H2.arrR (i := 1) rfl)) (one_mapM (fun _ => rfl)) (by omega) (by omega) (fun v3 w3 H3 => ?_))
  refine WL.op rfl rfl (op_assign rfl ?_)
  refine WL.nil ?_
  refine WQ.next ?_
  refine WC.seq ?_
  refine WC.block ?_
  refine WC.loop (α := Nat × Value) (fun (k, v) => [(0, (str s)), (3, v)]) (fun (k, v) w' => (k ≤ padZ s.length) ∧ Own [] w w' [.row v 5 1 (s.length + 1 + k) (List.map vU8 (s ++ [128] ++ List.replicate k 0)), .row (.slice (some ⟨b2, 0, none⟩) 1 1) 5 1 1 (List.map vU8 [128])]) (fun (k, v) => padZ s.length - k) (0, v3) ⟨(by omega), (Own.rowEq (i := 0) (f := vU8) H3 rfl (by simp))⟩ ⟨rfl, rfl, trivial⟩ ?_
  rintro ⟨k, v⟩ w4 ⟨hinv, H4⟩
  show WC _ _ _ _ _ [(0, (str s)), (3, v)] _
  refine WC.seq ?_
  refine WC.seq ?_
  refine WC.region ?_
  refine WL.op rfl rfl (op_move rfl ?_)
  refine WL.op rfl rfl (op_lenA Tryz.underlying114 rfl (H4.arrR (i := 0) rfl) ?_)
  refine WL.op rfl rfl (op_remN (b := 64) rfl rfl (by omega) ?_)
  refine WL.op rfl rfl (op_neqN (b := 56) rfl rfl ?_)
  refine WL.nil ?_
  refine WQ.next ?_
  refine WC.cond rfl (fun (hb5 : (decide (((s.length + 1 + k) % 64) ≠ 56)) = true) => ?_) (fun (hb5 : (decide (((s.length + 1 + k) % 64) ≠ 56)) = false) => ?_)
  ·
    have hc5 := of_decide_eq_true hb5
    refine WC.skip ?_
    refine WQ.next ?_
    refine WC.block ?_
    refine WC.region ?_
    refine WL.op rfl rfl (op_move rfl ?_)
    refine WL.op rfl rfl (op_buildSlice (cs := [_]) H4 Tryz.underlying114 Fa.I5 rfl rfl rfl rfl (by decide) (by decide) (fun b6 w6 H6 => ?_))
    refine WL.op rfl rfl (op_appendM (f := vU8) (l := (s ++ [128] ++ List.replicate k 0)) (l' := [0]) (i := 0) H6 Tryz.underlying114 Fa.I5 rfl rfl rfl rfl (Src.ofArr Tryz.underlying114 (H6.arrR (i := 2) rfl)) (one_mapM (fun _ => rfl)) (by omega) (by omega) (fun v7 w7 H7 => ?_))
    refine WL.op rfl rfl (op_assign rfl ?_)
    refine WL.nil ?_
    refine WQ.inNormal ?_
    exact WQ.round (k + 1, v7) ⟨(by omega), (Own.rowEq (i := 0) (f := vU8) (H7.take 2) rfl (fillStep s k))⟩ ⟨rfl, rfl, trivial⟩ (by show padZ s.length - (k + 1) < padZ s.length - k; omega)
  ·
    have hc5 := of_decide_eq_false hb5
    have hk : k = padZ s.length := (by omega)
    refine WC.exit ?_
    refine WQ.thenExit ?_
    refine WQ.thenExit ?_
    refine WQ.inHere ?_
    refine WQ.next ?_
    refine WC.seq ?_
    refine WC.region ?_
    refine WL.op rfl rfl (op_move rfl ?_)
    refine WL.op rfl rfl (op_lenStr Tryz.underlying9 rfl ?_)
    refine WL.op rfl rfl (op_convNU64 (hs := Tryz.underlying3) (hd := Tryz.underlying154) rfl ?_)
    refine WL.op rfl rfl (op_mulU64 (a := 8) rfl rfl ?_)
    refine WL.op rfl rfl (op_assign rfl ?_)
    refine WL.nil ?_
    refine WQ.next ?_
    refine WC.seq ?_
    refine WC.seq ?_
    refine WC.region ?_
    refine WL.op rfl rfl (op_assign rfl ?_)
    refine WL.nil ?_
    refine WQ.next ?_
    refine WC.block ?_
    refine WC.loop (α := Nat × Value) (fun (j, v) => [(0, (str s)), (3, v), (4, (vU64 ((8 : UInt64) * (UInt64.ofNat s.length)))), (5, (vI ((56 : Int) - ((8 * j : Nat) : Int))))]) (fun (j, v) w' => (j ≤ 8) ∧ Own [] w w' [.row v 5 1 (s.length + 1 + padZ s.length + j) (List.map vU8 (s ++ ([128] ++ List.replicate (padZ s.length) 0 ++ lenTo s.length j))), .row (.slice (some ⟨b2, 0, none⟩) 1 1) 5 1 1 (List.map vU8 [128])]) (fun (j, v) => 8 - j) (0, v) ⟨(by omega), (Own.rowEqN (i := 0) (f := vU8) H4 rfl (by rw [hk]; simp [lenTo]) (by omega))⟩ ⟨rfl, rfl, rfl, rfl, trivial⟩ ?_
    rintro ⟨j, v⟩ w8 ⟨hinv, H8⟩
    show WC _ _ _ _ _ [(0, (str s)), (3, v), (4, (vU64 ((8 : UInt64) * (UInt64.ofNat s.length)))), (5, (vI ((56 : Int) - ((8 * j : Nat) : Int))))] _
    refine WC.seq ?_
    refine WC.seq ?_
    refine WC.region ?_
    refine WL.op rfl rfl (op_move rfl ?_)
    refine WL.op rfl rfl (op_geqI (b := (0 : Int)) rfl rfl ?_)
    refine WL.nil ?_
    refine WQ.next ?_
    refine WC.cond rfl (fun (hb9 : (decide (((56 : Int) - ((8 * j : Nat) : Int)) ≥ (0 : Int))) = true) => ?_) (fun (hb9 : (decide (((56 : Int) - ((8 * j : Nat) : Int)) ≥ (0 : Int))) = false) => ?_)
    ·
      have hc9 := of_decide_eq_true hb9
      rw [show ((56 : Int) - ((8 * j : Nat) : Int)) = ((56 - 8 * j : Nat) : Int) from by omega]
      refine WC.skip ?_
      refine WQ.next ?_
      refine WC.seq ?_
      refine WC.block ?_
      refine WC.region ?_
      refine WL.op rfl rfl (op_move rfl ?_)
      refine WL.op rfl rfl (op_move rfl ?_)
      refine WL.op rfl rfl (op_move rfl ?_)
      refine WL.op rfl rfl (op_convNU64 (hs := Tryz.underlying3) (hd := Tryz.underlying265) rfl ?_)
      refine WL.op rfl rfl (op_shrU64 rfl rfl ?_)
      refine WL.op rfl rfl (op_convU64U8 (hs := Tryz.underlying154) (hd := Tryz.underlying5) rfl ?_)
      refine WL.op rfl rfl (op_buildSlice (cs := [_]) H8 Tryz.underlying114 Fa.I5 rfl rfl rfl rfl (by decide) (by decide) (fun b10 w10 H10 => ?_))
      refine WL.op rfl rfl (op_appendM (f := vU8) (l := (s ++ ([128] ++ List.replicate (padZ s.length) 0 ++ lenTo s.length j))) (l' := [(UInt8.ofNat (shrU64 ((8 : UInt64) * (UInt64.ofNat s.length)) (UInt64.ofNat (56 - 8 * j)).toNat).toNat)]) (i := 0) H10 Tryz.underlying114 Fa.I5 rfl rfl rfl rfl (Src.ofArr Tryz.underlying114 (H10.arrR (i := 2) rfl)) (one_mapM (fun _ => rfl)) (by omega) (by omega) (fun v11 w11 H11 => ?_))
      refine WL.op rfl rfl (op_assign rfl ?_)
      refine WL.nil ?_
      refine WQ.inNormal ?_
      refine WQ.next ?_
      refine WC.region ?_
      refine WL.op rfl rfl (op_move rfl ?_)
      refine WL.op rfl rfl (op_subI (a := (((56 - 8 * j) : Nat) : Int)) (b := ((8 : Nat) : Int)) rfl rfl (by omega) ?_)
      refine WL.op rfl rfl (op_assign rfl ?_)
      refine WL.nil ?_
      exact WQ.round (j + 1, v11) ⟨(by omega), (Own.rowEq (i := 0) (f := vU8) (H11.take 2) rfl (lenStepW s _ s.length j (by omega)))⟩ ⟨rfl, rfl, rfl, (by show some (vI (((56 - 8 * j : Nat) : Int) - 8)) = some (vI ((56 : Int) - ((8 * (j + 1) : Nat) : Int))); congr 2; omega), trivial⟩ (by show 8 - (j + 1) < 8 - j; omega)
    ·
      have hc9 := of_decide_eq_false hb9
      refine WC.exit ?_
      refine WQ.thenExit ?_
      refine WQ.thenExit ?_
      refine WQ.inHere ?_
      refine WQ.next ?_
      refine WC.seq ?_
      refine WC.region ?_
      refine WL.op rfl rfl (op_move rfl ?_)
      refine WL.op rfl rfl (op_assign rfl ?_)
      refine WL.nil ?_
      refine WQ.next ?_
      refine WC.ret ?_
      refine WQ.out (.tmp rfl .nil) ?_
      exact ⟨_, rfl, Own.rowEqN (i := 0) (f := vU8) (H8.sel [0] rfl rfl) rfl (by have hj : j = 8 := (by omega); subst hj; rfl) (by simp [pads, lenTo_length]; omega)⟩
set_option maxRecDepth 100000 in
theorem rwords_ok (v : Value) (b : List UInt8) (w : World) (hl : b.length = 64) (hA : Arr w v 1 64 (b.map vU8)) :
    Calls Tryz.prog 231 #[v] w (fun e w' => ∃ v, e = .returned v ∧ Own [] w w' [.row v 22 1 64 (List.map vU32 (wl b 64))]) := by
  refine enter (args := [v]) Tryz.func231 rfl rfl ?_
  have H0 : Own [] w w [] := Own.start w []
  refine WC.seq ?_
  refine WC.region ?_
  refine WL.op rfl rfl (op_assign rfl ?_)
  refine WL.nil ?_
  refine WQ.next ?_
  refine WC.seq ?_
  refine WC.region ?_
  refine WL.op rfl rfl (op_assign rfl ?_)
  have H1 := H0.nilRow 22 1
  refine WL.nil ?_
  refine WQ.next ?_
  refine WC.seq ?_
  refine WC.seq ?_
  refine WC.region ?_
  refine WL.op rfl rfl (op_assign rfl ?_)
  refine WL.nil ?_
  refine WQ.next ?_
  refine WC.block ?_
  refine WC.loop (α := Nat × Value) (fun (j, q) => [(0, v), (3, q), (4, (vN (4 * j)))]) (fun (j, q) w' => (j ≤ 16) ∧ Own [] w w' [.row q 22 1 j (List.map vU32 (wl b j))]) (fun (j, q) => 16 - j) (0, (.slice none 0 0)) ⟨(by omega), H1⟩ ⟨rfl, rfl, rfl, trivial⟩ ?_
  rintro ⟨j, q⟩ w2 ⟨hinv, H2⟩
  show WC _ _ _ _ _ [(0, v), (3, q), (4, (vN (4 * j)))] _
  refine WC.seq ?_
  refine WC.seq ?_
  refine WC.region ?_
  refine WL.op rfl rfl (op_move rfl ?_)
  refine WL.op rfl rfl (op_lssN (b := 64) rfl rfl ?_)
  refine WL.nil ?_
  refine WQ.next ?_
  refine WC.cond rfl (fun (hb3 : (decide ((4 * j) < 64)) = true) => ?_) (fun (hb3 : (decide ((4 * j) < 64)) = false) => ?_)
  ·
    have hc3 := of_decide_eq_true hb3
    refine WC.skip ?_
    refine WQ.next ?_
    refine WC.seq ?_
    refine WC.block ?_
    refine WC.draw 31 Fa.M H2 (HW.op rfl (fun w1 H1 => op_move rfl ⟨rfl, Fr.refl _ _⟩) (HW.op rfl (fun w1 H1 => op_move rfl ⟨rfl, Fr.refl _ _⟩) (HW.op rfl (fun w1 H1 => op_move rfl ⟨rfl, Fr.refl _ _⟩) (HW.op rfl (fun w1 H1 => op_indexAddr1 Tryz.underlying114 Fa.I5 rfl (H1.arr hA) rfl (by omega) ⟨rfl, Fr.refl _ _⟩) (HW.op rfl (fun w1 H1 => op_load rfl ((H1.arr hA).at (get_map vU8 0 (Arr.ltM (H1.arr hA) (by omega)))) Tryz.underlying5 rfl ⟨rfl, Fr.refl _ _⟩) (HW.op rfl (fun w1 H1 => op_convU8U32 (hs := Tryz.underlying5) (hd := Tryz.underlying22) rfl ⟨rfl, Fr.refl _ _⟩) (HW.op rfl (fun w1 H1 => op_shlU32 (s := 24) rfl rfl ⟨rfl, Fr.refl _ _⟩) (HW.op rfl (fun w1 H1 => op_move rfl ⟨rfl, Fr.refl _ _⟩) (HW.op rfl (fun w1 H1 => op_move rfl ⟨rfl, Fr.refl _ _⟩) (HW.op rfl (fun w1 H1 => op_addN (b := 1) rfl rfl (by omega) ⟨rfl, Fr.refl _ _⟩) (HW.op rfl (fun w1 H1 => op_indexAddr1 Tryz.underlying114 Fa.I5 rfl (H1.arr hA) rfl (by omega) ⟨rfl, Fr.refl _ _⟩) (HW.op rfl (fun w1 H1 => op_load rfl ((H1.arr hA).at (get_map vU8 0 (Arr.ltM (H1.arr hA) (by omega)))) Tryz.underlying5 rfl ⟨rfl, Fr.refl _ _⟩) (HW.op rfl (fun w1 H1 => op_convU8U32 (hs := Tryz.underlying5) (hd := Tryz.underlying22) rfl ⟨rfl, Fr.refl _ _⟩) (HW.op rfl (fun w1 H1 => op_shlU32 (s := 16) rfl rfl ⟨rfl, Fr.refl _ _⟩) (HW.op rfl (fun w1 H1 => op_orU32 rfl rfl ⟨rfl, Fr.refl _ _⟩) (HW.op rfl (fun w1 H1 => op_move rfl ⟨rfl, Fr.refl _ _⟩) (HW.op rfl (fun w1 H1 => op_move rfl ⟨rfl, Fr.refl _ _⟩) (HW.op rfl (fun w1 H1 => op_addN (b := 2) rfl rfl (by omega) ⟨rfl, Fr.refl _ _⟩) (HW.op rfl (fun w1 H1 => op_indexAddr1 Tryz.underlying114 Fa.I5 rfl (H1.arr hA) rfl (by omega) ⟨rfl, Fr.refl _ _⟩) (HW.op rfl (fun w1 H1 => op_load rfl ((H1.arr hA).at (get_map vU8 0 (Arr.ltM (H1.arr hA) (by omega)))) Tryz.underlying5 rfl ⟨rfl, Fr.refl _ _⟩) (HW.op rfl (fun w1 H1 => op_convU8U32 (hs := Tryz.underlying5) (hd := Tryz.underlying22) rfl ⟨rfl, Fr.refl _ _⟩) (HW.op rfl (fun w1 H1 => op_shlU32 (s := 8) rfl rfl ⟨rfl, Fr.refl _ _⟩) (HW.op rfl (fun w1 H1 => op_orU32 rfl rfl ⟨rfl, Fr.refl _ _⟩) (HW.op rfl (fun w1 H1 => op_move rfl ⟨rfl, Fr.refl _ _⟩) (HW.op rfl (fun w1 H1 => op_move rfl ⟨rfl, Fr.refl _ _⟩) (HW.op rfl (fun w1 H1 => op_addN (b := 3) rfl rfl (by omega) ⟨rfl, Fr.refl _ _⟩) (HW.op rfl (fun w1 H1 => op_indexAddr1 Tryz.underlying114 Fa.I5 rfl (H1.arr hA) rfl (by omega) ⟨rfl, Fr.refl _ _⟩) (HW.op rfl (fun w1 H1 => op_load rfl ((H1.arr hA).at (get_map vU8 0 (Arr.ltM (H1.arr hA) (by omega)))) Tryz.underlying5 rfl ⟨rfl, Fr.refl _ _⟩) (HW.op rfl (fun w1 H1 => op_convU8U32 (hs := Tryz.underlying5) (hd := Tryz.underlying22) rfl ⟨rfl, Fr.refl _ _⟩) (HW.op rfl (fun w1 H1 => op_orU32 rfl rfl ⟨rfl, Fr.refl _ _⟩) (HW.flt (mk := fun bq => .slice (some ⟨bq.1, 0, none⟩) 1 1) (ent := fun bq => .row (.slice (some ⟨bq.1, 0, none⟩) 1 1) _ _ _ _) rfl (fun w1 _ => op_buildSlice (cs := [_]) (Own.start w1 []) Tryz.underlying73 Fa.I22 rfl rfl rfl rfl (by decide) (by decide) (fun bq w2 H2 => ⟨(bq, undef), rfl, H2, True.intro⟩))  HW.nil))))))))))))))))))))))))))))))) (by kernel_rfl) ?_
    intro β4 w4 H4
    refine WL.op rfl rfl (op_appendM (f := vU32) (l := (wl b j)) (l' := [((((shlU32 (UInt32.ofNat (b.getD (4 * j) 0).toNat) 24) ||| (shlU32 (UInt32.ofNat (b.getD ((4 * j) + 1) 0).toNat) 16)) ||| (shlU32 (UInt32.ofNat (b.getD ((4 * j) + 2) 0).toNat) 8)) ||| (UInt32.ofNat (b.getD ((4 * j) + 3) 0).toNat))]) (i := 0) H4 Tryz.underlying73 Fa.I22 rfl rfl rfl rfl (Src.ofArr Tryz.underlying73 (H4.arrR (i := 1) rfl)) (one_mapM (fun _ => rfl)) (by omega) (by omega) (fun v5 w5 H5 => ?_))
    refine WL.op rfl rfl (op_assign rfl ?_)
    refine WL.nil ?_
    refine WQ.inNormal ?_
    refine WQ.next ?_
    refine WC.region ?_
    refine WL.op rfl rfl (op_move rfl ?_)
    refine WL.op rfl rfl (op_addN (b := 4) rfl rfl (by omega) ?_)
    refine WL.op rfl rfl (op_assign rfl ?_)
    refine WL.nil ?_
    exact WQ.round (j + 1, v5) ⟨(by omega), (Own.rowEq (i := 0) (f := vU32) (H5.take 1) rfl (wl_lo b (by omega)))⟩ ⟨rfl, rfl, rfl, trivial⟩ (by show 16 - (j + 1) < 16 - j; omega)
  ·
    have hc3 := of_decide_eq_false hb3
    refine WC.exit ?_
    refine WQ.thenExit ?_
    refine WQ.thenExit ?_
    refine WQ.inHere ?_
    refine WQ.next ?_
    refine WC.seq ?_
    refine WC.seq ?_
    refine WC.region ?_
    refine WL.op rfl rfl (op_assign rfl ?_)
    refine WL.nil ?_
    refine WQ.next ?_
    refine WC.block ?_
    refine WC.loop (α := Nat × Value) (fun (t, q) => [(3, q), (5, (vN t))]) (fun (t, q) w' => (16 ≤ t ∧ t ≤ 64) ∧ Own [] w w' [.row q 22 1 t (List.map vU32 (wl b t))]) (fun (t, q) => 64 - t) (16, q) ⟨(by omega), (by have hj : j = 16 := (by omega); subst hj; exact H2)⟩ ⟨rfl, rfl, trivial⟩ ?_
    rintro ⟨t, q⟩ w6 ⟨hinv, H6⟩
    show WC _ _ _ _ _ [(3, q), (5, (vN t))] _
    refine WC.seq ?_
    refine WC.seq ?_
    refine WC.region ?_
    refine WL.op rfl rfl (op_move rfl ?_)
    refine WL.op rfl rfl (op_lssN (b := 64) rfl rfl ?_)
    refine WL.nil ?_
    refine WQ.next ?_
    refine WC.cond rfl (fun (hb7 : (decide (t < 64)) = true) => ?_) (fun (hb7 : (decide (t < 64)) = false) => ?_)
    ·
      have hc7 := of_decide_eq_true hb7
      refine WC.skip ?_
      refine WQ.next ?_
      refine WC.seq ?_
      refine WC.block ?_
      refine WC.seq ?_
      refine WC.draw 12 Fa.M H6 (HW.op rfl (fun w1 H1 => op_move rfl ⟨rfl, Fr.refl _ _⟩) (HW.op rfl (fun w1 H1 => op_move rfl ⟨rfl, Fr.refl _ _⟩) (HW.op rfl (fun w1 H1 => op_subN (b := 15) rfl rfl (by omega) (by omega) ⟨rfl, Fr.refl _ _⟩) (HW.op rfl (fun w1 H1 => op_indexAddr1 Tryz.underlying73 Fa.I22 rfl (H1.arrR (i := 0) rfl) rfl (by omega) ⟨rfl, Fr.refl _ _⟩) (HW.op rfl (fun w1 H1 => op_load rfl ((H1.arrR (i := 0) rfl).at (get_map vU32 0 (Arr.ltM (H1.arrR (i := 0) rfl) (by omega)))) Tryz.underlying22 rfl ⟨rfl, Fr.refl _ _⟩) (HW.op rfl (fun w1 H1 => op_move rfl ⟨rfl, Fr.refl _ _⟩) (HW.op rfl (fun w1 H1 => op_move rfl ⟨rfl, Fr.refl _ _⟩) (HW.op rfl (fun w1 H1 => op_subN (b := 2) rfl rfl (by omega) (by omega) ⟨rfl, Fr.refl _ _⟩) (HW.op rfl (fun w1 H1 => op_indexAddr1 Tryz.underlying73 Fa.I22 rfl (H1.arrR (i := 0) rfl) rfl (by omega) ⟨rfl, Fr.refl _ _⟩) (HW.op rfl (fun w1 H1 => op_load rfl ((H1.arrR (i := 0) rfl).at (get_map vU32 0 (Arr.ltM (H1.arrR (i := 0) rfl) (by omega)))) Tryz.underlying22 rfl ⟨rfl, Fr.refl _ _⟩) (HW.op rfl (fun w1 H1 => op_assign rfl ⟨rfl, Fr.refl _ _⟩) (HW.op rfl (fun w1 H1 => op_assign rfl ⟨rfl, Fr.refl _ _⟩)  HW.nil)))))))))))) (by kernel_rfl) ?_
      intro β8 w8 H8
      refine WL.nil ?_
      refine WQ.next ?_
      refine WC.draw 31 Fa.M H8 (HW.op rfl (fun w1 H1 => op_move rfl ⟨rfl, Fr.refl _ _⟩) (HW.op rfl (fun w1 H1 => op_move rfl ⟨rfl, Fr.refl _ _⟩) (HW.op rfl (fun w1 H1 => op_move rfl ⟨rfl, Fr.refl _ _⟩) (HW.op rfl (fun w1 H1 => op_subN (b := 16) rfl rfl (by omega) (by omega) ⟨rfl, Fr.refl _ _⟩) (HW.op rfl (fun w1 H1 => op_indexAddr1 Tryz.underlying73 Fa.I22 rfl (H1.arrR (i := 0) rfl) rfl (by omega) ⟨rfl, Fr.refl _ _⟩) (HW.op rfl (fun w1 H1 => op_load rfl ((H1.arrR (i := 0) rfl).at (get_map vU32 0 (Arr.ltM (H1.arrR (i := 0) rfl) (by omega)))) Tryz.underlying22 rfl ⟨rfl, Fr.refl _ _⟩) (HW.op rfl (fun w1 H1 => op_move rfl ⟨rfl, Fr.refl _ _⟩) (HW.op rfl (fun w1 H1 => op_callF Fa.C232 rfl ((rturn_ok ((wl b t).getD (t - 15) 0) 7 (by decide) _).mono (fun e w2 hq => ⟨_, hq.1, rfl, hq.2⟩))) (HW.op rfl (fun w1 H1 => op_move rfl ⟨rfl, Fr.refl _ _⟩) (HW.op rfl (fun w1 H1 => op_callF Fa.C232 rfl ((rturn_ok ((wl b t).getD (t - 15) 0) 18 (by decide) _).mono (fun e w2 hq => ⟨_, hq.1, rfl, hq.2⟩))) (HW.op rfl (fun w1 H1 => op_xorU32 rfl rfl ⟨rfl, Fr.refl _ _⟩) (HW.op rfl (fun w1 H1 => op_move rfl ⟨rfl, Fr.refl _ _⟩) (HW.op rfl (fun w1 H1 => op_shrU32 (s := 3) rfl rfl ⟨rfl, Fr.refl _ _⟩) (HW.op rfl (fun w1 H1 => op_xorU32 rfl rfl ⟨rfl, Fr.refl _ _⟩) (HW.op rfl (fun w1 H1 => op_addU32 rfl rfl ⟨rfl, Fr.refl _ _⟩) (HW.op rfl (fun w1 H1 => op_move rfl ⟨rfl, Fr.refl _ _⟩) (HW.op rfl (fun w1 H1 => op_move rfl ⟨rfl, Fr.refl _ _⟩) (HW.op rfl (fun w1 H1 => op_subN (b := 7) rfl rfl (by omega) (by omega) ⟨rfl, Fr.refl _ _⟩) (HW.op rfl (fun w1 H1 => op_indexAddr1 Tryz.underlying73 Fa.I22 rfl (H1.arrR (i := 0) rfl) rfl (by omega) ⟨rfl, Fr.refl _ _⟩) (HW.op rfl (fun w1 H1 => op_load rfl ((H1.arrR (i := 0) rfl).at (get_map vU32 0 (Arr.ltM (H1.arrR (i := 0) rfl) (by omega)))) Tryz.underlying22 rfl ⟨rfl, Fr.refl _ _⟩) (HW.op rfl (fun w1 H1 => op_addU32 rfl rfl ⟨rfl, Fr.refl _ _⟩) (HW.op rfl (fun w1 H1 => op_move rfl ⟨rfl, Fr.refl _ _⟩) (HW.op rfl (fun w1 H1 => op_callF Fa.C232 rfl ((rturn_ok ((wl b t).getD (t - 2) 0) 17 (by decide) _).mono (fun e w2 hq => ⟨_, hq.1, rfl, hq.2⟩))) (HW.op rfl (fun w1 H1 => op_move rfl ⟨rfl, Fr.refl _ _⟩) (HW.op rfl (fun w1 H1 => op_callF Fa.C232 rfl ((rturn_ok ((wl b t).getD (t - 2) 0) 19 (by decide) _).mono (fun e w2 hq => ⟨_, hq.1, rfl, hq.2⟩))) (HW.op rfl (fun w1 H1 => op_xorU32 rfl rfl ⟨rfl, Fr.refl _ _⟩) (HW.op rfl (fun w1 H1 => op_move rfl ⟨rfl, Fr.refl _ _⟩) (HW.op rfl (fun w1 H1 => op_shrU32 (s := 10) rfl rfl ⟨rfl, Fr.refl _ _⟩) (HW.op rfl (fun w1 H1 => op_xorU32 rfl rfl ⟨rfl, Fr.refl _ _⟩) (HW.op rfl (fun w1 H1 => op_addU32 rfl rfl ⟨rfl, Fr.refl _ _⟩) (HW.flt (mk := fun bq => .slice (some ⟨bq.1, 0, none⟩) 1 1) (ent := fun bq => .row (.slice (some ⟨bq.1, 0, none⟩) 1 1) _ _ _ _) rfl (fun w1 _ => op_buildSlice (cs := [_]) (Own.start w1 []) Tryz.underlying73 Fa.I22 rfl rfl rfl rfl (by decide) (by decide) (fun bq w2 H2 => ⟨(bq, undef), rfl, H2, True.intro⟩))  HW.nil))))))))))))))))))))))))))))))) (by kernel_rfl) ?_
      intro β13 w13 H13
      refine WL.op rfl rfl (op_appendM (f := vU32) (l := (wl b t)) (l' := [(((((wl b t).getD (t - 16) 0) + (((rot ((wl b t).getD (t - 15) 0) 7) ^^^ (rot ((wl b t).getD (t - 15) 0) 18)) ^^^ (shrU32 ((wl b t).getD (t - 15) 0) 3))) + ((wl b t).getD (t - 7) 0)) + (((rot ((wl b t).getD (t - 2) 0) 17) ^^^ (rot ((wl b t).getD (t - 2) 0) 19)) ^^^ (shrU32 ((wl b t).getD (t - 2) 0) 10)))]) (i := 0) H13 Tryz.underlying73 Fa.I22 rfl rfl rfl rfl (Src.ofArr Tryz.underlying73 (H13.arrR (i := 1) rfl)) (one_mapM (fun _ => rfl)) (by omega) (by omega) (fun v14 w14 H14 => ?_))
      refine WL.op rfl rfl (op_assign rfl ?_)
      refine WL.nil ?_
      refine WQ.inNormal ?_
      refine WQ.next ?_
      refine WC.region ?_
      refine WL.op rfl rfl (op_move rfl ?_)
      refine WL.op rfl rfl (op_addN (b := 1) rfl rfl (by omega) ?_)
      refine WL.op rfl rfl (op_assign rfl ?_)
      refine WL.nil ?_
      exact WQ.round (t + 1, v14) ⟨(by omega), (Own.rowEq (i := 0) (f := vU32) (H14.take 1) rfl (wl_hi b (by omega)))⟩ ⟨rfl, rfl, trivial⟩ (by show 64 - (t + 1) < 64 - t; omega)
    ·
      have hc7 := of_decide_eq_false hb7
      refine WC.exit ?_
      refine WQ.thenExit ?_
      refine WQ.thenExit ?_
      refine WQ.inHere ?_
      refine WQ.next ?_
      refine WC.seq ?_
      refine WC.region ?_
      refine WL.op rfl rfl (op_move rfl ?_)
      refine WL.op rfl rfl (op_assign rfl ?_)
      refine WL.nil ?_
      refine WQ.next ?_
      refine WC.ret ?_
      refine WQ.out (.tmp rfl .nil) ?_
      exact ⟨_, rfl, (by have ht : t = 64 := (by omega); subst ht; exact H6)⟩
set_option maxRecDepth 100000 in
theorem rblock_ok (h : St) (vh vk v : Value) (b : List UInt8) (w : World) (hl : b.length = 64) (hH : Arr w vh 1 8 (List.map vU32 h.vals)) (hK : Arr w vk 1 64 (List.map vU32 keyL)) (hA : Arr w v 1 64 (b.map vU8)) :
    Calls Tryz.prog 204 #[vh, vk, v] w (fun e w' => ∃ v, e = .returned v ∧ Own [] w w' [.row v 22 1 8 (List.map vU32 (blockS h b).vals)]) := by
  refine enter (args := [vh, vk, v]) Tryz.func204 rfl rfl ?_
  have H0 : Own [] w w [] := Own.start w []
  refine WC.seq ?_
  refine WC.region ?_
  refine WL.op rfl rfl (op_assign rfl ?_)
  refine WL.nil ?_
  refine WQ.next ?_
  refine WC.seq ?_
  refine WC.region ?_
  refine WL.op rfl rfl (op_move rfl ?_)
  refine WL.op rfl rfl (op_callF Fa.C231 rfl ((rwords_ok _ _ _ hl (H0.arr hA)).mono (fun e w1 hq => ?_)))
  obtain ⟨v1, rfl, hq1⟩ := hq
  refine ⟨_, rfl, ?_⟩
  have H1 : Own [] w w1 [.row v1 22 1 64 (List.map vU32 (wl b 64))] := H0.splice [] [] [.row v1 22 1 64 (List.map vU32 (wl b 64))] rfl rfl hq1 (Fits.solid True.intro Fits.nil)
  refine WL.op rfl rfl (op_assign rfl ?_)
  refine WL.nil ?_
  refine WQ.next ?_
  refine WC.seq ?_
  refine WC.region ?_
  refine WL.op rfl rfl (op_move rfl ?_)
  have H3 := H1.nilRow 22 1
  refine WL.op rfl rfl (op_appendM (f := vU32) (l := []) (l' := h.vals) (i := 1) H3 Tryz.underlying73 Fa.I22 rfl rfl rfl rfl (Src.ofArr Tryz.underlying73 (H3.arr hH)) (one_mapM (fun _ => rfl)) (by omega) (by omega) (fun v2 w2 H2 => ?_))
  refine WL.op rfl rfl (op_assign rfl ?_)
  refine WL.nil ?_
  refine WQ.next ?_
  refine WC.seq ?_
  refine WC.seq ?_
  refine WC.region ?_
  refine WL.op rfl rfl (op_assign rfl ?_)
  refine WL.nil ?_
  refine WQ.next ?_
  refine WC.block ?_
  refine WC.loop (α := Nat × Value) (fun (t, q) => [(0, vh), (1, vk), (7, v1), (8, q), (9, (vN t))]) (fun (t, q) w' => (t ≤ 64) ∧ Own [] w w' [.row v1 22 1 64 (List.map vU32 (wl b 64)), .row q 22 1 8 (List.map vU32 (rounds h (wl b 64) t).vals)]) (fun (t, q) => 64 - t) (0, v2) ⟨(by omega), H2⟩ ⟨rfl, rfl, rfl, rfl, rfl, trivial⟩ ?_
  rintro ⟨t, q⟩ w4 ⟨hinv, H4⟩
  show WC _ _ _ _ _ [(0, vh), (1, vk), (7, v1), (8, q), (9, (vN t))] _
  refine WC.seq ?_
  refine WC.seq ?_
  refine WC.region ?_
  refine WL.op rfl rfl (op_move rfl ?_)
  refine WL.op rfl rfl (op_lssN (b := 64) rfl rfl ?_)
  refine WL.nil ?_
  refine WQ.next ?_
  refine WC.cond rfl (fun (hb5 : (decide (t < 64)) = true) => ?_) (fun (hb5 : (decide (t < 64)) = false) => ?_)
  ·
    have hc5 := of_decide_eq_true hb5
    refine WC.skip ?_
    refine WQ.next ?_
    refine WC.seq ?_
    refine WC.block ?_
    refine WC.seq ?_
    refine WC.draw 15 Fa.M H4 (HW.op rfl (fun w1 H1 => op_move rfl ⟨rfl, Fr.refl _ _⟩) (HW.op rfl (fun w1 H1 => op_indexAddr1 (m := 4) Tryz.underlying73 Fa.I22 rfl (H1.arrR (i := 1) rfl) rfl (by omega) ⟨rfl, Fr.refl _ _⟩) (HW.op rfl (fun w1 H1 => op_load rfl ((H1.arrR (i := 1) rfl).at (get_map vU32 0 (Arr.ltM (H1.arrR (i := 1) rfl) (by omega)))) Tryz.underlying22 rfl ⟨rfl, Fr.refl _ _⟩) (HW.op rfl (fun w1 H1 => op_callF Fa.C232 rfl ((rturn_ok ((rounds h (wl b 64) t).vals.getD 4 0) 6 (by decide) _).mono (fun e w2 hq => ⟨_, hq.1, rfl, hq.2⟩))) (HW.op rfl (fun w1 H1 => op_move rfl ⟨rfl, Fr.refl _ _⟩) (HW.op rfl (fun w1 H1 => op_indexAddr1 (m := 4) Tryz.underlying73 Fa.I22 rfl (H1.arrR (i := 1) rfl) rfl (by omega) ⟨rfl, Fr.refl _ _⟩) (HW.op rfl (fun w1 H1 => op_load rfl ((H1.arrR (i := 1) rfl).at (get_map vU32 0 (Arr.ltM (H1.arrR (i := 1) rfl) (by omega)))) Tryz.underlying22 rfl ⟨rfl, Fr.refl _ _⟩) (HW.op rfl (fun w1 H1 => op_callF Fa.C232 rfl ((rturn_ok ((rounds h (wl b 64) t).vals.getD 4 0) 11 (by decide) _).mono (fun e w2 hq => ⟨_, hq.1, rfl, hq.2⟩))) (HW.op rfl (fun w1 H1 => op_xorU32 rfl rfl ⟨rfl, Fr.refl _ _⟩) (HW.op rfl (fun w1 H1 => op_move rfl ⟨rfl, Fr.refl _ _⟩) (HW.op rfl (fun w1 H1 => op_indexAddr1 (m := 4) Tryz.underlying73 Fa.I22 rfl (H1.arrR (i := 1) rfl) rfl (by omega) ⟨rfl, Fr.refl _ _⟩) (HW.op rfl (fun w1 H1 => op_load rfl ((H1.arrR (i := 1) rfl).at (get_map vU32 0 (Arr.ltM (H1.arrR (i := 1) rfl) (by omega)))) Tryz.underlying22 rfl ⟨rfl, Fr.refl _ _⟩) (HW.op rfl (fun w1 H1 => op_callF Fa.C232 rfl ((rturn_ok ((rounds h (wl b 64) t).vals.getD 4 0) 25 (by decide) _).mono (fun e w2 hq => ⟨_, hq.1, rfl, hq.2⟩))) (HW.op rfl (fun w1 H1 => op_xorU32 rfl rfl ⟨rfl, Fr.refl _ _⟩) (HW.op rfl (fun w1 H1 => op_assign rfl ⟨rfl, Fr.refl _ _⟩)  HW.nil))))))))))))))) (by kernel_rfl) ?_
    intro β9 w9 H9
    refine WL.nil ?_
    refine WQ.next ?_
    refine WC.seq ?_
    refine WC.draw 17 Fa.M H9 (HW.op rfl (fun w1 H1 => op_move rfl ⟨rfl, Fr.refl _ _⟩) (HW.op rfl (fun w1 H1 => op_indexAddr1 (m := 4) Tryz.underlying73 Fa.I22 rfl (H1.arrR (i := 1) rfl) rfl (by omega) ⟨rfl, Fr.refl _ _⟩) (HW.op rfl (fun w1 H1 => op_load rfl ((H1.arrR (i := 1) rfl).at (get_map vU32 0 (Arr.ltM (H1.arrR (i := 1) rfl) (by omega)))) Tryz.underlying22 rfl ⟨rfl, Fr.refl _ _⟩) (HW.op rfl (fun w1 H1 => op_move rfl ⟨rfl, Fr.refl _ _⟩) (HW.op rfl (fun w1 H1 => op_indexAddr1 (m := 5) Tryz.underlying73 Fa.I22 rfl (H1.arrR (i := 1) rfl) rfl (by omega) ⟨rfl, Fr.refl _ _⟩) (HW.op rfl (fun w1 H1 => op_load rfl ((H1.arrR (i := 1) rfl).at (get_map vU32 0 (Arr.ltM (H1.arrR (i := 1) rfl) (by omega)))) Tryz.underlying22 rfl ⟨rfl, Fr.refl _ _⟩) (HW.op rfl (fun w1 H1 => op_andU32 rfl rfl ⟨rfl, Fr.refl _ _⟩) (HW.op rfl (fun w1 H1 => op_move rfl ⟨rfl, Fr.refl _ _⟩) (HW.op rfl (fun w1 H1 => op_indexAddr1 (m := 4) Tryz.underlying73 Fa.I22 rfl (H1.arrR (i := 1) rfl) rfl (by omega) ⟨rfl, Fr.refl _ _⟩) (HW.op rfl (fun w1 H1 => op_load rfl ((H1.arrR (i := 1) rfl).at (get_map vU32 0 (Arr.ltM (H1.arrR (i := 1) rfl) (by omega)))) Tryz.underlying22 rfl ⟨rfl, Fr.refl _ _⟩) (HW.op rfl (fun w1 H1 => op_complU32 rfl ⟨rfl, Fr.refl _ _⟩) (HW.op rfl (fun w1 H1 => op_move rfl ⟨rfl, Fr.refl _ _⟩) (HW.op rfl (fun w1 H1 => op_indexAddr1 (m := 6) Tryz.underlying73 Fa.I22 rfl (H1.arrR (i := 1) rfl) rfl (by omega) ⟨rfl, Fr.refl _ _⟩) (HW.op rfl (fun w1 H1 => op_load rfl ((H1.arrR (i := 1) rfl).at (get_map vU32 0 (Arr.ltM (H1.arrR (i := 1) rfl) (by omega)))) Tryz.underlying22 rfl ⟨rfl, Fr.refl _ _⟩) (HW.op rfl (fun w1 H1 => op_andU32 rfl rfl ⟨rfl, Fr.refl _ _⟩) (HW.op rfl (fun w1 H1 => op_xorU32 rfl rfl ⟨rfl, Fr.refl _ _⟩) (HW.op rfl (fun w1 H1 => op_assign rfl ⟨rfl, Fr.refl _ _⟩)  HW.nil))))))))))))))))) (by kernel_rfl) ?_
    intro β10 w10 H10
    refine WL.nil ?_
    refine WQ.next ?_
    refine WC.seq ?_
    refine WC.draw 18 Fa.M H10 (HW.op rfl (fun w1 H1 => op_move rfl ⟨rfl, Fr.refl _ _⟩) (HW.op rfl (fun w1 H1 => op_indexAddr1 (m := 7) Tryz.underlying73 Fa.I22 rfl (H1.arrR (i := 1) rfl) rfl (by omega) ⟨rfl, Fr.refl _ _⟩) (HW.op rfl (fun w1 H1 => op_load rfl ((H1.arrR (i := 1) rfl).at (get_map vU32 0 (Arr.ltM (H1.arrR (i := 1) rfl) (by omega)))) Tryz.underlying22 rfl ⟨rfl, Fr.refl _ _⟩) (HW.op rfl (fun w1 H1 => op_move rfl ⟨rfl, Fr.refl _ _⟩) (HW.op rfl (fun w1 H1 => op_addU32 rfl rfl ⟨rfl, Fr.refl _ _⟩) (HW.op rfl (fun w1 H1 => op_move rfl ⟨rfl, Fr.refl _ _⟩) (HW.op rfl (fun w1 H1 => op_addU32 rfl rfl ⟨rfl, Fr.refl _ _⟩) (HW.op rfl (fun w1 H1 => op_move rfl ⟨rfl, Fr.refl _ _⟩) (HW.op rfl (fun w1 H1 => op_move rfl ⟨rfl, Fr.refl _ _⟩) (HW.op rfl (fun w1 H1 => op_indexAddr1 Tryz.underlying73 Fa.I22 rfl (H1.arr hK) rfl (by omega) ⟨rfl, Fr.refl _ _⟩) (HW.op rfl (fun w1 H1 => op_load rfl ((H1.arr hK).at (get_map vU32 0 (Arr.ltM (H1.arr hK) (by omega)))) Tryz.underlying22 rfl ⟨rfl, Fr.refl _ _⟩) (HW.op rfl (fun w1 H1 => op_addU32 rfl rfl ⟨rfl, Fr.refl _ _⟩) (HW.op rfl (fun w1 H1 => op_move rfl ⟨rfl, Fr.refl _ _⟩) (HW.op rfl (fun w1 H1 => op_move rfl ⟨rfl, Fr.refl _ _⟩) (HW.op rfl (fun w1 H1 => op_indexAddr1 Tryz.underlying73 Fa.I22 rfl (H1.arrR (i := 0) rfl) rfl (by omega) ⟨rfl, Fr.refl _ _⟩) (HW.op rfl (fun w1 H1 => op_load rfl ((H1.arrR (i := 0) rfl).at (get_map vU32 0 (Arr.ltM (H1.arrR (i := 0) rfl) (by omega)))) Tryz.underlying22 rfl ⟨rfl, Fr.refl _ _⟩) (HW.op rfl (fun w1 H1 => op_addU32 rfl rfl ⟨rfl, Fr.refl _ _⟩) (HW.op rfl (fun w1 H1 => op_assign rfl ⟨rfl, Fr.refl _ _⟩)  HW.nil)))))))))))))))))) (by kernel_rfl) ?_
    intro β11 w11 H11
    refine WL.nil ?_
    refine WQ.next ?_
    refine WC.seq ?_
    refine WC.draw 15 Fa.M H11 (HW.op rfl (fun w1 H1 => op_move rfl ⟨rfl, Fr.refl _ _⟩) (HW.op rfl (fun w1 H1 => op_indexAddr1 (m := 0) Tryz.underlying73 Fa.I22 rfl (H1.arrR (i := 1) rfl) rfl (by omega) ⟨rfl, Fr.refl _ _⟩) (HW.op rfl (fun w1 H1 => op_load rfl ((H1.arrR (i := 1) rfl).at (get_map vU32 0 (Arr.ltM (H1.arrR (i := 1) rfl) (by omega)))) Tryz.underlying22 rfl ⟨rfl, Fr.refl _ _⟩) (HW.op rfl (fun w1 H1 => op_callF Fa.C232 rfl ((rturn_ok ((rounds h (wl b 64) t).vals.getD 0 0) 2 (by decide) _).mono (fun e w2 hq => ⟨_, hq.1, rfl, hq.2⟩))) (HW.op rfl (fun w1 H1 => op_move rfl ⟨rfl, Fr.refl _ _⟩) (HW.op rfl (fun w1 H1 => op_indexAddr1 (m := 0) Tryz.underlying73 Fa.I22 rfl (H1.arrR (i := 1) rfl) rfl (by omega) ⟨rfl, Fr.refl _ _⟩) (HW.op rfl (fun w1 H1 => op_load rfl ((H1.arrR (i := 1) rfl).at (get_map vU32 0 (Arr.ltM (H1.arrR (i := 1) rfl) (by omega)))) Tryz.underlying22 rfl ⟨rfl, Fr.refl _ _⟩) (HW.op rfl (fun w1 H1 => op_callF Fa.C232 rfl ((rturn_ok ((rounds h (wl b 64) t).vals.getD 0 0) 13 (by decide) _).mono (fun e w2 hq => ⟨_, hq.1, rfl, hq.2⟩))) (HW.op rfl (fun w1 H1 => op_xorU32 rfl rfl ⟨rfl, Fr.refl _ _⟩) (HW.op rfl (fun w1 H1 => op_move rfl ⟨rfl, Fr.refl _ _⟩) (HW.op rfl (fun w1 H1 => op_indexAddr1 (m := 0) Tryz.underlying73 Fa.I22 rfl (H1.arrR (i := 1) rfl) rfl (by omega) ⟨rfl, Fr.refl _ _⟩) (HW.op rfl (fun w1 H1 => op_load rfl ((H1.arrR (i := 1) rfl).at (get_map vU32 0 (Arr.ltM (H1.arrR (i := 1) rfl) (by omega)))) Tryz.underlying22 rfl ⟨rfl, Fr.refl _ _⟩) (HW.op rfl (fun w1 H1 => op_callF Fa.C232 rfl ((rturn_ok ((rounds h (wl b 64) t).vals.getD 0 0) 22 (by decide) _).mono (fun e w2 hq => ⟨_, hq.1, rfl, hq.2⟩))) (HW.op rfl (fun w1 H1 => op_xorU32 rfl rfl ⟨rfl, Fr.refl _ _⟩) (HW.op rfl (fun w1 H1 => op_assign rfl ⟨rfl, Fr.refl _ _⟩)  HW.nil))))))))))))))) (by kernel_rfl) ?_
    intro β15 w15 H15
    refine WL.nil ?_
    refine WQ.next ?_
    refine WC.seq ?_
    refine WC.draw 24 Fa.M H15 (HW.op rfl (fun w1 H1 => op_move rfl ⟨rfl, Fr.refl _ _⟩) (HW.op rfl (fun w1 H1 => op_indexAddr1 (m := 0) Tryz.underlying73 Fa.I22 rfl (H1.arrR (i := 1) rfl) rfl (by omega) ⟨rfl, Fr.refl _ _⟩) (HW.op rfl (fun w1 H1 => op_load rfl ((H1.arrR (i := 1) rfl).at (get_map vU32 0 (Arr.ltM (H1.arrR (i := 1) rfl) (by omega)))) Tryz.underlying22 rfl ⟨rfl, Fr.refl _ _⟩) (HW.op rfl (fun w1 H1 => op_move rfl ⟨rfl, Fr.refl _ _⟩) (HW.op rfl (fun w1 H1 => op_indexAddr1 (m := 1) Tryz.underlying73 Fa.I22 rfl (H1.arrR (i := 1) rfl) rfl (by omega) ⟨rfl, Fr.refl _ _⟩) (HW.op rfl (fun w1 H1 => op_load rfl ((H1.arrR (i := 1) rfl).at (get_map vU32 0 (Arr.ltM (H1.arrR (i := 1) rfl) (by omega)))) Tryz.underlying22 rfl ⟨rfl, Fr.refl _ _⟩) (HW.op rfl (fun w1 H1 => op_andU32 rfl rfl ⟨rfl, Fr.refl _ _⟩) (HW.op rfl (fun w1 H1 => op_move rfl ⟨rfl, Fr.refl _ _⟩) (HW.op rfl (fun w1 H1 => op_indexAddr1 (m := 0) Tryz.underlying73 Fa.I22 rfl (H1.arrR (i := 1) rfl) rfl (by omega) ⟨rfl, Fr.refl _ _⟩) (HW.op rfl (fun w1 H1 => op_load rfl ((H1.arrR (i := 1) rfl).at (get_map vU32 0 (Arr.ltM (H1.arrR (i := 1) rfl) (by omega)))) Tryz.underlying22 rfl ⟨rfl, Fr.refl _ _⟩) (HW.op rfl (fun w1 H1 => op_move rfl ⟨rfl, Fr.refl _ _⟩) (HW.op rfl (fun w1 H1 => op_indexAddr1 (m := 2) Tryz.underlying73 Fa.I22 rfl (H1.arrR (i := 1) rfl) rfl (by omega) ⟨rfl, Fr.refl _ _⟩) (HW.op rfl (fun w1 H1 => op_load rfl ((H1.arrR (i := 1) rfl).at (get_map vU32 0 (Arr.ltM (H1.arrR (i := 1) rfl) (by omega)))) Tryz.underlying22 rfl ⟨rfl, Fr.refl _ _⟩) (HW.op rfl (fun w1 H1 => op_andU32 rfl rfl ⟨rfl, Fr.refl _ _⟩) (HW.op rfl (fun w1 H1 => op_xorU32 rfl rfl ⟨rfl, Fr.refl _ _⟩) (HW.op rfl (fun w1 H1 => op_move rfl ⟨rfl, Fr.refl _ _⟩) (HW.op rfl (fun w1 H1 => op_indexAddr1 (m := 1) Tryz.underlying73 Fa.I22 rfl (H1.arrR (i := 1) rfl) rfl (by omega) ⟨rfl, Fr.refl _ _⟩) (HW.op rfl (fun w1 H1 => op_load rfl ((H1.arrR (i := 1) rfl).at (get_map vU32 0 (Arr.ltM (H1.arrR (i := 1) rfl) (by omega)))) Tryz.underlying22 rfl ⟨rfl, Fr.refl _ _⟩) (HW.op rfl (fun w1 H1 => op_move rfl ⟨rfl, Fr.refl _ _⟩) (HW.op rfl (fun w1 H1 => op_indexAddr1 (m := 2) Tryz.underlying73 Fa.I22 rfl (H1.arrR (i := 1) rfl) rfl (by omega) ⟨rfl, Fr.refl _ _⟩) (HW.op rfl (fun w1 H1 => op_load rfl ((H1.arrR (i := 1) rfl).at (get_map vU32 0 (Arr.ltM (H1.arrR (i := 1) rfl) (by omega)))) Tryz.underlying22 rfl ⟨rfl, Fr.refl _ _⟩) (HW.op rfl (fun w1 H1 => op_andU32 rfl rfl ⟨rfl, Fr.refl _ _⟩) (HW.op rfl (fun w1 H1 => op_xorU32 rfl rfl ⟨rfl, Fr.refl _ _⟩) (HW.op rfl (fun w1 H1 => op_assign rfl ⟨rfl, Fr.refl _ _⟩)  HW.nil)))))))))))))))))))))))) (by kernel_rfl) ?_
    intro β16 w16 H16
    refine WL.nil ?_
    refine WQ.next ?_
    refine WC.seq ?_
    refine WC.region ?_
    refine WL.op rfl rfl (op_move rfl ?_)
    refine WL.op rfl rfl (op_move rfl ?_)
    refine WL.op rfl rfl (op_addU32 rfl rfl ?_)
    refine WL.op rfl rfl (op_assign rfl ?_)
    refine WL.nil ?_
    refine WQ.next ?_
    refine WC.draw 27 Fa.M H16 (HW.op rfl (fun w1 H1 => op_move rfl ⟨rfl, Fr.refl _ _⟩) (HW.op rfl (fun w1 H1 => op_move rfl ⟨rfl, Fr.refl _ _⟩) (HW.op rfl (fun w1 H1 => op_addU32 rfl rfl ⟨rfl, Fr.refl _ _⟩) (HW.op rfl (fun w1 H1 => op_move rfl ⟨rfl, Fr.refl _ _⟩) (HW.op rfl (fun w1 H1 => op_indexAddr1 (m := 0) Tryz.underlying73 Fa.I22 rfl (H1.arrR (i := 1) rfl) rfl (by omega) ⟨rfl, Fr.refl _ _⟩) (HW.op rfl (fun w1 H1 => op_load rfl ((H1.arrR (i := 1) rfl).at (get_map vU32 0 (Arr.ltM (H1.arrR (i := 1) rfl) (by omega)))) Tryz.underlying22 rfl ⟨rfl, Fr.refl _ _⟩) (HW.op rfl (fun w1 H1 => op_move rfl ⟨rfl, Fr.refl _ _⟩) (HW.op rfl (fun w1 H1 => op_indexAddr1 (m := 1) Tryz.underlying73 Fa.I22 rfl (H1.arrR (i := 1) rfl) rfl (by omega) ⟨rfl, Fr.refl _ _⟩) (HW.op rfl (fun w1 H1 => op_load rfl ((H1.arrR (i := 1) rfl).at (get_map vU32 0 (Arr.ltM (H1.arrR (i := 1) rfl) (by omega)))) Tryz.underlying22 rfl ⟨rfl, Fr.refl _ _⟩) (HW.op rfl (fun w1 H1 => op_move rfl ⟨rfl, Fr.refl _ _⟩) (HW.op rfl (fun w1 H1 => op_indexAddr1 (m := 2) Tryz.underlying73 Fa.I22 rfl (H1.arrR (i := 1) rfl) rfl (by omega) ⟨rfl, Fr.refl _ _⟩) (HW.op rfl (fun w1 H1 => op_load rfl ((H1.arrR (i := 1) rfl).at (get_map vU32 0 (Arr.ltM (H1.arrR (i := 1) rfl) (by omega)))) Tryz.underlying22 rfl ⟨rfl, Fr.refl _ _⟩) (HW.op rfl (fun w1 H1 => op_move rfl ⟨rfl, Fr.refl _ _⟩) (HW.op rfl (fun w1 H1 => op_indexAddr1 (m := 3) Tryz.underlying73 Fa.I22 rfl (H1.arrR (i := 1) rfl) rfl (by omega) ⟨rfl, Fr.refl _ _⟩) (HW.op rfl (fun w1 H1 => op_load rfl ((H1.arrR (i := 1) rfl).at (get_map vU32 0 (Arr.ltM (H1.arrR (i := 1) rfl) (by omega)))) Tryz.underlying22 rfl ⟨rfl, Fr.refl _ _⟩) (HW.op rfl (fun w1 H1 => op_move rfl ⟨rfl, Fr.refl _ _⟩) (HW.op rfl (fun w1 H1 => op_addU32 rfl rfl ⟨rfl, Fr.refl _ _⟩) (HW.op rfl (fun w1 H1 => op_move rfl ⟨rfl, Fr.refl _ _⟩) (HW.op rfl (fun w1 H1 => op_indexAddr1 (m := 4) Tryz.underlying73 Fa.I22 rfl (H1.arrR (i := 1) rfl) rfl (by omega) ⟨rfl, Fr.refl _ _⟩) (HW.op rfl (fun w1 H1 => op_load rfl ((H1.arrR (i := 1) rfl).at (get_map vU32 0 (Arr.ltM (H1.arrR (i := 1) rfl) (by omega)))) Tryz.underlying22 rfl ⟨rfl, Fr.refl _ _⟩) (HW.op rfl (fun w1 H1 => op_move rfl ⟨rfl, Fr.refl _ _⟩) (HW.op rfl (fun w1 H1 => op_indexAddr1 (m := 5) Tryz.underlying73 Fa.I22 rfl (H1.arrR (i := 1) rfl) rfl (by omega) ⟨rfl, Fr.refl _ _⟩) (HW.op rfl (fun w1 H1 => op_load rfl ((H1.arrR (i := 1) rfl).at (get_map vU32 0 (Arr.ltM (H1.arrR (i := 1) rfl) (by omega)))) Tryz.underlying22 rfl ⟨rfl, Fr.refl _ _⟩) (HW.op rfl (fun w1 H1 => op_move rfl ⟨rfl, Fr.refl _ _⟩) (HW.op rfl (fun w1 H1 => op_indexAddr1 (m := 6) Tryz.underlying73 Fa.I22 rfl (H1.arrR (i := 1) rfl) rfl (by omega) ⟨rfl, Fr.refl _ _⟩) (HW.op rfl (fun w1 H1 => op_load rfl ((H1.arrR (i := 1) rfl).at (get_map vU32 0 (Arr.ltM (H1.arrR (i := 1) rfl) (by omega)))) Tryz.underlying22 rfl ⟨rfl, Fr.refl _ _⟩) (HW.flt (mk := fun bq => .slice (some ⟨bq.1, 0, none⟩) 8 8) (ent := fun bq => .row (.slice (some ⟨bq.1, 0, none⟩) 8 8) _ _ _ _) rfl (fun w1 _ => op_buildSlice (cs := [_, _, _, _, _, _, _, _]) (Own.start w1 []) Tryz.underlying73 Fa.I22 rfl rfl rfl rfl (by decide) (by decide) (fun bq w2 H2 => ⟨(bq, undef), rfl, H2, True.intro⟩))  HW.nil))))))))))))))))))))))))))) (by kernel_rfl) ?_
    intro β17 w17 H17
    refine WL.op rfl rfl (op_assign rfl ?_)
    refine WL.nil ?_
    refine WQ.inNormal ?_
    refine WQ.next ?_
    refine WC.region ?_
    refine WL.op rfl rfl (op_move rfl ?_)
    refine WL.op rfl rfl (op_addN (b := 1) rfl rfl (by omega) ?_)
    refine WL.op rfl rfl (op_assign rfl ?_)
    refine WL.nil ?_
    exact WQ.round (t + 1, (.slice (some ⟨(β17 26).1, 0, none⟩) 8 8)) ⟨(by omega), (Own.rowEq (i := 1) (f := vU32) (H17.sel [0, 2] rfl rfl) rfl (refStep (rounds h (wl b 64) t) (keyL.getD t 0) ((wl b 64).getD t 0)))⟩ ⟨rfl, rfl, rfl, rfl, rfl, trivial⟩ (by show 64 - (t + 1) < 64 - t; omega)
  ·
    have hc5 := of_decide_eq_false hb5
    refine WC.exit ?_
    refine WQ.thenExit ?_
    refine WQ.thenExit ?_
    refine WQ.inHere ?_
    refine WQ.next ?_
    refine WC.seq ?_
    refine WC.seq ?_
    refine WC.region ?_
    refine WL.op rfl rfl (op_assign rfl ?_)
    refine WL.nil ?_
    refine WQ.next ?_
    refine WC.block ?_
    refine WC.loop (α := Nat) (fun k => [(0, vh), (8, q), (16, (vN k))]) (fun k w' => (k ≤ 8) ∧ Own [] w w' [.row v1 22 1 64 (List.map vU32 (wl b 64)), .row q 22 1 8 (List.map vU32 (addTo (rounds h (wl b 64) 64) h k))]) (fun k => 8 - k) 0 ⟨(by omega), (by have ht : t = 64 := (by omega); subst ht; exact H4)⟩ ⟨rfl, rfl, rfl, trivial⟩ ?_
    rintro k w18 ⟨hinv, H18⟩
    show WC _ _ _ _ _ [(0, vh), (8, q), (16, (vN k))] _
    refine WC.seq ?_
    refine WC.seq ?_
    refine WC.region ?_
    refine WL.op rfl rfl (op_move rfl ?_)
    refine WL.op rfl rfl (op_lssN (b := 8) rfl rfl ?_)
    refine WL.nil ?_
    refine WQ.next ?_
    refine WC.cond rfl (fun (hb19 : (decide (k < 8)) = true) => ?_) (fun (hb19 : (decide (k < 8)) = false) => ?_)
    ·
      have hc19 := of_decide_eq_true hb19
      refine WC.skip ?_
      refine WQ.next ?_
      refine WC.seq ?_
      refine WC.block ?_
      refine WC.draw 12 Fa.M H18 (HW.op rfl (fun w1 H1 => op_move rfl ⟨rfl, Fr.refl _ _⟩) (HW.op rfl (fun w1 H1 => op_move rfl ⟨rfl, Fr.refl _ _⟩) (HW.op rfl (fun w1 H1 => op_move rfl ⟨rfl, Fr.refl _ _⟩) (HW.op rfl (fun w1 H1 => op_move rfl ⟨rfl, Fr.refl _ _⟩) (HW.op rfl (fun w1 H1 => op_indexAddr1 Tryz.underlying73 Fa.I22 rfl (H1.arrR (i := 1) rfl) rfl (by omega) ⟨rfl, Fr.refl _ _⟩) (HW.op rfl (fun w1 H1 => op_load rfl ((H1.arrR (i := 1) rfl).at (get_map vU32 0 (Arr.ltM (H1.arrR (i := 1) rfl) (by omega)))) Tryz.underlying22 rfl ⟨rfl, Fr.refl _ _⟩) (HW.op rfl (fun w1 H1 => op_move rfl ⟨rfl, Fr.refl _ _⟩) (HW.op rfl (fun w1 H1 => op_move rfl ⟨rfl, Fr.refl _ _⟩) (HW.op rfl (fun w1 H1 => op_indexAddr1 Tryz.underlying73 Fa.I22 rfl (H1.arr hH) rfl (by omega) ⟨rfl, Fr.refl _ _⟩) (HW.op rfl (fun w1 H1 => op_load rfl ((H1.arr hH).at (get_map vU32 0 (Arr.ltM (H1.arr hH) (by omega)))) Tryz.underlying22 rfl ⟨rfl, Fr.refl _ _⟩) (HW.op rfl (fun w1 H1 => op_addU32 rfl rfl ⟨rfl, Fr.refl _ _⟩) (HW.op rfl (fun w1 H1 => op_indexAddr1 Tryz.underlying73 Fa.I22 rfl (H1.arrR (i := 1) rfl) rfl (by omega) ⟨rfl, Fr.refl _ _⟩)  HW.nil)))))))))))) (by kernel_rfl) ?_
      intro β20 w20 H20
      refine WL.op rfl rfl (op_storeRM (i := 1) (f := vU32) (l := (addTo (rounds h (wl b 64) 64) h k)) (c := (((addTo (rounds h (wl b 64) 64) h k).getD k 0) + (h.vals.getD k 0))) H20 rfl rfl rfl (by omega) rfl Fa.I22 (fun w21 H21 => ?_))
      refine WL.nil ?_
      refine WQ.inNormal ?_
      refine WQ.next ?_
      refine WC.region ?_
      refine WL.op rfl rfl (op_move rfl ?_)
      refine WL.op rfl rfl (op_addN (b := 1) rfl rfl (by omega) ?_)
      refine WL.op rfl rfl (op_assign rfl ?_)
      refine WL.nil ?_
      exact WQ.round (k + 1) ⟨(by omega), (Own.rowEq (i := 1) (f := vU32) H21 rfl (addTo_set (rounds h (wl b 64) 64) h k (by omega)).symm)⟩ ⟨rfl, rfl, rfl, trivial⟩ (by omega)
    ·
      have hc19 := of_decide_eq_false hb19
      refine WC.exit ?_
      refine WQ.thenExit ?_
      refine WQ.thenExit ?_
      refine WQ.inHere ?_
      refine WQ.next ?_
      refine WC.seq ?_
      refine WC.region ?_
      refine WL.op rfl rfl (op_move rfl ?_)
      refine WL.op rfl rfl (op_assign rfl ?_)
      refine WL.nil ?_
      refine WQ.next ?_
      refine WC.ret ?_
      refine WQ.out (.tmp rfl .nil) ?_
      exact ⟨_, rfl, (by have hk : k = 8 := (by omega); subst hk; exact H18.sel [1] rfl rfl)⟩
set_option maxRecDepth 100000 in
theorem rsum_ok (s : List UInt8) (w : World) (hs : s.length < 2 ^ 40) :
    Calls Tryz.prog 163 #[(str s)] w (fun e w' => e = .returned (str (sha s)) ∧ Fr [] w w') := by
  refine enter (args := [(str s)]) Tryz.func163 rfl rfl ?_
  have H0 : Own [] w w [] := Own.start w []
  refine WC.seq ?_
  refine WC.region ?_
  refine WL.op rfl rfl (op_assign rfl ?_)
  refine WL.nil ?_
  refine WQ.next ?_
  refine WC.seq ?_
  refine WC.region ?_
  refine WL.op rfl rfl (op_callF Fa.C202 rfl ((roots8_ok _).mono (fun e w1 hq => ?_)))
  obtain ⟨v1, rfl, hq1⟩ := hq
  refine ⟨_, rfl, ?_⟩
  have H1 : Own [] w w1 [.row v1 22 1 8 (List.map vU32 firstS.vals)] := H0.splice [] [] [.row v1 22 1 8 (List.map vU32 firstS.vals)] rfl rfl hq1 (Fits.solid True.intro Fits.nil)
  refine WL.op rfl rfl (op_callF Fa.C202 rfl ((roots64_ok _).mono (fun e w2 hq => ?_)))
  obtain ⟨v2, rfl, hq2⟩ := hq
  refine ⟨_, rfl, ?_⟩
  have H2 : Own [] w w2 [.row v1 22 1 8 (List.map vU32 firstS.vals), .row v2 22 1 64 (List.map vU32 keyL)] := H1.splice [] [] [.row v2 22 1 64 (List.map vU32 keyL)] rfl rfl hq2 (Fits.solid True.intro Fits.nil)
  refine WL.op rfl rfl (op_assign rfl ?_)
  refine WL.op rfl rfl (op_assign rfl ?_)
  refine WL.nil ?_
  refine WQ.next ?_
  refine WC.seq ?_
  refine WC.region ?_
  refine WL.op rfl rfl (op_move rfl ?_)
  refine WL.op rfl rfl (op_callF Fa.C203 rfl ((filled_ok s _ hs).mono (fun e w3 hq => ?_)))
  obtain ⟨v3, rfl, hq3⟩ := hq
  refine ⟨_, rfl, ?_⟩
  have H3 : Own [] w w3 [.row v1 22 1 8 (List.map vU32 firstS.vals), .row v2 22 1 64 (List.map vU32 keyL), .row v3 5 1 (s ++ pads s.length).length (List.map vU8 (s ++ pads s.length))] := H2.splice [] [] [.row v3 5 1 (s ++ pads s.length).length (List.map vU8 (s ++ pads s.length))] rfl rfl hq3 (Fits.solid True.intro Fits.nil)
  refine WL.op rfl rfl (op_assign rfl ?_)
  refine WL.nil ?_
  refine WQ.next ?_
  refine WC.seq ?_
  refine WC.block ?_
  refine WC.loop (α := Nat × Value × Value) (fun (j, qh, qb) => [(3, qh), (4, v2), (5, qb)]) (fun (j, qh, qb) w' => (64 * j ≤ (s ++ pads s.length).length) ∧ Own [] w w' [.row qh 22 1 8 (List.map vU32 (bst firstS (s ++ pads s.length) j).vals), .row v2 22 1 64 (List.map vU32 keyL), .row qb 5 1 (brest (s ++ pads s.length) j).length (List.map vU8 (brest (s ++ pads s.length) j))]) (fun (j, qh, qb) => (s ++ pads s.length).length - 64 * j) (0, v1, v3) ⟨(by omega), H3⟩ ⟨rfl, rfl, rfl, trivial⟩ ?_
  rintro ⟨j, qh, qb⟩ w4 ⟨hinv, H4⟩
  show WC _ _ _ _ _ [(3, qh), (4, v2), (5, qb)] _
  have hb0 := brest_length (s ++ pads s.length) j
  have hP : (s ++ pads s.length).length % 64 = 0 := (by have := pads_length s.length; rw [List.length_append]; omega)
  refine WC.seq ?_
  refine WC.seq ?_
  refine WC.region ?_
  refine WL.op rfl rfl (op_move rfl ?_)
  refine WL.op rfl rfl (op_lenA Tryz.underlying114 rfl (H4.arrR (i := 2) rfl) ?_)
  refine WL.op rfl rfl (op_gtrN (b := 0) rfl rfl ?_)
  refine WL.nil ?_
  refine WQ.next ?_
  refine WC.cond rfl (fun (hb5 : (decide ((brest (s ++ pads s.length) j).length > 0)) = true) => ?_) (fun (hb5 : (decide ((brest (s ++ pads s.length) j).length > 0)) = false) => ?_)
  ·
    have hc5 := of_decide_eq_true hb5
    refine WC.skip ?_
    refine WQ.next ?_
    refine WC.block ?_
    refine WC.seq ?_
    refine WC.region ?_
    refine WL.op rfl rfl (op_move rfl ?_)
    refine WL.op rfl rfl (op_move rfl ?_)
    refine WL.op rfl rfl (op_move rfl ?_)
    refine WL.op rfl rfl (op_cutHi (b := 64) Tryz.underlying114 Fa.I5 rfl (H4.arrR (i := 2) rfl) rfl (by omega) ?_)
    refine WL.op rfl rfl (op_callF Fa.C204 rfl ((rblock_ok (bst firstS (s ++ pads s.length) j) _ _ _ ((brest (s ++ pads s.length) j).take 64) _ (by rw [List.length_take]; omega) (H4.arrR (i := 0) rfl) (H4.arrR (i := 1) rfl) (((H4.arrR (i := 2) rfl)).cutHiM (f := vU8) (l := (brest (s ++ pads s.length) j)) (b := 64) (by omega))).mono (fun e w6 hq => ?_)))
    obtain ⟨v6, rfl, hq6⟩ := hq
    refine ⟨_, rfl, ?_⟩
    have H6 : Own [] w w6 [.row qh 22 1 8 (List.map vU32 (bst firstS (s ++ pads s.length) j).vals), .row v2 22 1 64 (List.map vU32 keyL), .row qb 5 1 (brest (s ++ pads s.length) j).length (List.map vU8 (brest (s ++ pads s.length) j)), .row v6 22 1 8 (List.map vU32 (blockS (bst firstS (s ++ pads s.length) j) ((brest (s ++ pads s.length) j).take 64)).vals)] := H4.splice [] [] [.row v6 22 1 8 (List.map vU32 (blockS (bst firstS (s ++ pads s.length) j) ((brest (s ++ pads s.length) j).take 64)).vals)] rfl rfl hq6 (Fits.solid True.intro Fits.nil)
    refine WL.op rfl rfl (op_assign rfl ?_)
    refine WL.nil ?_
    refine WQ.next ?_
    refine WC.region ?_
    refine WL.op rfl rfl (op_move rfl ?_)
    refine WL.op rfl rfl (op_cutLo (a := 64) Tryz.underlying114 Fa.I5 rfl (H6.arrR (i := 2) rfl) rfl (by omega) ?_)
    have H7 := H6.cutLoM (f := vU8) (l := (brest (s ++ pads s.length) j)) (a := 64) (i := 2) rfl (by omega)
    refine WL.op rfl rfl (op_assign rfl ?_)
    refine WL.nil ?_
    refine WQ.inNormal ?_
    exact WQ.round (j + 1, v6, (cutV qb 64 (brest (s ++ pads s.length) j).length 1)) ⟨(by omega), (Own.rowEqN (i := 2) (f := vU8) (H7.sel [3, 1, 2] rfl rfl) rfl rfl (List.length_drop).symm)⟩ ⟨rfl, rfl, rfl, trivial⟩ (by show (s ++ pads s.length).length - 64 * (j + 1) < (s ++ pads s.length).length - 64 * j; omega)
  ·
    have hc5 := of_decide_eq_false hb5
    refine WC.exit ?_
    refine WQ.thenExit ?_
    refine WQ.thenExit ?_
    refine WQ.inHere ?_
    refine WQ.next ?_
    refine WC.seq ?_
    refine WC.region ?_
    refine WL.op rfl rfl (op_assign rfl ?_)
    have H8 := H4.nilRow 5 1
    refine WL.nil ?_
    refine WQ.next ?_
    refine WC.seq ?_
    refine WC.seq ?_
    refine WC.region ?_
    refine WL.op rfl rfl (op_assign rfl ?_)
    refine WL.nil ?_
    refine WQ.next ?_
    refine WC.block ?_
    refine WC.loop (α := Nat × Value) (fun (k, t2) => [(3, qh), (6, t2), (7, (vN k))]) (fun (k, t2) w' => (k ≤ 8) ∧ Own [] w w' [.row qh 22 1 8 (List.map vU32 (bst firstS (s ++ pads s.length) j).vals), .row v2 22 1 64 (List.map vU32 keyL), .row qb 5 1 (brest (s ++ pads s.length) j).length (List.map vU8 (brest (s ++ pads s.length) j)), .row t2 5 1 (4 * k) (List.map vU8 (outTo (bst firstS (s ++ pads s.length) j) k))]) (fun (k, t2) => 8 - k) (0, (.slice none 0 0)) ⟨(by omega), H8⟩ ⟨rfl, rfl, rfl, trivial⟩ ?_
    rintro ⟨k, t2⟩ w9 ⟨hinv, H9⟩
    show WC _ _ _ _ _ [(3, qh), (6, t2), (7, (vN k))] _
    refine WC.seq ?_
    refine WC.seq ?_
    refine WC.region ?_
    refine WL.op rfl rfl (op_move rfl ?_)
    refine WL.op rfl rfl (op_lssN (b := 8) rfl rfl ?_)
    refine WL.nil ?_
    refine WQ.next ?_
    refine WC.cond rfl (fun (hb10 : (decide (k < 8)) = true) => ?_) (fun (hb10 : (decide (k < 8)) = false) => ?_)
    ·
      have hc10 := of_decide_eq_true hb10
      refine WC.skip ?_
      refine WQ.next ?_
      refine WC.seq ?_
      refine WC.block ?_
      refine WC.draw 25 Fa.M H9 (HW.op rfl (fun w1 H1 => op_move rfl ⟨rfl, Fr.refl _ _⟩) (HW.op rfl (fun w1 H1 => op_move rfl ⟨rfl, Fr.refl _ _⟩) (HW.op rfl (fun w1 H1 => op_move rfl ⟨rfl, Fr.refl _ _⟩) (HW.op rfl (fun w1 H1 => op_indexAddr1 Tryz.underlying73 Fa.I22 rfl (H1.arrR (i := 0) rfl) rfl (by omega) ⟨rfl, Fr.refl _ _⟩) (HW.op rfl (fun w1 H1 => op_load rfl ((H1.arrR (i := 0) rfl).at (get_map vU32 0 (Arr.ltM (H1.arrR (i := 0) rfl) (by omega)))) Tryz.underlying22 rfl ⟨rfl, Fr.refl _ _⟩) (HW.op rfl (fun w1 H1 => op_shrU32 (s := 24) rfl rfl ⟨rfl, Fr.refl _ _⟩) (HW.op rfl (fun w1 H1 => op_convU32U8 (hs := Tryz.underlying22) (hd := Tryz.underlying5) rfl ⟨rfl, Fr.refl _ _⟩) (HW.op rfl (fun w1 H1 => op_move rfl ⟨rfl, Fr.refl _ _⟩) (HW.op rfl (fun w1 H1 => op_move rfl ⟨rfl, Fr.refl _ _⟩) (HW.op rfl (fun w1 H1 => op_indexAddr1 Tryz.underlying73 Fa.I22 rfl (H1.arrR (i := 0) rfl) rfl (by omega) ⟨rfl, Fr.refl _ _⟩) (HW.op rfl (fun w1 H1 => op_load rfl ((H1.arrR (i := 0) rfl).at (get_map vU32 0 (Arr.ltM (H1.arrR (i := 0) rfl) (by omega)))) Tryz.underlying22 rfl ⟨rfl, Fr.refl _ _⟩) (HW.op rfl (fun w1 H1 => op_shrU32 (s := 16) rfl rfl ⟨rfl, Fr.refl _ _⟩) (HW.op rfl (fun w1 H1 => op_convU32U8 (hs := Tryz.underlying22) (hd := Tryz.underlying5) rfl ⟨rfl, Fr.refl _ _⟩) (HW.op rfl (fun w1 H1 => op_move rfl ⟨rfl, Fr.refl _ _⟩) (HW.op rfl (fun w1 H1 => op_move rfl ⟨rfl, Fr.refl _ _⟩) (HW.op rfl (fun w1 H1 => op_indexAddr1 Tryz.underlying73 Fa.I22 rfl (H1.arrR (i := 0) rfl) rfl (by omega) ⟨rfl, Fr.refl _ _⟩) (HW.op rfl (fun w1 H1 => op_load rfl ((H1.arrR (i := 0) rfl).at (get_map vU32 0 (Arr.ltM (H1.arrR (i := 0) rfl) (by omega)))) Tryz.underlying22 rfl ⟨rfl, Fr.refl _ _⟩) (HW.op rfl (fun w1 H1 => op_shrU32 (s := 8) rfl rfl ⟨rfl, Fr.refl _ _⟩) (HW.op rfl (fun w1 H1 => op_convU32U8 (hs := Tryz.underlying22) (hd := Tryz.underlying5) rfl ⟨rfl, Fr.refl _ _⟩) (HW.op rfl (fun w1 H1 => op_move rfl ⟨rfl, Fr.refl _ _⟩) (HW.op rfl (fun w1 H1 => op_move rfl ⟨rfl, Fr.refl _ _⟩) (HW.op rfl (fun w1 H1 => op_indexAddr1 Tryz.underlying73 Fa.I22 rfl (H1.arrR (i := 0) rfl) rfl (by omega) ⟨rfl, Fr.refl _ _⟩) (HW.op rfl (fun w1 H1 => op_load rfl ((H1.arrR (i := 0) rfl).at (get_map vU32 0 (Arr.ltM (H1.arrR (i := 0) rfl) (by omega)))) Tryz.underlying22 rfl ⟨rfl, Fr.refl _ _⟩) (HW.op rfl (fun w1 H1 => op_convU32U8 (hs := Tryz.underlying22) (hd := Tryz.underlying5) rfl ⟨rfl, Fr.refl _ _⟩) (HW.flt (mk := fun bq => .slice (some ⟨bq.1, 0, none⟩) 4 4) (ent := fun bq => .row (.slice (some ⟨bq.1, 0, none⟩) 4 4) _ _ _ _) rfl (fun w1 _ => op_buildSlice (cs := [_, _, _, _]) (Own.start w1 []) Tryz.underlying114 Fa.I5 rfl rfl rfl rfl (by decide) (by decide) (fun bq w2 H2 => ⟨(bq, undef), rfl, H2, True.intro⟩))  HW.nil))))))))))))))))))))))))) (by kernel_rfl) ?_
      intro β11 w11 H11
      refine WL.op rfl rfl (op_appendM (f := vU8) (l := (outTo (bst firstS (s ++ pads s.length) j) k)) (l' := [(UInt8.ofNat (shrU32 ((bst firstS (s ++ pads s.length) j).vals.getD k 0) 24).toNat), (UInt8.ofNat (shrU32 ((bst firstS (s ++ pads s.length) j).vals.getD k 0) 16).toNat), (UInt8.ofNat (shrU32 ((bst firstS (s ++ pads s.length) j).vals.getD k 0) 8).toNat), (UInt8.ofNat ((bst firstS (s ++ pads s.length) j).vals.getD k 0).toNat)]) (i := 3) H11 Tryz.underlying114 Fa.I5 rfl rfl rfl rfl (Src.ofArr Tryz.underlying114 (H11.arrR (i := 4) rfl)) (one_mapM (fun _ => rfl)) (by omega) (by omega) (fun v12 w12 H12 => ?_))
      refine WL.op rfl rfl (op_assign rfl ?_)
      refine WL.nil ?_
      refine WQ.inNormal ?_
      refine WQ.next ?_
      refine WC.region ?_
      refine WL.op rfl rfl (op_move rfl ?_)
      refine WL.op rfl rfl (op_addN (b := 1) rfl rfl (by omega) ?_)
      refine WL.op rfl rfl (op_assign rfl ?_)
      refine WL.nil ?_
      exact WQ.round (k + 1, v12) ⟨(by omega), (H12.take 4)⟩ ⟨rfl, rfl, rfl, trivial⟩ (by show 8 - (k + 1) < 8 - k; omega)
    ·
      have hc10 := of_decide_eq_false hb10
      refine WC.exit ?_
      refine WQ.thenExit ?_
      refine WQ.thenExit ?_
      refine WQ.inHere ?_
      refine WQ.next ?_
      refine WC.seq ?_
      refine WC.region ?_
      refine WL.op rfl rfl (op_move rfl ?_)
      refine WL.op rfl rfl (op_bytesStr (l := (outTo (bst firstS (s ++ pads s.length) j) k)) Tryz.underlying114 Tryz.underlying5 Tryz.underlying9 rfl (H9.arrR (i := 3) rfl) rfl ?_)
      refine WL.op rfl rfl (op_assign rfl ?_)
      refine WL.nil ?_
      refine WQ.next ?_
      refine WC.ret ?_
      refine WQ.out (.tmp rfl .nil) ?_
      exact ⟨by have hk : k = 8 := (by omega); subst hk; have hj : j = (s ++ pads s.length).length / 64 := (by omega); subst hj; rfl, H9.fr⟩
end Go.Proofs.YtbjhccnffacbcaaGreat
/-! from WMac -/
namespace Go.Proofs.YtbjhccnffacbcaaGreat
open Go.Owl Go.Spec
set_option maxRecDepth 100000 in
theorem mblock_ok (key : List UInt8) (w : World) (hk : key.length < 2 ^ 40) :
    Calls Tryz.prog 192 #[(str key)] w (fun e w' => e = .returned (str (blockM key)) ∧ Fr [] w w') := by
  refine enter (args := [(str key)]) Tryz.func192 rfl rfl ?_
  have H0 : Own [] w w [] := Own.start w []
  refine WC.seq ?_
  refine WC.region ?_
  refine WL.op rfl rfl (op_assign rfl ?_)
  refine WL.nil ?_
  refine WQ.next ?_
  refine WC.seq ?_
  refine WC.seq ?_
  refine WC.region ?_
  refine WL.op rfl rfl (op_move rfl ?_)
  refine WL.op rfl rfl (op_lenStr Tryz.underlying9 rfl ?_)
  refine WL.op rfl rfl (op_gtrN (b := 64) rfl rfl ?_)
  refine WL.nil ?_
  refine WQ.next ?_
  refine WC.cond rfl (fun (hb1 : (decide (key.length > 64)) = true) => ?_) (fun (hb1 : (decide (key.length > 64)) = false) => ?_)
  ·
    have hc1 := of_decide_eq_true hb1
    have hl := sha_length key
    refine WC.region ?_
    refine WL.op rfl rfl (op_move rfl ?_)
    refine WL.op rfl rfl (op_callF Fa.C227 rfl ((ssum_ok key _ hk).mono (fun e w2 hq => ?_)))
    obtain ⟨rfl, hf2⟩ := hq
    refine ⟨_, rfl, ?_⟩
    have H2 := H0.fr' hf2
    refine WL.op rfl rfl (op_assign rfl ?_)
    refine WL.nil ?_
    refine WQ.next ?_
    refine WC.seq ?_
    refine WC.region ?_
    refine WL.op rfl rfl (op_move rfl ?_)
    refine WL.op rfl rfl (op_move rfl ?_)
    refine WL.op rfl rfl (op_lenStr Tryz.underlying9 rfl ?_)
    refine WL.op rfl rfl (op_subN (a := 64) rfl rfl (by omega) (by omega) ?_)
    refine WL.op rfl rfl (op_makeSliceM (f := vU8) (c := 0) H2 Tryz.underlying114 Fa.I5 rfl rfl (by omega) (by omega) (fun b3 w3 H3 => ?_))
    refine WL.op rfl rfl (op_bytesStr (l := (List.replicate (64 - (sha key).length) 0)) Tryz.underlying114 Tryz.underlying5 Tryz.underlying9 rfl (H3.arrR (i := 0) rfl) rfl ?_)
    refine WL.op rfl rfl (op_addStr rfl rfl (by first | omega | (rw [List.length_append]; omega) | (simp; omega)) ?_)
    refine WL.op rfl rfl (op_assign rfl ?_)
    refine WL.nil ?_
    refine WQ.next ?_
    refine WC.ret ?_
    refine WQ.out (.tmp rfl .nil) ?_
    exact ⟨by rw [blockM, keyB, if_pos hc1]; rfl, H3.fr⟩
  ·
    have hc1 := of_decide_eq_false hb1
    refine WC.skip ?_
    refine WQ.next ?_
    refine WC.seq ?_
    refine WC.region ?_
    refine WL.op rfl rfl (op_move rfl ?_)
    refine WL.op rfl rfl (op_move rfl ?_)
    refine WL.op rfl rfl (op_lenStr Tryz.underlying9 rfl ?_)
    refine WL.op rfl rfl (op_subN (a := 64) rfl rfl (by omega) (by omega) ?_)
    refine WL.op rfl rfl (op_makeSliceM (f := vU8) (c := 0) H0 Tryz.underlying114 Fa.I5 rfl rfl (by omega) (by omega) (fun b4 w4 H4 => ?_))
    refine WL.op rfl rfl (op_bytesStr (l := (List.replicate (64 - key.length) 0)) Tryz.underlying114 Tryz.underlying5 Tryz.underlying9 rfl (H4.arrR (i := 0) rfl) rfl ?_)
    refine WL.op rfl rfl (op_addStr rfl rfl (by first | omega | (rw [List.length_append]; omega) | (simp; omega)) ?_)
    refine WL.op rfl rfl (op_assign rfl ?_)
    refine WL.nil ?_
    refine WQ.next ?_
    refine WC.ret ?_
    refine WQ.out (.tmp rfl .nil) ?_
    exact ⟨by rw [blockM, keyB, if_neg hc1]; rfl, H4.fr⟩
set_option maxRecDepth 100000 in
theorem padded_ok (s : List UInt8) (c : UInt8) (w : World) (hs : s.length < 2 ^ 40) :
    Calls Tryz.prog 194 #[(str s), (vU8 c)] w (fun e w' => e = .returned (str (xorL s c)) ∧ Fr [] w w') := by
  refine enter (args := [(str s), (vU8 c)]) Tryz.func194 rfl rfl ?_
  have H0 : Own [] w w [] := Own.start w []
  refine WC.seq ?_
  refine WC.region ?_
  refine WL.op rfl rfl (op_assign rfl ?_)
  refine WL.nil ?_
  refine WQ.next ?_
  refine WC.seq ?_
  refine WC.region ?_
  refine WL.op rfl rfl (op_move rfl ?_)
  refine WL.op rfl rfl (op_strBytes H0 Tryz.underlying9 Tryz.underlying5 Tryz.underlying114 rfl (by omega) (fun v1 w1 H1 => ?_))
  refine WL.op rfl rfl (op_assign rfl ?_)
  refine WL.nil ?_
  refine WQ.next ?_
  refine WC.seq ?_
  refine WC.seq ?_
  refine WC.region ?_
  refine WL.op rfl rfl (op_move rfl ?_)
  refine WL.op rfl rfl (op_lenA Tryz.underlying114 rfl (H1.arrR (i := 0) rfl) ?_)
  refine WL.op rfl rfl (op_move rfl ?_)
  refine WL.nil ?_
  refine WQ.next ?_
  refine WC.block ?_
  refine WC.loop (α := Nat) (fun k => [(1, (vU8 c)), (5, v1), (10, (vN s.length)), (11, (vN k))]) (fun k w' => (k ≤ s.length) ∧ Own [] w w' [.row v1 5 1 s.length (List.map vU8 (xorTo s c k))]) (fun k => s.length - k) 0 ⟨(by omega), H1⟩ ⟨rfl, rfl, rfl, rfl, trivial⟩ ?_
  rintro k w2 ⟨hinv, H2⟩
  show WC _ _ _ _ _ [(1, (vU8 c)), (5, v1), (10, (vN s.length)), (11, (vN k))] _
  refine WC.seq ?_
  refine WC.region ?_
  refine WL.op rfl rfl (op_lssN rfl rfl ?_)
  refine WL.nil ?_
  refine WQ.next ?_
  refine WC.seq ?_
  refine WC.cond rfl (fun (hb3 : (decide (k < s.length)) = true) => ?_) (fun (hb3 : (decide (k < s.length)) = false) => ?_)
  ·
    have hc3 := of_decide_eq_true hb3
    refine WC.skip ?_
    refine WQ.next ?_
    refine WC.seq ?_
    refine WC.block ?_
    refine WC.seq ?_
    refine WC.region ?_
    refine WL.op rfl rfl (op_move rfl ?_)
    refine WL.op rfl rfl (op_assign rfl ?_)
    refine WL.nil ?_
    refine WQ.next ?_
    refine WC.region ?_
    refine WL.op rfl rfl (op_move rfl ?_)
    refine WL.op rfl rfl (op_move rfl ?_)
    refine WL.op rfl rfl (op_indexAddr1 Tryz.underlying114 Fa.I5 rfl (H2.arrR (i := 0) rfl) rfl (by omega) ?_)
    refine WL.op rfl rfl (op_load rfl ((H2.arrR (i := 0) rfl).at (get_map vU8 0 (Arr.ltM (H2.arrR (i := 0) rfl) (by omega)))) Tryz.underlying5 rfl ?_)
    refine WL.op rfl rfl (op_move rfl ?_)
    refine WL.op rfl rfl (op_xorU8 rfl rfl ?_)
    refine WL.op rfl rfl (op_indexAddr1 Tryz.underlying114 Fa.I5 rfl (H2.arrR (i := 0) rfl) rfl (by omega) ?_)
    refine WL.op rfl rfl (op_storeRM (i := 0) (f := vU8) (l := (xorTo s c k)) (c := (((xorTo s c k).getD k 0) ^^^ c)) H2 rfl rfl rfl (by omega) rfl Fa.I5 (fun w4 H4 => ?_))
    refine WL.nil ?_
    refine WQ.inNormal ?_
    refine WQ.next ?_
    refine WC.region ?_
    refine WL.op rfl rfl (op_addN (b := 1) rfl rfl (by omega) ?_)
    refine WL.op rfl rfl (op_move rfl ?_)
    refine WL.nil ?_
    exact WQ.round (k + 1) ⟨(by omega), (Own.rowEq (i := 0) (f := vU8) H4 rfl (xorTo_step s c (by omega)))⟩ ⟨rfl, rfl, rfl, rfl, trivial⟩ (by omega)
  ·
    have hc3 := of_decide_eq_false hb3
    refine WC.exit ?_
    refine WQ.thenExit ?_
    refine WQ.thenExit ?_
    refine WQ.inHere ?_
    refine WQ.next ?_
    refine WC.seq ?_
    refine WC.region ?_
    refine WL.op rfl rfl (op_move rfl ?_)
    refine WL.op rfl rfl (op_bytesStr (l := (xorTo s c k)) Tryz.underlying114 Tryz.underlying5 Tryz.underlying9 rfl (H2.arrR (i := 0) rfl) rfl ?_)
    refine WL.op rfl rfl (op_assign rfl ?_)
    refine WL.nil ?_
    refine WQ.next ?_
    refine WC.ret ?_
    refine WQ.out (.tmp rfl .nil) ?_
    exact ⟨by have hk : k = s.length := (by omega); subst hk; rw [xorTo_end]; rfl, H2.fr⟩
set_option maxRecDepth 100000 in
theorem macnew_ok (key : List UInt8) (w : World) (hk : key.length < 2 ^ 40) :
    Calls Tryz.prog 153 #[(str key)] w (fun e w' => ∃ m q v, e = .returned (ptr m 0) ∧ Own [] w w' [.blk m [(ptr q 0), (str (blockM key))] 293, .blk q [(vU32 (hst (xorL (blockM key) 54)).a), (vU32 (hst (xorL (blockM key) 54)).b), (vU32 (hst (xorL (blockM key) 54)).c), (vU32 (hst (xorL (blockM key) 54)).d), (vU32 (hst (xorL (blockM key) 54)).e), (vU32 (hst (xorL (blockM key) 54)).f), (vU32 (hst (xorL (blockM key) 54)).g), (vU32 (hst (xorL (blockM key) 54)).h), v, (vN (xorL (blockM key) 54).length)] 325, .row v 5 1 (hrest (xorL (blockM key) 54)).length ((hrest (xorL (blockM key) 54)).map vU8)]) := by
  refine enter (args := [(str key)]) Tryz.func153 rfl rfl ?_
  have H0 : Own [] w w [] := Own.start w []
  refine WC.seq ?_
  refine WC.region ?_
  refine WL.op rfl rfl (op_assign rfl ?_)
  refine WL.nil ?_
  refine WQ.next ?_
  refine WC.seq ?_
  refine WC.region ?_
  refine WL.op rfl rfl (op_callF Fa.C191 rfl ((new_ok _).mono (fun e w1 hq => ?_)))
  obtain ⟨q1, rfl, hq1⟩ := hq
  refine ⟨_, rfl, ?_⟩
  have H1 : Own [] w w1 [.blk q1 [(vU32 (hst ([] : List UInt8)).a), (vU32 (hst ([] : List UInt8)).b), (vU32 (hst ([] : List UInt8)).c), (vU32 (hst ([] : List UInt8)).d), (vU32 (hst ([] : List UInt8)).e), (vU32 (hst ([] : List UInt8)).f), (vU32 (hst ([] : List UInt8)).g), (vU32 (hst ([] : List UInt8)).h), (.slice none 0 0), (vN ([] : List UInt8).length)] 325, .row (.slice none 0 0) 5 1 (hrest ([] : List UInt8)).length (List.map vU8 (hrest ([] : List UInt8)))] := H0.splice [] [] [.blk q1 [(vU32 (hst ([] : List UInt8)).a), (vU32 (hst ([] : List UInt8)).b), (vU32 (hst ([] : List UInt8)).c), (vU32 (hst ([] : List UInt8)).d), (vU32 (hst ([] : List UInt8)).e), (vU32 (hst ([] : List UInt8)).f), (vU32 (hst ([] : List UInt8)).g), (vU32 (hst ([] : List UInt8)).h), (.slice none 0 0), (vN ([] : List UInt8).length)] 325, .row (.slice none 0 0) 5 1 (hrest ([] : List UInt8)).length (List.map vU8 (hrest ([] : List UInt8)))] rfl rfl hq1 (Fits.solid True.intro (Fits.solid True.intro Fits.nil))
  refine WL.op rfl rfl (op_move rfl ?_)
  refine WL.op rfl rfl (op_callF Fa.C192 rfl ((mblock_ok key _ hk).mono (fun e w2 hq => ?_)))
  obtain ⟨rfl, hf2⟩ := hq
  refine ⟨_, rfl, ?_⟩
  have H2 := H1.fr' hf2
  refine WL.op rfl rfl (op_build (cs := [_, _]) Fa.I293 Fa.PL293 rfl rfl ?_)
  refine WL.op rfl rfl (op_box H2 rfl rfl (fun b3 w3 H3 => ?_))
  refine WL.op rfl rfl (op_assign rfl ?_)
  refine WL.nil ?_
  refine WQ.next ?_
  refine WC.seq ?_
  refine WC.draw 10 Fa.M H3 (HW.op rfl (fun w1 H1 => op_move rfl ⟨rfl, Fr.refl _ _⟩) (HW.op rfl (fun w1 H1 => op_nilCheck rfl ⟨rfl, Fr.refl _ _⟩) (HW.op rfl (fun w1 H1 => op_fieldAddr rfl Fa.F293_0 ⟨rfl, Fr.refl _ _⟩) (HW.op rfl (fun w1 H1 => op_load rfl (H1.cell (i := 2) rfl rfl) Tryz.underlying290 rfl ⟨rfl, Fr.refl _ _⟩) (HW.op rfl (fun w1 H1 => op_move rfl ⟨rfl, Fr.refl _ _⟩) (HW.op rfl (fun w1 H1 => op_nilCheck rfl ⟨rfl, Fr.refl _ _⟩) (HW.op rfl (fun w1 H1 => op_fieldAddr rfl Fa.F293_1 ⟨rfl, Fr.refl _ _⟩) (HW.op rfl (fun w1 H1 => op_load rfl (H1.cell (i := 2) rfl rfl) Tryz.underlying9 rfl ⟨rfl, Fr.refl _ _⟩) (HW.op rfl (fun w1 H1 => op_callF Fa.C194 rfl ((padded_ok (blockM key) 54 _ (by rw [blockM_length]; decide)).mono (fun e w2 hq => ⟨_, hq.1, rfl, hq.2⟩))) (HW.flt (mk := fun bq => .slice (some ⟨bq.1, 0, none⟩) 1 1) (ent := fun bq => .row (.slice (some ⟨bq.1, 0, none⟩) 1 1) _ _ _ _) rfl (fun w1 _ => op_buildSlice (cs := [_]) (Own.start w1 []) Tryz.underlying59 Fa.I9 rfl rfl rfl rfl (by decide) (by decide) (fun bq w2 H2 => ⟨(bq, undef), rfl, H2, True.intro⟩))  HW.nil)))))))))) (by kernel_rfl) ?_
  intro β5 w5 H5
  refine WL.op rfl rfl (op_callF Fa.C193 rfl ((write_ok q1 (.slice none 0 0) (.slice (some ⟨(β5 9).1, 0, none⟩) 1 1) ([] : List UInt8) ([(xorL (blockM key) 54)]) _ _ (H5.part [0, 1] rfl rfl) (H5.stayR (I := [0, 1]) (k := 3) rfl rfl rfl) (by simp [xorL_length, blockM_length]) (by simp)).mono (fun e w6 hq => ?_)))
  obtain ⟨v6, rfl, hq6⟩ := hq
  refine ⟨_, rfl, ?_⟩
  have H6 : Own [] w w6 [.blk q1 [(vU32 (hst (([] : List UInt8) ++ [(xorL (blockM key) 54)].flatten)).a), (vU32 (hst (([] : List UInt8) ++ [(xorL (blockM key) 54)].flatten)).b), (vU32 (hst (([] : List UInt8) ++ [(xorL (blockM key) 54)].flatten)).c), (vU32 (hst (([] : List UInt8) ++ [(xorL (blockM key) 54)].flatten)).d), (vU32 (hst (([] : List UInt8) ++ [(xorL (blockM key) 54)].flatten)).e), (vU32 (hst (([] : List UInt8) ++ [(xorL (blockM key) 54)].flatten)).f), (vU32 (hst (([] : List UInt8) ++ [(xorL (blockM key) 54)].flatten)).g), (vU32 (hst (([] : List UInt8) ++ [(xorL (blockM key) 54)].flatten)).h), v6, (vN (([] : List UInt8) ++ [(xorL (blockM key) 54)].flatten).length)] 325, .row v6 5 1 (hrest (([] : List UInt8) ++ [(xorL (blockM key) 54)].flatten)).length (List.map vU8 (hrest (([] : List UInt8) ++ [(xorL (blockM key) 54)].flatten))), .blk b3 [(ptr q1 0), (str (blockM key))] 293, .row (.slice (some ⟨(β5 9).1, 0, none⟩) 1 1) 9 1 1 (List.map str [(xorL (blockM key) 54)])] := H5.splice [0, 1] [.blk q1 [(vU32 (hst (([] : List UInt8) ++ [(xorL (blockM key) 54)].flatten)).a), (vU32 (hst (([] : List UInt8) ++ [(xorL (blockM key) 54)].flatten)).b), (vU32 (hst (([] : List UInt8) ++ [(xorL (blockM key) 54)].flatten)).c), (vU32 (hst (([] : List UInt8) ++ [(xorL (blockM key) 54)].flatten)).d), (vU32 (hst (([] : List UInt8) ++ [(xorL (blockM key) 54)].flatten)).e), (vU32 (hst (([] : List UInt8) ++ [(xorL (blockM key) 54)].flatten)).f), (vU32 (hst (([] : List UInt8) ++ [(xorL (blockM key) 54)].flatten)).g), (vU32 (hst (([] : List UInt8) ++ [(xorL (blockM key) 54)].flatten)).h), v6, (vN (([] : List UInt8) ++ [(xorL (blockM key) 54)].flatten).length)] 325, .row v6 5 1 (hrest (([] : List UInt8) ++ [(xorL (blockM key) 54)].flatten)).length (List.map vU8 (hrest (([] : List UInt8) ++ [(xorL (blockM key) 54)].flatten)))] [] rfl rfl hq6 (Fits.solid True.intro (Fits.solid True.intro Fits.nil))
  refine WL.nil ?_
  refine WQ.next ?_
  refine WC.seq ?_
  refine WC.region ?_
  refine WL.op rfl rfl (op_move rfl ?_)
  refine WL.op rfl rfl (op_assign rfl ?_)
  refine WL.nil ?_
  refine WQ.next ?_
  refine WC.ret ?_
  refine WQ.out (.tmp rfl .nil) ?_
  exact ⟨_, _, _, rfl, (by have h : Own [] w w6 [.blk b3 [(ptr q1 0), (str (blockM key))] 293, .blk q1 [(vU32 (hst (([] : List UInt8) ++ [(xorL (blockM key) 54)].flatten)).a), (vU32 (hst (([] : List UInt8) ++ [(xorL (blockM key) 54)].flatten)).b), (vU32 (hst (([] : List UInt8) ++ [(xorL (blockM key) 54)].flatten)).c), (vU32 (hst (([] : List UInt8) ++ [(xorL (blockM key) 54)].flatten)).d), (vU32 (hst (([] : List UInt8) ++ [(xorL (blockM key) 54)].flatten)).e), (vU32 (hst (([] : List UInt8) ++ [(xorL (blockM key) 54)].flatten)).f), (vU32 (hst (([] : List UInt8) ++ [(xorL (blockM key) 54)].flatten)).g), (vU32 (hst (([] : List UInt8) ++ [(xorL (blockM key) 54)].flatten)).h), v6, (vN (([] : List UInt8) ++ [(xorL (blockM key) 54)].flatten).length)] 325, .row v6 5 1 (hrest (([] : List UInt8) ++ [(xorL (blockM key) 54)].flatten)).length (List.map vU8 (hrest (([] : List UInt8) ++ [(xorL (blockM key) 54)].flatten)))] := H6.sel [2, 0, 1] rfl rfl; rw [show ([] : List UInt8) ++ [(xorL (blockM key) 54)].flatten = (xorL (blockM key) 54) from by simp] at h; exact h)⟩
set_option maxRecDepth 100000 in
theorem macw_ok (m q : Nat) (v lv : Value) (B A : List UInt8) (ls : List (List UInt8)) (T : List Nat) (w : World) (H : Own T w w [.blk m [(ptr q 0), (str B)] 293, .blk q [(vU32 (hst A).a), (vU32 (hst A).b), (vU32 (hst A).c), (vU32 (hst A).d), (vU32 (hst A).e), (vU32 (hst A).f), (vU32 (hst A).g), (vU32 (hst A).h), v, (vN A.length)] 325, .row v 5 1 (hrest A).length ((hrest A).map vU8)]) {nl : Nat} (hA : ∀ w1, Fr T w w1 → Arr w1 lv 1 nl (ls.map str)) (hb : (A ++ ls.flatten).length < 2 ^ 40) (hn : ls.length < 2 ^ 40) :
    Calls Tryz.prog 154 #[(ptr m 0), lv] w (fun e w' => ∃ v, e = .returned (vN 0) ∧ Own T w w' [.blk m [(ptr q 0), (str B)] 293, .blk q [(vU32 (hst (A ++ ls.flatten)).a), (vU32 (hst (A ++ ls.flatten)).b), (vU32 (hst (A ++ ls.flatten)).c), (vU32 (hst (A ++ ls.flatten)).d), (vU32 (hst (A ++ ls.flatten)).e), (vU32 (hst (A ++ ls.flatten)).f), (vU32 (hst (A ++ ls.flatten)).g), (vU32 (hst (A ++ ls.flatten)).h), v, (vN (A ++ ls.flatten).length)] 325, .row v 5 1 (hrest (A ++ ls.flatten)).length ((hrest (A ++ ls.flatten)).map vU8)]) := by
  refine enter (args := [(ptr m 0), lv]) Tryz.func154 rfl rfl ?_
  refine WC.seq ?_
  refine WC.region ?_
  refine WL.op rfl rfl (op_assign rfl ?_)
  refine WL.nil ?_
  refine WQ.next ?_
  refine WC.seq ?_
  refine WC.seq ?_
  refine WC.region ?_
  refine WL.op rfl rfl (op_move rfl ?_)
  refine WL.op rfl rfl (op_eqlPN Fa.PT245 rfl rfl ?_)
  refine WL.nil ?_
  refine WQ.next ?_
  refine WC.no rfl rfl ?_
  refine WC.skip ?_
  refine WQ.next ?_
  refine WC.seq ?_
  refine WC.region ?_
  refine WL.op rfl rfl (op_move rfl ?_)
  refine WL.op rfl rfl (op_nilCheck rfl ?_)
  refine WL.op rfl rfl (op_fieldAddr rfl Fa.F293_0 ?_)
  refine WL.op rfl rfl (op_load rfl (H.cell (i := 0) rfl rfl) Tryz.underlying290 rfl ?_)
  refine WL.op rfl rfl (op_move rfl ?_)
  refine WL.op rfl rfl (op_callF Fa.C193 rfl ((write_ok q v lv A ls _ _ (H.part [1, 2] rfl rfl) (fun w1 hf => (hA) w1 (H.frPart (I := [1, 2]) rfl hf)) hb hn).mono (fun e w1 hq => ?_)))
  obtain ⟨v1, rfl, hq1⟩ := hq
  refine ⟨_, rfl, ?_⟩
  have H1 : Own T w w1 [.blk m [(ptr q 0), (str B)] 293, .blk q [(vU32 (hst (A ++ ls.flatten)).a), (vU32 (hst (A ++ ls.flatten)).b), (vU32 (hst (A ++ ls.flatten)).c), (vU32 (hst (A ++ ls.flatten)).d), (vU32 (hst (A ++ ls.flatten)).e), (vU32 (hst (A ++ ls.flatten)).f), (vU32 (hst (A ++ ls.flatten)).g), (vU32 (hst (A ++ ls.flatten)).h), v1, (vN (A ++ ls.flatten).length)] 325, .row v1 5 1 (hrest (A ++ ls.flatten)).length (List.map vU8 (hrest (A ++ ls.flatten)))] := H.splice [1, 2] [.blk q [(vU32 (hst (A ++ ls.flatten)).a), (vU32 (hst (A ++ ls.flatten)).b), (vU32 (hst (A ++ ls.flatten)).c), (vU32 (hst (A ++ ls.flatten)).d), (vU32 (hst (A ++ ls.flatten)).e), (vU32 (hst (A ++ ls.flatten)).f), (vU32 (hst (A ++ ls.flatten)).g), (vU32 (hst (A ++ ls.flatten)).h), v1, (vN (A ++ ls.flatten).length)] 325, .row v1 5 1 (hrest (A ++ ls.flatten)).length (List.map vU8 (hrest (A ++ ls.flatten)))] [] rfl rfl hq1 (Fits.solid True.intro (Fits.solid True.intro Fits.nil))
  refine WL.op rfl rfl (op_assign rfl ?_)
  refine WL.nil ?_
  refine WQ.next ?_
  refine WC.ret ?_
  refine WQ.out (.tmp rfl .nil) ?_
  exact ⟨_, rfl, H1⟩
set_option maxRecDepth 100000 in
theorem macs_ok (m q : Nat) (v : Value) (B A : List UInt8) (w : World) (hM : cellsAt w m [(ptr q 0), (str B)]) (hQ : cellsAt w q [(vU32 (hst A).a), (vU32 (hst A).b), (vU32 (hst A).c), (vU32 (hst A).d), (vU32 (hst A).e), (vU32 (hst A).f), (vU32 (hst A).g), (vU32 (hst A).h), v, (vN A.length)]) (hV : Arr w v 1 (hrest A).length (List.map vU8 (hrest A))) (hb : A.length < 2 ^ 40) (hB : B.length < 2 ^ 30) :
    Calls Tryz.prog 155 #[(ptr m 0)] w (fun e w' => e = .returned (str (sha (xorL B 92 ++ sha A))) ∧ Fr [] w w') := by
  refine enter (args := [(ptr m 0)]) Tryz.func155 rfl rfl ?_
  have H0 : Own [] w w [Ent.bo m [(ptr q 0), (str B)], Ent.bo q [(vU32 (hst A).a), (vU32 (hst A).b), (vU32 (hst A).c), (vU32 (hst A).d), (vU32 (hst A).e), (vU32 (hst A).f), (vU32 (hst A).g), (vU32 (hst A).h), v, (vN A.length)], Ent.ar v 1 (hrest A).length (List.map vU8 (hrest A))] := ((((Own.start w []).oldB hM).oldB hQ).oldA hV)
  refine WC.seq ?_
  refine WC.region ?_
  refine WL.op rfl rfl (op_assign rfl ?_)
  refine WL.nil ?_
  refine WQ.next ?_
  refine WC.seq ?_
  refine WC.seq ?_
  refine WC.region ?_
  refine WL.op rfl rfl (op_move rfl ?_)
  refine WL.op rfl rfl (op_eqlPN Fa.PT245 rfl rfl ?_)
  refine WL.nil ?_
  refine WQ.next ?_
  refine WC.no rfl rfl ?_
  refine WC.skip ?_
  refine WQ.next ?_
  refine WC.seq ?_
  refine WC.region ?_
  refine WL.op rfl rfl (op_callF Fa.C191 rfl ((new_ok _).mono (fun e w1 hq => ?_)))
  obtain ⟨q1, rfl, hq1⟩ := hq
  refine ⟨_, rfl, ?_⟩
  have H1 : Own [] w w1 [Ent.bo m [(ptr q 0), (str B)], Ent.bo q [(vU32 (hst A).a), (vU32 (hst A).b), (vU32 (hst A).c), (vU32 (hst A).d), (vU32 (hst A).e), (vU32 (hst A).f), (vU32 (hst A).g), (vU32 (hst A).h), v, (vN A.length)], Ent.ar v 1 (hrest A).length (List.map vU8 (hrest A)), .blk q1 [(vU32 (hst ([] : List UInt8)).a), (vU32 (hst ([] : List UInt8)).b), (vU32 (hst ([] : List UInt8)).c), (vU32 (hst ([] : List UInt8)).d), (vU32 (hst ([] : List UInt8)).e), (vU32 (hst ([] : List UInt8)).f), (vU32 (hst ([] : List UInt8)).g), (vU32 (hst ([] : List UInt8)).h), (.slice none 0 0), (vN ([] : List UInt8).length)] 325, .row (.slice none 0 0) 5 1 (hrest ([] : List UInt8)).length (List.map vU8 (hrest ([] : List UInt8)))] := H0.splice [] [] [.blk q1 [(vU32 (hst ([] : List UInt8)).a), (vU32 (hst ([] : List UInt8)).b), (vU32 (hst ([] : List UInt8)).c), (vU32 (hst ([] : List UInt8)).d), (vU32 (hst ([] : List UInt8)).e), (vU32 (hst ([] : List UInt8)).f), (vU32 (hst ([] : List UInt8)).g), (vU32 (hst ([] : List UInt8)).h), (.slice none 0 0), (vN ([] : List UInt8).length)] 325, .row (.slice none 0 0) 5 1 (hrest ([] : List UInt8)).length (List.map vU8 (hrest ([] : List UInt8)))] rfl rfl hq1 (Fits.solid True.intro (Fits.solid True.intro Fits.nil))
  refine WL.op rfl rfl (op_assign rfl ?_)
  refine WL.nil ?_
  refine WQ.next ?_
  refine WC.seq ?_
  refine WC.draw 12 Fa.M H1 (HW.op rfl (fun w1 H1 => op_move rfl ⟨rfl, Fr.refl _ _⟩) (HW.op rfl (fun w1 H1 => op_move rfl ⟨rfl, Fr.refl _ _⟩) (HW.op rfl (fun w1 H1 => op_nilCheck rfl ⟨rfl, Fr.refl _ _⟩) (HW.op rfl (fun w1 H1 => op_fieldAddr rfl Fa.F293_1 ⟨rfl, Fr.refl _ _⟩) (HW.op rfl (fun w1 H1 => op_load rfl (H1.cellO (i := 0) rfl rfl) Tryz.underlying9 rfl ⟨rfl, Fr.refl _ _⟩) (HW.op rfl (fun w1 H1 => op_callF Fa.C194 rfl ((padded_ok B 92 _ (by omega)).mono (fun e w2 hq => ⟨_, hq.1, rfl, hq.2⟩))) (HW.op rfl (fun w1 H1 => op_move rfl ⟨rfl, Fr.refl _ _⟩) (HW.op rfl (fun w1 H1 => op_nilCheck rfl ⟨rfl, Fr.refl _ _⟩) (HW.op rfl (fun w1 H1 => op_fieldAddr rfl Fa.F293_0 ⟨rfl, Fr.refl _ _⟩) (HW.op rfl (fun w1 H1 => op_load rfl (H1.cellO (i := 0) rfl rfl) Tryz.underlying290 rfl ⟨rfl, Fr.refl _ _⟩) (HW.op rfl (fun w1 H1 => op_callF Fa.C195 rfl ((hsum_ok q v A _ (H1.cellsAtO (i := 1) rfl) (H1.arrO (i := 2) rfl) (by first | exact hb | (simp [xorL_length, sha_length]; omega))).mono (fun e w2 hq => ⟨_, hq.1, rfl, hq.2⟩))) (HW.flt (mk := fun bq => .slice (some ⟨bq.1, 0, none⟩) 2 2) (ent := fun bq => .row (.slice (some ⟨bq.1, 0, none⟩) 2 2) _ _ _ _) rfl (fun w1 _ => op_buildSlice (cs := [_, _]) (Own.start w1 []) Tryz.underlying59 Fa.I9 rfl rfl rfl rfl (by decide) (by decide) (fun bq w2 H2 => ⟨(bq, undef), rfl, H2, True.intro⟩))  HW.nil)))))))))))) (by kernel_rfl) ?_
  intro β4 w4 H4
  refine WL.op rfl rfl (op_callF Fa.C193 rfl ((write_ok q1 (.slice none 0 0) (.slice (some ⟨(β4 11).1, 0, none⟩) 2 2) ([] : List UInt8) ([(xorL B 92), (sha A)]) _ _ (H4.part [3, 4] rfl rfl) (H4.stayR (I := [3, 4]) (k := 5) rfl rfl rfl) (by simp [xorL_length, sha_length]; omega) (by simp)).mono (fun e w5 hq => ?_)))
  obtain ⟨v5, rfl, hq5⟩ := hq
  refine ⟨_, rfl, ?_⟩
  have H5 : Own [] w w5 [Ent.bo m [(ptr q 0), (str B)], Ent.bo q [(vU32 (hst A).a), (vU32 (hst A).b), (vU32 (hst A).c), (vU32 (hst A).d), (vU32 (hst A).e), (vU32 (hst A).f), (vU32 (hst A).g), (vU32 (hst A).h), v, (vN A.length)], Ent.ar v 1 (hrest A).length (List.map vU8 (hrest A)), .blk q1 [(vU32 (hst (([] : List UInt8) ++ [(xorL B 92), (sha A)].flatten)).a), (vU32 (hst (([] : List UInt8) ++ [(xorL B 92), (sha A)].flatten)).b), (vU32 (hst (([] : List UInt8) ++ [(xorL B 92), (sha A)].flatten)).c), (vU32 (hst (([] : List UInt8) ++ [(xorL B 92), (sha A)].flatten)).d), (vU32 (hst (([] : List UInt8) ++ [(xorL B 92), (sha A)].flatten)).e), (vU32 (hst (([] : List UInt8) ++ [(xorL B 92), (sha A)].flatten)).f), (vU32 (hst (([] : List UInt8) ++ [(xorL B 92), (sha A)].flatten)).g), (vU32 (hst (([] : List UInt8) ++ [(xorL B 92), (sha A)].flatten)).h), v5, (vN (([] : List UInt8) ++ [(xorL B 92), (sha A)].flatten).length)] 325, .row v5 5 1 (hrest (([] : List UInt8) ++ [(xorL B 92), (sha A)].flatten)).length (List.map vU8 (hrest (([] : List UInt8) ++ [(xorL B 92), (sha A)].flatten))), .row (.slice (some ⟨(β4 11).1, 0, none⟩) 2 2) 9 1 2 (List.map str [(xorL B 92), (sha A)])] := H4.splice [3, 4] [.blk q1 [(vU32 (hst (([] : List UInt8) ++ [(xorL B 92), (sha A)].flatten)).a), (vU32 (hst (([] : List UInt8) ++ [(xorL B 92), (sha A)].flatten)).b), (vU32 (hst (([] : List UInt8) ++ [(xorL B 92), (sha A)].flatten)).c), (vU32 (hst (([] : List UInt8) ++ [(xorL B 92), (sha A)].flatten)).d), (vU32 (hst (([] : List UInt8) ++ [(xorL B 92), (sha A)].flatten)).e), (vU32 (hst (([] : List UInt8) ++ [(xorL B 92), (sha A)].flatten)).f), (vU32 (hst (([] : List UInt8) ++ [(xorL B 92), (sha A)].flatten)).g), (vU32 (hst (([] : List UInt8) ++ [(xorL B 92), (sha A)].flatten)).h), v5, (vN (([] : List UInt8) ++ [(xorL B 92), (sha A)].flatten).length)] 325, .row v5 5 1 (hrest (([] : List UInt8) ++ [(xorL B 92), (sha A)].flatten)).length (List.map vU8 (hrest (([] : List UInt8) ++ [(xorL B 92), (sha A)].flatten)))] [] rfl rfl hq5 (Fits.solid True.intro (Fits.solid True.intro Fits.nil))
  refine WL.nil ?_
  refine WQ.next ?_
  refine WC.seq ?_
  refine WC.region ?_
  refine WL.op rfl rfl (op_move rfl ?_)
  refine WL.op rfl rfl (op_callF Fa.C195 rfl ((hsum_ok q1 v5 (([] : List UInt8) ++ [(xorL B 92), (sha A)].flatten) _ (H5.cellsAt (i := 3) rfl) (H5.arrR (i := 4) rfl) (by first | exact hb | (simp [xorL_length, sha_length]; omega))).mono (fun e w6 hq => ?_)))
  obtain ⟨rfl, hf6⟩ := hq
  refine ⟨_, rfl, ?_⟩
  have H6 := H5.fr' hf6
  refine WL.op rfl rfl (op_assign rfl ?_)
  refine WL.nil ?_
  refine WQ.next ?_
  refine WC.ret ?_
  refine WQ.out (.tmp rfl .nil) ?_
  exact ⟨by simp [tup], H6.fr⟩
set_option maxRecDepth 100000 in
theorem msum_ok (key text : List UInt8) (w : World) (hk : key.length < 2 ^ 40) (ht : text.length < 2 ^ 39) :
    Calls Tryz.prog 112 #[(str key), (str text)] w (fun e w' => e = .returned (str (mac key text)) ∧ Fr [] w w') := by
  refine enter (args := [(str key), (str text)]) Tryz.func112 rfl rfl ?_
  have H0 : Own [] w w [] := Own.start w []
  refine WC.seq ?_
  refine WC.region ?_
  refine WL.op rfl rfl (op_assign rfl ?_)
  refine WL.nil ?_
  refine WQ.next ?_
  refine WC.seq ?_
  refine WC.region ?_
  refine WL.op rfl rfl (op_move rfl ?_)
  refine WL.op rfl rfl (op_callF Fa.C153 rfl ((macnew_ok key _ hk).mono (fun e w1 hq => ?_)))
  obtain ⟨m1, q1, v1, rfl, hq1⟩ := hq
  refine ⟨_, rfl, ?_⟩
  have H1 : Own [] w w1 [.blk m1 [(ptr q1 0), (str (blockM key))] 293, .blk q1 [(vU32 (hst (xorL (blockM key) 54)).a), (vU32 (hst (xorL (blockM key) 54)).b), (vU32 (hst (xorL (blockM key) 54)).c), (vU32 (hst (xorL (blockM key) 54)).d), (vU32 (hst (xorL (blockM key) 54)).e), (vU32 (hst (xorL (blockM key) 54)).f), (vU32 (hst (xorL (blockM key) 54)).g), (vU32 (hst (xorL (blockM key) 54)).h), v1, (vN (xorL (blockM key) 54).length)] 325, .row v1 5 1 (hrest (xorL (blockM key) 54)).length (List.map vU8 (hrest (xorL (blockM key) 54)))] := H0.splice [] [] [.blk m1 [(ptr q1 0), (str (blockM key))] 293, .blk q1 [(vU32 (hst (xorL (blockM key) 54)).a), (vU32 (hst (xorL (blockM key) 54)).b), (vU32 (hst (xorL (blockM key) 54)).c), (vU32 (hst (xorL (blockM key) 54)).d), (vU32 (hst (xorL (blockM key) 54)).e), (vU32 (hst (xorL (blockM key) 54)).f), (vU32 (hst (xorL (blockM key) 54)).g), (vU32 (hst (xorL (blockM key) 54)).h), v1, (vN (xorL (blockM key) 54).length)] 325, .row v1 5 1 (hrest (xorL (blockM key) 54)).length (List.map vU8 (hrest (xorL (blockM key) 54)))] rfl rfl hq1 (Fits.solid True.intro (Fits.solid True.intro (Fits.solid True.intro Fits.nil)))
  refine WL.op rfl rfl (op_assign rfl ?_)
  refine WL.nil ?_
  refine WQ.next ?_
  refine WC.seq ?_
  refine WC.region ?_
  refine WL.op rfl rfl (op_move rfl ?_)
  refine WL.op rfl rfl (op_move rfl ?_)
  refine WL.op rfl rfl (op_buildSlice (cs := [_]) H1 Tryz.underlying59 Fa.I9 rfl rfl rfl rfl (by decide) (by decide) (fun b2 w2 H2 => ?_))
  refine WL.op rfl rfl (op_callF Fa.C154 rfl ((macw_ok m1 q1 v1 (.slice (some ⟨b2, 0, none⟩) 1 1) (blockM key) (xorL (blockM key) 54) ([text]) _ _ (H2.part [0, 1, 2] rfl rfl) (H2.stayR (I := [0, 1, 2]) (k := 3) rfl rfl rfl) (by simp [xorL_length, blockM_length]; omega) (by simp)).mono (fun e w3 hq => ?_)))
  obtain ⟨v3, rfl, hq3⟩ := hq
  refine ⟨_, rfl, ?_⟩
  have H3 : Own [] w w3 [.blk m1 [(ptr q1 0), (str (blockM key))] 293, .blk q1 [(vU32 (hst ((xorL (blockM key) 54) ++ [text].flatten)).a), (vU32 (hst ((xorL (blockM key) 54) ++ [text].flatten)).b), (vU32 (hst ((xorL (blockM key) 54) ++ [text].flatten)).c), (vU32 (hst ((xorL (blockM key) 54) ++ [text].flatten)).d), (vU32 (hst ((xorL (blockM key) 54) ++ [text].flatten)).e), (vU32 (hst ((xorL (blockM key) 54) ++ [text].flatten)).f), (vU32 (hst ((xorL (blockM key) 54) ++ [text].flatten)).g), (vU32 (hst ((xorL (blockM key) 54) ++ [text].flatten)).h), v3, (vN ((xorL (blockM key) 54) ++ [text].flatten).length)] 325, .row v3 5 1 (hrest ((xorL (blockM key) 54) ++ [text].flatten)).length (List.map vU8 (hrest ((xorL (blockM key) 54) ++ [text].flatten))), .row (.slice (some ⟨b2, 0, none⟩) 1 1) 9 1 1 (List.map str [text])] := H2.splice [0, 1, 2] [.blk m1 [(ptr q1 0), (str (blockM key))] 293, .blk q1 [(vU32 (hst ((xorL (blockM key) 54) ++ [text].flatten)).a), (vU32 (hst ((xorL (blockM key) 54) ++ [text].flatten)).b), (vU32 (hst ((xorL (blockM key) 54) ++ [text].flatten)).c), (vU32 (hst ((xorL (blockM key) 54) ++ [text].flatten)).d), (vU32 (hst ((xorL (blockM key) 54) ++ [text].flatten)).e), (vU32 (hst ((xorL (blockM key) 54) ++ [text].flatten)).f), (vU32 (hst ((xorL (blockM key) 54) ++ [text].flatten)).g), (vU32 (hst ((xorL (blockM key) 54) ++ [text].flatten)).h), v3, (vN ((xorL (blockM key) 54) ++ [text].flatten).length)] 325, .row v3 5 1 (hrest ((xorL (blockM key) 54) ++ [text].flatten)).length (List.map vU8 (hrest ((xorL (blockM key) 54) ++ [text].flatten)))] [] rfl rfl hq3 (Fits.solid True.intro (Fits.solid True.intro (Fits.solid True.intro Fits.nil)))
  refine WL.nil ?_
  refine WQ.next ?_
  refine WC.seq ?_
  refine WC.region ?_
  refine WL.op rfl rfl (op_move rfl ?_)
  refine WL.op rfl rfl (op_callF Fa.C155 rfl ((macs_ok m1 q1 v3 (blockM key) ((xorL (blockM key) 54) ++ [text].flatten) _ (H3.cellsAt (i := 0) rfl) (H3.cellsAt (i := 1) rfl) (H3.arrR (i := 2) rfl) (by simp [xorL_length, blockM_length]; omega) (by rw [blockM_length]; decide)).mono (fun e w4 hq => ?_)))
  obtain ⟨rfl, hf4⟩ := hq
  refine ⟨_, rfl, ?_⟩
  have H4 := H3.fr' hf4
  refine WL.op rfl rfl (op_assign rfl ?_)
  refine WL.nil ?_
  refine WQ.next ?_
  refine WC.ret ?_
  refine WQ.out (.tmp rfl .nil) ?_
  exact ⟨by simp [tup, mac], H4.fr⟩
set_option maxRecDepth 100000 in
theorem rBlock_ok (key : List UInt8) (w : World) (hk : key.length < 2 ^ 40) :
    Calls Tryz.prog 162 #[(str key)] w (fun e w' => e = .returned (str (blockM key)) ∧ Fr [] w w') := by
  refine enter (args := [(str key)]) Tryz.func162 rfl rfl ?_
  have H0 : Own [] w w [] := Own.start w []
  refine WC.seq ?_
  refine WC.region ?_
  refine WL.op rfl rfl (op_assign rfl ?_)
  refine WL.nil ?_
  refine WQ.next ?_
  refine WC.seq ?_
  refine WC.seq ?_
  refine WC.region ?_
  refine WL.op rfl rfl (op_move rfl ?_)
  refine WL.op rfl rfl (op_lenStr Tryz.underlying9 rfl ?_)
  refine WL.op rfl rfl (op_gtrN (b := 64) rfl rfl ?_)
  refine WL.nil ?_
  refine WQ.next ?_
  refine WC.cond rfl (fun (hb1 : (decide (key.length > 64)) = true) => ?_) (fun (hb1 : (decide (key.length > 64)) = false) => ?_)
  ·
    have hc1 := of_decide_eq_true hb1
    have hl := sha_length key
    refine WC.region ?_
    refine WL.op rfl rfl (op_move rfl ?_)
    refine WL.op rfl rfl (op_callF Fa.C163 rfl ((rsum_ok key _ hk).mono (fun e w2 hq => ?_)))
    obtain ⟨rfl, hf2⟩ := hq
    refine ⟨_, rfl, ?_⟩
    have H2 := H0.fr' hf2
    refine WL.op rfl rfl (op_assign rfl ?_)
    refine WL.nil ?_
    refine WQ.next ?_
    refine WC.seq ?_
    refine WC.region ?_
    refine WL.op rfl rfl (op_move rfl ?_)
    refine WL.op rfl rfl (op_move rfl ?_)
    refine WL.op rfl rfl (op_lenStr Tryz.underlying9 rfl ?_)
    refine WL.op rfl rfl (op_subN (a := 64) rfl rfl (by omega) (by omega) ?_)
    refine WL.op rfl rfl (op_makeSliceM (f := vU8) (c := 0) H2 Tryz.underlying114 Fa.I5 rfl rfl (by omega) (by omega) (fun b3 w3 H3 => ?_))
    refine WL.op rfl rfl (op_bytesStr (l := (List.replicate (64 - (sha key).length) 0)) Tryz.underlying114 Tryz.underlying5 Tryz.underlying9 rfl (H3.arrR (i := 0) rfl) rfl ?_)
    refine WL.op rfl rfl (op_addStr rfl rfl (by first | omega | (rw [List.length_append]; omega) | (simp; omega)) ?_)
    refine WL.op rfl rfl (op_assign rfl ?_)
    refine WL.nil ?_
    refine WQ.next ?_
    refine WC.ret ?_
    refine WQ.out (.tmp rfl .nil) ?_
    exact ⟨by rw [blockM, keyB, if_pos hc1]; rfl, H3.fr⟩
  ·
    have hc1 := of_decide_eq_false hb1
    refine WC.skip ?_
    refine WQ.next ?_
    refine WC.seq ?_
    refine WC.region ?_
    refine WL.op rfl rfl (op_move rfl ?_)
    refine WL.op rfl rfl (op_move rfl ?_)
    refine WL.op rfl rfl (op_lenStr Tryz.underlying9 rfl ?_)
    refine WL.op rfl rfl (op_subN (a := 64) rfl rfl (by omega) (by omega) ?_)
    refine WL.op rfl rfl (op_makeSliceM (f := vU8) (c := 0) H0 Tryz.underlying114 Fa.I5 rfl rfl (by omega) (by omega) (fun b4 w4 H4 => ?_))
    refine WL.op rfl rfl (op_bytesStr (l := (List.replicate (64 - key.length) 0)) Tryz.underlying114 Tryz.underlying5 Tryz.underlying9 rfl (H4.arrR (i := 0) rfl) rfl ?_)
    refine WL.op rfl rfl (op_addStr rfl rfl (by first | omega | (rw [List.length_append]; omega) | (simp; omega)) ?_)
    refine WL.op rfl rfl (op_assign rfl ?_)
    refine WL.nil ?_
    refine WQ.next ?_
    refine WC.ret ?_
    refine WQ.out (.tmp rfl .nil) ?_
    exact ⟨by rw [blockM, keyB, if_neg hc1]; rfl, H4.fr⟩
set_option maxRecDepth 100000 in
theorem with_ok (s : List UInt8) (c : UInt8) (w : World) (hs : s.length < 2 ^ 40) :
    Calls Tryz.prog 164 #[(str s), (vU8 c)] w (fun e w' => e = .returned (str (xorL s c)) ∧ Fr [] w w') := by
  refine enter (args := [(str s), (vU8 c)]) Tryz.func164 rfl rfl ?_
  have H0 : Own [] w w [] := Own.start w []
  refine WC.seq ?_
  refine WC.region ?_
  refine WL.op rfl rfl (op_assign rfl ?_)
  refine WL.nil ?_
  refine WQ.next ?_
  refine WC.seq ?_
  refine WC.region ?_
  refine WL.op rfl rfl (op_assign rfl ?_)
  have H1 := H0.nilRow 5 1
  refine WL.nil ?_
  refine WQ.next ?_
  refine WC.seq ?_
  refine WC.seq ?_
  refine WC.region ?_
  refine WL.op rfl rfl (op_assign rfl ?_)
  refine WL.nil ?_
  refine WQ.next ?_
  refine WC.block ?_
  refine WC.loop (α := Nat × Value) (fun (k, v) => [(0, (str s)), (1, (vU8 c)), (5, v), (6, (vN k))]) (fun (k, v) w' => (k ≤ s.length) ∧ Own [] w w' [.row v 5 1 k (List.map vU8 (withTo s c k))]) (fun (k, v) => s.length - k) (0, (.slice none 0 0)) ⟨(by omega), H1⟩ ⟨rfl, rfl, rfl, rfl, trivial⟩ ?_
  rintro ⟨k, v⟩ w2 ⟨hinv, H2⟩
  show WC _ _ _ _ _ [(0, (str s)), (1, (vU8 c)), (5, v), (6, (vN k))] _
  refine WC.seq ?_
  refine WC.seq ?_
  refine WC.region ?_
  refine WL.op rfl rfl (op_move rfl ?_)
  refine WL.op rfl rfl (op_move rfl ?_)
  refine WL.op rfl rfl (op_lenStr Tryz.underlying9 rfl ?_)
  refine WL.op rfl rfl (op_lssN rfl rfl ?_)
  refine WL.nil ?_
  refine WQ.next ?_
  refine WC.cond rfl (fun (hb3 : (decide (k < s.length)) = true) => ?_) (fun (hb3 : (decide (k < s.length)) = false) => ?_)
  ·
    have hc3 := of_decide_eq_true hb3
    refine WC.skip ?_
    refine WQ.next ?_
    refine WC.seq ?_
    refine WC.block ?_
    refine WC.region ?_
    refine WL.op rfl rfl (op_move rfl ?_)
    refine WL.op rfl rfl (op_move rfl ?_)
    refine WL.op rfl rfl (op_move rfl ?_)
    refine WL.op rfl rfl (op_indexStrD Tryz.underlying9 rfl rfl (by omega) ?_)
    refine WL.op rfl rfl (op_move rfl ?_)
    refine WL.op rfl rfl (op_xorU8 rfl rfl ?_)
    refine WL.op rfl rfl (op_buildSlice (cs := [_]) H2 Tryz.underlying114 Fa.I5 rfl rfl rfl rfl (by decide) (by decide) (fun b4 w4 H4 => ?_))
    refine WL.op rfl rfl (op_appendM (f := vU8) (l := (withTo s c k)) (l' := [((s.getD k 0) ^^^ c)]) (i := 0) H4 Tryz.underlying114 Fa.I5 rfl rfl rfl rfl (Src.ofArr Tryz.underlying114 (H4.arrR (i := 1) rfl)) (one_mapM (fun _ => rfl)) (by omega) (by omega) (fun v5 w5 H5 => ?_))
    refine WL.op rfl rfl (op_assign rfl ?_)
    refine WL.nil ?_
    refine WQ.inNormal ?_
    refine WQ.next ?_
    refine WC.region ?_
    refine WL.op rfl rfl (op_move rfl ?_)
    refine WL.op rfl rfl (op_addN (b := 1) rfl rfl (by omega) ?_)
    refine WL.op rfl rfl (op_assign rfl ?_)
    refine WL.nil ?_
    exact WQ.round (k + 1, v5) ⟨(by omega), (H5.take 1)⟩ ⟨rfl, rfl, rfl, rfl, trivial⟩ (by show s.length - (k + 1) < s.length - k; omega)
  ·
    have hc3 := of_decide_eq_false hb3
    refine WC.exit ?_
    refine WQ.thenExit ?_
    refine WQ.thenExit ?_
    refine WQ.inHere ?_
    refine WQ.next ?_
    refine WC.seq ?_
    refine WC.region ?_
    refine WL.op rfl rfl (op_move rfl ?_)
    refine WL.op rfl rfl (op_bytesStr (l := (withTo s c k)) Tryz.underlying114 Tryz.underlying5 Tryz.underlying9 rfl (H2.arrR (i := 0) rfl) rfl ?_)
    refine WL.op rfl rfl (op_assign rfl ?_)
    refine WL.nil ?_
    refine WQ.next ?_
    refine WC.ret ?_
    refine WQ.out (.tmp rfl .nil) ?_
    exact ⟨by have hk : k = s.length := (by omega); subst hk; rw [withTo_end]; rfl, H2.fr⟩
set_option maxRecDepth 100000 in
theorem rmac_ok (key text : List UInt8) (w : World) (hk : key.length < 2 ^ 40) (ht : text.length < 2 ^ 39) :
    Calls Tryz.prog 118 #[(str key), (str text)] w (fun e w' => e = .returned (str (mac key text)) ∧ Fr [] w w') := by
  refine enter (args := [(str key), (str text)]) Tryz.func118 rfl rfl ?_
  have H0 : Own [] w w [] := Own.start w []
  refine WC.seq ?_
  refine WC.region ?_
  refine WL.op rfl rfl (op_assign rfl ?_)
  refine WL.nil ?_
  refine WQ.next ?_
  refine WC.seq ?_
  refine WC.region ?_
  refine WL.op rfl rfl (op_move rfl ?_)
  refine WL.op rfl rfl (op_callF Fa.C162 rfl ((rBlock_ok key _ hk).mono (fun e w1 hq => ?_)))
  obtain ⟨rfl, hf1⟩ := hq
  refine ⟨_, rfl, ?_⟩
  have H1 := H0.fr' hf1
  refine WL.op rfl rfl (op_assign rfl ?_)
  refine WL.nil ?_
  refine WQ.next ?_
  refine WC.seq ?_
  refine WC.region ?_
  refine WL.op rfl rfl (op_move rfl ?_)
  refine WL.op rfl rfl (op_callF Fa.C164 rfl ((with_ok (blockM key) 92 _ (by rw [blockM_length]; decide)).mono (fun e w2 hq => ?_)))
  obtain ⟨rfl, hf2⟩ := hq
  refine ⟨_, rfl, ?_⟩
  have H2 := H1.fr' hf2
  refine WL.op rfl rfl (op_move rfl ?_)
  refine WL.op rfl rfl (op_callF Fa.C164 rfl ((with_ok (blockM key) 54 _ (by rw [blockM_length]; decide)).mono (fun e w3 hq => ?_)))
  obtain ⟨rfl, hf3⟩ := hq
  refine ⟨_, rfl, ?_⟩
  have H3 := H2.fr' hf3
  refine WL.op rfl rfl (op_move rfl ?_)
  refine WL.op rfl rfl (op_addStr rfl rfl (by simp [xorL_length, blockM_length]; omega) ?_)
  refine WL.op rfl rfl (op_callF Fa.C163 rfl ((rsum_ok ((xorL (blockM key) 54) ++ text) _ (by first | (simp [xorL_length, blockM_length, sha_length]; omega) | (simp [xorL_length, blockM_length, sha_length]))).mono (fun e w4 hq => ?_)))
  obtain ⟨rfl, hf4⟩ := hq
  refine ⟨_, rfl, ?_⟩
  have H4 := H3.fr' hf4
  refine WL.op rfl rfl (op_addStr rfl rfl (by simp [xorL_length, blockM_length, sha_length]) ?_)
  refine WL.op rfl rfl (op_callF Fa.C163 rfl ((rsum_ok ((xorL (blockM key) 92) ++ (sha ((xorL (blockM key) 54) ++ text))) _ (by first | (simp [xorL_length, blockM_length, sha_length]; omega) | (simp [xorL_length, blockM_length, sha_length]))).mono (fun e w5 hq => ?_)))
  obtain ⟨rfl, hf5⟩ := hq
  refine ⟨_, rfl, ?_⟩
  have H5 := H4.fr' hf5
  refine WL.op rfl rfl (op_assign rfl ?_)
  refine WL.nil ?_
  refine WQ.next ?_
  refine WC.ret ?_
  refine WQ.out (.tmp rfl .nil) ?_
  exact ⟨rfl, H5.fr⟩
end Go.Proofs.YtbjhccnffacbcaaGreat
/-! from WBuild -/
namespace Go.Proofs.YtbjhccnffacbcaaGreat
open Go.Owl Go.Spec
set_option maxRecDepth 100000 in
theorem cc_new (b : Nat) (v : Value) (T0 : TypeId) (T : List Nat) (w : World) (H : Own T w w [.blk b [(.pointer none), v] T0]) (hc : Tryz.prog.cellsOf T0 = 2) (hl : liesAt Tryz.prog Tryz.prog.depth T0 1 0 175 1 = true) :
    Calls Tryz.prog 150 #[(ptr b 0)] w (fun e w' => e = .returned undef ∧ Own T w w' [.blk b [ptr b 0, v] T0]) := by
  refine enter (args := [(ptr b 0)]) Tryz.func150 rfl rfl ?_
  refine WC.seq ?_
  refine WC.region ?_
  refine WL.op rfl rfl (op_move rfl ?_)
  refine WL.op rfl rfl (op_nilCheck rfl ?_)
  refine WL.op rfl rfl (op_fieldAddr rfl Fa.F175_0 ?_)
  refine WL.op rfl rfl (op_load rfl (H.cell (i := 0) rfl rfl) Tryz.underlying173 rfl ?_)
  refine WL.op rfl rfl (op_eqlPN Fa.PT173 rfl rfl ?_)
  refine WL.nil ?_
  refine WQ.next ?_
  refine WC.yes rfl rfl ?_
  refine WC.region ?_
  refine WL.op rfl rfl (op_move rfl ?_)
  refine WL.op rfl rfl (op_move rfl ?_)
  refine WL.op rfl rfl (op_toUnsafe (i := 0) H Tryz.underlying173 Tryz.underlying285 Fa.CO175 rfl rfl rfl ?_)
  refine WL.op rfl rfl (op_noEscape Tryz.func186 (by kernel_rfl) (by kernel_rfl) (by kernel_rfl) (by kernel_rfl) rfl ?_)
  refine WL.op rfl rfl (op_fromUnsafe (i := 0) H Tryz.underlying285 Tryz.underlying173 Fa.CO175 rfl rfl rfl hc hl ?_)
  refine WL.op rfl rfl (op_nilCheck rfl ?_)
  refine WL.op rfl rfl (op_fieldAddr rfl Fa.F175_0 ?_)
  refine WL.op rfl rfl (op_storeB (i := 0) H rfl rfl rfl rfl rfl Fa.I173 (fun w1 H1 => ?_))
  refine WL.nil ?_
  refine WQ.outEnd .nil ?_
  exact ⟨rfl, H1⟩
set_option maxRecDepth 100000 in
theorem cc_old (b : Nat) (v : Value) (T0 : TypeId) (T : List Nat) (w : World) (H : Own T w w [.blk b [(ptr b 0), v] T0]) (hc : Tryz.prog.cellsOf T0 = 2) (hl : liesAt Tryz.prog Tryz.prog.depth T0 1 0 175 1 = true) :
    Calls Tryz.prog 150 #[(ptr b 0)] w (fun e w' => e = .returned undef ∧ Own T w w' [.blk b [ptr b 0, v] T0]) := by
  refine enter (args := [(ptr b 0)]) Tryz.func150 rfl rfl ?_
  refine WC.seq ?_
  refine WC.region ?_
  refine WL.op rfl rfl (op_move rfl ?_)
  refine WL.op rfl rfl (op_nilCheck rfl ?_)
  refine WL.op rfl rfl (op_fieldAddr rfl Fa.F175_0 ?_)
  refine WL.op rfl rfl (op_load rfl (H.cell (i := 0) rfl rfl) Tryz.underlying173 rfl ?_)
  refine WL.op rfl rfl (op_eqlPN Fa.PT173 rfl rfl ?_)
  refine WL.nil ?_
  refine WQ.next ?_
  refine WC.no rfl rfl ?_
  refine WC.seq ?_
  refine WC.region ?_
  refine WL.op rfl rfl (op_move rfl ?_)
  refine WL.op rfl rfl (op_nilCheck rfl ?_)
  refine WL.op rfl rfl (op_fieldAddr rfl Fa.F175_0 ?_)
  refine WL.op rfl rfl (op_load rfl (H.cell (i := 0) rfl rfl) Tryz.underlying173 rfl ?_)
  refine WL.op rfl rfl (op_move rfl ?_)
  refine WL.op rfl rfl (op_neqPP Tryz.underlying173 Fa.CO175 rfl rfl ?_)
  refine WL.nil ?_
  refine WQ.next ?_
  refine WC.no rfl rfl ?_
  refine WC.skip ?_
  refine WQ.outEnd .nil ?_
  exact ⟨rfl, H⟩
theorem cc_ok (b : Nat) (A v : Value) (T0 : TypeId) (T : List Nat) (w : World) (H : Own T w w [.blk b [A, v] T0]) (hA : A = .pointer none ∨ A = ptr b 0) (hc : Tryz.prog.cellsOf T0 = 2) (hl : liesAt Tryz.prog Tryz.prog.depth T0 1 0 175 1 = true) :
    Calls Tryz.prog 150 #[ptr b 0] w (fun e w' => e = .returned undef ∧ Own T w w' [.blk b [ptr b 0, v] T0]) := by
  rcases hA with rfl | rfl
  · exact cc_new b v T0 T w H hc hl
  · exact cc_old b v T0 T w H hc hl
set_option maxRecDepth 100000 in
theorem ws_ok (b : Nat) (A v : Value) (n : Nat) (bs s : List UInt8) (T0 : TypeId) (T : List Nat) (w : World) (H : Own T w w [.blk b [A, v] T0, .row v 5 1 n (List.map vU8 bs)]) (hA : A = .pointer none ∨ A = ptr b 0) (hc : Tryz.prog.cellsOf T0 = 2) (hl : liesAt Tryz.prog Tryz.prog.depth T0 1 0 175 1 = true) (hs : n + s.length < 2 ^ 46) :
    Calls Tryz.prog 106 #[(ptr b 0), (str s)] w (fun e w' => ∃ v, e = .returned (.tuple #[vN s.length, .nilIface]) ∧ Own T w w' [.blk b [ptr b 0, v] T0, .row v 5 1 (n + s.length) (List.map vU8 (bs ++ s))]) := by
  refine enter (args := [(ptr b 0), (str s)]) Tryz.func106 rfl rfl ?_
  refine WC.seq ?_
  refine WC.region ?_
  refine WL.op rfl rfl (op_assign rfl ?_)
  refine WL.op rfl rfl (op_assign rfl ?_)
  refine WL.nil ?_
  refine WQ.next ?_
  refine WC.seq ?_
  refine WC.region ?_
  refine WL.op rfl rfl (op_move rfl ?_)
  refine WL.op rfl rfl (op_callF Fa.C150 rfl ((cc_ok b A v T0 _ _ (H.part [0] rfl rfl) hA hc hl).mono (fun e w1 hq => ?_)))
  obtain ⟨rfl, hq1⟩ := hq
  refine ⟨_, rfl, ?_⟩
  have H1 : Own T w w1 [.blk b [(ptr b 0), v] T0, .row v 5 1 n (List.map vU8 bs)] := H.splice [0] [.blk b [(ptr b 0), v] T0] [] rfl rfl hq1 (Fits.solid True.intro Fits.nil)
  refine WL.nil ?_
  refine WQ.next ?_
  refine WC.seq ?_
  refine WC.region ?_
  refine WL.op rfl rfl (op_move rfl ?_)
  refine WL.op rfl rfl (op_move rfl ?_)
  refine WL.op rfl rfl (op_nilCheck rfl ?_)
  refine WL.op rfl rfl (op_fieldAddr rfl Fa.F175_1 ?_)
  refine WL.op rfl rfl (op_load rfl (H1.cell (i := 0) rfl rfl) Tryz.underlying114 rfl ?_)
  refine WL.op rfl rfl (op_move rfl ?_)
  refine WL.op rfl rfl (op_appendM (f := vU8) (l := bs) (l' := s) (i := 1) H1 Tryz.underlying114 Fa.I5 rfl rfl rfl rfl (Src.ofStr Tryz.underlying9) (one_mapM (fun _ => rfl)) (by omega) (by omega) (fun v2 w2 H2 => ?_))
  refine WL.op rfl rfl (op_nilCheck rfl ?_)
  refine WL.op rfl rfl (op_fieldAddr rfl Fa.F175_1 ?_)
  refine WL.op rfl rfl (op_storeB (i := 0) H2 rfl rfl rfl rfl (Arr.one (H2.arrR (i := 1) rfl)) Fa.I114 (fun w3 H3 => ?_))
  refine WL.nil ?_
  refine WQ.next ?_
  refine WC.seq ?_
  refine WC.region ?_
  refine WL.op rfl rfl (op_move rfl ?_)
  refine WL.op rfl rfl (op_lenStr Tryz.underlying9 rfl ?_)
  refine WL.op rfl rfl (op_assign rfl ?_)
  refine WL.op rfl rfl (op_assign rfl ?_)
  refine WL.nil ?_
  refine WQ.next ?_
  refine WC.ret ?_
  refine WQ.out (.tmp rfl (.tmp rfl .nil)) ?_
  exact ⟨_, rfl, H3⟩
set_option maxRecDepth 100000 in
theorem bstr_1 (b : Nat) (A : Value) (n : Nat) (bs : List UInt8) (T0 : TypeId) (a0 : Option Addr) (cap : Nat) (T : List Nat) (w : World) (H : Own T w w [.blk b [A, (.slice a0 n cap)] T0, .row (.slice a0 n cap) 5 1 n (List.map vU8 bs)]) (hz : a0 = none ∨ cap ≠ 0) :
    Calls Tryz.prog 109 #[(ptr b 0)] w (fun e w' => e = .returned (str bs) ∧ Fr T w w') := by
  refine enter (args := [(ptr b 0)]) Tryz.func109 rfl rfl ?_
  refine WC.seq ?_
  refine WC.region ?_
  refine WL.op rfl rfl (op_assign rfl ?_)
  refine WL.nil ?_
  refine WQ.next ?_
  refine WC.seq ?_
  refine WC.draw 10 Fa.M H (HW.op rfl (fun w1 H1 => op_move rfl ⟨rfl, Fr.refl _ _⟩) (HW.op rfl (fun w1 H1 => op_nilCheck rfl ⟨rfl, Fr.refl _ _⟩) (HW.op rfl (fun w1 H1 => op_fieldAddr rfl Fa.F175_1 ⟨rfl, Fr.refl _ _⟩) (HW.op rfl (fun w1 H1 => op_load rfl (H1.cell (i := 0) rfl rfl) Tryz.underlying114 rfl ⟨rfl, Fr.refl _ _⟩) (HW.op rfl (fun w1 H1 => op_sliceData rfl hz ⟨rfl, Fr.refl _ _⟩) (HW.op rfl (fun w1 H1 => op_move rfl ⟨rfl, Fr.refl _ _⟩) (HW.op rfl (fun w1 H1 => op_nilCheck rfl ⟨rfl, Fr.refl _ _⟩) (HW.op rfl (fun w1 H1 => op_fieldAddr rfl Fa.F175_1 ⟨rfl, Fr.refl _ _⟩) (HW.op rfl (fun w1 H1 => op_load rfl (H1.cell (i := 0) rfl rfl) Tryz.underlying114 rfl ⟨rfl, Fr.refl _ _⟩) (HW.op rfl (fun w1 H1 => op_lenA Tryz.underlying114 rfl (H1.arrR (i := 1) rfl) ⟨rfl, Fr.refl _ _⟩)  HW.nil)))))))))) (by kernel_rfl) ?_
  intro β1 w1 H1
  refine WL.op rfl rfl (op_unsafeString (i := 1) H1 rfl Tryz.underlying243 Fa.CO5 rfl rfl (fun w2 H2 => ?_))
  refine WL.op rfl rfl (op_assign rfl ?_)
  refine WL.nil ?_
  refine WQ.next ?_
  refine WC.ret ?_
  refine WQ.out (.tmp rfl .nil) ?_
  exact ⟨rfl, H1.frPart (I := [1]) rfl H2⟩
theorem bstr_ok (b : Nat) (A v : Value) (n : Nat) (bs : List UInt8) (T0 : TypeId) (T : List Nat) (w : World) (H : Own T w w [.blk b [A, v] T0, .row v 5 1 n (List.map vU8 bs)]) (hz : v = .slice none 0 0 ∨ n ≠ 0) :
    Calls Tryz.prog 109 #[ptr b 0] w (fun e w' => e = .returned (str bs) ∧ Fr T w w') := by
  obtain ⟨a0, cap, rfl, h⟩ := H.rowForm (i := 1) rfl hz
  exact bstr_1 b A n bs T0 a0 cap T w H h
end Go.Proofs.YtbjhccnffacbcaaGreat
/-! from WSlot -/
namespace Go.Proofs.YtbjhccnffacbcaaGreat
open Go.Owl Go.Spec
set_option maxRecDepth 100000 in
theorem find_in (k : Nat) (bv ev xv cv nv : Value) (pg : UInt32) (m n : Nat) (es : List Value) (B : List (List UInt8)) (id j : UInt32) (w : World) (hK : cellsAt w k [(vU32 pg), xv, cv, nv, bv]) (hV : Arr w bv 1 m es) (hE : Arr w ev 1 n (List.map str B)) (hid : id.toNat < m) (hev : es[id.toNat]? = some ev) (hj : j.toNat < n) :
    Calls Tryz.prog 119 #[(ptr k 0), (vU32 id), (vU32 j)] w (fun e w' => e = .returned (.pointer (some (sp ev j.toNat))) ∧ Fr [] w w') := by
  refine enter (args := [(ptr k 0), (vU32 id), (vU32 j)]) Tryz.func119 rfl rfl ?_
  have H0 : Own [] w w [Ent.bo k [(vU32 pg), xv, cv, nv, bv], Ent.ar bv 1 m es, Ent.ar ev 1 n (List.map str B)] := ((((Own.start w []).oldB hK).oldA hV).oldA hE)
  refine WC.seq ?_
  refine WC.region ?_
  refine WL.op rfl rfl (op_assign rfl ?_)
  refine WL.nil ?_
  refine WQ.next ?_
  refine WC.seq ?_
  refine WC.seq ?_
  refine WC.region ?_
  refine WL.op rfl rfl (op_move rfl ?_)
  refine WL.op rfl rfl (op_convU32N (hs := Tryz.underlying22) (hd := Tryz.underlying3) rfl ?_)
  refine WL.op rfl rfl (op_move rfl ?_)
  refine WL.op rfl rfl (op_nilCheck rfl ?_)
  refine WL.op rfl rfl (op_fieldAddr rfl Fa.F193_3 ?_)
  refine WL.op rfl rfl (op_load rfl (H0.cellO (i := 0) rfl rfl) Tryz.underlying191 rfl ?_)
  refine WL.op rfl rfl (op_lenA Tryz.underlying191 rfl (H0.arrO (i := 1) rfl) ?_)
  refine WL.op rfl rfl (op_geqN rfl rfl ?_)
  refine WL.op rfl rfl (op_move rfl ?_)
  refine WL.yes rfl rfl rfl (decide_eq_false (by omega)) rfl (op_move rfl ?_)
  refine WL.yes rfl rfl rfl (decide_eq_false (by omega)) rfl (op_convU32N (hs := Tryz.underlying22) (hd := Tryz.underlying3) rfl ?_)
  refine WL.yes rfl rfl rfl (decide_eq_false (by omega)) rfl (op_move rfl ?_)
  refine WL.yes rfl rfl rfl (decide_eq_false (by omega)) rfl (op_nilCheck rfl ?_)
  refine WL.yes rfl rfl rfl (decide_eq_false (by omega)) rfl (op_fieldAddr rfl Fa.F193_3 ?_)
  refine WL.yes rfl rfl rfl (decide_eq_false (by omega)) rfl (op_load rfl (H0.cellO (i := 0) rfl rfl) Tryz.underlying191 rfl ?_)
  refine WL.yes rfl rfl rfl (decide_eq_false (by omega)) rfl (op_move rfl ?_)
  refine WL.yes rfl rfl rfl (decide_eq_false (by omega)) rfl (op_indexAddr1 Tryz.underlying191 Fa.I59 rfl (H0.arrO (i := 1) rfl) rfl (by omega) ?_)
  refine WL.yes rfl rfl rfl (decide_eq_false (by omega)) rfl (op_load rfl ((H0.arrO (i := 1) rfl).at hev) Tryz.underlying59 rfl ?_)
  refine WL.yes rfl rfl rfl (decide_eq_false (by omega)) rfl (op_lenA Tryz.underlying59 rfl (H0.arrO (i := 2) rfl) ?_)
  refine WL.yes rfl rfl rfl (decide_eq_false (by omega)) rfl (op_geqN rfl rfl ?_)
  refine WL.op rfl rfl (op_pickF rfl (decide_eq_false (by omega)) rfl ?_)
  refine WL.nil ?_
  refine WQ.next ?_
  refine WC.no rfl (decide_eq_false (by omega)) ?_
  refine WC.skip ?_
  refine WQ.next ?_
  refine WC.seq ?_
  refine WC.region ?_
  refine WL.op rfl rfl (op_move rfl ?_)
  refine WL.op rfl rfl (op_nilCheck rfl ?_)
  refine WL.op rfl rfl (op_fieldAddr rfl Fa.F193_3 ?_)
  refine WL.op rfl rfl (op_load rfl (H0.cellO (i := 0) rfl rfl) Tryz.underlying191 rfl ?_)
  refine WL.op rfl rfl (op_move rfl ?_)
  refine WL.op rfl rfl (op_indexAddr1 Tryz.underlying191 Fa.I59 rfl (H0.arrO (i := 1) rfl) rfl (by omega) ?_)
  refine WL.op rfl rfl (op_load rfl ((H0.arrO (i := 1) rfl).at hev) Tryz.underlying59 rfl ?_)
  refine WL.op rfl rfl (op_move rfl ?_)
  refine WL.op rfl rfl (op_indexAddr1 Tryz.underlying59 Fa.I9 rfl (H0.arrO (i := 2) rfl) rfl (by omega) ?_)
  refine WL.op rfl rfl (op_assign rfl ?_)
  refine WL.nil ?_
  refine WQ.next ?_
  refine WC.ret ?_
  refine WQ.out (.tmp rfl .nil) ?_
  exact ⟨rfl, H0.fr⟩
set_option maxRecDepth 100000 in
theorem kblk_in (k : Nat) (bv ev xv cv nv : Value) (pg : UInt32) (m n : Nat) (es : List Value) (B : List (List UInt8)) (id j : UInt32) (w : World) (hK : cellsAt w k [(vU32 pg), xv, cv, nv, bv]) (hV : Arr w bv 1 m es) (hE : Arr w ev 1 n (List.map str B)) (hid : id.toNat < m) (hev : es[id.toNat]? = some ev) (hj : j.toNat < n) :
    Calls Tryz.prog 69 #[(ptr k 0), (vU32 id), (vU32 j)] w (fun e w' => e = .returned (.tuple #[str (B.getD j.toNat []), vN 0]) ∧ Fr [] w w') := by
  refine enter (args := [(ptr k 0), (vU32 id), (vU32 j)]) Tryz.func69 rfl rfl ?_
  have H0 : Own [] w w [Ent.bo k [(vU32 pg), xv, cv, nv, bv], Ent.ar bv 1 m es, Ent.ar ev 1 n (List.map str B)] := ((((Own.start w []).oldB hK).oldA hV).oldA hE)
  refine WC.seq ?_
  refine WC.region ?_
  refine WL.op rfl rfl (op_assign rfl ?_)
  refine WL.op rfl rfl (op_assign rfl ?_)
  refine WL.nil ?_
  refine WQ.next ?_
  refine WC.seq ?_
  refine WC.seq ?_
  refine WC.region ?_
  refine WL.op rfl rfl (op_move rfl ?_)
  refine WL.op rfl rfl (op_eqlPN Fa.PT111 rfl rfl ?_)
  refine WL.nil ?_
  refine WQ.next ?_
  refine WC.no rfl rfl ?_
  refine WC.skip ?_
  refine WQ.next ?_
  refine WC.seq ?_
  refine WC.seq ?_
  refine WC.region ?_
  refine WL.op rfl rfl (op_move rfl ?_)
  refine WL.op rfl rfl (op_move rfl ?_)
  refine WL.op rfl rfl (op_move rfl ?_)
  refine WL.op rfl rfl (op_callF Fa.C119 rfl ((find_in k bv ev xv cv nv pg m n es B id j _ (H0.cellsAtO (i := 0) rfl) (H0.arrO (i := 1) rfl) (H0.arrO (i := 2) rfl) hid hev hj).mono (fun e w1 hq => ?_)))
  obtain ⟨rfl, hf1⟩ := hq
  refine ⟨_, rfl, ?_⟩
  have H1 := H0.fr' hf1
  refine WL.op rfl rfl (op_assign rfl ?_)
  refine WL.nil ?_
  refine WQ.next ?_
  refine WC.seq ?_
  refine WC.region ?_
  refine WL.op rfl rfl (op_move rfl ?_)
  refine WL.op rfl rfl (op_neqPN Fa.PT201 rfl rfl ?_)
  refine WL.nil ?_
  refine WQ.next ?_
  refine WC.yes rfl rfl ?_
  refine WC.seq ?_
  refine WC.region ?_
  refine WL.op rfl rfl (op_move rfl ?_)
  refine WL.op rfl rfl (op_nilCheck rfl ?_)
  refine WL.op rfl rfl (op_load rfl ((H1.arrO (i := 2) rfl).at (get_map str [] (Arr.ltM (H1.arrO (i := 2) rfl) (by omega)))) Tryz.underlying9 rfl ?_)
  refine WL.op rfl rfl (op_assign rfl ?_)
  refine WL.op rfl rfl (op_assign rfl ?_)
  refine WL.nil ?_
  refine WQ.next ?_
  refine WC.ret ?_
  refine WQ.thenRet ?_
  refine WQ.out (.tmp rfl (.tmp rfl .nil)) ?_
  exact ⟨rfl, H1.fr⟩
set_option maxRecDepth 100000 in
theorem find_out (k : Nat) (bv ev xv cv nv : Value) (pg : UInt32) (m n : Nat) (es : List Value) (B : List (List UInt8)) (id j : UInt32) (w : World) (hK : cellsAt w k [(vU32 pg), xv, cv, nv, bv]) (hV : Arr w bv 1 m es) (hE : Arr w ev 1 n (List.map str B)) (hid : id.toNat < m) (hev : es[id.toNat]? = some ev) (hj : ¬ j.toNat < n) :
    Calls Tryz.prog 119 #[(ptr k 0), (vU32 id), (vU32 j)] w (fun e w' => e = .returned (.pointer none) ∧ Fr [] w w') := by
  refine enter (args := [(ptr k 0), (vU32 id), (vU32 j)]) Tryz.func119 rfl rfl ?_
  have H0 : Own [] w w [Ent.bo k [(vU32 pg), xv, cv, nv, bv], Ent.ar bv 1 m es, Ent.ar ev 1 n (List.map str B)] := ((((Own.start w []).oldB hK).oldA hV).oldA hE)
  refine WC.seq ?_
  refine WC.region ?_
  refine WL.op rfl rfl (op_assign rfl ?_)
  refine WL.nil ?_
  refine WQ.next ?_
  refine WC.seq ?_
  refine WC.seq ?_
  refine WC.region ?_
  refine WL.op rfl rfl (op_move rfl ?_)
  refine WL.op rfl rfl (op_convU32N (hs := Tryz.underlying22) (hd := Tryz.underlying3) rfl ?_)
  refine WL.op rfl rfl (op_move rfl ?_)
  refine WL.op rfl rfl (op_nilCheck rfl ?_)
  refine WL.op rfl rfl (op_fieldAddr rfl Fa.F193_3 ?_)
  refine WL.op rfl rfl (op_load rfl (H0.cellO (i := 0) rfl rfl) Tryz.underlying191 rfl ?_)
  refine WL.op rfl rfl (op_lenA Tryz.underlying191 rfl (H0.arrO (i := 1) rfl) ?_)
  refine WL.op rfl rfl (op_geqN rfl rfl ?_)
  refine WL.op rfl rfl (op_move rfl ?_)
  refine WL.yes rfl rfl rfl (decide_eq_false (by omega)) rfl (op_move rfl ?_)
  refine WL.yes rfl rfl rfl (decide_eq_false (by omega)) rfl (op_convU32N (hs := Tryz.underlying22) (hd := Tryz.underlying3) rfl ?_)
  refine WL.yes rfl rfl rfl (decide_eq_false (by omega)) rfl (op_move rfl ?_)
  refine WL.yes rfl rfl rfl (decide_eq_false (by omega)) rfl (op_nilCheck rfl ?_)
  refine WL.yes rfl rfl rfl (decide_eq_false (by omega)) rfl (op_fieldAddr rfl Fa.F193_3 ?_)
  refine WL.yes rfl rfl rfl (decide_eq_false (by omega)) rfl (op_load rfl (H0.cellO (i := 0) rfl rfl) Tryz.underlying191 rfl ?_)
  refine WL.yes rfl rfl rfl (decide_eq_false (by omega)) rfl (op_move rfl ?_)
  refine WL.yes rfl rfl rfl (decide_eq_false (by omega)) rfl (op_indexAddr1 Tryz.underlying191 Fa.I59 rfl (H0.arrO (i := 1) rfl) rfl (by omega) ?_)
  refine WL.yes rfl rfl rfl (decide_eq_false (by omega)) rfl (op_load rfl ((H0.arrO (i := 1) rfl).at hev) Tryz.underlying59 rfl ?_)
  refine WL.yes rfl rfl rfl (decide_eq_false (by omega)) rfl (op_lenA Tryz.underlying59 rfl (H0.arrO (i := 2) rfl) ?_)
  refine WL.yes rfl rfl rfl (decide_eq_false (by omega)) rfl (op_geqN rfl rfl ?_)
  refine WL.op rfl rfl (op_pickF rfl (decide_eq_false (by omega)) rfl ?_)
  refine WL.nil ?_
  refine WQ.next ?_
  refine WC.yes rfl (decide_eq_true (by omega)) ?_
  refine WC.seq ?_
  refine WC.region ?_
  refine WL.op rfl rfl (op_assign rfl ?_)
  refine WL.nil ?_
  refine WQ.next ?_
  refine WC.ret ?_
  refine WQ.thenRet ?_
  refine WQ.out (.tmp rfl .nil) ?_
  exact ⟨rfl, H0.fr⟩
set_option maxRecDepth 100000 in
theorem kblk_out (k : Nat) (bv ev xv cv nv : Value) (pg : UInt32) (m n : Nat) (es : List Value) (B : List (List UInt8)) (id j : UInt32) (w : World) (hK : cellsAt w k [(vU32 pg), xv, cv, nv, bv]) (hV : Arr w bv 1 m es) (hE : Arr w ev 1 n (List.map str B)) (hid : id.toNat < m) (hev : es[id.toNat]? = some ev) (hj : ¬ j.toNat < n) :
    Calls Tryz.prog 69 #[(ptr k 0), (vU32 id), (vU32 j)] w (fun e w' => e = .returned (.tuple #[str [], vN 2]) ∧ Fr [] w w') := by
  refine enter (args := [(ptr k 0), (vU32 id), (vU32 j)]) Tryz.func69 rfl rfl ?_
  have H0 : Own [] w w [Ent.bo k [(vU32 pg), xv, cv, nv, bv], Ent.ar bv 1 m es, Ent.ar ev 1 n (List.map str B)] := ((((Own.start w []).oldB hK).oldA hV).oldA hE)
  refine WC.seq ?_
  refine WC.region ?_
  refine WL.op rfl rfl (op_assign rfl ?_)
  refine WL.op rfl rfl (op_assign rfl ?_)
  refine WL.nil ?_
  refine WQ.next ?_
  refine WC.seq ?_
  refine WC.seq ?_
  refine WC.region ?_
  refine WL.op rfl rfl (op_move rfl ?_)
  refine WL.op rfl rfl (op_eqlPN Fa.PT111 rfl rfl ?_)
  refine WL.nil ?_
  refine WQ.next ?_
  refine WC.no rfl rfl ?_
  refine WC.skip ?_
  refine WQ.next ?_
  refine WC.seq ?_
  refine WC.seq ?_
  refine WC.region ?_
  refine WL.op rfl rfl (op_move rfl ?_)
  refine WL.op rfl rfl (op_move rfl ?_)
  refine WL.op rfl rfl (op_move rfl ?_)
  refine WL.op rfl rfl (op_callF Fa.C119 rfl ((find_out k bv ev xv cv nv pg m n es B id j _ (H0.cellsAtO (i := 0) rfl) (H0.arrO (i := 1) rfl) (H0.arrO (i := 2) rfl) hid hev hj).mono (fun e w1 hq => ?_)))
  obtain ⟨rfl, hf1⟩ := hq
  refine ⟨_, rfl, ?_⟩
  have H1 := H0.fr' hf1
  refine WL.op rfl rfl (op_assign rfl ?_)
  refine WL.nil ?_
  refine WQ.next ?_
  refine WC.seq ?_
  refine WC.region ?_
  refine WL.op rfl rfl (op_move rfl ?_)
  refine WL.op rfl rfl (op_neqPN Fa.PT201 rfl rfl ?_)
  refine WL.nil ?_
  refine WQ.next ?_
  refine WC.no rfl rfl ?_
  refine WC.skip ?_
  refine WQ.next ?_
  refine WC.seq ?_
  refine WC.region ?_
  refine WL.op rfl rfl (op_assign rfl ?_)
  refine WL.op rfl rfl (op_assign rfl ?_)
  refine WL.nil ?_
  refine WQ.next ?_
  refine WC.ret ?_
  refine WQ.out (.tmp rfl (.tmp rfl .nil)) ?_
  exact ⟨rfl, H1.fr⟩
set_option maxRecDepth 100000 in
theorem kern_ok (x k : Nat) (w : World) (hX : cellsAt w x [(ptr k 0)]) :
    Calls Tryz.prog 58 #[(ptr x 0)] w (fun e w' => e = .returned (ptr k 0) ∧ Fr [] w w') := by
  refine enter (args := [(ptr x 0)]) Tryz.func58 rfl rfl ?_
  have H0 : Own [] w w [Ent.bo x [(ptr k 0)]] := ((Own.start w []).oldB hX)
  refine WC.seq ?_
  refine WC.region ?_
  refine WL.op rfl rfl (op_assign rfl ?_)
  refine WL.nil ?_
  refine WQ.next ?_
  refine WC.seq ?_
  refine WC.seq ?_
  refine WC.region ?_
  refine WL.op rfl rfl (op_move rfl ?_)
  refine WL.op rfl rfl (op_eqlPN Fa.PT47 rfl rfl ?_)
  refine WL.nil ?_
  refine WQ.next ?_
  refine WC.no rfl rfl ?_
  refine WC.skip ?_
  refine WQ.next ?_
  refine WC.seq ?_
  refine WC.region ?_
  refine WL.op rfl rfl (op_move rfl ?_)
  refine WL.op rfl rfl (op_nilCheck rfl ?_)
  refine WL.op rfl rfl (op_fieldAddr rfl Fa.F146_0 ?_)
  refine WL.op rfl rfl (op_load rfl (H0.cellO (i := 0) rfl rfl) Tryz.underlying111 rfl ?_)
  refine WL.op rfl rfl (op_assign rfl ?_)
  refine WL.nil ?_
  refine WQ.next ?_
  refine WC.ret ?_
  refine WQ.out (.tmp rfl .nil) ?_
  exact ⟨rfl, H0.fr⟩
set_option maxRecDepth 100000 in
theorem xblk_in (x : Nat) (k : Nat) (bv ev xv cv nv : Value) (pg : UInt32) (m n : Nat) (es : List Value) (B : List (List UInt8)) (id : UInt32) (j : Nat) (w : World) (hX : cellsAt w x [(ptr k 0)]) (hK : cellsAt w k [(vU32 pg), xv, cv, nv, bv]) (hV : Arr w bv 1 m es) (hE : Arr w ev 1 n (List.map str B)) (hid : id.toNat < m) (hev : es[id.toNat]? = some ev) (hj : j < n) (hj2 : j < 2 ^ 32) :
    Calls Tryz.prog 29 #[(ptr x 0), (vU32 id), (vU32 (UInt32.ofNat j))] w (fun e w' => e = .returned (.tuple #[str (B.getD j []), vN 0]) ∧ Fr [] w w') := by
  refine enter (args := [(ptr x 0), (vU32 id), (vU32 (UInt32.ofNat j))]) Tryz.func29 rfl rfl ?_
  have H0 : Own [] w w [Ent.bo x [(ptr k 0)], Ent.bo k [(vU32 pg), xv, cv, nv, bv], Ent.ar bv 1 m es, Ent.ar ev 1 n (List.map str B)] := (((((Own.start w []).oldB hX).oldB hK).oldA hV).oldA hE)
  have hjj : (UInt32.ofNat j).toNat = j := by rw [UInt32.toNat_ofNat']; exact Nat.mod_eq_of_lt (by omega)
  refine WC.seq ?_
  refine WC.region ?_
  refine WL.op rfl rfl (op_assign rfl ?_)
  refine WL.op rfl rfl (op_assign rfl ?_)
  refine WL.nil ?_
  refine WQ.next ?_
  refine WC.seq ?_
  refine WC.region ?_
  refine WL.op rfl rfl (op_move rfl ?_)
  refine WL.op rfl rfl (op_callF Fa.C58 rfl ((kern_ok x k _ (H0.cellsAtO (i := 0) rfl)).mono (fun e w1 hq => ?_)))
  obtain ⟨rfl, hf1⟩ := hq
  refine ⟨_, rfl, ?_⟩
  have H1 := H0.fr' hf1
  refine WL.op rfl rfl (op_move rfl ?_)
  refine WL.op rfl rfl (op_move rfl ?_)
  refine WL.op rfl rfl (op_callF Fa.C69 rfl ((kblk_in k bv ev xv cv nv pg m n es B id (UInt32.ofNat j) _ (H1.cellsAtO (i := 1) rfl) (H1.arrO (i := 2) rfl) (H1.arrO (i := 3) rfl) hid hev (by omega)).mono (fun e w2 hq => ?_)))
  obtain ⟨rfl, hf2⟩ := hq
  refine ⟨_, rfl, ?_⟩
  have H2 := H1.fr' hf2
  refine WL.op rfl rfl (op_extract rfl rfl ?_)
  refine WL.op rfl rfl (op_extract rfl rfl ?_)
  refine WL.op rfl rfl (op_assign rfl ?_)
  refine WL.op rfl rfl (op_assign rfl ?_)
  refine WL.nil ?_
  refine WQ.next ?_
  refine WC.ret ?_
  refine WQ.out (.tmp rfl (.tmp rfl .nil)) ?_
  exact ⟨by rw [hjj]; rfl, H2.fr⟩
set_option maxRecDepth 100000 in
theorem xblk_out (x : Nat) (k : Nat) (bv ev xv cv nv : Value) (pg : UInt32) (m n : Nat) (es : List Value) (B : List (List UInt8)) (id : UInt32) (j : Nat) (w : World) (hX : cellsAt w x [(ptr k 0)]) (hK : cellsAt w k [(vU32 pg), xv, cv, nv, bv]) (hV : Arr w bv 1 m es) (hE : Arr w ev 1 n (List.map str B)) (hid : id.toNat < m) (hev : es[id.toNat]? = some ev) (hj : ¬ j < n) (hj2 : j < 2 ^ 32) :
    Calls Tryz.prog 29 #[(ptr x 0), (vU32 id), (vU32 (UInt32.ofNat j))] w (fun e w' => e = .returned (.tuple #[str [], vN 2]) ∧ Fr [] w w') := by
  refine enter (args := [(ptr x 0), (vU32 id), (vU32 (UInt32.ofNat j))]) Tryz.func29 rfl rfl ?_
  have H0 : Own [] w w [Ent.bo x [(ptr k 0)], Ent.bo k [(vU32 pg), xv, cv, nv, bv], Ent.ar bv 1 m es, Ent.ar ev 1 n (List.map str B)] := (((((Own.start w []).oldB hX).oldB hK).oldA hV).oldA hE)
  have hjj : (UInt32.ofNat j).toNat = j := by rw [UInt32.toNat_ofNat']; exact Nat.mod_eq_of_lt (by omega)
  refine WC.seq ?_
  refine WC.region ?_
  refine WL.op rfl rfl (op_assign rfl ?_)
  refine WL.op rfl rfl (op_assign rfl ?_)
  refine WL.nil ?_
  refine WQ.next ?_
  refine WC.seq ?_
  refine WC.region ?_
  refine WL.op rfl rfl (op_move rfl ?_)
  refine WL.op rfl rfl (op_callF Fa.C58 rfl ((kern_ok x k _ (H0.cellsAtO (i := 0) rfl)).mono (fun e w1 hq => ?_)))
  obtain ⟨rfl, hf1⟩ := hq
  refine ⟨_, rfl, ?_⟩
  have H1 := H0.fr' hf1
  refine WL.op rfl rfl (op_move rfl ?_)
  refine WL.op rfl rfl (op_move rfl ?_)
  refine WL.op rfl rfl (op_callF Fa.C69 rfl ((kblk_out k bv ev xv cv nv pg m n es B id (UInt32.ofNat j) _ (H1.cellsAtO (i := 1) rfl) (H1.arrO (i := 2) rfl) (H1.arrO (i := 3) rfl) hid hev (by omega)).mono (fun e w2 hq => ?_)))
  obtain ⟨rfl, hf2⟩ := hq
  refine ⟨_, rfl, ?_⟩
  have H2 := H1.fr' hf2
  refine WL.op rfl rfl (op_extract rfl rfl ?_)
  refine WL.op rfl rfl (op_extract rfl rfl ?_)
  refine WL.op rfl rfl (op_assign rfl ?_)
  refine WL.op rfl rfl (op_assign rfl ?_)
  refine WL.nil ?_
  refine WQ.next ?_
  refine WC.ret ?_
  refine WQ.out (.tmp rfl (.tmp rfl .nil)) ?_
  exact ⟨rfl, H2.fr⟩
set_option maxRecDepth 100000 in
theorem kset_ok (k : Nat) (bv ev xv cv nv : Value) (pg : UInt32) (m n : Nat) (es : List Value) (B : List (List UInt8)) (id j : UInt32) (t : List UInt8) (T : List Nat) (w : World) (H : Own T w w [Ent.bo k [(vU32 pg), xv, cv, nv, bv], Ent.ar bv 1 m es, .row ev 9 1 n (List.map str B)]) (hid : id.toNat < m) (hev : es[id.toNat]? = some ev) (hj : j.toNat < n) (ht : t.length = 64) :
    Calls Tryz.prog 67 #[(ptr k 0), (vU32 id), (vU32 j), (str t)] w (fun e w' => e = .returned (vN 0) ∧ Own T w w' [Ent.bo k [(vU32 pg), xv, cv, nv, bv], Ent.ar bv 1 m es, .row ev 9 1 n (List.map str (B.set j.toNat t))]) := by
  refine enter (args := [(ptr k 0), (vU32 id), (vU32 j), (str t)]) Tryz.func67 rfl rfl ?_
  refine WC.seq ?_
  refine WC.region ?_
  refine WL.op rfl rfl (op_assign rfl ?_)
  refine WL.nil ?_
  refine WQ.next ?_
  refine WC.seq ?_
  refine WC.seq ?_
  refine WC.region ?_
  refine WL.op rfl rfl (op_move rfl ?_)
  refine WL.op rfl rfl (op_eqlPN Fa.PT111 rfl rfl ?_)
  refine WL.nil ?_
  refine WQ.next ?_
  refine WC.no rfl rfl ?_
  refine WC.skip ?_
  refine WQ.next ?_
  refine WC.seq ?_
  refine WC.region ?_
  refine WL.op rfl rfl (op_move rfl ?_)
  refine WL.op rfl rfl (op_move rfl ?_)
  refine WL.op rfl rfl (op_move rfl ?_)
  refine WL.op rfl rfl (op_callF Fa.C119 rfl ((find_in k bv ev xv cv nv pg m n es B id j _ (H.cellsAtO (i := 0) rfl) (H.arrO (i := 1) rfl) (H.arrR (i := 2) rfl) hid hev hj).mono (fun e w1 hq => ?_)))
  obtain ⟨rfl, hf1⟩ := hq
  refine ⟨_, rfl, ?_⟩
  have H1 := H.fr' hf1
  refine WL.op rfl rfl (op_assign rfl ?_)
  refine WL.nil ?_
  refine WQ.next ?_
  refine WC.seq ?_
  refine WC.seq ?_
  refine WC.region ?_
  refine WL.op rfl rfl (op_move rfl ?_)
  refine WL.op rfl rfl (op_eqlPN Fa.PT201 rfl rfl ?_)
  refine WL.op rfl rfl (op_move rfl ?_)
  refine WL.yes rfl rfl rfl rfl rfl (op_move rfl ?_)
  refine WL.yes rfl rfl rfl rfl rfl (op_lenStr Tryz.underlying9 rfl ?_)
  refine WL.yes rfl rfl rfl rfl rfl (op_neqN (b := 64) rfl rfl ?_)
  refine WL.op rfl rfl (op_pickF rfl rfl rfl ?_)
  refine WL.nil ?_
  refine WQ.next ?_
  refine WC.no rfl (decide_eq_false (fun h => h ht)) ?_
  refine WC.skip ?_
  refine WQ.next ?_
  refine WC.seq ?_
  refine WC.region ?_
  refine WL.op rfl rfl (op_move rfl ?_)
  refine WL.op rfl rfl (op_move rfl ?_)
  refine WL.op rfl rfl (op_nilCheck rfl ?_)
  refine WL.op rfl rfl (op_storeRM (i := 2) (f := str) (l := B) (c := t) H1 rfl rfl rfl (by omega) rfl Fa.I9 (fun w2 H2 => ?_))
  refine WL.nil ?_
  refine WQ.next ?_
  refine WC.seq ?_
  refine WC.region ?_
  refine WL.op rfl rfl (op_assign rfl ?_)
  refine WL.nil ?_
  refine WQ.next ?_
  refine WC.ret ?_
  refine WQ.out (.tmp rfl .nil) ?_
  exact ⟨rfl, H2⟩
set_option maxRecDepth 100000 in
theorem xset_ok (x : Nat) (k : Nat) (bv ev xv cv nv : Value) (pg : UInt32) (m n : Nat) (es : List Value) (B : List (List UInt8)) (id : UInt32) (j : Nat) (t : List UInt8) (T : List Nat) (w : World) (H : Own T w w [Ent.bo x [(ptr k 0)], Ent.bo k [(vU32 pg), xv, cv, nv, bv], Ent.ar bv 1 m es, .row ev 9 1 n (List.map str B)]) (hid : id.toNat < m) (hev : es[id.toNat]? = some ev) (hj0 : j < n) (hj2 : j < 2 ^ 32) (ht : t.length = 64) :
    Calls Tryz.prog 27 #[(ptr x 0), (vU32 id), (vU32 (UInt32.ofNat j)), (str t)] w (fun e w' => e = .returned (vN 0) ∧ Own T w w' [Ent.bo x [(ptr k 0)], Ent.bo k [(vU32 pg), xv, cv, nv, bv], Ent.ar bv 1 m es, .row ev 9 1 n (List.map str (B.set j t))]) := by
  refine enter (args := [(ptr x 0), (vU32 id), (vU32 (UInt32.ofNat j)), (str t)]) Tryz.func27 rfl rfl ?_
  have hjj : (UInt32.ofNat j).toNat = j := by rw [UInt32.toNat_ofNat']; exact Nat.mod_eq_of_lt (by omega)
  refine WC.seq ?_
  refine WC.region ?_
  refine WL.op rfl rfl (op_assign rfl ?_)
  refine WL.nil ?_
  refine WQ.next ?_
  refine WC.seq ?_
  refine WC.region ?_
  refine WL.op rfl rfl (op_move rfl ?_)
  refine WL.op rfl rfl (op_callF Fa.C58 rfl ((kern_ok x k _ (H.cellsAtO (i := 0) rfl)).mono (fun e w1 hq => ?_)))
  obtain ⟨rfl, hf1⟩ := hq
  refine ⟨_, rfl, ?_⟩
  have H1 := H.fr' hf1
  refine WL.op rfl rfl (op_move rfl ?_)
  refine WL.op rfl rfl (op_move rfl ?_)
  refine WL.op rfl rfl (op_move rfl ?_)
  refine WL.op rfl rfl (op_callF Fa.C67 rfl ((kset_ok k bv ev xv cv nv pg m n es B id (UInt32.ofNat j) t _ _ (H1.part [1, 2, 3] rfl rfl) hid hev (by omega) ht).mono (fun e w2 hq => ?_)))
  obtain ⟨rfl, hq2⟩ := hq
  refine ⟨_, rfl, ?_⟩
  have H2 : Own T w w2 [Ent.bo x [(ptr k 0)], Ent.bo k [(vU32 pg), xv, cv, nv, bv], Ent.ar bv 1 m es, .row ev 9 1 n (List.map str (B.set (UInt32.ofNat j).toNat t))] := H1.splice [1, 2, 3] [Ent.bo k [(vU32 pg), xv, cv, nv, bv], Ent.ar bv 1 m es, .row ev 9 1 n (List.map str (B.set (UInt32.ofNat j).toNat t))] [] rfl rfl hq2 (Fits.same (j := 0) rfl (Fits.same (j := 1) rfl (Fits.solid True.intro Fits.nil)))
  refine WL.op rfl rfl (op_assign rfl ?_)
  refine WL.nil ?_
  refine WQ.next ?_
  refine WC.ret ?_
  refine WQ.out (.tmp rfl .nil) ?_
  rw [hjj] at H2
  exact ⟨rfl, H2⟩
end Go.Proofs.YtbjhccnffacbcaaGreat
/-! from WRep -/
/- strings.Repeat of this program: the library's contract at its numbers. -/
namespace Go.Proofs
open Go.Shelf
def Tryz.lays105_ren : Go.Shelf.Ren := ⟨fun | 105 => 152 | 212 => 169 | 99 => 188 | 165 => 189 | 166 => 106 | 170 => 190 | 169 => 109 | 263 => 205 | 264 => 206 | 206 => 224 | 240 => 150 | 241 => 225 | 276 => 186 | 277 => 242 | n => n, fun | 9 => 9 | 3 => 3 | 4 => 4 | 20 => 20 | 0 => 0 | 46 => 265 | 109 => 266 | 5 => 5 | 72 => 175 | 76 => 178 | 51 => 22 | 146 => 304 | 53 => 154 | 148 => 306 | 70 => 173 | 37 => 114 | 75 => 177 | 127 => 243 | 164 => 285 | 80 => 183 | n => n, fun | n => n⟩
theorem Tryz.lays105 : Go.Proofs.Lays.n105 Tryz.prog Tryz.lays105_ren := {
  mixed := by kernel_rfl
  f99 := Tryz.func188.trans (congrArg some (by kernel_rfl))
  f105 := Tryz.func152.trans (congrArg some (by kernel_rfl))
  f165 := Tryz.func189.trans (congrArg some (by kernel_rfl))
  f166 := Tryz.func106.trans (congrArg some (by kernel_rfl))
  f169 := Tryz.func109.trans (congrArg some (by kernel_rfl))
  f170 := Tryz.func190.trans (congrArg some (by kernel_rfl))
  f206 := Tryz.func224.trans (congrArg some (by kernel_rfl))
  f212 := Tryz.func169.trans (congrArg some (by kernel_rfl))
  f240 := Tryz.func150.trans (congrArg some (by kernel_rfl))
  f241 := Tryz.func225.trans (congrArg some (by kernel_rfl))
  f263 := Tryz.func205.trans (congrArg some (by kernel_rfl))
  f264 := Tryz.func206.trans (congrArg some (by kernel_rfl))
  f276 := Tryz.func186.trans (congrArg some (by kernel_rfl))
  f277 := Tryz.func242.trans (congrArg some (by kernel_rfl))
  t0 := Tryz.underlying0
  a0 := Tryz.isAgg0
  z0 := Tryz.sizeOf0
  v0 := Tryz.zeroValue0
  t3 := Tryz.underlying3
  a3 := Tryz.isAgg3
  z3 := Tryz.sizeOf3
  v3 := Tryz.zeroValue3
  t4 := Tryz.underlying4
  a4 := Tryz.isAgg4
  z4 := Tryz.sizeOf4
  v4 := Tryz.zeroValue4
  t5 := Tryz.underlying5
  a5 := Tryz.isAgg5
  z5 := Tryz.sizeOf5
  v5 := Tryz.zeroValue5
  t9 := Tryz.underlying9
  a9 := Tryz.isAgg9
  z9 := Tryz.sizeOf9
  v9 := Tryz.zeroValue9
  t20 := Tryz.underlying20
  a20 := Tryz.isAgg20
  z20 := Tryz.sizeOf20
  v20 := Tryz.zeroValue20
  t37 := Tryz.underlying114
  a37 := Tryz.isAgg114
  z37 := Tryz.sizeOf114
  v37 := Tryz.zeroValue114
  t46 := Tryz.underlying265
  a46 := Tryz.isAgg265
  z46 := Tryz.sizeOf265
  v46 := Tryz.zeroValue265
  t51 := Tryz.underlying22
  a51 := Tryz.isAgg22
  z51 := Tryz.sizeOf22
  v51 := Tryz.zeroValue22
  t53 := Tryz.underlying154
  a53 := Tryz.isAgg154
  z53 := Tryz.sizeOf154
  v53 := Tryz.zeroValue154
  t70 := Tryz.underlying173
  a70 := Tryz.isAgg173
  z70 := Tryz.sizeOf173
  v70 := Tryz.zeroValue173
  t72 := Tryz.underlying175
  a72 := Tryz.isAgg175
  z72 := Tryz.sizeOf175
  v72 := Tryz.zeroValue175
  t75 := Tryz.underlying177
  a75 := Tryz.isAgg177
  z75 := Tryz.sizeOf177
  v75 := Tryz.zeroValue177
  t76 := Tryz.underlying178
  a76 := Tryz.isAgg178
  z76 := Tryz.sizeOf178
  v76 := Tryz.zeroValue178
  t109 := Tryz.underlying266
  a109 := Tryz.isAgg266
  z109 := Tryz.sizeOf266
  v109 := Tryz.zeroValue266
  t127 := Tryz.underlying243
  a127 := Tryz.isAgg243
  z127 := Tryz.sizeOf243
  v127 := Tryz.zeroValue243
  t146 := Tryz.underlying304
  a146 := Tryz.isAgg304
  z146 := Tryz.sizeOf304
  v146 := Tryz.zeroValue304
  t148 := Tryz.underlying306
  a148 := Tryz.isAgg306
  z148 := Tryz.sizeOf306
  v148 := Tryz.zeroValue306
  t164 := Tryz.underlying285
  a164 := Tryz.isAgg285
  z164 := Tryz.sizeOf285
  v164 := Tryz.zeroValue285 }
theorem Tryz.Builder_Extra_105 : Builder.Extra Tryz.prog Tryz.lays105_ren := {
  sizeBuilder := by kernel_rfl
  liesBuilder := by kernel_rfl
  t5 := Tryz.underlying5
  a5 := Tryz.isAgg5
  z5 := Tryz.sizeOf5
  v5 := Tryz.zeroValue5
  infoByte := by kernel_rfl
  cellsByte := by kernel_rfl
  sizeByte := by kernel_rfl
  neB5 := by decide }
open Go.RowKit Go.Lib in
/-- **strings.Repeat: count ≥ 0, the result within one allocation: count copies of s.** (LAID: no walk: one application.) -/
theorem Tryz.strings_Repeat (s : ByteArray) (c : Nat) (w : World) (hc : c ≤ 9223372036854775807) (hlen : s.size * c ≤ 140737488355328) :
    Calls Tryz.prog 152 #[.string s, .int .i64 c] w fun e w' => e = .returned (.string ⟨(Lib.repeatL s.data.toList c).toArray⟩) ∧ Below w.heap.size w w' := Any.strings_Repeat Tryz.lays105 Tryz.Builder_Extra_105 s c w hc hlen
end Go.Proofs
