/- General lemmas and walks: ESort4, EDem3, EDem4, EDem5, EDem6, EDem7. No condition but what each theorem names. -/
import Derived.Test.YtnngbnenekjffaaQ9e090d5b
import Derived.Test.YtnngbnenekjffaaQ38f2f5a9
import Derived.Test.YtnngbnenekjffaaQa2c405e1
/-! from ESort4 -/
namespace Go.Proofs.Ytnngbnenekjffaa
open Go.Owl Go.Spec
set_option maxHeartbeats 4000000 in
set_option maxRecDepth 100000 in
theorem pins_ok (v : Value) (n : Nat) (l : List UInt16) (a b : Nat) (T : List Nat) (w : World) (H : Own T w w [.row v 51 1 n (List.map vU16 l)]) (hn : l.length = n) (hN : n < 2 ^ 61) (hab : a < b) (hb : b ≤ n) (hpre : PreS ltU16 0 a b l) :
    Calls Try.prog 57 #[v, (vN a), (vN b)] w (fun e w' => ∃ (l' : List UInt16) (r : Bool), e = .returned (.bool r) ∧ (Sw 0 a b l l' ∧ (r = true → SortS ltU16 0 a b l')) ∧ Own T w w' [.row v 51 1 n (List.map vU16 l')]) := by
  refine enter (args := [v, (vN a), (vN b)]) Try.func57 rfl rfl ?_
  refine WC.seq ?_
  refine WC.region ?_
  refine WL.op rfl rfl (op_assign rfl ?_)
  refine WL.nil ?_
  refine WQ.next ?_
  refine WC.seq ?_
  refine WC.region ?_
  refine WL.op rfl rfl (op_move rfl ?_)
  refine WL.op rfl rfl (op_addN (b := 1) rfl rfl (by omega) ?_)
  refine WL.op rfl rfl (op_assign rfl ?_)
  refine WL.nil ?_
  refine WQ.next ?_
  refine WC.seq ?_
  refine WC.seq ?_
  refine WC.region ?_
  refine WL.op rfl rfl (op_assign rfl ?_)
  refine WL.nil ?_
  refine WQ.next ?_
  refine WC.block ?_
  refine WC.loop (α := Nat × Nat × List UInt16) (fun (i, c, l1) => [(0, v), (1, (vN a)), (2, (vN b)), (7, (vN i)), (8, (vN c))]) (fun (i, c, l1) w' => (a + 1 ≤ i ∧ i ≤ b ∧ c ≤ 5 ∧ Sw 0 a b l l1 ∧ SortS ltU16 0 a i l1 ∧ PreS ltU16 0 a b l1) ∧ Own T w w' [.row v 51 1 n (List.map vU16 l1)]) (fun (i, c, l1) => 5 - c) (a + 1, 0, l) ⟨⟨Nat.le_refl _, by omega, by omega, .refl _, SortS.nil (by omega), hpre⟩, H⟩ ⟨rfl, rfl, rfl, rfl, rfl, trivial⟩ ?_
  rintro ⟨i, c, l1⟩ w1 ⟨⟨hi1, hi2, hc1, hs1, ho1, hp1⟩, H1⟩
  show WC _ _ _ _ _ [(0, v), (1, (vN a)), (2, (vN b)), (7, (vN i)), (8, (vN c))] _
  have hL1 := hs1.len
  refine WC.seq ?_
  refine WC.seq ?_
  refine WC.region ?_
  refine WL.op rfl rfl (op_move rfl ?_)
  refine WL.op rfl rfl (op_lssN (b := 5) rfl rfl ?_)
  refine WL.nil ?_
  refine WQ.next ?_
  refine WC.cond rfl (fun (hb2 : (decide (c < 5)) = true) => ?_) (fun (hb2 : (decide (c < 5)) = false) => ?_)
  ·
    have hc2 := of_decide_eq_true hb2
    refine WC.skip ?_
    refine WQ.next ?_
    refine WC.seq ?_
    refine WC.block ?_
    refine WC.cut (α := Nat) (fun i3 => [(0, v), (1, (vN a)), (2, (vN b)), (7, (vN i3)), (8, (vN c))]) (fun i3 w' => (a + 1 ≤ i3 ∧ i3 ≤ b ∧ SortS ltU16 0 a i3 l1) ∧ Own T w w' [.row v 51 1 n (List.map vU16 l1)]) ?_ ?_
    ·
      refine WC.block ?_
      refine WC.loop (α := Nat) (fun i2 => [(0, v), (1, (vN a)), (2, (vN b)), (7, (vN i2)), (8, (vN c))]) (fun i2 w' => (a + 1 ≤ i2 ∧ i2 ≤ b ∧ SortS ltU16 0 a i2 l1) ∧ Own T w w' [.row v 51 1 n (List.map vU16 l1)]) (fun i2 => b - i2) i ⟨⟨hi1, hi2, ho1⟩, H1⟩ ⟨rfl, rfl, rfl, rfl, rfl, trivial⟩ ?_
      rintro i2 w3 ⟨⟨hi3, hi4, ho2⟩, H3⟩
      show WC _ _ _ _ _ [(0, v), (1, (vN a)), (2, (vN b)), (7, (vN i2)), (8, (vN c))] _
      refine WC.seq ?_
      refine WC.seq ?_
      refine bsplit (fun (hb4 : (decide (i2 < b)) = true) => ?_) (fun (hb4 : (decide (i2 < b)) = false) => ?_)
      ·
        have hc4 := of_decide_eq_true hb4
        refine WC.draw 16 Fa.M H3 (HW.op rfl (fun w1 H1 => op_move rfl ⟨rfl, Fr.refl _ _⟩) (HW.op rfl (fun w1 H1 => op_move rfl ⟨rfl, Fr.refl _ _⟩) (HW.op rfl (fun w1 H1 => op_lssN rfl rfl ⟨rfl, Fr.refl _ _⟩) (HW.op rfl (fun w1 H1 => op_move rfl ⟨rfl, Fr.refl _ _⟩) (HW.yes rfl rfl rfl hb4 (fun w1 H1 => op_move rfl ⟨rfl, Fr.refl _ _⟩) (HW.yes rfl rfl rfl hb4 (fun w1 H1 => op_move rfl ⟨rfl, Fr.refl _ _⟩) (HW.yes rfl rfl rfl hb4 (fun w1 H1 => op_indexAddr1 Try.underlying28 Fa.I51 rfl (H1.arrR (i := 0) rfl) rfl (by omega) ⟨rfl, Fr.refl _ _⟩) (HW.yes rfl rfl rfl hb4 (fun w1 H1 => op_load rfl ((H1.arrR (i := 0) rfl).at (get_map vU16 0 (Arr.ltM (H1.arrR (i := 0) rfl) (by omega)))) Try.underlying51 rfl ⟨rfl, Fr.refl _ _⟩) (HW.yes rfl rfl rfl hb4 (fun w1 H1 => op_move rfl ⟨rfl, Fr.refl _ _⟩) (HW.yes rfl rfl rfl hb4 (fun w1 H1 => op_move rfl ⟨rfl, Fr.refl _ _⟩) (HW.yes rfl rfl rfl hb4 (fun w1 H1 => op_subN (b := 1) rfl rfl (by omega) (by omega) ⟨rfl, Fr.refl _ _⟩) (HW.yes rfl rfl rfl hb4 (fun w1 H1 => op_indexAddr1 Try.underlying28 Fa.I51 rfl (H1.arrR (i := 0) rfl) rfl (by omega) ⟨rfl, Fr.refl _ _⟩) (HW.yes rfl rfl rfl hb4 (fun w1 H1 => op_load rfl ((H1.arrR (i := 0) rfl).at (get_map vU16 0 (Arr.ltM (H1.arrR (i := 0) rfl) (by omega)))) Try.underlying51 rfl ⟨rfl, Fr.refl _ _⟩) (HW.yes rfl rfl rfl hb4 (fun w1 H1 => op_callF Fa.C58 rfl ((less_ok (l1.getD i2 0) (l1.getD (i2 - 1) 0) _).mono (fun e w2 hq => ⟨_, hq.1, rfl, hq.2⟩))) (HW.yes rfl rfl rfl hb4 (fun w1 H1 => op_not rfl ⟨rfl, Fr.refl _ _⟩) (HW.op rfl (fun w1 H1 => op_pickT rfl hb4 rfl ⟨rfl, Fr.refl _ _⟩)  HW.nil)))))))))))))))) (by kernel_rfl) ?_
        intro β6 w6 H6
        refine WL.nil ?_
        refine WQ.next ?_
        refine WC.cond rfl (fun (hb7 : (!(ltU16 (l1.getD i2 0) (l1.getD (i2 - 1) 0))) = true) => ?_) (fun (hb7 : (!(ltU16 (l1.getD i2 0) (l1.getD (i2 - 1) 0))) = false) => ?_)
        ·
          have hn7 := (Bool.not_eq_true' _).mp hb7
          refine WC.skip ?_
          refine WQ.next ?_
          refine WC.block ?_
          refine WC.region ?_
          refine WL.op rfl rfl (op_move rfl ?_)
          refine WL.op rfl rfl (op_addN (b := 1) rfl rfl (by omega) ?_)
          refine WL.op rfl rfl (op_assign rfl ?_)
          refine WL.nil ?_
          refine WQ.inNormal ?_
          exact WQ.round (i2 + 1) ⟨⟨by omega, by omega, sort_snoc ltU16OK ho2 (by omega) hn7⟩, H6⟩ ⟨rfl, rfl, rfl, rfl, rfl, trivial⟩ (by omega)
        ·
          have hn7 := (Bool.not_eq_false' _).mp hb7
          refine WC.exit ?_
          refine WQ.thenExit ?_
          refine WQ.thenExit ?_
          refine WQ.inHere ?_
          exact WQ.here i2 ⟨⟨hi3, hi4, ho2⟩, H6⟩ ⟨rfl, rfl, rfl, rfl, rfl, trivial⟩
      ·
        have hc4 := of_decide_eq_false hb4
        refine WC.draw 16 Fa.M H3 (HW.op rfl (fun w1 H1 => op_move rfl ⟨rfl, Fr.refl _ _⟩) (HW.op rfl (fun w1 H1 => op_move rfl ⟨rfl, Fr.refl _ _⟩) (HW.op rfl (fun w1 H1 => op_lssN rfl rfl ⟨rfl, Fr.refl _ _⟩) (HW.op rfl (fun w1 H1 => op_move rfl ⟨rfl, Fr.refl _ _⟩) (HW.no rfl rfl rfl hb4 (HW.no rfl rfl rfl hb4 (HW.no rfl rfl rfl hb4 (HW.no rfl rfl rfl hb4 (HW.no rfl rfl rfl hb4 (HW.no rfl rfl rfl hb4 (HW.no rfl rfl rfl hb4 (HW.no rfl rfl rfl hb4 (HW.no rfl rfl rfl hb4 (HW.no rfl rfl rfl hb4 (HW.no rfl rfl rfl hb4 (HW.op rfl (fun w1 H1 => op_pickF rfl hb4 rfl ⟨rfl, Fr.refl _ _⟩)  HW.nil)))))))))))))))) (by kernel_rfl) ?_
        intro β8 w8 H8
        refine WL.nil ?_
        refine WQ.next ?_
        refine WC.no rfl rfl ?_
        refine WC.exit ?_
        refine WQ.thenExit ?_
        refine WQ.thenExit ?_
        refine WQ.inHere ?_
        exact WQ.here i2 ⟨⟨hi3, hi4, ho2⟩, H8⟩ ⟨rfl, rfl, rfl, rfl, rfl, trivial⟩
    ·
      rintro i3 w9 ⟨⟨hi5, hi6, ho3⟩, H9⟩
      show WC _ _ _ _ _ [(0, v), (1, (vN a)), (2, (vN b)), (7, (vN i3)), (8, (vN c))] _
      refine WC.seq ?_
      refine WC.seq ?_
      refine WC.region ?_
      refine WL.op rfl rfl (op_move rfl ?_)
      refine WL.op rfl rfl (op_move rfl ?_)
      refine WL.op rfl rfl (op_eqlN rfl rfl ?_)
      refine WL.nil ?_
      refine WQ.next ?_
      refine WC.cond rfl (fun (hb10 : (decide (i3 = b)) = true) => ?_) (fun (hb10 : (decide (i3 = b)) = false) => ?_)
      ·
        have hc10 := of_decide_eq_true hb10
        refine WC.seq ?_
        refine WC.region ?_
        refine WL.op rfl rfl (op_assign rfl ?_)
        refine WL.nil ?_
        refine WQ.next ?_
        refine WC.ret ?_
        refine WQ.thenRet ?_
        refine WQ.inRet ?_
        refine WQ.thenRet ?_
        refine WQ.thenRet ?_
        refine WQ.inRet ?_
        refine WQ.thenRet ?_
        refine WQ.out (.tmp rfl .nil) ?_
        exact ⟨_, _, rfl, ⟨hs1, fun _ p q h1 h2 h3 => ho3 p q h1 h2 (by omega)⟩, H9⟩
      ·
        have hc10 := of_decide_eq_false hb10
        refine WC.skip ?_
        refine WQ.next ?_
        refine WC.seq ?_
        refine WC.seq ?_
        refine WC.region ?_
        refine WL.op rfl rfl (op_move rfl ?_)
        refine WL.op rfl rfl (op_move rfl ?_)
        refine WL.op rfl rfl (op_subN rfl rfl (by omega) (by omega) ?_)
        refine WL.op rfl rfl (op_lssN (b := 50) rfl rfl ?_)
        refine WL.nil ?_
        refine WQ.next ?_
        refine WC.cond rfl (fun (hb11 : (decide ((b - a) < 50)) = true) => ?_) (fun (hb11 : (decide ((b - a) < 50)) = false) => ?_)
        ·
          have hc11 := of_decide_eq_true hb11
          refine WC.seq ?_
          refine WC.region ?_
          refine WL.op rfl rfl (op_assign rfl ?_)
          refine WL.nil ?_
          refine WQ.next ?_
          refine WC.ret ?_
          refine WQ.thenRet ?_
          refine WQ.inRet ?_
          refine WQ.thenRet ?_
          refine WQ.thenRet ?_
          refine WQ.inRet ?_
          refine WQ.thenRet ?_
          refine WQ.out (.tmp rfl .nil) ?_
          exact ⟨_, _, rfl, ⟨hs1, fun h => by cases h⟩, H9⟩
        ·
          have hc11 := of_decide_eq_false hb11
          refine WC.skip ?_
          refine WQ.next ?_
          refine WC.cut (α := List UInt16) (fun l3 => [(0, v), (1, (vN a)), (2, (vN b)), (7, (vN i3)), (8, (vN c))]) (fun l3 w' => (Sw 0 a b l l3 ∧ SortS ltU16 0 a (i3 - 1) l3 ∧ PreS ltU16 0 a b l3) ∧ Own T w w' [.row v 51 1 n (List.map vU16 l3)]) ?_ ?_
          ·
            refine WC.held 18 rfl Fa.M H9 (fun w' => ∃ L', Own T w w' ([] ++ L')) ?_
            intro w12 H12
            refine WH.take (i := 0) (v := v) rfl rfl (.inl rfl) rfl (by kernel_rfl) ⟨[.row v 51 1 n (List.map vU16 l1)], H12⟩ (fun wX hSX => hSX.elim fun LX HX => op_move rfl ⟨rfl, rfl⟩) ?_
            refine WH.take (i := 1) (v := (vN i3)) rfl rfl (.inl rfl) rfl (by kernel_rfl) ⟨[.row v 51 1 n (List.map vU16 l1)], H12⟩ (fun wX hSX => hSX.elim fun LX HX => op_move rfl ⟨rfl, rfl⟩) ?_
            refine WH.take (i := 2) (v := v) rfl rfl (.inl rfl) rfl (by kernel_rfl) ⟨[.row v 51 1 n (List.map vU16 l1)], H12⟩ (fun wX hSX => hSX.elim fun LX HX => op_move rfl ⟨rfl, rfl⟩) ?_
            refine WH.take (i := 3) (v := (vN i3)) rfl rfl (.inl rfl) rfl (by kernel_rfl) ⟨[.row v 51 1 n (List.map vU16 l1)], H12⟩ (fun wX hSX => hSX.elim fun LX HX => op_move rfl ⟨rfl, rfl⟩) ?_
            refine WH.take (i := 4) (v := (vN (i3 - 1))) rfl rfl (.inl rfl) rfl (by kernel_rfl) ⟨[.row v 51 1 n (List.map vU16 l1)], H12⟩ (fun wX hSX => hSX.elim fun LX HX => op_subN (b := 1) rfl rfl (by omega) (by omega) ⟨rfl, rfl⟩) ?_
            refine WH.take (i := 5) (v := v) rfl rfl (.inl rfl) rfl (by kernel_rfl) ⟨[.row v 51 1 n (List.map vU16 l1)], H12⟩ (fun wX hSX => hSX.elim fun LX HX => op_move rfl ⟨rfl, rfl⟩) ?_
            refine WH.take (i := 6) (v := (vN i3)) rfl rfl (.inl rfl) rfl (by kernel_rfl) ⟨[.row v 51 1 n (List.map vU16 l1)], H12⟩ (fun wX hSX => hSX.elim fun LX HX => op_move rfl ⟨rfl, rfl⟩) ?_
            refine WH.take (i := 7) (v := (vN (i3 - 1))) rfl rfl (.inl rfl) rfl (by kernel_rfl) ⟨[.row v 51 1 n (List.map vU16 l1)], H12⟩ (fun wX hSX => hSX.elim fun LX HX => op_subN (b := 1) rfl rfl (by omega) (by omega) ⟨rfl, rfl⟩) ?_
            refine WH.take (i := 8) (v := (.pointer (some (sp v (i3 - 1))))) rfl rfl (.inl rfl) rfl (by kernel_rfl) ⟨[.row v 51 1 n (List.map vU16 l1)], H12⟩ (fun wX hSX => hSX.elim fun LX HX => op_indexAddr1W Try.underlying28 Fa.I51 rfl (H12.arrR (i := 0) rfl) rfl (by omega) ⟨rfl, rfl⟩) ?_
            refine WH.take (i := 10) (v := v) rfl rfl (.inl rfl) rfl (by kernel_rfl) ⟨[.row v 51 1 n (List.map vU16 l1)], H12⟩ (fun wX hSX => hSX.elim fun LX HX => op_move rfl ⟨rfl, rfl⟩) ?_
            refine WH.take (i := 11) (v := (vN i3)) rfl rfl (.inl rfl) rfl (by kernel_rfl) ⟨[.row v 51 1 n (List.map vU16 l1)], H12⟩ (fun wX hSX => hSX.elim fun LX HX => op_move rfl ⟨rfl, rfl⟩) ?_
            refine WH.take (i := 12) (v := (.pointer (some (sp v i3)))) rfl rfl (.inl rfl) rfl (by kernel_rfl) ⟨[.row v 51 1 n (List.map vU16 l1)], H12⟩ (fun wX hSX => hSX.elim fun LX HX => op_indexAddr1W Try.underlying28 Fa.I51 rfl (H12.arrR (i := 0) rfl) rfl (by omega) ⟨rfl, rfl⟩) ?_
            refine WH.named (fun W hW => ?_)
            have st11_5 : ∀ (wS : World), Own T w wS [.row v 51 1 n (List.map vU16 ((l1.set i3 (l1.getD (i3 - 1) 0)).set (i3 - 1) (l1.getD i3 0)))] → W 0 #[true, true, true, true, true, true, true, true, true, true, true, true, true, true, true, true, true, true] [(0, v), (1, (vN a)), (2, (vN b)), (7, (vN i3)), (8, (vN c)), (35, (vN i3)), (36, (vN b)), (37, (.bool (decide (i3 = b)))), (38, (vN b)), (39, (vN a)), (40, (vN (b - a))), (41, (.bool (decide ((b - a) < 50)))), (42, v), (43, (vN i3)), (44, v), (45, (vN i3)), (46, (vN (i3 - 1))), (47, v), (48, (vN i3)), (49, (vN (i3 - 1))), (50, (.pointer (some (sp v (i3 - 1))))), (51, (vU16 (l1.getD (i3 - 1) 0))), (52, v), (53, (vN i3)), (54, (.pointer (some (sp v i3)))), (55, (vU16 (l1.getD i3 0))), (56, (.pointer (some (sp v i3)))), (57, (.pointer (some (sp v (i3 - 1)))))] wS := by
              intro wS HS
              rw [hW]
              refine WH.done (by kernel_rfl) ?_
              exact WQ.here (swapL 0 l1 i3 (i3 - 1)) ⟨⟨hs1.step (by omega) (by omega) (by omega) (by omega), sort_swap (by omega) (by omega) ho3, pre_sw (by omega) hp1 (Sw.one (by omega) (by omega) (by omega) (by omega))⟩, HS⟩ ⟨rfl, rfl, rfl, rfl, rfl, trivial⟩
            have st11_4 : ∀ (wS : World), Own T w wS [.row v 51 1 n (List.map vU16 (l1.set i3 (l1.getD (i3 - 1) 0)))] → W 1 #[true, true, true, true, true, true, true, true, true, true, true, true, true, true, true, true, true, false] [(0, v), (1, (vN a)), (2, (vN b)), (7, (vN i3)), (8, (vN c)), (35, (vN i3)), (36, (vN b)), (37, (.bool (decide (i3 = b)))), (38, (vN b)), (39, (vN a)), (40, (vN (b - a))), (41, (.bool (decide ((b - a) < 50)))), (42, v), (43, (vN i3)), (44, v), (45, (vN i3)), (46, (vN (i3 - 1))), (47, v), (48, (vN i3)), (49, (vN (i3 - 1))), (50, (.pointer (some (sp v (i3 - 1))))), (51, (vU16 (l1.getD (i3 - 1) 0))), (52, v), (53, (vN i3)), (54, (.pointer (some (sp v i3)))), (55, (vU16 (l1.getD i3 0))), (56, (.pointer (some (sp v i3)))), (57, (.pointer (some (sp v (i3 - 1)))))] wS := by
              intro wS HS
              rw [hW]
              refine WH.all1 (i := 17) (by kernel_rfl) ?_
              ·
                refine WHS.op (i := 17) rfl (.inl rfl) rfl (op_storeRM (i := 0) (f := vU16) (l := (l1.set i3 (l1.getD (i3 - 1) 0))) (c := (l1.getD i3 0)) HS rfl rfl rfl (by omega) rfl Fa.I51 (fun w23341 H23341 => ?_))
                refine ⟨⟨[.row v 51 1 n (List.map vU16 ((l1.set i3 (l1.getD (i3 - 1) 0)).set (i3 - 1) (l1.getD i3 0)))], H23341⟩, ?_⟩
                have hq := st11_5 w23341 H23341
                rw [hW] at hq
                refine WH.cov ?_ hq
                exact by repeat (first | exact trivial | refine ⟨rfl, ?_⟩)
            have st11_3 : ∀ (wS : World), Own T w wS [.row v 51 1 n (List.map vU16 l1)] → W 3 #[true, true, true, true, true, true, true, true, true, true, true, true, true, true, true, false, false, false] [(0, v), (1, (vN a)), (2, (vN b)), (7, (vN i3)), (8, (vN c)), (35, (vN i3)), (36, (vN b)), (37, (.bool (decide (i3 = b)))), (38, (vN b)), (39, (vN a)), (40, (vN (b - a))), (41, (.bool (decide ((b - a) < 50)))), (42, v), (43, (vN i3)), (44, v), (45, (vN i3)), (46, (vN (i3 - 1))), (47, v), (48, (vN i3)), (49, (vN (i3 - 1))), (50, (.pointer (some (sp v (i3 - 1))))), (51, (vU16 (l1.getD (i3 - 1) 0))), (52, v), (53, (vN i3)), (54, (.pointer (some (sp v i3)))), (55, (vU16 (l1.getD i3 0))), (56, (.pointer (some (sp v i3))))] wS := by
              intro wS HS
              rw [hW]
              refine WH.all1 (i := 15) (by kernel_rfl) ?_
              ·
                refine WHS.op (i := 15) rfl (.inl rfl) rfl (op_storeRM (i := 0) (f := vU16) (l := l1) (c := (l1.getD (i3 - 1) 0)) HS rfl rfl rfl (by omega) rfl Fa.I51 (fun w23301 H23301 => ?_))
                refine ⟨⟨[.row v 51 1 n (List.map vU16 (l1.set i3 (l1.getD (i3 - 1) 0)))], H23301⟩, ?_⟩
                refine WH.take (i := 16) (v := (.pointer (some (sp v (i3 - 1))))) rfl rfl (.inl rfl) rfl (by kernel_rfl) ⟨[.row v 51 1 n (List.map vU16 (l1.set i3 (l1.getD (i3 - 1) 0)))], H23301⟩ (fun wX hSX => hSX.elim fun LX HX => op_indexAddr1W Try.underlying28 Fa.I51 rfl (H23301.arrR (i := 0) rfl) rfl (by omega) ⟨rfl, rfl⟩) ?_
                have hq := st11_4 w23301 H23301
                rw [hW] at hq
                refine WH.cov ?_ hq
                exact by repeat (first | exact trivial | refine ⟨rfl, ?_⟩)
            have st11_1 : ∀ (wS : World), Own T w wS [.row v 51 1 n (List.map vU16 l1)] → W 5 #[true, true, true, true, true, true, true, true, true, true, true, true, true, false, false, false, false, false] [(0, v), (1, (vN a)), (2, (vN b)), (7, (vN i3)), (8, (vN c)), (35, (vN i3)), (36, (vN b)), (37, (.bool (decide (i3 = b)))), (38, (vN b)), (39, (vN a)), (40, (vN (b - a))), (41, (.bool (decide ((b - a) < 50)))), (42, v), (43, (vN i3)), (44, v), (45, (vN i3)), (46, (vN (i3 - 1))), (47, v), (48, (vN i3)), (49, (vN (i3 - 1))), (50, (.pointer (some (sp v (i3 - 1))))), (51, (vU16 (l1.getD (i3 - 1) 0))), (52, v), (53, (vN i3)), (54, (.pointer (some (sp v i3))))] wS := by
              intro wS HS
              rw [hW]
              refine WH.all1 (i := 13) (by kernel_rfl) ?_
              ·
                refine WHS.op (i := 13) rfl (.inl rfl) rfl (op_load rfl ((HS.arrR (i := 0) rfl).at (get_map vU16 0 (Arr.ltM (HS.arrR (i := 0) rfl) (by omega)))) Try.underlying51 rfl ?_)
                refine ⟨⟨[.row v 51 1 n (List.map vU16 l1)], HS⟩, ?_⟩
                refine WH.take (i := 14) (v := (.pointer (some (sp v i3)))) rfl rfl (.inl rfl) rfl (by kernel_rfl) ⟨[.row v 51 1 n (List.map vU16 l1)], HS⟩ (fun wX hSX => hSX.elim fun LX HX => op_indexAddr1W Try.underlying28 Fa.I51 rfl (HS.arrR (i := 0) rfl) rfl (by omega) ⟨rfl, rfl⟩) ?_
                have hq := st11_3 wS HS
                rw [hW] at hq
                refine WH.cov ?_ hq
                exact by repeat (first | exact trivial | refine ⟨rfl, ?_⟩)
            have st11_2 : ∀ (wS : World), Own T w wS [.row v 51 1 n (List.map vU16 l1)] → W 5 #[true, true, true, true, true, true, true, true, true, false, true, true, true, true, false, false, false, false] [(0, v), (1, (vN a)), (2, (vN b)), (7, (vN i3)), (8, (vN c)), (35, (vN i3)), (36, (vN b)), (37, (.bool (decide (i3 = b)))), (38, (vN b)), (39, (vN a)), (40, (vN (b - a))), (41, (.bool (decide ((b - a) < 50)))), (42, v), (43, (vN i3)), (44, v), (45, (vN i3)), (46, (vN (i3 - 1))), (47, v), (48, (vN i3)), (49, (vN (i3 - 1))), (50, (.pointer (some (sp v (i3 - 1))))), (52, v), (53, (vN i3)), (54, (.pointer (some (sp v i3)))), (55, (vU16 (l1.getD i3 0)))] wS := by
              intro wS HS
              rw [hW]
              refine WH.all1 (i := 9) (by kernel_rfl) ?_
              ·
                refine WHS.op (i := 9) rfl (.inl rfl) rfl (op_load rfl ((HS.arrR (i := 0) rfl).at (get_map vU16 0 (Arr.ltM (HS.arrR (i := 0) rfl) (by omega)))) Try.underlying51 rfl ?_)
                refine ⟨⟨[.row v 51 1 n (List.map vU16 l1)], HS⟩, ?_⟩
                refine WH.take (i := 14) (v := (.pointer (some (sp v i3)))) rfl rfl (.inl rfl) rfl (by kernel_rfl) ⟨[.row v 51 1 n (List.map vU16 l1)], HS⟩ (fun wX hSX => hSX.elim fun LX HX => op_indexAddr1W Try.underlying28 Fa.I51 rfl (HS.arrR (i := 0) rfl) rfl (by omega) ⟨rfl, rfl⟩) ?_
                have hq := st11_3 wS HS
                rw [hW] at hq
                refine WH.cov ?_ hq
                exact by repeat (first | exact trivial | refine ⟨rfl, ?_⟩)
            have st11_0 : ∀ (wS : World), Own T w wS [.row v 51 1 n (List.map vU16 l1)] → W 6 #[true, true, true, true, true, true, true, true, true, false, true, true, true, false, false, false, false, false] [(0, v), (1, (vN a)), (2, (vN b)), (7, (vN i3)), (8, (vN c)), (35, (vN i3)), (36, (vN b)), (37, (.bool (decide (i3 = b)))), (38, (vN b)), (39, (vN a)), (40, (vN (b - a))), (41, (.bool (decide ((b - a) < 50)))), (42, v), (43, (vN i3)), (44, v), (45, (vN i3)), (46, (vN (i3 - 1))), (47, v), (48, (vN i3)), (49, (vN (i3 - 1))), (50, (.pointer (some (sp v (i3 - 1))))), (52, v), (53, (vN i3)), (54, (.pointer (some (sp v i3))))] wS := by
              intro wS HS
              rw [hW]
              refine WH.all2 (i := 9) (j := 13) (by kernel_rfl) ?_ ?_
              ·
                refine WHS.op (i := 9) rfl (.inl rfl) rfl (op_load rfl ((HS.arrR (i := 0) rfl).at (get_map vU16 0 (Arr.ltM (HS.arrR (i := 0) rfl) (by omega)))) Try.underlying51 rfl ?_)
                refine ⟨⟨[.row v 51 1 n (List.map vU16 l1)], HS⟩, ?_⟩
                have hq := st11_1 wS HS
                rw [hW] at hq
                refine WH.cov ?_ hq
                exact by repeat (first | exact trivial | refine ⟨rfl, ?_⟩)
              ·
                refine WHS.op (i := 13) rfl (.inl rfl) rfl (op_load rfl ((HS.arrR (i := 0) rfl).at (get_map vU16 0 (Arr.ltM (HS.arrR (i := 0) rfl) (by omega)))) Try.underlying51 rfl ?_)
                refine ⟨⟨[.row v 51 1 n (List.map vU16 l1)], HS⟩, ?_⟩
                have hq := st11_2 wS HS
                rw [hW] at hq
                refine WH.cov ?_ hq
                exact by repeat (first | exact trivial | refine ⟨rfl, ?_⟩)
            have hq := st11_0 w12 H12
            rw [hW] at hq ⊢
            refine WH.cov ?_ hq
            exact by repeat (first | exact trivial | refine ⟨rfl, ?_⟩)
          ·
            rintro l3 w14 ⟨⟨hs3, ho5, hp3⟩, H14⟩
            show WC _ _ _ _ _ [(0, v), (1, (vN a)), (2, (vN b)), (7, (vN i3)), (8, (vN c))] _
            have hL3 := hs3.len
            refine WC.cut (α := List UInt16) (fun l4 => [(0, v), (1, (vN a)), (2, (vN b)), (7, (vN i3)), (8, (vN c))]) (fun l4 w' => (Sw 0 a b l l4 ∧ SortS ltU16 0 a i3 l4 ∧ PreS ltU16 0 a b l4) ∧ Own T w w' [.row v 51 1 n (List.map vU16 l4)]) ?_ ?_
            ·
              refine WC.seq ?_
              refine WC.region ?_
              refine WL.op rfl rfl (op_move rfl ?_)
              refine WL.op rfl rfl (op_move rfl ?_)
              refine WL.op rfl rfl (op_subN rfl rfl (by omega) (by omega) ?_)
              refine WL.op rfl rfl (op_geqN (b := 2) rfl rfl ?_)
              refine WL.nil ?_
              refine WQ.next ?_
              refine WC.cond rfl (fun (hb15 : (decide ((i3 - a) ≥ 2)) = true) => ?_) (fun (hb15 : (decide ((i3 - a) ≥ 2)) = false) => ?_)
              ·
                have hc15 := of_decide_eq_true hb15
                refine WC.seq ?_
                refine WC.region ?_
                refine WL.op rfl rfl (op_move rfl ?_)
                refine WL.op rfl rfl (op_subN (b := 1) rfl rfl (by omega) (by omega) ?_)
                refine WL.op rfl rfl (op_assign rfl ?_)
                refine WL.nil ?_
                refine WQ.next ?_
                refine WC.block ?_
                refine WC.loop (α := Nat × List UInt16) (fun (j, l2) => [(0, v), (1, (vN a)), (2, (vN b)), (7, (vN i3)), (8, (vN c)), (9, (vN j))]) (fun (j, l2) w' => (a ≤ j ∧ j ≤ i3 - 1 ∧ Sw 0 a b l l2 ∧ InsI ltU16 0 a (i3 - 1) j l2 ∧ PreS ltU16 0 a b l2) ∧ Own T w w' [.row v 51 1 n (List.map vU16 l2)]) (fun (j, l2) => j) (i3 - 1, l3) ⟨⟨by omega, Nat.le_refl _, hs3, ins_init ho5, hp3⟩, H14⟩ ⟨rfl, rfl, rfl, rfl, rfl, rfl, trivial⟩ ?_
                rintro ⟨j, l2⟩ w16 ⟨⟨hj1, hj2, hs2, hj3, hp2⟩, H16⟩
                show WC _ _ _ _ _ [(0, v), (1, (vN a)), (2, (vN b)), (7, (vN i3)), (8, (vN c)), (9, (vN j))] _
                have hL2 := hs2.len
                refine WC.seq ?_
                refine WC.seq ?_
                refine WC.region ?_
                refine WL.op rfl rfl (op_move rfl ?_)
                refine WL.op rfl rfl (op_geqN (b := 1) rfl rfl ?_)
                refine WL.nil ?_
                refine WQ.next ?_
                refine WC.cond rfl (fun (hb17 : (decide (j ≥ 1)) = true) => ?_) (fun (hb17 : (decide (j ≥ 1)) = false) => ?_)
                ·
                  have hc17 := of_decide_eq_true hb17
                  refine WC.skip ?_
                  refine WQ.next ?_
                  refine WC.seq ?_
                  refine WC.block ?_
                  refine WC.seq ?_
                  refine WC.seq ?_
                  refine WC.draw 11 Fa.M H16 (HW.op rfl (fun w1 H1 => op_move rfl ⟨rfl, Fr.refl _ _⟩) (HW.op rfl (fun w1 H1 => op_move rfl ⟨rfl, Fr.refl _ _⟩) (HW.op rfl (fun w1 H1 => op_indexAddr1 Try.underlying28 Fa.I51 rfl (H1.arrR (i := 0) rfl) rfl (by omega) ⟨rfl, Fr.refl _ _⟩) (HW.op rfl (fun w1 H1 => op_load rfl ((H1.arrR (i := 0) rfl).at (get_map vU16 0 (Arr.ltM (H1.arrR (i := 0) rfl) (by omega)))) Try.underlying51 rfl ⟨rfl, Fr.refl _ _⟩) (HW.op rfl (fun w1 H1 => op_move rfl ⟨rfl, Fr.refl _ _⟩) (HW.op rfl (fun w1 H1 => op_move rfl ⟨rfl, Fr.refl _ _⟩) (HW.op rfl (fun w1 H1 => op_subN (b := 1) rfl rfl (by omega) (by omega) ⟨rfl, Fr.refl _ _⟩) (HW.op rfl (fun w1 H1 => op_indexAddr1 Try.underlying28 Fa.I51 rfl (H1.arrR (i := 0) rfl) rfl (by omega) ⟨rfl, Fr.refl _ _⟩) (HW.op rfl (fun w1 H1 => op_load rfl ((H1.arrR (i := 0) rfl).at (get_map vU16 0 (Arr.ltM (H1.arrR (i := 0) rfl) (by omega)))) Try.underlying51 rfl ⟨rfl, Fr.refl _ _⟩) (HW.op rfl (fun w1 H1 => op_callF Fa.C58 rfl ((less_ok (l2.getD j 0) (l2.getD (j - 1) 0) _).mono (fun e w2 hq => ⟨_, hq.1, rfl, hq.2⟩))) (HW.op rfl (fun w1 H1 => op_not rfl ⟨rfl, Fr.refl _ _⟩)  HW.nil))))))))))) (by kernel_rfl) ?_
                  intro β19 w19 H19
                  refine WL.nil ?_
                  refine WQ.next ?_
                  refine WC.cond rfl (fun (hb20 : (!(ltU16 (l2.getD j 0) (l2.getD (j - 1) 0))) = true) => ?_) (fun (hb20 : (!(ltU16 (l2.getD j 0) (l2.getD (j - 1) 0))) = false) => ?_)
                  ·
                    have hn20 := (Bool.not_eq_true' _).mp hb20
                    refine WC.exit ?_
                    refine WQ.thenExit ?_
                    refine WQ.inPass rfl ?_
                    refine WQ.thenExit ?_
                    refine WQ.thenExit ?_
                    refine WQ.inHere ?_
                    have hd := ins_done ltU16OK hj3 (.inr hn20) hj1
                    rw [show i3 - 1 + 1 = i3 by omega] at hd
                    exact WQ.here l2 ⟨⟨hs2, hd, hp2⟩, H19⟩ ⟨rfl, rfl, rfl, rfl, rfl, trivial⟩
                  ·
                    have hn20 := (Bool.not_eq_false' _).mp hb20
                    have hja := pre_gt hp2 hj1 (by omega) (by omega) hn20
                    refine WC.skip ?_
                    refine WQ.next ?_
                    refine WC.held 18 rfl Fa.M H19 (fun w' => ∃ L', Own T w w' ([] ++ L')) ?_
                    intro w21 H21
                    refine WH.take (i := 0) (v := v) rfl rfl (.inl rfl) rfl (by kernel_rfl) ⟨[.row v 51 1 n (List.map vU16 l2)], H21⟩ (fun wX hSX => hSX.elim fun LX HX => op_move rfl ⟨rfl, rfl⟩) ?_
                    refine WH.take (i := 1) (v := (vN j)) rfl rfl (.inl rfl) rfl (by kernel_rfl) ⟨[.row v 51 1 n (List.map vU16 l2)], H21⟩ (fun wX hSX => hSX.elim fun LX HX => op_move rfl ⟨rfl, rfl⟩) ?_
                    refine WH.take (i := 2) (v := v) rfl rfl (.inl rfl) rfl (by kernel_rfl) ⟨[.row v 51 1 n (List.map vU16 l2)], H21⟩ (fun wX hSX => hSX.elim fun LX HX => op_move rfl ⟨rfl, rfl⟩) ?_
                    refine WH.take (i := 3) (v := (vN j)) rfl rfl (.inl rfl) rfl (by kernel_rfl) ⟨[.row v 51 1 n (List.map vU16 l2)], H21⟩ (fun wX hSX => hSX.elim fun LX HX => op_move rfl ⟨rfl, rfl⟩) ?_
                    refine WH.take (i := 4) (v := (vN (j - 1))) rfl rfl (.inl rfl) rfl (by kernel_rfl) ⟨[.row v 51 1 n (List.map vU16 l2)], H21⟩ (fun wX hSX => hSX.elim fun LX HX => op_subN (b := 1) rfl rfl (by omega) (by omega) ⟨rfl, rfl⟩) ?_
                    refine WH.take (i := 5) (v := v) rfl rfl (.inl rfl) rfl (by kernel_rfl) ⟨[.row v 51 1 n (List.map vU16 l2)], H21⟩ (fun wX hSX => hSX.elim fun LX HX => op_move rfl ⟨rfl, rfl⟩) ?_
                    refine WH.take (i := 6) (v := (vN j)) rfl rfl (.inl rfl) rfl (by kernel_rfl) ⟨[.row v 51 1 n (List.map vU16 l2)], H21⟩ (fun wX hSX => hSX.elim fun LX HX => op_move rfl ⟨rfl, rfl⟩) ?_
                    refine WH.take (i := 7) (v := (vN (j - 1))) rfl rfl (.inl rfl) rfl (by kernel_rfl) ⟨[.row v 51 1 n (List.map vU16 l2)], H21⟩ (fun wX hSX => hSX.elim fun LX HX => op_subN (b := 1) rfl rfl (by omega) (by omega) ⟨rfl, rfl⟩) ?_
                    refine WH.take (i := 8) (v := (.pointer (some (sp v (j - 1))))) rfl rfl (.inl rfl) rfl (by kernel_rfl) ⟨[.row v 51 1 n (List.map vU16 l2)], H21⟩ (fun wX hSX => hSX.elim fun LX HX => op_indexAddr1W Try.underlying28 Fa.I51 rfl (H21.arrR (i := 0) rfl) rfl (by omega) ⟨rfl, rfl⟩) ?_
                    refine WH.take (i := 10) (v := v) rfl rfl (.inl rfl) rfl (by kernel_rfl) ⟨[.row v 51 1 n (List.map vU16 l2)], H21⟩ (fun wX hSX => hSX.elim fun LX HX => op_move rfl ⟨rfl, rfl⟩) ?_
                    refine WH.take (i := 11) (v := (vN j)) rfl rfl (.inl rfl) rfl (by kernel_rfl) ⟨[.row v 51 1 n (List.map vU16 l2)], H21⟩ (fun wX hSX => hSX.elim fun LX HX => op_move rfl ⟨rfl, rfl⟩) ?_
                    refine WH.take (i := 12) (v := (.pointer (some (sp v j)))) rfl rfl (.inl rfl) rfl (by kernel_rfl) ⟨[.row v 51 1 n (List.map vU16 l2)], H21⟩ (fun wX hSX => hSX.elim fun LX HX => op_indexAddr1W Try.underlying28 Fa.I51 rfl (H21.arrR (i := 0) rfl) rfl (by omega) ⟨rfl, rfl⟩) ?_
                    refine WH.named (fun W hW => ?_)
                    have st17_5 : ∀ (wS : World), Own T w wS [.row v 51 1 n (List.map vU16 ((l2.set j (l2.getD (j - 1) 0)).set (j - 1) (l2.getD j 0)))] → W 0 #[true, true, true, true, true, true, true, true, true, true, true, true, true, true, true, true, true, true] [(0, v), (1, (vN a)), (2, (vN b)), (7, (vN i3)), (8, (vN c)), (9, (vN j)), (64, (vN j)), (65, (.bool (decide (j ≥ 1)))), (68, v), (69, (vN j)), (70, (.pointer (some (sp v j)))), (71, (vU16 (l2.getD j 0))), (72, v), (73, (vN j)), (74, (vN (j - 1))), (75, (.pointer (some (sp v (j - 1))))), (76, (vU16 (l2.getD (j - 1) 0))), (77, (.bool (ltU16 (l2.getD j 0) (l2.getD (j - 1) 0)))), (78, (.bool (!(ltU16 (l2.getD j 0) (l2.getD (j - 1) 0))))), (79, v), (80, (vN j)), (81, v), (82, (vN j)), (83, (vN (j - 1))), (84, v), (85, (vN j)), (86, (vN (j - 1))), (87, (.pointer (some (sp v (j - 1))))), (88, (vU16 (l2.getD (j - 1) 0))), (89, v), (90, (vN j)), (91, (.pointer (some (sp v j)))), (92, (vU16 (l2.getD j 0))), (93, (.pointer (some (sp v j)))), (94, (.pointer (some (sp v (j - 1)))))] wS := by
                      intro wS HS
                      rw [hW]
                      refine WH.done (by kernel_rfl) ?_
                      refine WQ.inNormal ?_
                      refine WQ.next ?_
                      refine WC.region ?_
                      refine WL.op rfl rfl (op_move rfl ?_)
                      refine WL.op rfl rfl (op_subN (b := 1) rfl rfl (by omega) (by omega) ?_)
                      refine WL.op rfl rfl (op_assign rfl ?_)
                      refine WL.nil ?_
                      exact WQ.round (j - 1, swapL 0 l2 j (j - 1)) ⟨⟨by omega, by omega, hs2.step (by omega) (by omega) (by omega) (by omega), ins_step ltU16OK (by omega) hj3 hja hj2 hn20, pre_sw (by omega) hp2 (Sw.one (by omega) (by omega) (by omega) (by omega))⟩, HS⟩ ⟨rfl, rfl, rfl, rfl, rfl, rfl, trivial⟩ (by show j - 1 < j; omega)
                    have st17_4 : ∀ (wS : World), Own T w wS [.row v 51 1 n (List.map vU16 (l2.set j (l2.getD (j - 1) 0)))] → W 1 #[true, true, true, true, true, true, true, true, true, true, true, true, true, true, true, true, true, false] [(0, v), (1, (vN a)), (2, (vN b)), (7, (vN i3)), (8, (vN c)), (9, (vN j)), (64, (vN j)), (65, (.bool (decide (j ≥ 1)))), (68, v), (69, (vN j)), (70, (.pointer (some (sp v j)))), (71, (vU16 (l2.getD j 0))), (72, v), (73, (vN j)), (74, (vN (j - 1))), (75, (.pointer (some (sp v (j - 1))))), (76, (vU16 (l2.getD (j - 1) 0))), (77, (.bool (ltU16 (l2.getD j 0) (l2.getD (j - 1) 0)))), (78, (.bool (!(ltU16 (l2.getD j 0) (l2.getD (j - 1) 0))))), (79, v), (80, (vN j)), (81, v), (82, (vN j)), (83, (vN (j - 1))), (84, v), (85, (vN j)), (86, (vN (j - 1))), (87, (.pointer (some (sp v (j - 1))))), (88, (vU16 (l2.getD (j - 1) 0))), (89, v), (90, (vN j)), (91, (.pointer (some (sp v j)))), (92, (vU16 (l2.getD j 0))), (93, (.pointer (some (sp v j)))), (94, (.pointer (some (sp v (j - 1)))))] wS := by
                      intro wS HS
                      rw [hW]
                      refine WH.all1 (i := 17) (by kernel_rfl) ?_
                      ·
                        refine WHS.op (i := 17) rfl (.inl rfl) rfl (op_storeRM (i := 0) (f := vU16) (l := (l2.set j (l2.getD (j - 1) 0))) (c := (l2.getD j 0)) HS rfl rfl rfl (by omega) rfl Fa.I51 (fun w32341 H32341 => ?_))
                        refine ⟨⟨[.row v 51 1 n (List.map vU16 ((l2.set j (l2.getD (j - 1) 0)).set (j - 1) (l2.getD j 0)))], H32341⟩, ?_⟩
                        have hq := st17_5 w32341 H32341
                        rw [hW] at hq
                        refine WH.cov ?_ hq
                        exact by repeat (first | exact trivial | refine ⟨rfl, ?_⟩)
                    have st17_3 : ∀ (wS : World), Own T w wS [.row v 51 1 n (List.map vU16 l2)] → W 3 #[true, true, true, true, true, true, true, true, true, true, true, true, true, true, true, false, false, false] [(0, v), (1, (vN a)), (2, (vN b)), (7, (vN i3)), (8, (vN c)), (9, (vN j)), (64, (vN j)), (65, (.bool (decide (j ≥ 1)))), (68, v), (69, (vN j)), (70, (.pointer (some (sp v j)))), (71, (vU16 (l2.getD j 0))), (72, v), (73, (vN j)), (74, (vN (j - 1))), (75, (.pointer (some (sp v (j - 1))))), (76, (vU16 (l2.getD (j - 1) 0))), (77, (.bool (ltU16 (l2.getD j 0) (l2.getD (j - 1) 0)))), (78, (.bool (!(ltU16 (l2.getD j 0) (l2.getD (j - 1) 0))))), (79, v), (80, (vN j)), (81, v), (82, (vN j)), (83, (vN (j - 1))), (84, v), (85, (vN j)), (86, (vN (j - 1))), (87, (.pointer (some (sp v (j - 1))))), (88, (vU16 (l2.getD (j - 1) 0))), (89, v), (90, (vN j)), (91, (.pointer (some (sp v j)))), (92, (vU16 (l2.getD j 0))), (93, (.pointer (some (sp v j))))] wS := by
                      intro wS HS
                      rw [hW]
                      refine WH.all1 (i := 15) (by kernel_rfl) ?_
                      ·
                        refine WHS.op (i := 15) rfl (.inl rfl) rfl (op_storeRM (i := 0) (f := vU16) (l := l2) (c := (l2.getD (j - 1) 0)) HS rfl rfl rfl (by omega) rfl Fa.I51 (fun w32301 H32301 => ?_))
                        refine ⟨⟨[.row v 51 1 n (List.map vU16 (l2.set j (l2.getD (j - 1) 0)))], H32301⟩, ?_⟩
                        refine WH.take (i := 16) (v := (.pointer (some (sp v (j - 1))))) rfl rfl (.inl rfl) rfl (by kernel_rfl) ⟨[.row v 51 1 n (List.map vU16 (l2.set j (l2.getD (j - 1) 0)))], H32301⟩ (fun wX hSX => hSX.elim fun LX HX => op_indexAddr1W Try.underlying28 Fa.I51 rfl (H32301.arrR (i := 0) rfl) rfl (by omega) ⟨rfl, rfl⟩) ?_
                        have hq := st17_4 w32301 H32301
                        rw [hW] at hq
                        refine WH.cov ?_ hq
                        exact by repeat (first | exact trivial | refine ⟨rfl, ?_⟩)
                    have st17_1 : ∀ (wS : World), Own T w wS [.row v 51 1 n (List.map vU16 l2)] → W 5 #[true, true, true, true, true, true, true, true, true, true, true, true, true, false, false, false, false, false] [(0, v), (1, (vN a)), (2, (vN b)), (7, (vN i3)), (8, (vN c)), (9, (vN j)), (64, (vN j)), (65, (.bool (decide (j ≥ 1)))), (68, v), (69, (vN j)), (70, (.pointer (some (sp v j)))), (71, (vU16 (l2.getD j 0))), (72, v), (73, (vN j)), (74, (vN (j - 1))), (75, (.pointer (some (sp v (j - 1))))), (76, (vU16 (l2.getD (j - 1) 0))), (77, (.bool (ltU16 (l2.getD j 0) (l2.getD (j - 1) 0)))), (78, (.bool (!(ltU16 (l2.getD j 0) (l2.getD (j - 1) 0))))), (79, v), (80, (vN j)), (81, v), (82, (vN j)), (83, (vN (j - 1))), (84, v), (85, (vN j)), (86, (vN (j - 1))), (87, (.pointer (some (sp v (j - 1))))), (88, (vU16 (l2.getD (j - 1) 0))), (89, v), (90, (vN j)), (91, (.pointer (some (sp v j))))] wS := by
                      intro wS HS
                      rw [hW]
                      refine WH.all1 (i := 13) (by kernel_rfl) ?_
                      ·
                        refine WHS.op (i := 13) rfl (.inl rfl) rfl (op_load rfl ((HS.arrR (i := 0) rfl).at (get_map vU16 0 (Arr.ltM (HS.arrR (i := 0) rfl) (by omega)))) Try.underlying51 rfl ?_)
                        refine ⟨⟨[.row v 51 1 n (List.map vU16 l2)], HS⟩, ?_⟩
                        refine WH.take (i := 14) (v := (.pointer (some (sp v j)))) rfl rfl (.inl rfl) rfl (by kernel_rfl) ⟨[.row v 51 1 n (List.map vU16 l2)], HS⟩ (fun wX hSX => hSX.elim fun LX HX => op_indexAddr1W Try.underlying28 Fa.I51 rfl (HS.arrR (i := 0) rfl) rfl (by omega) ⟨rfl, rfl⟩) ?_
                        have hq := st17_3 wS HS
                        rw [hW] at hq
                        refine WH.cov ?_ hq
                        exact by repeat (first | exact trivial | refine ⟨rfl, ?_⟩)
                    have st17_2 : ∀ (wS : World), Own T w wS [.row v 51 1 n (List.map vU16 l2)] → W 5 #[true, true, true, true, true, true, true, true, true, false, true, true, true, true, false, false, false, false] [(0, v), (1, (vN a)), (2, (vN b)), (7, (vN i3)), (8, (vN c)), (9, (vN j)), (64, (vN j)), (65, (.bool (decide (j ≥ 1)))), (68, v), (69, (vN j)), (70, (.pointer (some (sp v j)))), (71, (vU16 (l2.getD j 0))), (72, v), (73, (vN j)), (74, (vN (j - 1))), (75, (.pointer (some (sp v (j - 1))))), (76, (vU16 (l2.getD (j - 1) 0))), (77, (.bool (ltU16 (l2.getD j 0) (l2.getD (j - 1) 0)))), (78, (.bool (!(ltU16 (l2.getD j 0) (l2.getD (j - 1) 0))))), (79, v), (80, (vN j)), (81, v), (82, (vN j)), (83, (vN (j - 1))), (84, v), (85, (vN j)), (86, (vN (j - 1))), (87, (.pointer (some (sp v (j - 1))))), (89, v), (90, (vN j)), (91, (.pointer (some (sp v j)))), (92, (vU16 (l2.getD j 0)))] wS := by
                      intro wS HS
                      rw [hW]
                      refine WH.all1 (i := 9) (by kernel_rfl) ?_
                      ·
                        refine WHS.op (i := 9) rfl (.inl rfl) rfl (op_load rfl ((HS.arrR (i := 0) rfl).at (get_map vU16 0 (Arr.ltM (HS.arrR (i := 0) rfl) (by omega)))) Try.underlying51 rfl ?_)
                        refine ⟨⟨[.row v 51 1 n (List.map vU16 l2)], HS⟩, ?_⟩
                        refine WH.take (i := 14) (v := (.pointer (some (sp v j)))) rfl rfl (.inl rfl) rfl (by kernel_rfl) ⟨[.row v 51 1 n (List.map vU16 l2)], HS⟩ (fun wX hSX => hSX.elim fun LX HX => op_indexAddr1W Try.underlying28 Fa.I51 rfl (HS.arrR (i := 0) rfl) rfl (by omega) ⟨rfl, rfl⟩) ?_
                        have hq := st17_3 wS HS
                        rw [hW] at hq
                        refine WH.cov ?_ hq
                        exact by repeat (first | exact trivial | refine ⟨rfl, ?_⟩)
                    have st17_0 : ∀ (wS : World), Own T w wS [.row v 51 1 n (List.map vU16 l2)] → W 6 #[true, true, true, true, true, true, true, true, true, false, true, true, true, false, false, false, false, false] [(0, v), (1, (vN a)), (2, (vN b)), (7, (vN i3)), (8, (vN c)), (9, (vN j)), (64, (vN j)), (65, (.bool (decide (j ≥ 1)))), (68, v), (69, (vN j)), (70, (.pointer (some (sp v j)))), (71, (vU16 (l2.getD j 0))), (72, v), (73, (vN j)), (74, (vN (j - 1))), (75, (.pointer (some (sp v (j - 1))))), (76, (vU16 (l2.getD (j - 1) 0))), (77, (.bool (ltU16 (l2.getD j 0) (l2.getD (j - 1) 0)))), (78, (.bool (!(ltU16 (l2.getD j 0) (l2.getD (j - 1) 0))))), (79, v), (80, (vN j)), (81, v), (82, (vN j)), (83, (vN (j - 1))), (84, v), (85, (vN j)), (86, (vN (j - 1))), (87, (.pointer (some (sp v (j - 1))))), (89, v), (90, (vN j)), (91, (.pointer (some (sp v j))))] wS := by
                      intro wS HS
                      rw [hW]
                      refine WH.all2 (i := 9) (j := 13) (by kernel_rfl) ?_ ?_
                      ·
                        refine WHS.op (i := 9) rfl (.inl rfl) rfl (op_load rfl ((HS.arrR (i := 0) rfl).at (get_map vU16 0 (Arr.ltM (HS.arrR (i := 0) rfl) (by omega)))) Try.underlying51 rfl ?_)
                        refine ⟨⟨[.row v 51 1 n (List.map vU16 l2)], HS⟩, ?_⟩
                        have hq := st17_1 wS HS
                        rw [hW] at hq
                        refine WH.cov ?_ hq
                        exact by repeat (first | exact trivial | refine ⟨rfl, ?_⟩)
                      ·
                        refine WHS.op (i := 13) rfl (.inl rfl) rfl (op_load rfl ((HS.arrR (i := 0) rfl).at (get_map vU16 0 (Arr.ltM (HS.arrR (i := 0) rfl) (by omega)))) Try.underlying51 rfl ?_)
                        refine ⟨⟨[.row v 51 1 n (List.map vU16 l2)], HS⟩, ?_⟩
                        have hq := st17_2 wS HS
                        rw [hW] at hq
                        refine WH.cov ?_ hq
                        exact by repeat (first | exact trivial | refine ⟨rfl, ?_⟩)
                    have hq := st17_0 w21 H21
                    rw [hW] at hq ⊢
                    refine WH.cov ?_ hq
                    exact by repeat (first | exact trivial | refine ⟨rfl, ?_⟩)
                ·
                  have hc17 := of_decide_eq_false hb17
                  refine WC.exit ?_
                  refine WQ.thenExit ?_
                  refine WQ.thenExit ?_
                  refine WQ.inHere ?_
                  have hd := ins_done ltU16OK hj3 (.inl (by omega)) hj1
                  rw [show i3 - 1 + 1 = i3 by omega] at hd
                  exact WQ.here l2 ⟨⟨hs2, hd, hp2⟩, H16⟩ ⟨rfl, rfl, rfl, rfl, rfl, trivial⟩
              ·
                have hc15 := of_decide_eq_false hb15
                refine WC.skip ?_
                exact WQ.here l3 ⟨⟨hs3, SortS.nil (by omega), hp3⟩, H14⟩ ⟨rfl, rfl, rfl, rfl, rfl, trivial⟩
            ·
              rintro l4 w23 ⟨⟨hs4, ho4, hp4⟩, H23⟩
              show WC _ _ _ _ _ [(0, v), (1, (vN a)), (2, (vN b)), (7, (vN i3)), (8, (vN c))] _
              have hL4 := hs4.len
              refine WC.seq ?_
              refine WC.region ?_
              refine WL.op rfl rfl (op_move rfl ?_)
              refine WL.op rfl rfl (op_move rfl ?_)
              refine WL.op rfl rfl (op_subN rfl rfl (by omega) (by omega) ?_)
              refine WL.op rfl rfl (op_geqN (b := 2) rfl rfl ?_)
              refine WL.nil ?_
              refine WQ.next ?_
              refine WC.cond rfl (fun (hb24 : (decide ((b - i3) ≥ 2)) = true) => ?_) (fun (hb24 : (decide ((b - i3) ≥ 2)) = false) => ?_)
              ·
                have hc24 := of_decide_eq_true hb24
                refine WC.seq ?_
                refine WC.region ?_
                refine WL.op rfl rfl (op_move rfl ?_)
                refine WL.op rfl rfl (op_addN (b := 1) rfl rfl (by omega) ?_)
                refine WL.op rfl rfl (op_assign rfl ?_)
                refine WL.nil ?_
                refine WQ.next ?_
                refine WC.block ?_
                refine WC.loop (α := Nat × List UInt16) (fun (k, l7) => [(0, v), (1, (vN a)), (2, (vN b)), (7, (vN i3)), (8, (vN c)), (10, (vN k))]) (fun (k, l7) w' => (i3 + 1 ≤ k ∧ k ≤ b ∧ Sw 0 a b l l7 ∧ SortS ltU16 0 a i3 l7 ∧ PreS ltU16 0 a b l7) ∧ Own T w w' [.row v 51 1 n (List.map vU16 l7)]) (fun (k, l7) => b - k) (i3 + 1, l4) ⟨⟨Nat.le_refl _, by omega, hs4, ho4, hp4⟩, H23⟩ ⟨rfl, rfl, rfl, rfl, rfl, rfl, trivial⟩ ?_
                rintro ⟨k, l7⟩ w25 ⟨⟨hk1, hk2, hs7, ho7, hp7⟩, H25⟩
                show WC _ _ _ _ _ [(0, v), (1, (vN a)), (2, (vN b)), (7, (vN i3)), (8, (vN c)), (10, (vN k))] _
                have hL7 := hs7.len
                refine WC.seq ?_
                refine WC.seq ?_
                refine WC.region ?_
                refine WL.op rfl rfl (op_move rfl ?_)
                refine WL.op rfl rfl (op_move rfl ?_)
                refine WL.op rfl rfl (op_lssN rfl rfl ?_)
                refine WL.nil ?_
                refine WQ.next ?_
                refine WC.cond rfl (fun (hb26 : (decide (k < b)) = true) => ?_) (fun (hb26 : (decide (k < b)) = false) => ?_)
                ·
                  have hc26 := of_decide_eq_true hb26
                  refine WC.skip ?_
                  refine WQ.next ?_
                  refine WC.seq ?_
                  refine WC.block ?_
                  refine WC.seq ?_
                  refine WC.seq ?_
                  refine WC.draw 11 Fa.M H25 (HW.op rfl (fun w1 H1 => op_move rfl ⟨rfl, Fr.refl _ _⟩) (HW.op rfl (fun w1 H1 => op_move rfl ⟨rfl, Fr.refl _ _⟩) (HW.op rfl (fun w1 H1 => op_indexAddr1 Try.underlying28 Fa.I51 rfl (H1.arrR (i := 0) rfl) rfl (by omega) ⟨rfl, Fr.refl _ _⟩) (HW.op rfl (fun w1 H1 => op_load rfl ((H1.arrR (i := 0) rfl).at (get_map vU16 0 (Arr.ltM (H1.arrR (i := 0) rfl) (by omega)))) Try.underlying51 rfl ⟨rfl, Fr.refl _ _⟩) (HW.op rfl (fun w1 H1 => op_move rfl ⟨rfl, Fr.refl _ _⟩) (HW.op rfl (fun w1 H1 => op_move rfl ⟨rfl, Fr.refl _ _⟩) (HW.op rfl (fun w1 H1 => op_subN (b := 1) rfl rfl (by omega) (by omega) ⟨rfl, Fr.refl _ _⟩) (HW.op rfl (fun w1 H1 => op_indexAddr1 Try.underlying28 Fa.I51 rfl (H1.arrR (i := 0) rfl) rfl (by omega) ⟨rfl, Fr.refl _ _⟩) (HW.op rfl (fun w1 H1 => op_load rfl ((H1.arrR (i := 0) rfl).at (get_map vU16 0 (Arr.ltM (H1.arrR (i := 0) rfl) (by omega)))) Try.underlying51 rfl ⟨rfl, Fr.refl _ _⟩) (HW.op rfl (fun w1 H1 => op_callF Fa.C58 rfl ((less_ok (l7.getD k 0) (l7.getD (k - 1) 0) _).mono (fun e w2 hq => ⟨_, hq.1, rfl, hq.2⟩))) (HW.op rfl (fun w1 H1 => op_not rfl ⟨rfl, Fr.refl _ _⟩)  HW.nil))))))))))) (by kernel_rfl) ?_
                  intro β28 w28 H28
                  refine WL.nil ?_
                  refine WQ.next ?_
                  refine WC.cond rfl (fun (hb29 : (!(ltU16 (l7.getD k 0) (l7.getD (k - 1) 0))) = true) => ?_) (fun (hb29 : (!(ltU16 (l7.getD k 0) (l7.getD (k - 1) 0))) = false) => ?_)
                  ·
                    have hn29 := (Bool.not_eq_true' _).mp hb29
                    refine WC.exit ?_
                    refine WQ.thenExit ?_
                    refine WQ.inPass rfl ?_
                    refine WQ.thenExit ?_
                    refine WQ.thenExit ?_
                    refine WQ.inHere ?_
                    refine WQ.inNormal ?_
                    refine WQ.next ?_
                    refine WC.region ?_
                    refine WL.op rfl rfl (op_move rfl ?_)
                    refine WL.op rfl rfl (op_addN (b := 1) rfl rfl (by omega) ?_)
                    refine WL.op rfl rfl (op_assign rfl ?_)
                    refine WL.nil ?_
                    exact WQ.round (i3, c + 1, l7) ⟨⟨by omega, by omega, by omega, hs7, ho7, hp7⟩, H28⟩ ⟨rfl, rfl, rfl, rfl, rfl, trivial⟩ (by show 5 - (c + 1) < 5 - c; omega)
                  ·
                    have hn29 := (Bool.not_eq_false' _).mp hb29
                    refine WC.skip ?_
                    refine WQ.next ?_
                    refine WC.held 18 rfl Fa.M H28 (fun w' => ∃ L', Own T w w' ([] ++ L')) ?_
                    intro w30 H30
                    refine WH.take (i := 0) (v := v) rfl rfl (.inl rfl) rfl (by kernel_rfl) ⟨[.row v 51 1 n (List.map vU16 l7)], H30⟩ (fun wX hSX => hSX.elim fun LX HX => op_move rfl ⟨rfl, rfl⟩) ?_
                    refine WH.take (i := 1) (v := (vN k)) rfl rfl (.inl rfl) rfl (by kernel_rfl) ⟨[.row v 51 1 n (List.map vU16 l7)], H30⟩ (fun wX hSX => hSX.elim fun LX HX => op_move rfl ⟨rfl, rfl⟩) ?_
                    refine WH.take (i := 2) (v := v) rfl rfl (.inl rfl) rfl (by kernel_rfl) ⟨[.row v 51 1 n (List.map vU16 l7)], H30⟩ (fun wX hSX => hSX.elim fun LX HX => op_move rfl ⟨rfl, rfl⟩) ?_
                    refine WH.take (i := 3) (v := (vN k)) rfl rfl (.inl rfl) rfl (by kernel_rfl) ⟨[.row v 51 1 n (List.map vU16 l7)], H30⟩ (fun wX hSX => hSX.elim fun LX HX => op_move rfl ⟨rfl, rfl⟩) ?_
                    refine WH.take (i := 4) (v := (vN (k - 1))) rfl rfl (.inl rfl) rfl (by kernel_rfl) ⟨[.row v 51 1 n (List.map vU16 l7)], H30⟩ (fun wX hSX => hSX.elim fun LX HX => op_subN (b := 1) rfl rfl (by omega) (by omega) ⟨rfl, rfl⟩) ?_
                    refine WH.take (i := 5) (v := v) rfl rfl (.inl rfl) rfl (by kernel_rfl) ⟨[.row v 51 1 n (List.map vU16 l7)], H30⟩ (fun wX hSX => hSX.elim fun LX HX => op_move rfl ⟨rfl, rfl⟩) ?_
                    refine WH.take (i := 6) (v := (vN k)) rfl rfl (.inl rfl) rfl (by kernel_rfl) ⟨[.row v 51 1 n (List.map vU16 l7)], H30⟩ (fun wX hSX => hSX.elim fun LX HX => op_move rfl ⟨rfl, rfl⟩) ?_
                    refine WH.take (i := 7) (v := (vN (k - 1))) rfl rfl (.inl rfl) rfl (by kernel_rfl) ⟨[.row v 51 1 n (List.map vU16 l7)], H30⟩ (fun wX hSX => hSX.elim fun LX HX => op_subN (b := 1) rfl rfl (by omega) (by omega) ⟨rfl, rfl⟩) ?_
                    refine WH.take (i := 8) (v := (.pointer (some (sp v (k - 1))))) rfl rfl (.inl rfl) rfl (by kernel_rfl) ⟨[.row v 51 1 n (List.map vU16 l7)], H30⟩ (fun wX hSX => hSX.elim fun LX HX => op_indexAddr1W Try.underlying28 Fa.I51 rfl (H30.arrR (i := 0) rfl) rfl (by omega) ⟨rfl, rfl⟩) ?_
                    refine WH.take (i := 10) (v := v) rfl rfl (.inl rfl) rfl (by kernel_rfl) ⟨[.row v 51 1 n (List.map vU16 l7)], H30⟩ (fun wX hSX => hSX.elim fun LX HX => op_move rfl ⟨rfl, rfl⟩) ?_
                    refine WH.take (i := 11) (v := (vN k)) rfl rfl (.inl rfl) rfl (by kernel_rfl) ⟨[.row v 51 1 n (List.map vU16 l7)], H30⟩ (fun wX hSX => hSX.elim fun LX HX => op_move rfl ⟨rfl, rfl⟩) ?_
                    refine WH.take (i := 12) (v := (.pointer (some (sp v k)))) rfl rfl (.inl rfl) rfl (by kernel_rfl) ⟨[.row v 51 1 n (List.map vU16 l7)], H30⟩ (fun wX hSX => hSX.elim fun LX HX => op_indexAddr1W Try.underlying28 Fa.I51 rfl (H30.arrR (i := 0) rfl) rfl (by omega) ⟨rfl, rfl⟩) ?_
                    refine WH.named (fun W hW => ?_)
                    have st23_5 : ∀ (wS : World), Own T w wS [.row v 51 1 n (List.map vU16 ((l7.set k (l7.getD (k - 1) 0)).set (k - 1) (l7.getD k 0)))] → W 0 #[true, true, true, true, true, true, true, true, true, true, true, true, true, true, true, true, true, true] [(0, v), (1, (vN a)), (2, (vN b)), (7, (vN i3)), (8, (vN c)), (10, (vN k)), (101, (vN k)), (102, (vN b)), (103, (.bool (decide (k < b)))), (106, v), (107, (vN k)), (108, (.pointer (some (sp v k)))), (109, (vU16 (l7.getD k 0))), (110, v), (111, (vN k)), (112, (vN (k - 1))), (113, (.pointer (some (sp v (k - 1))))), (114, (vU16 (l7.getD (k - 1) 0))), (115, (.bool (ltU16 (l7.getD k 0) (l7.getD (k - 1) 0)))), (116, (.bool (!(ltU16 (l7.getD k 0) (l7.getD (k - 1) 0))))), (117, v), (118, (vN k)), (119, v), (120, (vN k)), (121, (vN (k - 1))), (122, v), (123, (vN k)), (124, (vN (k - 1))), (125, (.pointer (some (sp v (k - 1))))), (126, (vU16 (l7.getD (k - 1) 0))), (127, v), (128, (vN k)), (129, (.pointer (some (sp v k)))), (130, (vU16 (l7.getD k 0))), (131, (.pointer (some (sp v k)))), (132, (.pointer (some (sp v (k - 1)))))] wS := by
                      intro wS HS
                      rw [hW]
                      refine WH.done (by kernel_rfl) ?_
                      refine WQ.inNormal ?_
                      refine WQ.next ?_
                      refine WC.region ?_
                      refine WL.op rfl rfl (op_move rfl ?_)
                      refine WL.op rfl rfl (op_addN (b := 1) rfl rfl (by omega) ?_)
                      refine WL.op rfl rfl (op_assign rfl ?_)
                      refine WL.nil ?_
                      exact WQ.round (k + 1, swapL 0 l7 k (k - 1)) ⟨⟨by omega, by omega, hs7.step (by omega) (by omega) (by omega) (by omega), sort_keep (b := b) (by omega) ho7 (Sw.one (by omega) (by omega) (by omega) (by omega)), pre_sw (by omega) hp7 (Sw.one (by omega) (by omega) (by omega) (by omega))⟩, HS⟩ ⟨rfl, rfl, rfl, rfl, rfl, rfl, trivial⟩ (by show b - (k + 1) < b - k; omega)
                    have st23_4 : ∀ (wS : World), Own T w wS [.row v 51 1 n (List.map vU16 (l7.set k (l7.getD (k - 1) 0)))] → W 1 #[true, true, true, true, true, true, true, true, true, true, true, true, true, true, true, true, true, false] [(0, v), (1, (vN a)), (2, (vN b)), (7, (vN i3)), (8, (vN c)), (10, (vN k)), (101, (vN k)), (102, (vN b)), (103, (.bool (decide (k < b)))), (106, v), (107, (vN k)), (108, (.pointer (some (sp v k)))), (109, (vU16 (l7.getD k 0))), (110, v), (111, (vN k)), (112, (vN (k - 1))), (113, (.pointer (some (sp v (k - 1))))), (114, (vU16 (l7.getD (k - 1) 0))), (115, (.bool (ltU16 (l7.getD k 0) (l7.getD (k - 1) 0)))), (116, (.bool (!(ltU16 (l7.getD k 0) (l7.getD (k - 1) 0))))), (117, v), (118, (vN k)), (119, v), (120, (vN k)), (121, (vN (k - 1))), (122, v), (123, (vN k)), (124, (vN (k - 1))), (125, (.pointer (some (sp v (k - 1))))), (126, (vU16 (l7.getD (k - 1) 0))), (127, v), (128, (vN k)), (129, (.pointer (some (sp v k)))), (130, (vU16 (l7.getD k 0))), (131, (.pointer (some (sp v k)))), (132, (.pointer (some (sp v (k - 1)))))] wS := by
                      intro wS HS
                      rw [hW]
                      refine WH.all1 (i := 17) (by kernel_rfl) ?_
                      ·
                        refine WHS.op (i := 17) rfl (.inl rfl) rfl (op_storeRM (i := 0) (f := vU16) (l := (l7.set k (l7.getD (k - 1) 0))) (c := (l7.getD k 0)) HS rfl rfl rfl (by omega) rfl Fa.I51 (fun w41341 H41341 => ?_))
                        refine ⟨⟨[.row v 51 1 n (List.map vU16 ((l7.set k (l7.getD (k - 1) 0)).set (k - 1) (l7.getD k 0)))], H41341⟩, ?_⟩
                        have hq := st23_5 w41341 H41341
                        rw [hW] at hq
                        refine WH.cov ?_ hq
                        exact by repeat (first | exact trivial | refine ⟨rfl, ?_⟩)
                    have st23_3 : ∀ (wS : World), Own T w wS [.row v 51 1 n (List.map vU16 l7)] → W 3 #[true, true, true, true, true, true, true, true, true, true, true, true, true, true, true, false, false, false] [(0, v), (1, (vN a)), (2, (vN b)), (7, (vN i3)), (8, (vN c)), (10, (vN k)), (101, (vN k)), (102, (vN b)), (103, (.bool (decide (k < b)))), (106, v), (107, (vN k)), (108, (.pointer (some (sp v k)))), (109, (vU16 (l7.getD k 0))), (110, v), (111, (vN k)), (112, (vN (k - 1))), (113, (.pointer (some (sp v (k - 1))))), (114, (vU16 (l7.getD (k - 1) 0))), (115, (.bool (ltU16 (l7.getD k 0) (l7.getD (k - 1) 0)))), (116, (.bool (!(ltU16 (l7.getD k 0) (l7.getD (k - 1) 0))))), (117, v), (118, (vN k)), (119, v), (120, (vN k)), (121, (vN (k - 1))), (122, v), (123, (vN k)), (124, (vN (k - 1))), (125, (.pointer (some (sp v (k - 1))))), (126, (vU16 (l7.getD (k - 1) 0))), (127, v), (128, (vN k)), (129, (.pointer (some (sp v k)))), (130, (vU16 (l7.getD k 0))), (131, (.pointer (some (sp v k))))] wS := by
                      intro wS HS
                      rw [hW]
                      refine WH.all1 (i := 15) (by kernel_rfl) ?_
                      ·
                        refine WHS.op (i := 15) rfl (.inl rfl) rfl (op_storeRM (i := 0) (f := vU16) (l := l7) (c := (l7.getD (k - 1) 0)) HS rfl rfl rfl (by omega) rfl Fa.I51 (fun w41301 H41301 => ?_))
                        refine ⟨⟨[.row v 51 1 n (List.map vU16 (l7.set k (l7.getD (k - 1) 0)))], H41301⟩, ?_⟩
                        refine WH.take (i := 16) (v := (.pointer (some (sp v (k - 1))))) rfl rfl (.inl rfl) rfl (by kernel_rfl) ⟨[.row v 51 1 n (List.map vU16 (l7.set k (l7.getD (k - 1) 0)))], H41301⟩ (fun wX hSX => hSX.elim fun LX HX => op_indexAddr1W Try.underlying28 Fa.I51 rfl (H41301.arrR (i := 0) rfl) rfl (by omega) ⟨rfl, rfl⟩) ?_
                        have hq := st23_4 w41301 H41301
                        rw [hW] at hq
                        refine WH.cov ?_ hq
                        exact by repeat (first | exact trivial | refine ⟨rfl, ?_⟩)
                    have st23_1 : ∀ (wS : World), Own T w wS [.row v 51 1 n (List.map vU16 l7)] → W 5 #[true, true, true, true, true, true, true, true, true, true, true, true, true, false, false, false, false, false] [(0, v), (1, (vN a)), (2, (vN b)), (7, (vN i3)), (8, (vN c)), (10, (vN k)), (101, (vN k)), (102, (vN b)), (103, (.bool (decide (k < b)))), (106, v), (107, (vN k)), (108, (.pointer (some (sp v k)))), (109, (vU16 (l7.getD k 0))), (110, v), (111, (vN k)), (112, (vN (k - 1))), (113, (.pointer (some (sp v (k - 1))))), (114, (vU16 (l7.getD (k - 1) 0))), (115, (.bool (ltU16 (l7.getD k 0) (l7.getD (k - 1) 0)))), (116, (.bool (!(ltU16 (l7.getD k 0) (l7.getD (k - 1) 0))))), (117, v), (118, (vN k)), (119, v), (120, (vN k)), (121, (vN (k - 1))), (122, v), (123, (vN k)), (124, (vN (k - 1))), (125, (.pointer (some (sp v (k - 1))))), (126, (vU16 (l7.getD (k - 1) 0))), (127, v), (128, (vN k)), (129, (.pointer (some (sp v k))))] wS := by
                      intro wS HS
                      rw [hW]
                      refine WH.all1 (i := 13) (by kernel_rfl) ?_
                      ·
                        refine WHS.op (i := 13) rfl (.inl rfl) rfl (op_load rfl ((HS.arrR (i := 0) rfl).at (get_map vU16 0 (Arr.ltM (HS.arrR (i := 0) rfl) (by omega)))) Try.underlying51 rfl ?_)
                        refine ⟨⟨[.row v 51 1 n (List.map vU16 l7)], HS⟩, ?_⟩
                        refine WH.take (i := 14) (v := (.pointer (some (sp v k)))) rfl rfl (.inl rfl) rfl (by kernel_rfl) ⟨[.row v 51 1 n (List.map vU16 l7)], HS⟩ (fun wX hSX => hSX.elim fun LX HX => op_indexAddr1W Try.underlying28 Fa.I51 rfl (HS.arrR (i := 0) rfl) rfl (by omega) ⟨rfl, rfl⟩) ?_
                        have hq := st23_3 wS HS
                        rw [hW] at hq
                        refine WH.cov ?_ hq
                        exact by repeat (first | exact trivial | refine ⟨rfl, ?_⟩)
                    have st23_2 : ∀ (wS : World), Own T w wS [.row v 51 1 n (List.map vU16 l7)] → W 5 #[true, true, true, true, true, true, true, true, true, false, true, true, true, true, false, false, false, false] [(0, v), (1, (vN a)), (2, (vN b)), (7, (vN i3)), (8, (vN c)), (10, (vN k)), (101, (vN k)), (102, (vN b)), (103, (.bool (decide (k < b)))), (106, v), (107, (vN k)), (108, (.pointer (some (sp v k)))), (109, (vU16 (l7.getD k 0))), (110, v), (111, (vN k)), (112, (vN (k - 1))), (113, (.pointer (some (sp v (k - 1))))), (114, (vU16 (l7.getD (k - 1) 0))), (115, (.bool (ltU16 (l7.getD k 0) (l7.getD (k - 1) 0)))), (116, (.bool (!(ltU16 (l7.getD k 0) (l7.getD (k - 1) 0))))), (117, v), (118, (vN k)), (119, v), (120, (vN k)), (121, (vN (k - 1))), (122, v), (123, (vN k)), (124, (vN (k - 1))), (125, (.pointer (some (sp v (k - 1))))), (127, v), (128, (vN k)), (129, (.pointer (some (sp v k)))), (130, (vU16 (l7.getD k 0)))] wS := by
                      intro wS HS
                      rw [hW]
                      refine WH.all1 (i := 9) (by kernel_rfl) ?_
                      ·
                        refine WHS.op (i := 9) rfl (.inl rfl) rfl (op_load rfl ((HS.arrR (i := 0) rfl).at (get_map vU16 0 (Arr.ltM (HS.arrR (i := 0) rfl) (by omega)))) Try.underlying51 rfl ?_)
                        refine ⟨⟨[.row v 51 1 n (List.map vU16 l7)], HS⟩, ?_⟩
                        refine WH.take (i := 14) (v := (.pointer (some (sp v k)))) rfl rfl (.inl rfl) rfl (by kernel_rfl) ⟨[.row v 51 1 n (List.map vU16 l7)], HS⟩ (fun wX hSX => hSX.elim fun LX HX => op_indexAddr1W Try.underlying28 Fa.I51 rfl (HS.arrR (i := 0) rfl) rfl (by omega) ⟨rfl, rfl⟩) ?_
                        have hq := st23_3 wS HS
                        rw [hW] at hq
                        refine WH.cov ?_ hq
                        exact by repeat (first | exact trivial | refine ⟨rfl, ?_⟩)
                    have st23_0 : ∀ (wS : World), Own T w wS [.row v 51 1 n (List.map vU16 l7)] → W 6 #[true, true, true, true, true, true, true, true, true, false, true, true, true, false, false, false, false, false] [(0, v), (1, (vN a)), (2, (vN b)), (7, (vN i3)), (8, (vN c)), (10, (vN k)), (101, (vN k)), (102, (vN b)), (103, (.bool (decide (k < b)))), (106, v), (107, (vN k)), (108, (.pointer (some (sp v k)))), (109, (vU16 (l7.getD k 0))), (110, v), (111, (vN k)), (112, (vN (k - 1))), (113, (.pointer (some (sp v (k - 1))))), (114, (vU16 (l7.getD (k - 1) 0))), (115, (.bool (ltU16 (l7.getD k 0) (l7.getD (k - 1) 0)))), (116, (.bool (!(ltU16 (l7.getD k 0) (l7.getD (k - 1) 0))))), (117, v), (118, (vN k)), (119, v), (120, (vN k)), (121, (vN (k - 1))), (122, v), (123, (vN k)), (124, (vN (k - 1))), (125, (.pointer (some (sp v (k - 1))))), (127, v), (128, (vN k)), (129, (.pointer (some (sp v k))))] wS := by
                      intro wS HS
                      rw [hW]
                      refine WH.all2 (i := 9) (j := 13) (by kernel_rfl) ?_ ?_
                      ·
                        refine WHS.op (i := 9) rfl (.inl rfl) rfl (op_load rfl ((HS.arrR (i := 0) rfl).at (get_map vU16 0 (Arr.ltM (HS.arrR (i := 0) rfl) (by omega)))) Try.underlying51 rfl ?_)
                        refine ⟨⟨[.row v 51 1 n (List.map vU16 l7)], HS⟩, ?_⟩
                        have hq := st23_1 wS HS
                        rw [hW] at hq
                        refine WH.cov ?_ hq
                        exact by repeat (first | exact trivial | refine ⟨rfl, ?_⟩)
                      ·
                        refine WHS.op (i := 13) rfl (.inl rfl) rfl (op_load rfl ((HS.arrR (i := 0) rfl).at (get_map vU16 0 (Arr.ltM (HS.arrR (i := 0) rfl) (by omega)))) Try.underlying51 rfl ?_)
                        refine ⟨⟨[.row v 51 1 n (List.map vU16 l7)], HS⟩, ?_⟩
                        have hq := st23_2 wS HS
                        rw [hW] at hq
                        refine WH.cov ?_ hq
                        exact by repeat (first | exact trivial | refine ⟨rfl, ?_⟩)
                    have hq := st23_0 w30 H30
                    rw [hW] at hq ⊢
                    refine WH.cov ?_ hq
                    exact by repeat (first | exact trivial | refine ⟨rfl, ?_⟩)
                ·
                  have hc26 := of_decide_eq_false hb26
                  refine WC.exit ?_
                  refine WQ.thenExit ?_
                  refine WQ.thenExit ?_
                  refine WQ.inHere ?_
                  refine WQ.inNormal ?_
                  refine WQ.next ?_
                  refine WC.region ?_
                  refine WL.op rfl rfl (op_move rfl ?_)
                  refine WL.op rfl rfl (op_addN (b := 1) rfl rfl (by omega) ?_)
                  refine WL.op rfl rfl (op_assign rfl ?_)
                  refine WL.nil ?_
                  exact WQ.round (i3, c + 1, l7) ⟨⟨by omega, by omega, by omega, hs7, ho7, hp7⟩, H25⟩ ⟨rfl, rfl, rfl, rfl, rfl, trivial⟩ (by show 5 - (c + 1) < 5 - c; omega)
              ·
                have hc24 := of_decide_eq_false hb24
                refine WC.skip ?_
                refine WQ.inNormal ?_
                refine WQ.next ?_
                refine WC.region ?_
                refine WL.op rfl rfl (op_move rfl ?_)
                refine WL.op rfl rfl (op_addN (b := 1) rfl rfl (by omega) ?_)
                refine WL.op rfl rfl (op_assign rfl ?_)
                refine WL.nil ?_
                exact WQ.round (i3, c + 1, l4) ⟨⟨by omega, by omega, by omega, hs4, ho4, hp4⟩, H23⟩ ⟨rfl, rfl, rfl, rfl, rfl, trivial⟩ (by show 5 - (c + 1) < 5 - c; omega)
  ·
    have hc2 := of_decide_eq_false hb2
    refine WC.exit ?_
    refine WQ.thenExit ?_
    refine WQ.thenExit ?_
    refine WQ.inHere ?_
    refine WQ.next ?_
    refine WC.seq ?_
    refine WC.region ?_
    refine WL.op rfl rfl (op_assign rfl ?_)
    refine WL.nil ?_
    refine WQ.next ?_
    refine WC.ret ?_
    refine WQ.out (.tmp rfl .nil) ?_
    exact ⟨_, _, rfl, ⟨hs1, fun h => by cases h⟩, H1⟩
set_option maxHeartbeats 4000000 in
set_option maxRecDepth 100000 in
theorem pdq_step (v : Value) (n : Nat) (l : List UInt16) (a b : Nat) (m : Nat) (T : List Nat) (w : World) (H : Own T w w [.row v 51 1 n (List.map vU16 l)]) (hn : l.length = n) (hN : n < 2 ^ 61) (hab : a ≤ b) (hb : b ≤ n) (hm : m < 2 ^ 62) (hpre : PreS ltU16 0 a b l) (IH : ∀ (l2 : List UInt16) (a2 b2 m2 : Nat) (T2 : List Nat) (w2 : World), Own T2 w2 w2 [.row v 51 1 n (List.map vU16 l2)] → l2.length = n → b2 - a2 < b - a → a2 ≤ b2 → b2 ≤ n → m2 < 2 ^ 62 → PreS ltU16 0 a2 b2 l2 → Calls Try.prog 50 #[v, vN a2, vN b2, vN m2] w2 (fun e w3 => ∃ l3 : List UInt16, e = .returned undef ∧ (Sw 0 a2 b2 l2 l3 ∧ SortS ltU16 0 a2 b2 l3) ∧ Own T2 w2 w3 [.row v 51 1 n (List.map vU16 l3)])) :
    Calls Try.prog 50 #[v, (vN a), (vN b), (vN m)] w (fun e w' => ∃ (l' : List UInt16), e = .returned undef ∧ (Sw 0 a b l l' ∧ SortS ltU16 0 a b l') ∧ Own T w w' [.row v 51 1 n (List.map vU16 l')]) := by
  refine enter (args := [v, (vN a), (vN b), (vN m)]) Try.func50 rfl rfl ?_
  refine WC.seq ?_
  refine WC.region ?_
  refine WL.op rfl rfl (op_assign rfl ?_)
  refine WL.nil ?_
  refine WQ.next ?_
  refine WC.seq ?_
  refine WC.region ?_
  refine WL.op rfl rfl (op_assign rfl ?_)
  refine WL.nil ?_
  refine WQ.next ?_
  refine WC.block ?_
  refine WC.loop (α := Nat × Nat × Nat × Bool × Bool × List UInt16) (fun (a1, b1, m1, p1, q1, l1) => [(0, v), (1, (vN a1)), (2, (vN b1)), (3, (vN m1)), (8, (.bool p1)), (9, (.bool q1))]) (fun (a1, b1, m1, p1, q1, l1) w' => (a ≤ a1 ∧ a1 ≤ b1 ∧ b1 ≤ b ∧ m1 < 2 ^ 62 ∧ Sw 0 a b l l1 ∧ OutS ltU16 0 a b a1 b1 l1 ∧ PreS ltU16 0 a1 b1 l1) ∧ Own T w w' [.row v 51 1 n (List.map vU16 l1)]) (fun (a1, b1, m1, p1, q1, l1) => b1 - a1) (a, b, m, true, true, l) ⟨⟨Nat.le_refl _, hab, Nat.le_refl _, hm, .refl _, out_init, hpre⟩, H⟩ ⟨rfl, rfl, rfl, rfl, rfl, rfl, trivial⟩ ?_
  rintro ⟨a1, b1, m1, p1, q1, l1⟩ w1 ⟨⟨ha1, hab1, hb1, hm0, hs1, ho1, hpr1⟩, H1⟩
  show WC _ _ _ _ _ [(0, v), (1, (vN a1)), (2, (vN b1)), (3, (vN m1)), (8, (.bool p1)), (9, (.bool q1))] _
  have hL1 := hs1.len
  refine WC.block ?_
  refine WC.seq ?_
  refine WC.region ?_
  refine WL.op rfl rfl (op_move rfl ?_)
  refine WL.op rfl rfl (op_move rfl ?_)
  refine WL.op rfl rfl (op_subN rfl rfl (by omega) (by omega) ?_)
  refine WL.op rfl rfl (op_assign rfl ?_)
  refine WL.nil ?_
  refine WQ.next ?_
  refine WC.seq ?_
  refine WC.seq ?_
  refine WC.region ?_
  refine WL.op rfl rfl (op_move rfl ?_)
  refine WL.op rfl rfl (op_leqN (b := 12) rfl rfl ?_)
  refine WL.nil ?_
  refine WQ.next ?_
  refine WC.cond rfl (fun (hb2 : (decide ((b1 - a1) ≤ 12)) = true) => ?_) (fun (hb2 : (decide ((b1 - a1) ≤ 12)) = false) => ?_)
  ·
    have hc2 := of_decide_eq_true hb2
    refine WC.seq ?_
    refine WC.region ?_
    refine WL.op rfl rfl (op_move rfl ?_)
    refine WL.op rfl rfl (op_move rfl ?_)
    refine WL.op rfl rfl (op_move rfl ?_)
    refine WL.op rfl rfl (op_callF Fa.C52 rfl ((ins_ok v n l1 a1 b1 _ _ (H1.part [0] rfl rfl) (by omega) (by omega) (by omega) (by omega)).mono (fun e w3 hq => ?_)))
    obtain ⟨l3, rfl, hc3, hq3⟩ := hq
    refine ⟨_, rfl, ?_⟩
    have H3 : Own T w w3 [.row v 51 1 n (List.map vU16 l3)] := H1.splice [0] [.row v 51 1 n (List.map vU16 l3)] [] rfl rfl hq3 (Fits.solid True.intro Fits.nil)
    refine WL.nil ?_
    refine WQ.next ?_
    refine WC.ret ?_
    refine WQ.thenRet ?_
    refine WQ.inRet ?_
    refine WQ.thenRet ?_
    refine WQ.inRet ?_
    refine WQ.out .nil ?_
    exact ⟨_, rfl, ⟨hs1.trans (hc3.1.mono (by omega) (by omega)), out_done (out_sw (by omega) (by omega) (by omega) ho1 hc3.1) hc3.2⟩, H3⟩
  ·
    have hc2 := of_decide_eq_false hb2
    refine WC.skip ?_
    refine WQ.next ?_
    refine WC.seq ?_
    refine WC.seq ?_
    refine WC.region ?_
    refine WL.op rfl rfl (op_move rfl ?_)
    refine WL.op rfl rfl (op_eqlN (b := 0) rfl rfl ?_)
    refine WL.nil ?_
    refine WQ.next ?_
    refine WC.cond rfl (fun (hb4 : (decide (m1 = 0)) = true) => ?_) (fun (hb4 : (decide (m1 = 0)) = false) => ?_)
    ·
      have hc4 := of_decide_eq_true hb4
      refine WC.seq ?_
      refine WC.region ?_
      refine WL.op rfl rfl (op_move rfl ?_)
      refine WL.op rfl rfl (op_move rfl ?_)
      refine WL.op rfl rfl (op_move rfl ?_)
      refine WL.op rfl rfl (op_callF Fa.C53 rfl ((heap_ok v n l1 a1 b1 _ _ (H1.part [0] rfl rfl) (by omega) (by omega) (by omega) (by omega)).mono (fun e w5 hq => ?_)))
      obtain ⟨l5, rfl, hc5, hq5⟩ := hq
      refine ⟨_, rfl, ?_⟩
      have H5 : Own T w w5 [.row v 51 1 n (List.map vU16 l5)] := H1.splice [0] [.row v 51 1 n (List.map vU16 l5)] [] rfl rfl hq5 (Fits.solid True.intro Fits.nil)
      refine WL.nil ?_
      refine WQ.next ?_
      refine WC.ret ?_
      refine WQ.thenRet ?_
      refine WQ.inRet ?_
      refine WQ.thenRet ?_
      refine WQ.inRet ?_
      refine WQ.out .nil ?_
      exact ⟨_, rfl, ⟨hs1.trans (hc5.1.mono (by omega) (by omega)), out_done (out_sw (by omega) (by omega) (by omega) ho1 hc5.1) hc5.2⟩, H5⟩
    ·
      have hc4 := of_decide_eq_false hb4
      refine WC.skip ?_
      refine WQ.next ?_
      refine WC.cut (α := Nat × List UInt16) (fun (m2, l2) => [(0, v), (1, (vN a1)), (2, (vN b1)), (3, (vN m2)), (8, (.bool p1)), (9, (.bool q1)), (10, (vN (b1 - a1)))]) (fun (m2, l2) w' => (m2 < 2 ^ 62 ∧ Sw 0 a1 b1 l1 l2) ∧ Own T w w' [.row v 51 1 n (List.map vU16 l2)]) ?_ ?_
      ·
        refine WC.seq ?_
        refine WC.region ?_
        refine WL.op rfl rfl (op_move rfl ?_)
        refine WL.op rfl rfl (op_not rfl ?_)
        refine WL.nil ?_
        refine WQ.next ?_
        refine WC.cond rfl (fun (hb6 : (!p1) = true) => ?_) (fun (hb6 : (!p1) = false) => ?_)
        ·
          have hn6 := (Bool.not_eq_true' _).mp hb6
          refine WC.seq ?_
          refine WC.region ?_
          refine WL.op rfl rfl (op_move rfl ?_)
          refine WL.op rfl rfl (op_move rfl ?_)
          refine WL.op rfl rfl (op_move rfl ?_)
          refine WL.op rfl rfl (op_callF Fa.C54 rfl ((brk_ok v n l1 a1 b1 _ _ (H1.part [0] rfl rfl) (by omega) (by omega) (by omega) (by omega)).mono (fun e w7 hq => ?_)))
          obtain ⟨l7, rfl, hc7, hq7⟩ := hq
          refine ⟨_, rfl, ?_⟩
          have H7 : Own T w w7 [.row v 51 1 n (List.map vU16 l7)] := H1.splice [0] [.row v 51 1 n (List.map vU16 l7)] [] rfl rfl hq7 (Fits.solid True.intro Fits.nil)
          refine WL.nil ?_
          refine WQ.next ?_
          refine WC.region ?_
          refine WL.op rfl rfl (op_move rfl ?_)
          refine WL.op rfl rfl (op_subN (b := 1) rfl rfl (by omega) (by omega) ?_)
          refine WL.op rfl rfl (op_assign rfl ?_)
          refine WL.nil ?_
          exact WQ.here ((m1 - 1), l7) ⟨⟨by omega, hc7⟩, H7⟩ ⟨rfl, rfl, rfl, rfl, rfl, rfl, rfl, trivial⟩
        ·
          have hn6 := (Bool.not_eq_false' _).mp hb6
          refine WC.skip ?_
          exact WQ.here (m1, l1) ⟨⟨by omega, .refl _⟩, H1⟩ ⟨rfl, rfl, rfl, rfl, rfl, rfl, rfl, trivial⟩
      ·
        rintro ⟨m2, l2⟩ w8 ⟨⟨hm9, hs2⟩, H8⟩
        show WC _ _ _ _ _ [(0, v), (1, (vN a1)), (2, (vN b1)), (3, (vN m2)), (8, (.bool p1)), (9, (.bool q1)), (10, (vN (b1 - a1)))] _
        have hL2 := hs2.len
        refine WC.seq ?_
        refine WC.region ?_
        refine WL.op rfl rfl (op_move rfl ?_)
        refine WL.op rfl rfl (op_move rfl ?_)
        refine WL.op rfl rfl (op_move rfl ?_)
        refine WL.op rfl rfl (op_callF Fa.C55 rfl ((piv_ok v n l2 a1 b1 _ _ (H8.part [0] rfl rfl) (by omega) (by omega) (by omega) (by omega)).mono (fun e w9 hq => ?_)))
        obtain ⟨p9, h9, rfl, hc9, hq9⟩ := hq
        refine ⟨_, rfl, ?_⟩
        have H9 : Own T w w9 [.row v 51 1 n (List.map vU16 l2)] := H8.splice [0] [.row v 51 1 n (List.map vU16 l2)] [] rfl rfl hq9 (Fits.solid True.intro Fits.nil)
        refine WL.op rfl rfl (op_move rfl ?_)
        refine WL.op rfl rfl (op_extract rfl rfl ?_)
        refine WL.op rfl rfl (op_extract rfl rfl ?_)
        refine WL.op rfl rfl (op_assign rfl ?_)
        refine WL.op rfl rfl (op_assign rfl ?_)
        refine WL.nil ?_
        refine WQ.next ?_
        refine WC.cut (α := Nat × Nat × List UInt16) (fun (pv, h, l3) => [(0, v), (1, (vN a1)), (2, (vN b1)), (3, (vN m2)), (8, (.bool p1)), (9, (.bool q1)), (10, (vN (b1 - a1))), (11, (vN pv)), (12, (vN h))]) (fun (pv, h, l3) w' => (a1 ≤ pv ∧ pv < b1 ∧ Sw 0 a1 b1 l1 l3) ∧ Own T w w' [.row v 51 1 n (List.map vU16 l3)]) ?_ ?_
        ·
          refine WC.seq ?_
          refine WC.region ?_
          refine WL.op rfl rfl (op_move rfl ?_)
          refine WL.op rfl rfl (op_eqlN (b := 2) rfl rfl ?_)
          refine WL.nil ?_
          refine WQ.next ?_
          refine WC.cond rfl (fun (hb10 : (decide (h9 = 2)) = true) => ?_) (fun (hb10 : (decide (h9 = 2)) = false) => ?_)
          ·
            have hc10 := of_decide_eq_true hb10
            refine WC.seq ?_
            refine WC.region ?_
            refine WL.op rfl rfl (op_move rfl ?_)
            refine WL.op rfl rfl (op_move rfl ?_)
            refine WL.op rfl rfl (op_move rfl ?_)
            refine WL.op rfl rfl (op_callF Fa.C56 rfl ((rev_ok v n l2 a1 b1 _ _ (H9.part [0] rfl rfl) (by omega) (by omega) (by omega) (by omega)).mono (fun e w11 hq => ?_)))
            obtain ⟨l11, rfl, hc11, hq11⟩ := hq
            refine ⟨_, rfl, ?_⟩
            have H11 : Own T w w11 [.row v 51 1 n (List.map vU16 l11)] := H9.splice [0] [.row v 51 1 n (List.map vU16 l11)] [] rfl rfl hq11 (Fits.solid True.intro Fits.nil)
            refine WL.nil ?_
            refine WQ.next ?_
            refine WC.seq ?_
            refine WC.region ?_
            refine WL.op rfl rfl (op_move rfl ?_)
            refine WL.op rfl rfl (op_subN (b := 1) rfl rfl (by omega) (by omega) ?_)
            refine WL.op rfl rfl (op_move rfl ?_)
            refine WL.op rfl rfl (op_move rfl ?_)
            refine WL.op rfl rfl (op_subN rfl rfl (by omega) (by omega) ?_)
            refine WL.op rfl rfl (op_subN rfl rfl (by omega) (by omega) ?_)
            refine WL.op rfl rfl (op_assign rfl ?_)
            refine WL.nil ?_
            refine WQ.next ?_
            refine WC.region ?_
            refine WL.op rfl rfl (op_assign rfl ?_)
            refine WL.nil ?_
            exact WQ.here (((b1 - 1) - (p9 - a1)), 1, l11) ⟨⟨by omega, by omega, hs2.trans hc11⟩, H11⟩ ⟨rfl, rfl, rfl, rfl, rfl, rfl, rfl, rfl, rfl, trivial⟩
          ·
            have hc10 := of_decide_eq_false hb10
            refine WC.skip ?_
            exact WQ.here (p9, h9, l2) ⟨⟨by omega, by omega, hs2⟩, H9⟩ ⟨rfl, rfl, rfl, rfl, rfl, rfl, rfl, rfl, rfl, trivial⟩
        ·
          rintro ⟨pv, h, l3⟩ w12 ⟨⟨hv1, hv2, hs3⟩, H12⟩
          show WC _ _ _ _ _ [(0, v), (1, (vN a1)), (2, (vN b1)), (3, (vN m2)), (8, (.bool p1)), (9, (.bool q1)), (10, (vN (b1 - a1))), (11, (vN pv)), (12, (vN h))] _
          have hL3 := hs3.len
          refine WC.cut (α := List UInt16) (fun l4 => [(0, v), (1, (vN a1)), (2, (vN b1)), (3, (vN m2)), (8, (.bool p1)), (9, (.bool q1)), (10, (vN (b1 - a1))), (11, (vN pv))]) (fun l4 w' => (Sw 0 a1 b1 l1 l4) ∧ Own T w w' [.row v 51 1 n (List.map vU16 l4)]) ?_ ?_
          ·
            refine WC.seq ?_
            refine WC.region ?_
            refine WL.op rfl rfl (op_move rfl ?_)
            refine WL.op rfl rfl (op_move rfl ?_)
            refine WL.split (t := 62) rfl (fun (hb13 : p1 = true) => ?_) (fun (hb13 : p1 = false) => ?_)
            ·
              refine WL.yes rfl rfl rfl hb13 rfl (op_move rfl ?_)
              refine WL.op rfl rfl (op_pickT rfl hb13 rfl ?_)
              refine WL.op rfl rfl (op_move rfl ?_)
              refine WL.split (t := 65) rfl (fun (hb14 : q1 = true) => ?_) (fun (hb14 : q1 = false) => ?_)
              ·
                refine WL.yes rfl rfl rfl hb14 rfl (op_move rfl ?_)
                refine WL.yes rfl rfl rfl hb14 rfl (op_eqlN (b := 1) rfl rfl ?_)
                refine WL.op rfl rfl (op_pickT rfl hb14 rfl ?_)
                refine WL.nil ?_
                refine WQ.next ?_
                refine WC.cond rfl (fun (hb15 : (decide (h = 1)) = true) => ?_) (fun (hb15 : (decide (h = 1)) = false) => ?_)
                ·
                  have hc15 := of_decide_eq_true hb15
                  refine WC.seq ?_
                  refine WC.region ?_
                  refine WL.op rfl rfl (op_move rfl ?_)
                  refine WL.op rfl rfl (op_move rfl ?_)
                  refine WL.op rfl rfl (op_move rfl ?_)
                  refine WL.op rfl rfl (op_callF Fa.C57 rfl ((pins_ok v n l3 a1 b1 _ _ (H12.part [0] rfl rfl) (by omega) (by omega) (by omega) (by omega) (pre_sw (by omega) hpr1 hs3)).mono (fun e w16 hq => ?_)))
                  obtain ⟨l16, r16, rfl, hc16, hq16⟩ := hq
                  refine ⟨_, rfl, ?_⟩
                  have H16 : Own T w w16 [.row v 51 1 n (List.map vU16 l16)] := H12.splice [0] [.row v 51 1 n (List.map vU16 l16)] [] rfl rfl hq16 (Fits.solid True.intro Fits.nil)
                  refine WL.nil ?_
                  refine WQ.next ?_
                  refine WC.cond rfl (fun (hb17 : r16 = true) => ?_) (fun (hb17 : r16 = false) => ?_)
                  ·
                    refine WC.ret ?_
                    refine WQ.thenRet ?_
                    refine WQ.inRet ?_
                    refine WQ.thenRet ?_
                    refine WQ.inRet ?_
                    refine WQ.out .nil ?_
                    exact ⟨_, rfl, ⟨hs1.trans ((hs3.trans hc16.1).mono (by omega) (by omega)), out_done (out_sw (by omega) (by omega) (by omega) ho1 (hs3.trans hc16.1)) (hc16.2 hb17)⟩, H16⟩
                  ·
                    refine WC.skip ?_
                    exact WQ.here l16 ⟨(hs3.trans hc16.1), H16⟩ ⟨rfl, rfl, rfl, rfl, rfl, rfl, rfl, rfl, trivial⟩
                ·
                  have hc15 := of_decide_eq_false hb15
                  refine WC.skip ?_
                  exact WQ.here l3 ⟨hs3, H12⟩ ⟨rfl, rfl, rfl, rfl, rfl, rfl, rfl, rfl, trivial⟩
              ·
                refine WL.no rfl rfl rfl hb14 rfl ?_
                refine WL.no rfl rfl rfl hb14 rfl ?_
                refine WL.op rfl rfl (op_pickF rfl hb14 rfl ?_)
                refine WL.nil ?_
                refine WQ.next ?_
                refine WC.no rfl rfl ?_
                refine WC.skip ?_
                exact WQ.here l3 ⟨hs3, H12⟩ ⟨rfl, rfl, rfl, rfl, rfl, rfl, rfl, rfl, trivial⟩
            ·
              refine WL.no rfl rfl rfl hb13 rfl ?_
              refine WL.op rfl rfl (op_pickF rfl hb13 rfl ?_)
              refine WL.op rfl rfl (op_move rfl ?_)
              refine WL.no rfl rfl rfl rfl rfl ?_
              refine WL.no rfl rfl rfl rfl rfl ?_
              refine WL.op rfl rfl (op_pickF rfl rfl rfl ?_)
              refine WL.nil ?_
              refine WQ.next ?_
              refine WC.no rfl rfl ?_
              refine WC.skip ?_
              exact WQ.here l3 ⟨hs3, H12⟩ ⟨rfl, rfl, rfl, rfl, rfl, rfl, rfl, rfl, trivial⟩
          ·
            rintro l4 w18 ⟨hs4, H18⟩
            show WC _ _ _ _ _ [(0, v), (1, (vN a1)), (2, (vN b1)), (3, (vN m2)), (8, (.bool p1)), (9, (.bool q1)), (10, (vN (b1 - a1))), (11, (vN pv))] _
            have hL4 := hs4.len
            have hO4 := out_sw (by omega) (by omega) (by omega) ho1 hs4
            have hP4 := pre_sw (by omega) hpr1 hs4
            refine WC.seq ?_
            refine WC.seq ?_
            refine bsplit (fun (hb19 : (decide (a1 > 0)) = true) => ?_) (fun (hb19 : (decide (a1 > 0)) = false) => ?_)
            ·
              have hc19 := of_decide_eq_true hb19
              refine WC.draw 15 Fa.M H18 (HW.op rfl (fun w1 H1 => op_move rfl ⟨rfl, Fr.refl _ _⟩) (HW.op rfl (fun w1 H1 => op_gtrN (b := 0) rfl rfl ⟨rfl, Fr.refl _ _⟩) (HW.op rfl (fun w1 H1 => op_move rfl ⟨rfl, Fr.refl _ _⟩) (HW.yes rfl rfl rfl hb19 (fun w1 H1 => op_move rfl ⟨rfl, Fr.refl _ _⟩) (HW.yes rfl rfl rfl hb19 (fun w1 H1 => op_move rfl ⟨rfl, Fr.refl _ _⟩) (HW.yes rfl rfl rfl hb19 (fun w1 H1 => op_subN (b := 1) rfl rfl (by omega) (by omega) ⟨rfl, Fr.refl _ _⟩) (HW.yes rfl rfl rfl hb19 (fun w1 H1 => op_indexAddr1 Try.underlying28 Fa.I51 rfl (H1.arrR (i := 0) rfl) rfl (by omega) ⟨rfl, Fr.refl _ _⟩) (HW.yes rfl rfl rfl hb19 (fun w1 H1 => op_load rfl ((H1.arrR (i := 0) rfl).at (get_map vU16 0 (Arr.ltM (H1.arrR (i := 0) rfl) (by omega)))) Try.underlying51 rfl ⟨rfl, Fr.refl _ _⟩) (HW.yes rfl rfl rfl hb19 (fun w1 H1 => op_move rfl ⟨rfl, Fr.refl _ _⟩) (HW.yes rfl rfl rfl hb19 (fun w1 H1 => op_move rfl ⟨rfl, Fr.refl _ _⟩) (HW.yes rfl rfl rfl hb19 (fun w1 H1 => op_indexAddr1 Try.underlying28 Fa.I51 rfl (H1.arrR (i := 0) rfl) rfl (by omega) ⟨rfl, Fr.refl _ _⟩) (HW.yes rfl rfl rfl hb19 (fun w1 H1 => op_load rfl ((H1.arrR (i := 0) rfl).at (get_map vU16 0 (Arr.ltM (H1.arrR (i := 0) rfl) (by omega)))) Try.underlying51 rfl ⟨rfl, Fr.refl _ _⟩) (HW.yes rfl rfl rfl hb19 (fun w1 H1 => op_callF Fa.C58 rfl ((less_ok (l4.getD (a1 - 1) 0) (l4.getD pv 0) _).mono (fun e w2 hq => ⟨_, hq.1, rfl, hq.2⟩))) (HW.yes rfl rfl rfl hb19 (fun w1 H1 => op_not rfl ⟨rfl, Fr.refl _ _⟩) (HW.op rfl (fun w1 H1 => op_pickT rfl hb19 rfl ⟨rfl, Fr.refl _ _⟩)  HW.nil))))))))))))))) (by kernel_rfl) ?_
              intro β21 w21 H21
              refine WL.nil ?_
              refine WQ.next ?_
              refine WC.cond rfl (fun (hb22 : (!(ltU16 (l4.getD (a1 - 1) 0) (l4.getD pv 0))) = true) => ?_) (fun (hb22 : (!(ltU16 (l4.getD (a1 - 1) 0) (l4.getD pv 0))) = false) => ?_)
              ·
                have hn22 := (Bool.not_eq_true' _).mp hb22
                refine WC.seq ?_
                refine WC.region ?_
                refine WL.op rfl rfl (op_move rfl ?_)
                refine WL.op rfl rfl (op_move rfl ?_)
                refine WL.op rfl rfl (op_move rfl ?_)
                refine WL.op rfl rfl (op_move rfl ?_)
                refine WL.op rfl rfl (op_callF Fa.C59 rfl ((parteq_ok v n l4 a1 b1 pv _ _ (H21.part [0] rfl rfl) (by omega) (by omega) (by omega) (by omega) (by omega)).mono (fun e w23 hq => ?_)))
                obtain ⟨l23, m23, rfl, hc23, hq23⟩ := hq
                refine ⟨_, rfl, ?_⟩
                have H23 : Own T w w23 [.row v 51 1 n (List.map vU16 l23)] := H21.splice [0] [.row v 51 1 n (List.map vU16 l23)] [] rfl rfl hq23 (Fits.solid True.intro Fits.nil)
                refine WL.op rfl rfl (op_assign rfl ?_)
                refine WL.nil ?_
                refine WQ.next ?_
                refine WC.seq ?_
                refine WC.region ?_
                refine WL.op rfl rfl (op_move rfl ?_)
                refine WL.op rfl rfl (op_assign rfl ?_)
                refine WL.nil ?_
                refine WQ.next ?_
                refine WC.exit ?_
                refine WQ.thenExit ?_
                refine WQ.inHere ?_
                have hm1 := hc23.2.1
                have hm2 := hc23.2.2.1
                have hE := eq_left ltU16OK (by omega) (by omega) hO4 (by omega) hP4 (by omega) hn22 hc23.1 hc23.2
                exact WQ.round (m23, b1, m2, p1, q1, l23) ⟨⟨by omega, by omega, by omega, by omega, hs1.trans ((hs4.trans hc23.1).mono (by omega) (by omega)), hE.1, hE.2⟩, H23⟩ ⟨rfl, rfl, rfl, rfl, rfl, rfl, trivial⟩ (by show b1 - m23 < b1 - a1; omega)
              ·
                have hn22 := (Bool.not_eq_false' _).mp hb22
                refine WC.skip ?_
                refine WQ.next ?_
                refine WC.seq ?_
                refine WC.region ?_
                refine WL.op rfl rfl (op_move rfl ?_)
                refine WL.op rfl rfl (op_move rfl ?_)
                refine WL.op rfl rfl (op_move rfl ?_)
                refine WL.op rfl rfl (op_move rfl ?_)
                refine WL.op rfl rfl (op_callF Fa.C60 rfl ((part_ok v n l4 a1 b1 pv _ _ (H21.part [0] rfl rfl) (by omega) (by omega) (by omega) (by omega) (by omega)).mono (fun e w24 hq => ?_)))
                obtain ⟨l24, m24, f24, rfl, hc24, hq24⟩ := hq
                refine ⟨_, rfl, ?_⟩
                have H24 : Own T w w24 [.row v 51 1 n (List.map vU16 l24)] := H21.splice [0] [.row v 51 1 n (List.map vU16 l24)] [] rfl rfl hq24 (Fits.solid True.intro Fits.nil)
                refine WL.op rfl rfl (op_move rfl ?_)
                refine WL.op rfl rfl (op_extract rfl rfl ?_)
                refine WL.op rfl rfl (op_extract rfl rfl ?_)
                refine WL.op rfl rfl (op_assign rfl ?_)
                refine WL.op rfl rfl (op_assign rfl ?_)
                refine WL.nil ?_
                refine WQ.next ?_
                refine WC.seq ?_
                refine WC.region ?_
                have hLP := hc24.1.len
                have hm1 := hc24.2.1
                have hm2 := hc24.2.2.1
                have hO5 := out_sw (by omega) (by omega) (by omega) hO4 hc24.1
                have hP5 := pre_sw (by omega) hP4 hc24.1
                refine WL.op rfl rfl (op_move rfl ?_)
                refine WL.op rfl rfl (op_assign rfl ?_)
                refine WL.nil ?_
                refine WQ.next ?_
                refine WC.seq ?_
                refine WC.region ?_
                refine WL.op rfl rfl (op_move rfl ?_)
                refine WL.op rfl rfl (op_move rfl ?_)
                refine WL.op rfl rfl (op_subN rfl rfl (by omega) (by omega) ?_)
                refine WL.op rfl rfl (op_move rfl ?_)
                refine WL.op rfl rfl (op_move rfl ?_)
                refine WL.op rfl rfl (op_subN rfl rfl (by omega) (by omega) ?_)
                refine WL.op rfl rfl (op_assign rfl ?_)
                refine WL.op rfl rfl (op_assign rfl ?_)
                refine WL.nil ?_
                refine WQ.next ?_
                refine WC.seq ?_
                refine WC.region ?_
                refine WL.op rfl rfl (op_move rfl ?_)
                refine WL.op rfl rfl (op_quoN (b := 8) rfl rfl (by omega) (by omega) ?_)
                refine WL.op rfl rfl (op_assign rfl ?_)
                refine WL.nil ?_
                refine WQ.next ?_
                refine WC.seq ?_
                refine WC.region ?_
                refine WL.op rfl rfl (op_move rfl ?_)
                refine WL.op rfl rfl (op_move rfl ?_)
                refine WL.op rfl rfl (op_lssN rfl rfl ?_)
                refine WL.nil ?_
                refine WQ.next ?_
                refine WC.cond rfl (fun (hb25 : (decide ((m24 - a1) < (b1 - m24))) = true) => ?_) (fun (hb25 : (decide ((m24 - a1) < (b1 - m24))) = false) => ?_)
                ·
                  have hc25 := of_decide_eq_true hb25
                  refine WC.seq ?_
                  refine WC.region ?_
                  refine WL.op rfl rfl (op_move rfl ?_)
                  refine WL.op rfl rfl (op_move rfl ?_)
                  refine WL.op rfl rfl (op_geqN rfl rfl ?_)
                  refine WL.op rfl rfl (op_assign rfl ?_)
                  refine WL.nil ?_
                  refine WQ.next ?_
                  refine WC.seq ?_
                  refine WC.region ?_
                  refine WL.op rfl rfl (op_move rfl ?_)
                  refine WL.op rfl rfl (op_move rfl ?_)
                  refine WL.op rfl rfl (op_move rfl ?_)
                  refine WL.op rfl rfl (op_move rfl ?_)
                  refine WL.op rfl rfl (op_callF Fa.C50 rfl ((IH l24 a1 m24 m2 _ _ (H24.part [0] rfl rfl) (by omega) (by omega) (by omega) (by omega) (by omega) (pre_left hP5 (by omega))).mono (fun e w26 hq => ?_)))
                  obtain ⟨l26, rfl, hc26, hq26⟩ := hq
                  refine ⟨_, rfl, ?_⟩
                  have H26 : Own T w w26 [.row v 51 1 n (List.map vU16 l26)] := H24.splice [0] [.row v 51 1 n (List.map vU16 l26)] [] rfl rfl hq26 (Fits.solid True.intro Fits.nil)
                  refine WL.nil ?_
                  refine WQ.next ?_
                  refine WC.region ?_
                  refine WL.op rfl rfl (op_move rfl ?_)
                  refine WL.op rfl rfl (op_addN (b := 1) rfl rfl (by omega) ?_)
                  refine WL.op rfl rfl (op_assign rfl ?_)
                  refine WL.nil ?_
                  refine WQ.inNormal ?_
                  have hE := part_left ltU16OK (by omega) (by omega) hO5 (by omega) hc24.2 hc26.1 hc26.2
                  exact WQ.round ((m24 + 1), b1, m2, (decide ((m24 - a1) ≥ ((b1 - a1) / 8))), f24, l26) ⟨⟨by omega, by omega, by omega, by omega, hs1.trans (((hs4.trans hc24.1).trans (hc26.1.mono (by omega) (by omega))).mono (by omega) (by omega)), hE.1, hE.2⟩, H26⟩ ⟨rfl, rfl, rfl, rfl, rfl, rfl, trivial⟩ (by show b1 - (m24 + 1) < b1 - a1; omega)
                ·
                  have hc25 := of_decide_eq_false hb25
                  refine WC.seq ?_
                  refine WC.region ?_
                  refine WL.op rfl rfl (op_move rfl ?_)
                  refine WL.op rfl rfl (op_move rfl ?_)
                  refine WL.op rfl rfl (op_geqN rfl rfl ?_)
                  refine WL.op rfl rfl (op_assign rfl ?_)
                  refine WL.nil ?_
                  refine WQ.next ?_
                  refine WC.seq ?_
                  refine WC.region ?_
                  refine WL.op rfl rfl (op_move rfl ?_)
                  refine WL.op rfl rfl (op_move rfl ?_)
                  refine WL.op rfl rfl (op_addN (b := 1) rfl rfl (by omega) ?_)
                  refine WL.op rfl rfl (op_move rfl ?_)
                  refine WL.op rfl rfl (op_move rfl ?_)
                  refine WL.op rfl rfl (op_callF Fa.C50 rfl ((IH l24 (m24 + 1) b1 m2 _ _ (H24.part [0] rfl rfl) (by omega) (by omega) (by omega) (by omega) (by omega) (pre_right hc24.2)).mono (fun e w27 hq => ?_)))
                  obtain ⟨l27, rfl, hc27, hq27⟩ := hq
                  refine ⟨_, rfl, ?_⟩
                  have H27 : Own T w w27 [.row v 51 1 n (List.map vU16 l27)] := H24.splice [0] [.row v 51 1 n (List.map vU16 l27)] [] rfl rfl hq27 (Fits.solid True.intro Fits.nil)
                  refine WL.nil ?_
                  refine WQ.next ?_
                  refine WC.region ?_
                  refine WL.op rfl rfl (op_move rfl ?_)
                  refine WL.op rfl rfl (op_assign rfl ?_)
                  refine WL.nil ?_
                  refine WQ.inNormal ?_
                  have hE := part_right ltU16OK (by omega) (by omega) hO5 (by omega) hc24.2 hc27.1 hc27.2
                  exact WQ.round (a1, m24, m2, (decide ((b1 - m24) ≥ ((b1 - a1) / 8))), f24, l27) ⟨⟨by omega, by omega, by omega, by omega, hs1.trans (((hs4.trans hc24.1).trans (hc27.1.mono (by omega) (by omega))).mono (by omega) (by omega)), hE, pre_right_sw (by omega) hP5 (by omega) (by omega) hc27.1⟩, H27⟩ ⟨rfl, rfl, rfl, rfl, rfl, rfl, trivial⟩ (by show m24 - a1 < b1 - a1; omega)
            ·
              have hc19 := of_decide_eq_false hb19
              refine WC.draw 15 Fa.M H18 (HW.op rfl (fun w1 H1 => op_move rfl ⟨rfl, Fr.refl _ _⟩) (HW.op rfl (fun w1 H1 => op_gtrN (b := 0) rfl rfl ⟨rfl, Fr.refl _ _⟩) (HW.op rfl (fun w1 H1 => op_move rfl ⟨rfl, Fr.refl _ _⟩) (HW.no rfl rfl rfl hb19 (HW.no rfl rfl rfl hb19 (HW.no rfl rfl rfl hb19 (HW.no rfl rfl rfl hb19 (HW.no rfl rfl rfl hb19 (HW.no rfl rfl rfl hb19 (HW.no rfl rfl rfl hb19 (HW.no rfl rfl rfl hb19 (HW.no rfl rfl rfl hb19 (HW.no rfl rfl rfl hb19 (HW.no rfl rfl rfl hb19 (HW.op rfl (fun w1 H1 => op_pickF rfl hb19 rfl ⟨rfl, Fr.refl _ _⟩)  HW.nil))))))))))))))) (by kernel_rfl) ?_
              intro β28 w28 H28
              refine WL.nil ?_
              refine WQ.next ?_
              refine WC.no rfl rfl ?_
              refine WC.skip ?_
              refine WQ.next ?_
              refine WC.seq ?_
              refine WC.region ?_
              refine WL.op rfl rfl (op_move rfl ?_)
              refine WL.op rfl rfl (op_move rfl ?_)
              refine WL.op rfl rfl (op_move rfl ?_)
              refine WL.op rfl rfl (op_move rfl ?_)
              refine WL.op rfl rfl (op_callF Fa.C60 rfl ((part_ok v n l4 a1 b1 pv _ _ (H28.part [0] rfl rfl) (by omega) (by omega) (by omega) (by omega) (by omega)).mono (fun e w29 hq => ?_)))
              obtain ⟨l29, m29, f29, rfl, hc29, hq29⟩ := hq
              refine ⟨_, rfl, ?_⟩
              have H29 : Own T w w29 [.row v 51 1 n (List.map vU16 l29)] := H28.splice [0] [.row v 51 1 n (List.map vU16 l29)] [] rfl rfl hq29 (Fits.solid True.intro Fits.nil)
              refine WL.op rfl rfl (op_move rfl ?_)
              refine WL.op rfl rfl (op_extract rfl rfl ?_)
              refine WL.op rfl rfl (op_extract rfl rfl ?_)
              refine WL.op rfl rfl (op_assign rfl ?_)
              refine WL.op rfl rfl (op_assign rfl ?_)
              refine WL.nil ?_
              refine WQ.next ?_
              refine WC.seq ?_
              refine WC.region ?_
              have hLP := hc29.1.len
              have hm1 := hc29.2.1
              have hm2 := hc29.2.2.1
              have hO5 := out_sw (by omega) (by omega) (by omega) hO4 hc29.1
              have hP5 := pre_sw (by omega) hP4 hc29.1
              refine WL.op rfl rfl (op_move rfl ?_)
              refine WL.op rfl rfl (op_assign rfl ?_)
              refine WL.nil ?_
              refine WQ.next ?_
              refine WC.seq ?_
              refine WC.region ?_
              refine WL.op rfl rfl (op_move rfl ?_)
              refine WL.op rfl rfl (op_move rfl ?_)
              refine WL.op rfl rfl (op_subN rfl rfl (by omega) (by omega) ?_)
              refine WL.op rfl rfl (op_move rfl ?_)
              refine WL.op rfl rfl (op_move rfl ?_)
              refine WL.op rfl rfl (op_subN rfl rfl (by omega) (by omega) ?_)
              refine WL.op rfl rfl (op_assign rfl ?_)
              refine WL.op rfl rfl (op_assign rfl ?_)
              refine WL.nil ?_
              refine WQ.next ?_
              refine WC.seq ?_
              refine WC.region ?_
              refine WL.op rfl rfl (op_move rfl ?_)
              refine WL.op rfl rfl (op_quoN (b := 8) rfl rfl (by omega) (by omega) ?_)
              refine WL.op rfl rfl (op_assign rfl ?_)
              refine WL.nil ?_
              refine WQ.next ?_
              refine WC.seq ?_
              refine WC.region ?_
              refine WL.op rfl rfl (op_move rfl ?_)
              refine WL.op rfl rfl (op_move rfl ?_)
              refine WL.op rfl rfl (op_lssN rfl rfl ?_)
              refine WL.nil ?_
              refine WQ.next ?_
              refine WC.cond rfl (fun (hb30 : (decide ((m29 - a1) < (b1 - m29))) = true) => ?_) (fun (hb30 : (decide ((m29 - a1) < (b1 - m29))) = false) => ?_)
              ·
                have hc30 := of_decide_eq_true hb30
                refine WC.seq ?_
                refine WC.region ?_
                refine WL.op rfl rfl (op_move rfl ?_)
                refine WL.op rfl rfl (op_move rfl ?_)
                refine WL.op rfl rfl (op_geqN rfl rfl ?_)
                refine WL.op rfl rfl (op_assign rfl ?_)
                refine WL.nil ?_
                refine WQ.next ?_
                refine WC.seq ?_
                refine WC.region ?_
                refine WL.op rfl rfl (op_move rfl ?_)
                refine WL.op rfl rfl (op_move rfl ?_)
                refine WL.op rfl rfl (op_move rfl ?_)
                refine WL.op rfl rfl (op_move rfl ?_)
                refine WL.op rfl rfl (op_callF Fa.C50 rfl ((IH l29 a1 m29 m2 _ _ (H29.part [0] rfl rfl) (by omega) (by omega) (by omega) (by omega) (by omega) (pre_left hP5 (by omega))).mono (fun e w31 hq => ?_)))
                obtain ⟨l31, rfl, hc31, hq31⟩ := hq
                refine ⟨_, rfl, ?_⟩
                have H31 : Own T w w31 [.row v 51 1 n (List.map vU16 l31)] := H29.splice [0] [.row v 51 1 n (List.map vU16 l31)] [] rfl rfl hq31 (Fits.solid True.intro Fits.nil)
                refine WL.nil ?_
                refine WQ.next ?_
                refine WC.region ?_
                refine WL.op rfl rfl (op_move rfl ?_)
                refine WL.op rfl rfl (op_addN (b := 1) rfl rfl (by omega) ?_)
                refine WL.op rfl rfl (op_assign rfl ?_)
                refine WL.nil ?_
                refine WQ.inNormal ?_
                have hE := part_left ltU16OK (by omega) (by omega) hO5 (by omega) hc29.2 hc31.1 hc31.2
                exact WQ.round ((m29 + 1), b1, m2, (decide ((m29 - a1) ≥ ((b1 - a1) / 8))), f29, l31) ⟨⟨by omega, by omega, by omega, by omega, hs1.trans (((hs4.trans hc29.1).trans (hc31.1.mono (by omega) (by omega))).mono (by omega) (by omega)), hE.1, hE.2⟩, H31⟩ ⟨rfl, rfl, rfl, rfl, rfl, rfl, trivial⟩ (by show b1 - (m29 + 1) < b1 - a1; omega)
              ·
                have hc30 := of_decide_eq_false hb30
                refine WC.seq ?_
                refine WC.region ?_
                refine WL.op rfl rfl (op_move rfl ?_)
                refine WL.op rfl rfl (op_move rfl ?_)
                refine WL.op rfl rfl (op_geqN rfl rfl ?_)
                refine WL.op rfl rfl (op_assign rfl ?_)
                refine WL.nil ?_
                refine WQ.next ?_
                refine WC.seq ?_
                refine WC.region ?_
                refine WL.op rfl rfl (op_move rfl ?_)
                refine WL.op rfl rfl (op_move rfl ?_)
                refine WL.op rfl rfl (op_addN (b := 1) rfl rfl (by omega) ?_)
                refine WL.op rfl rfl (op_move rfl ?_)
                refine WL.op rfl rfl (op_move rfl ?_)
                refine WL.op rfl rfl (op_callF Fa.C50 rfl ((IH l29 (m29 + 1) b1 m2 _ _ (H29.part [0] rfl rfl) (by omega) (by omega) (by omega) (by omega) (by omega) (pre_right hc29.2)).mono (fun e w32 hq => ?_)))
                obtain ⟨l32, rfl, hc32, hq32⟩ := hq
                refine ⟨_, rfl, ?_⟩
                have H32 : Own T w w32 [.row v 51 1 n (List.map vU16 l32)] := H29.splice [0] [.row v 51 1 n (List.map vU16 l32)] [] rfl rfl hq32 (Fits.solid True.intro Fits.nil)
                refine WL.nil ?_
                refine WQ.next ?_
                refine WC.region ?_
                refine WL.op rfl rfl (op_move rfl ?_)
                refine WL.op rfl rfl (op_assign rfl ?_)
                refine WL.nil ?_
                refine WQ.inNormal ?_
                have hE := part_right ltU16OK (by omega) (by omega) hO5 (by omega) hc29.2 hc32.1 hc32.2
                exact WQ.round (a1, m29, m2, (decide ((b1 - m29) ≥ ((b1 - a1) / 8))), f29, l32) ⟨⟨by omega, by omega, by omega, by omega, hs1.trans (((hs4.trans hc29.1).trans (hc32.1.mono (by omega) (by omega))).mono (by omega) (by omega)), hE, pre_right_sw (by omega) hP5 (by omega) (by omega) hc32.1⟩, H32⟩ ⟨rfl, rfl, rfl, rfl, rfl, rfl, trivial⟩ (by show m29 - a1 < b1 - a1; omega)
theorem pdq_ok (v : Value) (n : Nat) (l : List UInt16) (a b : Nat) (m : Nat) (T : List Nat) (w : World) (H : Own T w w [.row v 51 1 n (List.map vU16 l)]) (hn : l.length = n) (hN : n < 2 ^ 61) (hab : a ≤ b) (hb : b ≤ n) (hm : m < 2 ^ 62) (hpre : PreS ltU16 0 a b l) :
    Calls Try.prog 50 #[v, vN a, vN b, vN m] w (fun e w' => ∃ (l' : List UInt16), e = .returned undef ∧ (Sw 0 a b l l' ∧ SortS ltU16 0 a b l') ∧ Own T w w' [.row v 51 1 n (List.map vU16 l')]) := by
  have key : ∀ (N : Nat) (l : List UInt16) (a b m : Nat) (T : List Nat) (w : World), Own T w w [.row v 51 1 n (List.map vU16 l)] → l.length = n → b - a < N → a ≤ b → b ≤ n → m < 2 ^ 62 → PreS ltU16 0 a b l → Calls Try.prog 50 #[v, vN a, vN b, vN m] w (fun e w' => ∃ (l' : List UInt16), e = .returned undef ∧ (Sw 0 a b l l' ∧ SortS ltU16 0 a b l') ∧ Own T w w' [.row v 51 1 n (List.map vU16 l')]) := by
    intro N
    induction N with
    | zero => intro l a b m T w H hn hlt; omega
    | succ N ih => intro l a b m T w H hn hlt hab hb hm hpre; exact pdq_step v n l a b m T w H hn hN hab hb hm hpre (fun l2 a2 b2 m2 T2 w2 H2 h1 h2 h3 h4 h5 h6 => ih l2 a2 b2 m2 T2 w2 H2 h1 (by omega) h3 h4 h5 h6)
  exact key (b - a + 1) l a b m T w H hn (by omega) hab hb hm hpre
set_option maxRecDepth 100000 in
theorem sort_ok (v : Value) (n : Nat) (l : List UInt16) (T : List Nat) (w : World) (H : Own T w w [.row v 51 1 n (List.map vU16 l)]) (hn : l.length = n) (hN : n < 2 ^ 61) :
    Calls Try.prog 42 #[v] w (fun e w' => ∃ (l' : List UInt16), e = .returned undef ∧ (Sw 0 0 n l l' ∧ SortS ltU16 0 0 n l') ∧ Own T w w' [.row v 51 1 n (List.map vU16 l')]) := by
  refine enter (args := [v]) Try.func42 rfl rfl ?_
  refine WC.seq ?_
  refine WC.region ?_
  refine WL.op rfl rfl (op_move rfl ?_)
  refine WL.op rfl rfl (op_lenA Try.underlying28 rfl (H.arrR (i := 0) rfl) ?_)
  refine WL.op rfl rfl (op_assign rfl ?_)
  refine WL.nil ?_
  refine WQ.next ?_
  refine WC.region ?_
  refine WL.op rfl rfl (op_move rfl ?_)
  refine WL.op rfl rfl (op_move rfl ?_)
  refine WL.op rfl rfl (op_move rfl ?_)
  refine WL.op rfl rfl (op_convNU64 (hs := Try.underlying3) (hd := Try.underlying81) rfl ?_)
  refine WL.op rfl rfl (op_callF Fa.C51 rfl ((blen_ok (UInt64.ofNat n) _).mono (fun e w1 hq => ?_)))
  obtain ⟨rfl, hf1⟩ := hq
  refine ⟨_, rfl, ?_⟩
  have H1 := H.fr' hf1
  refine WL.op rfl rfl (op_callF Fa.C50 rfl ((pdq_ok v n l 0 n (lenN (UInt64.ofNat n).toNat) _ _ (H1.part [0] rfl rfl) (by omega) (by omega) (by omega) (by omega) (Nat.lt_of_le_of_lt (lenN_le (k := 64) (UInt64.toNat_lt _)) (by decide)) (.inl rfl)).mono (fun e w2 hq => ?_)))
  obtain ⟨l2, rfl, hc2, hq2⟩ := hq
  refine ⟨_, rfl, ?_⟩
  have H2 : Own T w w2 [.row v 51 1 n (List.map vU16 l2)] := H1.splice [0] [.row v 51 1 n (List.map vU16 l2)] [] rfl rfl hq2 (Fits.solid True.intro Fits.nil)
  refine WL.nil ?_
  refine WQ.outEnd .nil ?_
  exact ⟨_, rfl, hc2, H2⟩
end Go.Proofs.Ytnngbnenekjffaa
/-! from EDem3 -/
namespace Go.Proofs.Ytnngbnenekjffaa
open Go.Owl Go.Spec
set_option maxRecDepth 100000 in
theorem comp_ok (v : Value) (n : Nat) (l : List UInt16) (T : List Nat) (w : World) (H : Own T w w [.row v 51 1 n (List.map vU16 l)]) (hn : l.length = n) (hN : n < 2 ^ 61) :
    Calls Try.prog 43 #[v] w (fun e w' => ∃ v', e = .returned v' ∧ Own T w w' [.row v' 51 1 (cpt 0 l n).length (List.map vU16 (cpt 0 l n))]) := by
  refine enter (args := [v]) Try.func43 rfl rfl ?_
  refine WC.seq ?_
  refine WC.region ?_
  refine WL.op rfl rfl (op_assign rfl ?_)
  refine WL.nil ?_
  refine WQ.next ?_
  refine WC.seq ?_
  refine WC.seq ?_
  refine WC.region ?_
  refine WL.op rfl rfl (op_move rfl ?_)
  refine WL.op rfl rfl (op_lenA Try.underlying28 rfl (H.arrR (i := 0) rfl) ?_)
  refine WL.op rfl rfl (op_lssN (b := 2) rfl rfl ?_)
  refine WL.nil ?_
  refine WQ.next ?_
  refine WC.cond rfl (fun (hb1 : (decide (n < 2)) = true) => ?_) (fun (hb1 : (decide (n < 2)) = false) => ?_)
  ·
    have hc1 := of_decide_eq_true hb1
    refine WC.seq ?_
    refine WC.region ?_
    refine WL.op rfl rfl (op_move rfl ?_)
    refine WL.op rfl rfl (op_assign rfl ?_)
    refine WL.nil ?_
    refine WQ.next ?_
    refine WC.ret ?_
    refine WQ.thenRet ?_
    refine WQ.out (.tmp rfl .nil) ?_
    refine ⟨_, rfl, ?_⟩
    exact H.rowEqN (i := 0) rfl (cpt_short (by omega) hn).symm (by rw [cpt_short (by omega) hn]; exact hn.symm)
  ·
    have hc1 := of_decide_eq_false hb1
    refine WC.skip ?_
    refine WQ.next ?_
    refine WC.seq ?_
    refine WC.seq ?_
    refine WC.region ?_
    refine WL.op rfl rfl (op_assign rfl ?_)
    refine WL.nil ?_
    refine WQ.next ?_
    refine WC.block ?_
    refine WC.loop (α := Nat) (fun k => [(0, v), (2, (.slice none 0 0)), (3, (vN k))]) (fun k w' => (1 ≤ k ∧ k ≤ n ∧ (∀ j, 0 < j → j < k → l.getD j 0 ≠ l.getD (j - 1) 0)) ∧ Own T w w' [.row v 51 1 n (List.map vU16 l)]) (fun k => n - k) 1 ⟨⟨Nat.le_refl _, by omega, fun j h1 h2 => by omega⟩, H⟩ ⟨rfl, rfl, rfl, trivial⟩ ?_
    rintro k w2 ⟨⟨hk1, hk2, hok⟩, H2⟩
    show WC _ _ _ _ _ [(0, v), (2, (.slice none 0 0)), (3, (vN k))] _
    refine WC.seq ?_
    refine WC.seq ?_
    refine WC.region ?_
    refine WL.op rfl rfl (op_move rfl ?_)
    refine WL.op rfl rfl (op_move rfl ?_)
    refine WL.op rfl rfl (op_lenA Try.underlying28 rfl (H2.arrR (i := 0) rfl) ?_)
    refine WL.op rfl rfl (op_lssN rfl rfl ?_)
    refine WL.nil ?_
    refine WQ.next ?_
    refine WC.cond rfl (fun (hb3 : (decide (k < n)) = true) => ?_) (fun (hb3 : (decide (k < n)) = false) => ?_)
    ·
      have hc3 := of_decide_eq_true hb3
      refine WC.skip ?_
      refine WQ.next ?_
      refine WC.seq ?_
      refine WC.block ?_
      refine WC.seq ?_
      refine WC.draw 10 Fa.M H2 (HW.op rfl (fun w1 H1 => op_move rfl ⟨rfl, Fr.refl _ _⟩) (HW.op rfl (fun w1 H1 => op_move rfl ⟨rfl, Fr.refl _ _⟩) (HW.op rfl (fun w1 H1 => op_indexAddr1 Try.underlying28 Fa.I51 rfl (H1.arrR (i := 0) rfl) rfl (by omega) ⟨rfl, Fr.refl _ _⟩) (HW.op rfl (fun w1 H1 => op_load rfl ((H1.arrR (i := 0) rfl).at (get_map vU16 0 (Arr.ltM (H1.arrR (i := 0) rfl) (by omega)))) Try.underlying51 rfl ⟨rfl, Fr.refl _ _⟩) (HW.op rfl (fun w1 H1 => op_move rfl ⟨rfl, Fr.refl _ _⟩) (HW.op rfl (fun w1 H1 => op_move rfl ⟨rfl, Fr.refl _ _⟩) (HW.op rfl (fun w1 H1 => op_subN (b := 1) rfl rfl (by omega) (by omega) ⟨rfl, Fr.refl _ _⟩) (HW.op rfl (fun w1 H1 => op_indexAddr1 Try.underlying28 Fa.I51 rfl (H1.arrR (i := 0) rfl) rfl (by omega) ⟨rfl, Fr.refl _ _⟩) (HW.op rfl (fun w1 H1 => op_load rfl ((H1.arrR (i := 0) rfl).at (get_map vU16 0 (Arr.ltM (H1.arrR (i := 0) rfl) (by omega)))) Try.underlying51 rfl ⟨rfl, Fr.refl _ _⟩) (HW.op rfl (fun w1 H1 => op_eqlU16 rfl rfl ⟨rfl, Fr.refl _ _⟩)  HW.nil)))))))))) (by kernel_rfl) ?_
      intro β4 w4 H4
      refine WL.nil ?_
      refine WQ.next ?_
      refine WC.cond rfl (fun (hb5 : (decide ((l.getD k 0) = (l.getD (k - 1) 0))) = true) => ?_) (fun (hb5 : (decide ((l.getD k 0) = (l.getD (k - 1) 0))) = false) => ?_)
      ·
        have hc5 := of_decide_eq_true hb5
        refine WC.seq ?_
        refine WC.region ?_
        refine WL.op rfl rfl (op_move rfl ?_)
        refine WL.op rfl rfl (op_move rfl ?_)
        refine WL.op rfl rfl (op_cutLo Try.underlying28 Fa.I51 rfl (H4.arrR (i := 0) rfl) rfl (by omega) ?_)
        refine WL.op rfl rfl (op_assign rfl ?_)
        refine WL.nil ?_
        refine WQ.next ?_
        refine WC.seq ?_
        refine WC.seq ?_
        refine WC.region ?_
        refine WL.op rfl rfl (op_assign rfl ?_)
        refine WL.nil ?_
        refine WQ.next ?_
        refine WC.block ?_
        refine WC.loop (α := Nat × Nat × List UInt16) (fun (i, j, l1) => [(0, v), (2, (.slice none 0 0)), (3, (vN j)), (4, (cutV v k n 1)), (5, (vN i))]) (fun (i, j, l1) w' => (1 ≤ i ∧ i ≤ n - k ∧ k ≤ j ∧ j + 1 ≤ k + i ∧ l1.length = n ∧ cpt 0 l (k + i) = l1.take j ∧ (∀ q, j ≤ q → l1.getD q 0 = l.getD q 0)) ∧ Own T w w' [.row v 51 1 n (List.map vU16 l1)]) (fun (i, j, l1) => n - k - i) (1, k, l) ⟨⟨Nat.le_refl _, by omega, Nat.le_refl _, Nat.le_refl _, hn, by rw [cpt_same (by omega) (of_decide_eq_true hb5), cpt_take (by omega) hok], fun q _ => rfl⟩, H4⟩ ⟨rfl, rfl, rfl, rfl, rfl, trivial⟩ ?_
        rintro ⟨i, j, l1⟩ w6 ⟨⟨hi1, hi2, hj1, hj2, hL1, hc1, hg1⟩, H6⟩
        show WC _ _ _ _ _ [(0, v), (2, (.slice none 0 0)), (3, (vN j)), (4, (cutV v k n 1)), (5, (vN i))] _
        have e1 : (l1.drop k).getD i 0 = l.getD (k + i) 0 := by rw [getDrop, hg1 _ (by omega)]
        have e2 : (l1.drop k).getD (i - 1) 0 = l.getD (k + i - 1) 0 := by rw [getDrop, show k + (i - 1) = k + i - 1 by omega, hg1 _ (by omega)]
        refine WC.seq ?_
        refine WC.seq ?_
        refine WC.region ?_
        refine WL.op rfl rfl (op_move rfl ?_)
        refine WL.op rfl rfl (op_move rfl ?_)
        refine WL.op rfl rfl (op_lenA Try.underlying28 rfl ((H6.arrR (i := 0) rfl).cutLoM (f := vU16) (l := l1) (a := k) (by omega)) ?_)
        refine WL.op rfl rfl (op_lssN rfl rfl ?_)
        refine WL.nil ?_
        refine WQ.next ?_
        refine WC.cond rfl (fun (hb7 : (decide (i < (n - k))) = true) => ?_) (fun (hb7 : (decide (i < (n - k))) = false) => ?_)
        ·
          have hc7 := of_decide_eq_true hb7
          refine WC.skip ?_
          refine WQ.next ?_
          refine WC.seq ?_
          refine WC.block ?_
          refine WC.seq ?_
          refine WC.draw 10 Fa.M H6 (HW.op rfl (fun w1 H1 => op_move rfl ⟨rfl, Fr.refl _ _⟩) (HW.op rfl (fun w1 H1 => op_move rfl ⟨rfl, Fr.refl _ _⟩) (HW.op rfl (fun w1 H1 => op_indexAddr1 Try.underlying28 Fa.I51 rfl ((H1.arrR (i := 0) rfl).cutLoM (f := vU16) (l := l1) (a := k) (by omega)) rfl (by omega) ⟨rfl, Fr.refl _ _⟩) (HW.op rfl (fun w1 H1 => op_load rfl (((H1.arrR (i := 0) rfl).cutLoM (f := vU16) (l := l1) (a := k) (by omega)).at (get_map vU16 0 (Arr.ltM ((H1.arrR (i := 0) rfl).cutLoM (f := vU16) (l := l1) (a := k) (by omega)) (by omega)))) Try.underlying51 rfl ⟨rfl, Fr.refl _ _⟩) (HW.op rfl (fun w1 H1 => op_move rfl ⟨rfl, Fr.refl _ _⟩) (HW.op rfl (fun w1 H1 => op_move rfl ⟨rfl, Fr.refl _ _⟩) (HW.op rfl (fun w1 H1 => op_subN (b := 1) rfl rfl (by omega) (by omega) ⟨rfl, Fr.refl _ _⟩) (HW.op rfl (fun w1 H1 => op_indexAddr1 Try.underlying28 Fa.I51 rfl ((H1.arrR (i := 0) rfl).cutLoM (f := vU16) (l := l1) (a := k) (by omega)) rfl (by omega) ⟨rfl, Fr.refl _ _⟩) (HW.op rfl (fun w1 H1 => op_load rfl (((H1.arrR (i := 0) rfl).cutLoM (f := vU16) (l := l1) (a := k) (by omega)).at (get_map vU16 0 (Arr.ltM ((H1.arrR (i := 0) rfl).cutLoM (f := vU16) (l := l1) (a := k) (by omega)) (by omega)))) Try.underlying51 rfl ⟨rfl, Fr.refl _ _⟩) (HW.op rfl (fun w1 H1 => op_neqU16 rfl rfl ⟨rfl, Fr.refl _ _⟩)  HW.nil)))))))))) (by kernel_rfl) ?_
          intro β8 w8 H8
          refine WL.nil ?_
          refine WQ.next ?_
          refine WC.cond rfl (fun (hb9 : (decide (((l1.drop k).getD i 0) ≠ ((l1.drop k).getD (i - 1) 0))) = true) => ?_) (fun (hb9 : (decide (((l1.drop k).getD i 0) ≠ ((l1.drop k).getD (i - 1) 0))) = false) => ?_)
          ·
            have hc9 := of_decide_eq_true hb9
            refine WC.seq ?_
            refine WC.region ?_
            refine WL.op rfl rfl (op_move rfl ?_)
            refine WL.op rfl rfl (op_move rfl ?_)
            refine WL.op rfl rfl (op_move rfl ?_)
            refine WL.op rfl rfl (op_move rfl ?_)
            refine WL.op rfl rfl (op_indexAddr1 Try.underlying28 Fa.I51 rfl ((H8.arrR (i := 0) rfl).cutLoM (f := vU16) (l := l1) (a := k) (by omega)) rfl (by omega) ?_)
            refine WL.op rfl rfl (op_load rfl (((H8.arrR (i := 0) rfl).cutLoM (f := vU16) (l := l1) (a := k) (by omega)).at (get_map vU16 0 (Arr.ltM ((H8.arrR (i := 0) rfl).cutLoM (f := vU16) (l := l1) (a := k) (by omega)) (by omega)))) Try.underlying51 rfl ?_)
            refine WL.op rfl rfl (op_indexAddr1 Try.underlying28 Fa.I51 rfl (H8.arrR (i := 0) rfl) rfl (by omega) ?_)
            refine WL.op rfl rfl (op_storeRM (i := 0) (f := vU16) (l := l1) (c := ((l1.drop k).getD i 0)) H8 rfl rfl rfl (by omega) rfl Fa.I51 (fun w10 H10 => ?_))
            refine WL.nil ?_
            refine WQ.next ?_
            refine WC.region ?_
            refine WL.op rfl rfl (op_move rfl ?_)
            refine WL.op rfl rfl (op_addN (b := 1) rfl rfl (by omega) ?_)
            refine WL.op rfl rfl (op_assign rfl ?_)
            refine WL.nil ?_
            refine WQ.inNormal ?_
            refine WQ.next ?_
            refine WC.region ?_
            refine WL.op rfl rfl (op_move rfl ?_)
            refine WL.op rfl rfl (op_addN (b := 1) rfl rfl (by omega) ?_)
            refine WL.op rfl rfl (op_assign rfl ?_)
            refine WL.nil ?_
            exact WQ.round (i + 1, j + 1, (l1.set j ((l1.drop k).getD i 0))) ⟨⟨by omega, by omega, by omega, by omega, by rw [List.length_set]; exact hL1, by rw [← Nat.add_assoc, cpt_other (.inr (by rw [← e1, ← e2]; exact of_decide_eq_true hb9)), hc1, e1, take_set_snoc (by omega)], fun q hq => by rw [getD_set _ _ _ _ (by omega), if_neg (by omega)]; exact hg1 q (by omega)⟩, H10⟩ ⟨rfl, rfl, rfl, rfl, rfl, trivial⟩ (by show n - k - (i + 1) < n - k - i; omega)
          ·
            have hc9 := of_decide_eq_false hb9
            refine WC.skip ?_
            refine WQ.inNormal ?_
            refine WQ.next ?_
            refine WC.region ?_
            refine WL.op rfl rfl (op_move rfl ?_)
            refine WL.op rfl rfl (op_addN (b := 1) rfl rfl (by omega) ?_)
            refine WL.op rfl rfl (op_assign rfl ?_)
            refine WL.nil ?_
            exact WQ.round (i + 1, j, l1) ⟨⟨by omega, by omega, hj1, by omega, hL1, by rw [← Nat.add_assoc, cpt_same (by omega) (by rw [← e1, ← e2]; exact Decidable.not_not.mp (of_decide_eq_false hb9))]; exact hc1, hg1⟩, H8⟩ ⟨rfl, rfl, rfl, rfl, rfl, trivial⟩ (by show n - k - (i + 1) < n - k - i; omega)
        ·
          have hc7 := of_decide_eq_false hb7
          refine WC.exit ?_
          refine WQ.thenExit ?_
          refine WQ.thenExit ?_
          refine WQ.inHere ?_
          refine WQ.next ?_
          refine WC.seq ?_
          refine WC.region ?_
          refine WL.op rfl rfl (op_move rfl ?_)
          refine WL.op rfl rfl (op_move rfl ?_)
          refine WL.op rfl rfl (op_cutLo Try.underlying28 Fa.I51 rfl (H6.arrR (i := 0) rfl) rfl (by omega) ?_)
          refine WL.op rfl rfl (op_clearM (i := 0) (f := vU16) (l := l1) (c := 0) H6 Try.underlying28 Fa.Z51 rfl rfl (Sub.cut (a := j) (b := n) (H6.arrR (i := 0) rfl) (by omega) (by omega)) (by omega) rfl rfl (fun w11 H11 => ?_))
          refine WL.nil ?_
          refine WQ.next ?_
          refine WC.seq ?_
          refine WC.region ?_
          refine WL.op rfl rfl (op_move rfl ?_)
          refine WL.op rfl rfl (op_move rfl ?_)
          refine WL.op rfl rfl (op_cutHi Try.underlying28 Fa.I51 rfl (H11.arrR (i := 0) rfl) rfl (by omega) ?_)
          have H12 := H11.cutHiM (f := vU16) (l := (l1.take j ++ (List.replicate (n - j) 0 ++ l1.drop (j + (n - j))))) (b := j) (i := 0) rfl (by omega)
          refine WL.op rfl rfl (op_assign rfl ?_)
          refine WL.nil ?_
          refine WQ.next ?_
          refine WC.ret ?_
          refine WQ.inRet ?_
          refine WQ.thenRet ?_
          refine WQ.thenRet ?_
          refine WQ.inRet ?_
          refine WQ.thenRet ?_
          refine WQ.out (.tmp rfl .nil) ?_
          refine ⟨_, rfl, ?_⟩
          exact H12.rowEqN (i := 0) rfl (cpt_cut (by omega) (by rw [show k + i = n by omega] at hc1; exact hc1)) (by rw [show k + i = n by omega] at hc1; rw [hc1, List.length_take]; omega)
      ·
        have hc5 := of_decide_eq_false hb5
        refine WC.skip ?_
        refine WQ.inNormal ?_
        refine WQ.next ?_
        refine WC.region ?_
        refine WL.op rfl rfl (op_move rfl ?_)
        refine WL.op rfl rfl (op_addN (b := 1) rfl rfl (by omega) ?_)
        refine WL.op rfl rfl (op_assign rfl ?_)
        refine WL.nil ?_
        exact WQ.round (k + 1) ⟨⟨by omega, by omega, fun j h1 h2 => by rcases Nat.lt_or_ge j k with h3 | h3; exact hok j h1 h3; rw [show j = k by omega]; exact of_decide_eq_false hb5⟩, H4⟩ ⟨rfl, rfl, rfl, trivial⟩ (by omega)
    ·
      have hc3 := of_decide_eq_false hb3
      refine WC.exit ?_
      refine WQ.thenExit ?_
      refine WQ.thenExit ?_
      refine WQ.inHere ?_
      refine WQ.next ?_
      refine WC.seq ?_
      refine WC.region ?_
      refine WL.op rfl rfl (op_move rfl ?_)
      refine WL.op rfl rfl (op_assign rfl ?_)
      refine WL.nil ?_
      refine WQ.next ?_
      refine WC.ret ?_
      refine WQ.out (.tmp rfl .nil) ?_
      refine ⟨_, rfl, ?_⟩
      exact H2.rowEqN (i := 0) rfl (by rw [cpt_take (by omega) (fun j h1 h2 => hok j h1 (by omega)), ← hn, List.take_length]) (by rw [cpt_take (by omega) (fun j h1 h2 => hok j h1 (by omega)), List.length_take]; omega)
set_option maxHeartbeats 1000000 in
set_option maxRecDepth 100000 in
theorem gnote_ok (g : Ga) (x : Nt) (q : Nat) (p : Value) (T : List Nat) (w : World) (H : Own T w w [.blk q ([(vU32 g.pg), (.slice none 0 0), p, (.bool g.con)] ++ (List.map vU32 g.bl)) 54, .row p 51 1 g.ps.length (List.map vU16 g.ps)]) (hx : noteB x = true) (hl : g.bl.length = 16) (hN : g.ps.length < 2 ^ 45) :
    Calls Try.prog 25 #[(ptr q 0), (.agg #[(vU8 x.kind), (vU32 x.n), (vU32 x.m)])] w (fun e w' => ∃ p', e = .returned undef ∧ Own T w w' [.blk q ([(vU32 (gaAdd g x).pg), (.slice none 0 0), p', (.bool (gaAdd g x).con)] ++ (List.map vU32 (gaAdd g x).bl)) 54, .row p' 51 1 ((gaAdd g x).ps).length (List.map vU16 (gaAdd g x).ps)]) := by
  refine enter (args := [(ptr q 0), (.agg #[(vU8 x.kind), (vU32 x.n), (vU32 x.m)])]) Try.func25 rfl rfl ?_
  refine WC.seq ?_
  refine WC.region ?_
  refine WL.op rfl rfl (op_box H rfl rfl (fun b1 w1 H1 => ?_))
  refine WL.nil ?_
  refine WQ.next ?_
  refine WC.seq ?_
  refine WC.region ?_
  refine WL.op rfl rfl (op_fieldAddr rfl Fa.F36_0 ?_)
  refine WL.op rfl rfl (op_load rfl (H1.cell (i := 2) rfl rfl) Try.underlying5 rfl ?_)
  refine WL.nil ?_
  refine WQ.next ?_
  refine WC.block ?_
  refine WC.seq ?_
  refine WC.region ?_
  refine WL.op rfl rfl (op_eqlU8 (b := 1) rfl rfl ?_)
  refine WL.op rfl rfl (op_assign rfl ?_)
  refine WL.nil ?_
  refine WQ.next ?_
  refine WC.cond rfl (fun (hb2 : (decide (x.kind = (1 : UInt8))) = true) => ?_) (fun (hb2 : (decide (x.kind = (1 : UInt8))) = false) => ?_)
  ·
    have hc2 := of_decide_eq_true hb2
    refine WC.draw 12 Fa.M H1 (HW.op rfl (fun w1 H1 => op_move rfl ⟨rfl, Fr.refl _ _⟩) (HW.op rfl (fun w1 H1 => op_move rfl ⟨rfl, Fr.refl _ _⟩) (HW.op rfl (fun w1 H1 => op_nilCheck rfl ⟨rfl, Fr.refl _ _⟩) (HW.op rfl (fun w1 H1 => op_fieldAddr rfl Fa.F54_0 ⟨rfl, Fr.refl _ _⟩) (HW.op rfl (fun w1 H1 => op_fieldAddr rfl Fa.F30_0 ⟨rfl, Fr.refl _ _⟩) (HW.op rfl (fun w1 H1 => op_load rfl (H1.cell (i := 0) rfl rfl) Try.underlying26 rfl ⟨rfl, Fr.refl _ _⟩) (HW.op rfl (fun w1 H1 => op_fieldAddr rfl Fa.F36_1 ⟨rfl, Fr.refl _ _⟩) (HW.op rfl (fun w1 H1 => op_load rfl (H1.cell (i := 2) rfl rfl) Try.underlying26 rfl ⟨rfl, Fr.refl _ _⟩) (HW.op rfl (fun w1 H1 => op_maxU32 rfl rfl ⟨rfl, Fr.refl _ _⟩) (HW.op rfl (fun w1 H1 => op_nilCheck rfl ⟨rfl, Fr.refl _ _⟩) (HW.op rfl (fun w1 H1 => op_fieldAddr rfl Fa.F54_0 ⟨rfl, Fr.refl _ _⟩) (HW.op rfl (fun w1 H1 => op_fieldAddr rfl Fa.F30_0 ⟨rfl, Fr.refl _ _⟩)  HW.nil)))))))))))) (by kernel_rfl) ?_
    intro β3 w3 H3
    refine WL.op rfl rfl (op_storeB (i := 0) H3 rfl rfl rfl rfl rfl Fa.I26 (fun w4 H4 => ?_))
    refine WL.nil ?_
    refine WQ.inNormal ?_
    refine WQ.outEnd .nil ?_
    rw [show gaAdd g x = _ from by rw [gaAdd, if_pos (of_decide_eq_true hb2)]]
    exact ⟨_, rfl, H4.sel [0, 1] rfl rfl⟩
  ·
    have hc2 := of_decide_eq_false hb2
    refine WC.seq ?_
    refine WC.region ?_
    refine WL.op rfl rfl (op_eqlU8 (b := 2) rfl rfl ?_)
    refine WL.op rfl rfl (op_assign rfl ?_)
    refine WL.nil ?_
    refine WQ.next ?_
    refine WC.cond rfl (fun (hb5 : (decide (x.kind = (2 : UInt8))) = true) => ?_) (fun (hb5 : (decide (x.kind = (2 : UInt8))) = false) => ?_)
    ·
      have hc5 := of_decide_eq_true hb5
      have hx2 := note_2 hx (of_decide_eq_true hb5)
      refine WC.draw 16 Fa.M H1 (HW.op rfl (fun w1 H1 => op_move rfl ⟨rfl, Fr.refl _ _⟩) (HW.op rfl (fun w1 H1 => op_fieldAddr rfl Fa.F36_1 ⟨rfl, Fr.refl _ _⟩) (HW.op rfl (fun w1 H1 => op_load rfl (H1.cell (i := 2) rfl rfl) Try.underlying26 rfl ⟨rfl, Fr.refl _ _⟩) (HW.op rfl (fun w1 H1 => op_move rfl ⟨rfl, Fr.refl _ _⟩) (HW.op rfl (fun w1 H1 => op_fieldAddr rfl Fa.F36_1 ⟨rfl, Fr.refl _ _⟩) (HW.op rfl (fun w1 H1 => op_load rfl (H1.cell (i := 2) rfl rfl) Try.underlying26 rfl ⟨rfl, Fr.refl _ _⟩) (HW.op rfl (fun w1 H1 => op_nilCheck rfl ⟨rfl, Fr.refl _ _⟩) (HW.op rfl (fun w1 H1 => op_fieldAddr rfl Fa.F54_1 ⟨rfl, Fr.refl _ _⟩) (HW.op rfl (fun w1 H1 => op_indexAddrA1 Try.underlying52 Fa.I26 rfl rfl (by omega) ⟨rfl, Fr.refl _ _⟩) (HW.op rfl (fun w1 H1 => op_load rfl (H1.cell (i := 0) rfl (get_tab _ g.bl 4 x.n.toNat 0 (by omega))) Try.underlying26 rfl ⟨rfl, Fr.refl _ _⟩) (HW.op rfl (fun w1 H1 => op_fieldAddr rfl Fa.F36_2 ⟨rfl, Fr.refl _ _⟩) (HW.op rfl (fun w1 H1 => op_load rfl (H1.cell (i := 2) rfl rfl) Try.underlying26 rfl ⟨rfl, Fr.refl _ _⟩) (HW.op rfl (fun w1 H1 => op_maxU32 rfl rfl ⟨rfl, Fr.refl _ _⟩) (HW.op rfl (fun w1 H1 => op_nilCheck rfl ⟨rfl, Fr.refl _ _⟩) (HW.op rfl (fun w1 H1 => op_fieldAddr rfl Fa.F54_1 ⟨rfl, Fr.refl _ _⟩) (HW.op rfl (fun w1 H1 => op_indexAddrA1 Try.underlying52 Fa.I26 rfl rfl (by omega) ⟨rfl, Fr.refl _ _⟩)  HW.nil)))))))))))))))) (by kernel_rfl) ?_
      intro β6 w6 H6
      refine WL.op rfl rfl (op_storeB (i := 0) H6 rfl rfl rfl (by rw [Nat.blt_eq]; simp; omega) rfl Fa.I26 (fun w7 H7q => ?_))
      have H7 : Own T w w7 [.blk q ([(vU32 g.pg), (.slice none 0 0), p, (.bool g.con)] ++ (List.map vU32 (g.bl.set x.n.toNat (maxU32 (g.bl.getD x.n.toNat 0) x.m)))) 54, .row p 51 1 g.ps.length (List.map vU16 g.ps), .blk b1 [(vU8 x.kind), (vU32 x.n), (vU32 x.m)] 36] := Own.blkEq (i := 0) H7q rfl (set_tab _ g.bl 4 x.n.toNat (maxU32 (g.bl.getD x.n.toNat 0) x.m))
      refine WL.nil ?_
      refine WQ.inNormal ?_
      refine WQ.outEnd .nil ?_
      rw [show gaAdd g x = _ from by rw [gaAdd, if_neg (of_decide_eq_false hb2), if_pos (of_decide_eq_true hb5)]]
      exact ⟨_, rfl, H7.sel [0, 1] rfl rfl⟩
    ·
      have hc5 := of_decide_eq_false hb5
      refine WC.seq ?_
      refine WC.region ?_
      refine WL.op rfl rfl (op_eqlU8 (b := 3) rfl rfl ?_)
      refine WL.op rfl rfl (op_assign rfl ?_)
      refine WL.nil ?_
      refine WQ.next ?_
      refine WC.cond rfl (fun (hb8 : (decide (x.kind = (3 : UInt8))) = true) => ?_) (fun (hb8 : (decide (x.kind = (3 : UInt8))) = false) => ?_)
      ·
        have hc8 := of_decide_eq_true hb8
        refine WC.drawLate 10 0 (d0 := 40) (t0 := 0) Fa.M H1 (HW.op rfl (fun w1 H1 => op_move rfl ⟨rfl, Fr.refl _ _⟩) (HW.op rfl (fun w1 H1 => op_move rfl ⟨rfl, Fr.refl _ _⟩) (HW.op rfl (fun w1 H1 => op_nilCheck rfl ⟨rfl, Fr.refl _ _⟩) (HW.op rfl (fun w1 H1 => op_fieldAddr rfl Fa.F54_0 ⟨rfl, Fr.refl _ _⟩) (HW.op rfl (fun w1 H1 => op_fieldAddr rfl Fa.F30_2 ⟨rfl, Fr.refl _ _⟩) (HW.op rfl (fun w1 H1 => op_load rfl (H1.cell (i := 0) rfl rfl) Try.underlying28 rfl ⟨rfl, Fr.refl _ _⟩) (HW.op rfl (fun w1 H1 => op_fieldAddr rfl Fa.F36_1 ⟨rfl, Fr.refl _ _⟩) (HW.op rfl (fun w1 H1 => op_load rfl (H1.cell (i := 2) rfl rfl) Try.underlying26 rfl ⟨rfl, Fr.refl _ _⟩) (HW.op rfl (fun w1 H1 => op_convU32U16 (hs := Try.underlying26) (hd := Try.underlying51) rfl ⟨rfl, Fr.refl _ _⟩) (HW.flt (mk := fun bq => .slice (some ⟨bq.1, 0, none⟩) 1 1) (ent := fun bq => .row (.slice (some ⟨bq.1, 0, none⟩) 1 1) _ _ _ _) rfl (fun w1 _ => op_buildSlice (cs := [_]) (Own.start w1 []) Try.underlying28 Fa.I51 rfl rfl rfl rfl (by decide) (by decide) (fun bq w2 H2 => ⟨(bq, undef), rfl, H2, True.intro⟩))  HW.nil)))))))))) (by kernel_rfl) rfl rfl rfl rfl rfl rfl rfl ?_
        intro β9 w9 H9 x9
        refine (op_appendM (f := vU16) (l := g.ps) (l' := [(UInt16.ofNat x.n.toNat)]) (i := 1) H9 Try.underlying28 Fa.I51 rfl rfl rfl rfl (Src.ofArr Try.underlying28 (H9.arrR (i := 3) rfl)) (one_mapM (fun _ => rfl)) (by omega) (by omega) (fun v10 w10 H10 => ?_))
        refine WL.op rfl rfl (op_nilCheck rfl ?_)
        refine WL.op rfl rfl (op_fieldAddr rfl Fa.F54_0 ?_)
        refine WL.op rfl rfl (op_fieldAddr rfl Fa.F30_2 ?_)
        refine WL.op rfl rfl (op_storeB (i := 0) H10 rfl rfl rfl rfl (Arr.one (H10.arrR (i := 1) rfl)) Fa.I28 (fun w11 H11 => ?_))
        refine WL.nil ?_
        refine WQ.inNormal ?_
        refine WQ.outEnd .nil ?_
        rw [show gaAdd g x = _ from by rw [gaAdd, if_neg (of_decide_eq_false hb2), if_neg (of_decide_eq_false hb5), if_pos (of_decide_eq_true hb8)]]
        have h := (show Own T w w11 [.blk q ([(vU32 g.pg), (.slice none 0 0), v10, (.bool g.con)] ++ (List.map vU32 g.bl)) 54, .row v10 51 1 (g.ps.length + 1) (List.map vU16 (g.ps ++ [(UInt16.ofNat x.n.toNat)])), .blk b1 [(vU8 x.kind), (vU32 x.n), (vU32 x.m)] 36, .row (.slice (some ⟨(β9 9).1, 0, none⟩) 1 1) 51 1 1 (List.map vU16 [(UInt16.ofNat x.n.toNat)])] from H11)
        exact ⟨_, rfl, (Own.rowEqN (i := 1) (f := vU16) (m' := (g.ps ++ [p16 x.n]).length) h rfl rfl (by rw [List.length_append]; rfl)).sel [0, 1] rfl rfl⟩
      ·
        have hc8 := of_decide_eq_false hb8
        refine WC.seq ?_
        refine WC.region ?_
        refine WL.op rfl rfl (op_eqlU8 (b := 4) rfl rfl ?_)
        refine WL.op rfl rfl (op_assign rfl ?_)
        refine WL.nil ?_
        refine WQ.next ?_
        refine WC.cond rfl (fun (hb12 : (decide (x.kind = (4 : UInt8))) = true) => ?_) (fun (hb12 : (decide (x.kind = (4 : UInt8))) = false) => ?_)
        ·
          have hc12 := of_decide_eq_true hb12
          refine WC.region ?_
          refine WL.op rfl rfl (op_move rfl ?_)
          refine WL.op rfl rfl (op_nilCheck rfl ?_)
          refine WL.op rfl rfl (op_fieldAddr rfl Fa.F54_0 ?_)
          refine WL.op rfl rfl (op_fieldAddr rfl Fa.F30_3 ?_)
          refine WL.op rfl rfl (op_storeB (i := 0) H1 rfl rfl rfl rfl rfl Fa.I4 (fun w13 H13 => ?_))
          refine WL.nil ?_
          refine WQ.inNormal ?_
          refine WQ.outEnd .nil ?_
          rw [show gaAdd g x = _ from by rw [gaAdd, if_neg (of_decide_eq_false hb2), if_neg (of_decide_eq_false hb5), if_neg (of_decide_eq_false hb8), if_pos (of_decide_eq_true hb12)]]
          exact ⟨_, rfl, H13.sel [0, 1] rfl rfl⟩
        ·
          have hc12 := of_decide_eq_false hb12
          refine WC.skip ?_
          refine WQ.inNormal ?_
          refine WQ.outEnd .nil ?_
          rw [show gaAdd g x = _ from by rw [gaAdd, if_neg (of_decide_eq_false hb2), if_neg (of_decide_eq_false hb5), if_neg (of_decide_eq_false hb8), if_neg (of_decide_eq_false hb12)]]
          exact ⟨_, rfl, H1.sel [0, 1] rfl rfl⟩
end Go.Proofs.Ytnngbnenekjffaa
/-! from EDem4 -/
namespace Go.Proofs.Ytnngbnenekjffaa
open Go.Owl Go.Spec
set_option maxHeartbeats 1000000 in
set_option maxRecDepth 100000 in
theorem gmani_ok (g : Ga) (q : Nat) (p : Value) (T : List Nat) (w : World) (H : Own T w w [.blk q ([(vU32 g.pg), (.slice none 0 0), p, (.bool g.con)] ++ (List.map vU32 g.bl)) 54, .row p 51 1 g.ps.length (List.map vU16 g.ps)]) (hl : g.bl.length = 16) (hN : g.ps.length < 2 ^ 45) :
    Calls Try.prog 26 #[(ptr q 0)] w (fun e w' => ∃ v u ps, e = .returned (.tuple #[.agg #[vU32 (gaM g ps).pg, v, u, .bool (gaM g ps).con], vN (gaE ps)]) ∧ Rise ltU16 ps ∧ (∀ x, x ∈ ps ↔ x ∈ g.ps) ∧ Own T w w' [Ent.triv, .row u 51 1 ((gaM g ps).ps).length (List.map vU16 (gaM g ps).ps), .row v 50 2 ((gaM g ps).xs).length (List.flatMap xtc (gaM g ps).xs)]) := by
  refine enter (args := [(ptr q 0)]) Try.func26 rfl rfl ?_
  refine WC.seq ?_
  refine WC.region ?_
  refine WL.op rfl rfl (op_alloc H Fa.I30 (fun b1 w1 H1 => ?_))
  refine WL.op rfl rfl (op_assign rfl ?_)
  refine WL.nil ?_
  refine WQ.next ?_
  refine WC.seq ?_
  refine WC.seq ?_
  refine WC.region ?_
  have H2 := H1.nilRow 50 2
  refine WL.op rfl rfl (op_move rfl ?_)
  refine WL.op rfl rfl (op_nilCheck rfl ?_)
  refine WL.op rfl rfl (op_fieldAddr rfl Fa.F54_1 ?_)
  refine WL.op rfl rfl (op_loadS (vs := (List.map vU32 g.bl)) rfl (H2.cells (i := 0) rfl (drop_tab _ g.bl 4)) Try.underlying52 rfl Fa.I52 (by rw [List.length_map]; exact hl) ?_)
  refine WL.op rfl rfl (op_move rfl ?_)
  refine WL.nil ?_
  refine WQ.next ?_
  refine WC.block ?_
  refine WC.loop (α := Nat × Value) (fun (k, xv) => [(0, (ptr q 0)), (2, (ptr b1 0)), (9, (.agg ((List.map vU32 g.bl)).toArray)), (10, (vN k))]) (fun (k, xv) w' => (k ≤ 16) ∧ Own T w w' [.blk q ([(vU32 g.pg), xv, p, (.bool g.con)] ++ (List.map vU32 g.bl)) 54, .row p 51 1 g.ps.length (List.map vU16 g.ps), .blk b1 [(vU32 0), (.slice none 0 0), (.slice none 0 0), (.bool false)] 30, .row xv 50 2 (xsTo g.bl k).length (List.flatMap xtc (xsTo g.bl k))]) (fun (k, xv) => 16 - k) (0, .slice none 0 0) ⟨Nat.zero_le _, H2⟩ ⟨rfl, rfl, rfl, rfl, trivial⟩ ?_
  rintro ⟨k, xv⟩ w3 ⟨hk1, H3⟩
  show WC _ _ _ _ _ [(0, (ptr q 0)), (2, (ptr b1 0)), (9, (.agg ((List.map vU32 g.bl)).toArray)), (10, (vN k))] _
  have hxl := xsTo_len (bl := g.bl) k
  refine WC.seq ?_
  refine WC.region ?_
  refine WL.op rfl rfl (op_lssN (b := 16) rfl rfl ?_)
  refine WL.nil ?_
  refine WQ.next ?_
  refine WC.seq ?_
  refine WC.cond rfl (fun (hb4 : (decide (k < 16)) = true) => ?_) (fun (hb4 : (decide (k < 16)) = false) => ?_)
  ·
    have hc4 := of_decide_eq_true hb4
    refine WC.skip ?_
    refine WQ.next ?_
    refine WC.seq ?_
    refine WC.block ?_
    refine WC.seq ?_
    refine WC.region ?_
    refine WL.op rfl rfl (op_move rfl ?_)
    refine WL.op rfl rfl (op_indexA1 (cs := (List.map vU32 g.bl)) Try.underlying52 Fa.I26 Try.underlying26 rfl rfl rfl (by omega) (get_map vU32 0 (by omega)) ?_)
    refine WL.op rfl rfl (op_assign rfl ?_)
    refine WL.op rfl rfl (op_assign rfl ?_)
    refine WL.nil ?_
    refine WQ.next ?_
    refine WC.seq ?_
    refine WC.region ?_
    refine WL.op rfl rfl (op_move rfl ?_)
    refine WL.op rfl rfl (op_gtrU32 (b := 0) rfl rfl ?_)
    refine WL.nil ?_
    refine WQ.next ?_
    refine WC.cond rfl (fun (hb5 : (decide ((g.bl.getD k 0) > (0 : UInt32))) = true) => ?_) (fun (hb5 : (decide ((g.bl.getD k 0) > (0 : UInt32))) = false) => ?_)
    ·
      have hc5 := of_decide_eq_true hb5
      refine WC.region ?_
      refine WL.op rfl rfl (op_move rfl ?_)
      refine WL.op rfl rfl (op_move rfl ?_)
      refine WL.op rfl rfl (op_nilCheck rfl ?_)
      refine WL.op rfl rfl (op_fieldAddr rfl Fa.F54_0 ?_)
      refine WL.op rfl rfl (op_fieldAddr rfl Fa.F30_1 ?_)
      refine WL.op rfl rfl (op_load rfl (H3.cell (i := 0) rfl rfl) Try.underlying27 rfl ?_)
      refine WL.op rfl rfl (op_move rfl ?_)
      refine WL.op rfl rfl (op_convNU32 (hs := Try.underlying3) (hd := Try.underlying26) rfl ?_)
      refine WL.op rfl rfl (op_move rfl ?_)
      refine WL.op rfl rfl (op_build (cs := [_, _]) Fa.I50 Fa.PL50 rfl rfl ?_)
      refine WL.op rfl rfl (op_buildSlice (cs := [_, _]) H3 Try.underlying27 Fa.I50 rfl rfl rfl rfl (by decide) (by decide) (fun b6 w6 H6 => ?_))
      refine WL.op rfl rfl (op_appendF (f := xtc) (l := (xsTo g.bl k)) (l' := [(Xt.mk (UInt32.ofNat k) (g.bl.getD k 0))]) (i := 3) H6 Try.underlying27 Fa.I50 rfl rfl rfl rfl (Src.ofArr Try.underlying27 (H6.arrR (i := 4) rfl)) (one_flat (fun _ => by simp [xtc, Value.oneCell'])) (by omega) (by omega) (fun v7 w7 H7 => ?_))
      refine WL.op rfl rfl (op_nilCheck rfl ?_)
      refine WL.op rfl rfl (op_fieldAddr rfl Fa.F54_0 ?_)
      refine WL.op rfl rfl (op_fieldAddr rfl Fa.F30_1 ?_)
      refine WL.op rfl rfl (op_storeB (i := 0) H7 rfl rfl rfl rfl (Arr.one (H7.arrR (i := 3) rfl)) Fa.I27 (fun w8 H8 => ?_))
      refine WL.nil ?_
      refine WQ.inNormal ?_
      refine WQ.next ?_
      refine WC.region ?_
      refine WL.op rfl rfl (op_addN (b := 1) rfl rfl (by omega) ?_)
      refine WL.op rfl rfl (op_move rfl ?_)
      refine WL.nil ?_
      exact WQ.round (k + 1, v7) ⟨(by omega), (Own.rowEqF (i := 3) (f := xtc) (show Own T w w8 [.blk q ([(vU32 g.pg), v7, p, (.bool g.con)] ++ (List.map vU32 g.bl)) 54, .row p 51 1 g.ps.length (List.map vU16 g.ps), .blk b1 [(vU32 0), (.slice none 0 0), (.slice none 0 0), (.bool false)] 30, .row v7 50 2 ((xsTo g.bl k).length + 1) (List.flatMap xtc ((xsTo g.bl k) ++ [(Xt.mk (UInt32.ofNat k) (g.bl.getD k 0))]))] from (H8.take 4)) rfl (xsTo_yes hb5).symm (by rw [xsTo_yes hb5, List.length_append]; rfl))⟩ ⟨rfl, rfl, rfl, rfl, trivial⟩ (by show 16 - (k + 1) < 16 - k; omega)
    ·
      have hc5 := of_decide_eq_false hb5
      refine WC.skip ?_
      refine WQ.inNormal ?_
      refine WQ.next ?_
      refine WC.region ?_
      refine WL.op rfl rfl (op_addN (b := 1) rfl rfl (by omega) ?_)
      refine WL.op rfl rfl (op_move rfl ?_)
      refine WL.nil ?_
      exact WQ.round (k + 1, xv) ⟨(by omega), (Own.rowEqF (i := 3) (f := xtc) (show Own T w w3 [.blk q ([(vU32 g.pg), xv, p, (.bool g.con)] ++ (List.map vU32 g.bl)) 54, .row p 51 1 g.ps.length (List.map vU16 g.ps), .blk b1 [(vU32 0), (.slice none 0 0), (.slice none 0 0), (.bool false)] 30, .row xv 50 2 (xsTo g.bl k).length (List.flatMap xtc (xsTo g.bl k))] from H3) rfl (xsTo_not hb5).symm (by rw [xsTo_not hb5]))⟩ ⟨rfl, rfl, rfl, rfl, trivial⟩ (by show 16 - (k + 1) < 16 - k; omega)
  ·
    have hc4 := of_decide_eq_false hb4
    refine WC.exit ?_
    refine WQ.thenExit ?_
    refine WQ.thenExit ?_
    refine WQ.inHere ?_
    refine WQ.next ?_
    refine WC.seq ?_
    refine WC.region ?_
    refine WL.op rfl rfl (op_move rfl ?_)
    refine WL.op rfl rfl (op_nilCheck rfl ?_)
    refine WL.op rfl rfl (op_fieldAddr rfl Fa.F54_0 ?_)
    refine WL.op rfl rfl (op_fieldAddr rfl Fa.F30_2 ?_)
    refine WL.op rfl rfl (op_load rfl (H3.cell (i := 0) rfl rfl) Try.underlying28 rfl ?_)
    refine WL.op rfl rfl (op_callF Fa.C42 rfl ((sort_ok p g.ps.length g.ps _ _ (H3.part [1] rfl rfl) rfl (by omega)).mono (fun e w9 hq => ?_)))
    obtain ⟨l9, rfl, hc9, hq9⟩ := hq
    refine ⟨_, rfl, ?_⟩
    have H9 : Own T w w9 [.blk q ([(vU32 g.pg), xv, p, (.bool g.con)] ++ (List.map vU32 g.bl)) 54, .row p 51 1 g.ps.length (List.map vU16 l9), .blk b1 [(vU32 0), (.slice none 0 0), (.slice none 0 0), (.bool false)] 30, .row xv 50 2 (xsTo g.bl k).length (List.flatMap xtc (xsTo g.bl k))] := H3.splice [1] [.row p 51 1 g.ps.length (List.map vU16 l9)] [] rfl rfl hq9 (Fits.solid True.intro Fits.nil)
    refine WL.nil ?_
    refine WQ.next ?_
    refine WC.seq ?_
    refine WC.seq ?_
    refine WC.region ?_
    have hcp := cpt_all ltU16Tot (hc9.1.len) rfl hc9.1 hc9.2
    have hll := hc9.1.len
    refine WL.op rfl rfl (op_move rfl ?_)
    refine WL.op rfl rfl (op_move rfl ?_)
    refine WL.op rfl rfl (op_nilCheck rfl ?_)
    refine WL.op rfl rfl (op_fieldAddr rfl Fa.F54_0 ?_)
    refine WL.op rfl rfl (op_fieldAddr rfl Fa.F30_2 ?_)
    refine WL.op rfl rfl (op_load rfl (H9.cell (i := 0) rfl rfl) Try.underlying28 rfl ?_)
    refine WL.op rfl rfl (op_callF Fa.C43 rfl ((comp_ok p g.ps.length l9 _ _ (H9.part [1] rfl rfl) (by omega) (by omega)).mono (fun e w10 hq => ?_)))
    obtain ⟨v10, rfl, hq10⟩ := hq
    refine ⟨_, rfl, ?_⟩
    have H10 : Own T w w10 [.blk q ([(vU32 g.pg), xv, p, (.bool g.con)] ++ (List.map vU32 g.bl)) 54, .row v10 51 1 (cpt 0 l9 g.ps.length).length (List.map vU16 (cpt 0 l9 g.ps.length)), .blk b1 [(vU32 0), (.slice none 0 0), (.slice none 0 0), (.bool false)] 30, .row xv 50 2 (xsTo g.bl k).length (List.flatMap xtc (xsTo g.bl k))] := H9.splice [1] [.row v10 51 1 (cpt 0 l9 g.ps.length).length (List.map vU16 (cpt 0 l9 g.ps.length))] [] rfl rfl hq10 (Fits.solid True.intro Fits.nil)
    refine WL.op rfl rfl (op_nilCheck rfl ?_)
    refine WL.op rfl rfl (op_fieldAddr rfl Fa.F54_0 ?_)
    refine WL.op rfl rfl (op_fieldAddr rfl Fa.F30_2 ?_)
    refine WL.op rfl rfl (op_storeB (i := 0) H10 rfl rfl rfl rfl (Arr.one (H10.arrR (i := 1) rfl)) Fa.I28 (fun w11 H11 => ?_))
    refine WL.nil ?_
    refine WQ.next ?_
    refine WC.seq ?_
    refine WC.region ?_
    refine WL.op rfl rfl (op_move rfl ?_)
    refine WL.op rfl rfl (op_nilCheck rfl ?_)
    refine WL.op rfl rfl (op_fieldAddr rfl Fa.F54_0 ?_)
    refine WL.op rfl rfl (op_fieldAddr rfl Fa.F30_2 ?_)
    refine WL.op rfl rfl (op_load rfl (H11.cell (i := 0) rfl rfl) Try.underlying28 rfl ?_)
    refine WL.op rfl rfl (op_lenA Try.underlying28 rfl (H11.arrR (i := 1) rfl) ?_)
    refine WL.op rfl rfl (op_gtrN (b := 16) rfl rfl ?_)
    refine WL.nil ?_
    refine WQ.next ?_
    refine WC.cond rfl (fun (hb12 : (decide ((cpt 0 l9 g.ps.length).length > 16)) = true) => ?_) (fun (hb12 : (decide ((cpt 0 l9 g.ps.length).length > 16)) = false) => ?_)
    ·
      have hc12 := of_decide_eq_true hb12
      refine WC.seq ?_
      refine WC.region ?_
      refine WL.op rfl rfl (op_build (cs := [_, _, _, _]) Fa.I30 Fa.PL30 rfl rfl ?_)
      refine WL.op rfl rfl (op_storeBW (i := 2) H11 rfl rfl rfl rfl rfl Fa.I30 (fun w13 H13 => ?_))
      refine WL.op rfl rfl (op_assign rfl ?_)
      refine WL.nil ?_
      refine WQ.next ?_
      refine WC.ret ?_
      refine WQ.thenRet ?_
      refine WQ.out (.cell rfl (run_loadVarS (vs := [_, _, _, _]) (H13.cells (i := 2) rfl rfl) Try.underlying30 rfl Fa.I30 rfl) (.tmp rfl .nil)) ?_
      have hgt := of_decide_eq_true hb12
      exact ⟨_, _, cpt 0 l9 g.ps.length, by rw [show gaM g _ = Mf.none from if_pos hgt, show gaE _ = 4 from if_pos hgt]; rfl, hcp.1, hcp.2, by rw [show gaM g _ = Mf.none from if_pos hgt]; exact (((H13.nilRow 51 1).nilRow 50 2).sel [4, 5] rfl rfl).triv⟩
    ·
      have hc12 := of_decide_eq_false hb12
      refine WC.skip ?_
      refine WQ.next ?_
      refine WC.seq ?_
      refine WC.region ?_
      refine WL.op rfl rfl (op_move rfl ?_)
      refine WL.op rfl rfl (op_nilCheck rfl ?_)
      refine WL.op rfl rfl (op_fieldAddr rfl Fa.F54_0 ?_)
      refine WL.op rfl rfl (op_loadS (vs := [_, _, _, _]) rfl (H11.cells (i := 0) rfl rfl) Try.underlying30 rfl Fa.I30 rfl ?_)
      refine WL.op rfl rfl (op_storeBW (i := 2) H11 rfl rfl rfl rfl (one_cons rfl (one_cons (Arr.one (H11.arrR (i := 3) rfl)) (one_cons (Arr.one (H11.arrR (i := 1) rfl)) (one_cons rfl one_nil)))) Fa.I30 (fun w14 H14 => ?_))
      refine WL.op rfl rfl (op_assign rfl ?_)
      refine WL.nil ?_
      refine WQ.next ?_
      refine WC.ret ?_
      refine WQ.out (.cell rfl (run_loadVarS (vs := [_, _, _, _]) (H14.cells (i := 2) rfl rfl) Try.underlying30 rfl Fa.I30 rfl) (.tmp rfl .nil)) ?_
      have hgt := of_decide_eq_false hb12
      obtain rfl : k = 16 := by omega
      exact ⟨_, _, cpt 0 l9 g.ps.length, by rw [show gaM g _ = _ from if_neg hgt, show gaE _ = 0 from if_neg hgt]; rfl, hcp.1, hcp.2, by rw [show gaM g _ = _ from if_neg hgt]; exact (H14.sel [1, 3] rfl rfl).triv⟩
set_option maxHeartbeats 1000000 in
set_option maxRecDepth 100000 in
theorem dof_ok (lv : Value) (l : List Nt) (w : World) (hA : Arr w lv 3 l.length (List.flatMap ntc l)) (hn : l.length < 2 ^ 45) :
    Calls Try.prog 9 #[lv] w (fun e w' => ∃ v u, e = .returned (.tuple #[.agg #[vU32 (ofM l).pg, v, u, .bool (ofM l).con], vN (ofE l)]) ∧ Own [] w w' [.row v 50 2 ((ofM l).xs).length (List.flatMap xtc (ofM l).xs), .row u 51 1 ((ofM l).ps).length (List.map vU16 (ofM l).ps)]) := by
  refine enter (args := [lv]) Try.func9 rfl rfl ?_
  have H0 : Own [] w w [] := Own.start w []
  refine WC.seq ?_
  refine WC.region ?_
  refine WL.op rfl rfl (op_alloc H0 Fa.I30 (fun b1 w1 H1 => ?_))
  refine WL.op rfl rfl (op_assign rfl ?_)
  refine WL.nil ?_
  refine WQ.next ?_
  refine WC.seq ?_
  refine WC.region ?_
  refine WL.op rfl rfl (op_alloc H1 Fa.I54 (fun b2 w2 H2 => ?_))
  refine WL.nil ?_
  refine WQ.next ?_
  refine WC.seq ?_
  refine WC.seq ?_
  refine WC.region ?_
  have H3 := H2.nilRow 51 1
  refine WL.op rfl rfl (op_move rfl ?_)
  refine WL.op rfl rfl (op_lenA Try.underlying22 rfl (H3.arr hA) ?_)
  refine WL.op rfl rfl (op_move rfl ?_)
  refine WL.nil ?_
  refine WQ.next ?_
  refine WC.block ?_
  refine WC.loop (α := Nat × Value) (fun (k, p) => [(0, lv), (2, (ptr b1 0)), (4, (ptr b2 0)), (8, lv), (9, (vN l.length)), (10, (vN k))]) (fun (k, p) w' => (k ≤ l.length ∧ (∀ j, j < k → noteB (l.getD j Nt.zero) = true)) ∧ Own [] w w' [.blk b1 [(vU32 0), (.slice none 0 0), (.slice none 0 0), (.bool false)] 30, .blk b2 ([(vU32 (gaTo l k).pg), (.slice none 0 0), p, (.bool (gaTo l k).con)] ++ (List.map vU32 (gaTo l k).bl)) 54, .row p 51 1 (gaTo l k).ps.length (List.map vU16 (gaTo l k).ps)]) (fun (k, p) => l.length - k) (0, .slice none 0 0) ⟨⟨Nat.zero_le _, fun j h => by omega⟩, H3⟩ ⟨rfl, rfl, rfl, rfl, rfl, rfl, trivial⟩ ?_
  rintro ⟨k, p⟩ w4 ⟨⟨hk1, hok⟩, H4⟩
  show WC _ _ _ _ _ [(0, lv), (2, (ptr b1 0)), (4, (ptr b2 0)), (8, lv), (9, (vN l.length)), (10, (vN k))] _
  have hgl := gaTo_len (l := l) k
  have hgp := gaTo_ps (l := l) k
  refine WC.seq ?_
  refine WC.region ?_
  refine WL.op rfl rfl (op_lssN rfl rfl ?_)
  refine WL.nil ?_
  refine WQ.next ?_
  refine WC.seq ?_
  refine WC.cond rfl (fun (hb5 : (decide (k < l.length)) = true) => ?_) (fun (hb5 : (decide (k < l.length)) = false) => ?_)
  ·
    have hc5 := of_decide_eq_true hb5
    refine WC.skip ?_
    refine WQ.next ?_
    refine WC.seq ?_
    refine WC.block ?_
    refine WC.seq ?_
    refine WC.region ?_
    refine WL.op rfl rfl (op_indexAddr Try.underlying22 Fa.I36 rfl (H4.arr hA) rfl (by omega) ?_)
    refine WL.op rfl rfl (op_loadSP (vs := ntc (l.getD k Nt.zero)) rfl (Arr.atsF (H4.arr hA) (fun _ => rfl) (by decide) Nt.zero (by omega)) Try.underlying36 rfl Fa.I36 rfl ?_)
    refine WL.op rfl rfl (op_alloc H4 Fa.I36 (fun b6 w6 H6 => ?_))
    refine WL.op rfl rfl (op_storeBW (i := 3) H6 rfl rfl rfl rfl rfl Fa.I36 (fun w7 H7 => ?_))
    refine WL.nil ?_
    refine WQ.next ?_
    refine WC.seq ?_
    refine WC.seq ?_
    refine WC.region ?_
    refine WL.op rfl rfl (op_loadS (vs := [_, _, _]) rfl (H7.cells (i := 3) rfl rfl) Try.underlying36 rfl Fa.I36 rfl ?_)
    refine WL.op rfl rfl (op_callF Fa.C24 rfl ((onote_ok (l.getD k Nt.zero) _).mono (fun e w8 hq => ?_)))
    obtain ⟨rfl, hf8⟩ := hq
    refine ⟨_, rfl, ?_⟩
    have H8 := H7.fr' hf8
    refine WL.op rfl rfl (op_assign rfl ?_)
    refine WL.nil ?_
    refine WQ.next ?_
    refine WC.seq ?_
    refine WC.region ?_
    refine WL.op rfl rfl (op_move rfl ?_)
    refine WL.op rfl rfl (op_neqN (b := 0) rfl rfl ?_)
    refine WL.nil ?_
    refine WQ.next ?_
    refine WC.cond rfl (fun (hb9 : (decide ((noteE (l.getD k Nt.zero)) ≠ 0)) = true) => ?_) (fun (hb9 : (decide ((noteE (l.getD k Nt.zero)) ≠ 0)) = false) => ?_)
    ·
      have hc9 := of_decide_eq_true hb9
      refine WC.seq ?_
      refine WC.region ?_
      refine WL.op rfl rfl (op_build (cs := [_, _, _, _]) Fa.I30 Fa.PL30 rfl rfl ?_)
      refine WL.op rfl rfl (op_move rfl ?_)
      refine WL.op rfl rfl (op_storeBW (i := 0) H8 rfl rfl rfl rfl rfl Fa.I30 (fun w10 H10 => ?_))
      refine WL.op rfl rfl (op_assign rfl ?_)
      refine WL.nil ?_
      refine WQ.next ?_
      refine WC.ret ?_
      refine WQ.thenRet ?_
      refine WQ.inRet ?_
      refine WQ.thenRet ?_
      refine WQ.thenRet ?_
      refine WQ.inRet ?_
      refine WQ.thenRet ?_
      refine WQ.out (.cell rfl (run_loadVarS (vs := [_, _, _, _]) (H10.cells (i := 0) rfl rfl) Try.underlying30 rfl Fa.I30 rfl) (.tmp rfl .nil)) ?_
      have hbd := noteE_bad hb9
      have hob := of_bad (k := k) (by omega) hbd.1
      rw [hob.1, hob.2, hbd.2]
      exact ⟨_, _, rfl, ((H10.nilRow 50 2).nilRow 51 1).sel [4, 5] rfl rfl⟩
    ·
      have hc9 := of_decide_eq_false hb9
      refine WC.skip ?_
      refine WQ.next ?_
      refine WC.region ?_
      refine WL.op rfl rfl (op_loadS (vs := [_, _, _]) rfl (H8.cells (i := 3) rfl rfl) Try.underlying36 rfl Fa.I36 rfl ?_)
      refine WL.op rfl rfl (op_callF Fa.C25 rfl ((gnote_ok (gaTo l k) (l.getD k Nt.zero) b2 p _ _ (H8.part [1, 2] rfl rfl) (noteE_ok (by assumption)) hgl (by omega)).mono (fun e w11 hq => ?_)))
      obtain ⟨p11, rfl, hq11⟩ := hq
      refine ⟨_, rfl, ?_⟩
      have H11 : Own [] w w11 [.blk b1 [(vU32 0), (.slice none 0 0), (.slice none 0 0), (.bool false)] 30, .blk b2 ([(vU32 (gaAdd (gaTo l k) (l.getD k Nt.zero)).pg), (.slice none 0 0), p11, (.bool (gaAdd (gaTo l k) (l.getD k Nt.zero)).con)] ++ (List.map vU32 (gaAdd (gaTo l k) (l.getD k Nt.zero)).bl)) 54, .row p11 51 1 ((gaAdd (gaTo l k) (l.getD k Nt.zero)).ps).length (List.map vU16 (gaAdd (gaTo l k) (l.getD k Nt.zero)).ps), .blk b6 [(vU8 (l.getD k Nt.zero).kind), (vU32 (l.getD k Nt.zero).n), (vU32 (l.getD k Nt.zero).m)] 36] := H8.splice [1, 2] [.blk b2 ([(vU32 (gaAdd (gaTo l k) (l.getD k Nt.zero)).pg), (.slice none 0 0), p11, (.bool (gaAdd (gaTo l k) (l.getD k Nt.zero)).con)] ++ (List.map vU32 (gaAdd (gaTo l k) (l.getD k Nt.zero)).bl)) 54, .row p11 51 1 ((gaAdd (gaTo l k) (l.getD k Nt.zero)).ps).length (List.map vU16 (gaAdd (gaTo l k) (l.getD k Nt.zero)).ps)] [] rfl rfl hq11 (Fits.solid True.intro (Fits.solid True.intro Fits.nil))
      refine WL.nil ?_
      refine WQ.inNormal ?_
      refine WQ.next ?_
      refine WC.region ?_
      refine WL.op rfl rfl (op_addN (b := 1) rfl rfl (by omega) ?_)
      refine WL.op rfl rfl (op_move rfl ?_)
      refine WL.nil ?_
      exact WQ.round (k + 1, p11) ⟨⟨by omega, allPrev hok (noteE_ok hb9)⟩, (H11.take 3)⟩ ⟨rfl, rfl, rfl, rfl, rfl, rfl, trivial⟩ (by show l.length - (k + 1) < l.length - k; omega)
  ·
    have hc5 := of_decide_eq_false hb5
    refine WC.exit ?_
    refine WQ.thenExit ?_
    refine WQ.thenExit ?_
    refine WQ.inHere ?_
    refine WQ.next ?_
    refine WC.seq ?_
    refine WC.region ?_
    refine WL.op rfl rfl (op_callF Fa.C26 rfl ((gmani_ok (gaTo l k) b2 p _ _ (H4.part [1, 2] rfl rfl) hgl (by omega)).mono (fun e w12 hq => ?_)))
    obtain ⟨v12, u12, ps12, rfl, hr12, hm12, hq12⟩ := hq
    refine ⟨_, rfl, ?_⟩
    have H12 : Own [] w w12 [.blk b1 [(vU32 0), (.slice none 0 0), (.slice none 0 0), (.bool false)] 30, Ent.triv, .row u12 51 1 ((gaM (gaTo l k) ps12).ps).length (List.map vU16 (gaM (gaTo l k) ps12).ps), .row v12 50 2 ((gaM (gaTo l k) ps12).xs).length (List.flatMap xtc (gaM (gaTo l k) ps12).xs)] := H4.splice [1, 2] [Ent.triv, .row u12 51 1 ((gaM (gaTo l k) ps12).ps).length (List.map vU16 (gaM (gaTo l k) ps12).ps)] [.row v12 50 2 ((gaM (gaTo l k) ps12).xs).length (List.flatMap xtc (gaM (gaTo l k) ps12).xs)] rfl rfl hq12 (Fits.fresh (fun b hb => by cases hb) (Fits.solid True.intro (Fits.solid True.intro Fits.nil)))
    refine WL.op rfl rfl (op_extract rfl rfl ?_)
    refine WL.op rfl rfl (op_extract rfl rfl ?_)
    refine WL.op rfl rfl (op_storeBW (i := 0) H12 rfl rfl rfl rfl (one_cons rfl (one_cons (Arr.one (H12.arrR (i := 3) rfl)) (one_cons (Arr.one (H12.arrR (i := 2) rfl)) (one_cons rfl one_nil)))) Fa.I30 (fun w13 H13 => ?_))
    refine WL.op rfl rfl (op_assign rfl ?_)
    refine WL.nil ?_
    refine WQ.next ?_
    refine WC.ret ?_
    refine WQ.out (.cell rfl (run_loadVarS (vs := [_, _, _, _]) (H13.cells (i := 0) rfl rfl) Try.underlying30 rfl Fa.I30 rfl) (.tmp rfl .nil)) ?_
    obtain rfl : k = l.length := by omega
    have hog := of_ga (fun j hj => hok j (by omega)) hr12 hm12
    rw [hog.1, hog.2]
    exact ⟨_, _, rfl, H13.sel [3, 2] rfl rfl⟩
end Go.Proofs.Ytnngbnenekjffaa
/-! from EDem5 -/
namespace Go.Proofs.Ytnngbnenekjffaa
open Go.Owl Go.Spec
end Go.Proofs.Ytnngbnenekjffaa
/-! from EDem6 -/
namespace Go.Proofs.Ytnngbnenekjffaa
open Go.Owl Go.Spec
set_option maxHeartbeats 1000000 in
set_option maxRecDepth 100000 in
theorem dnotes_ok (m : Mf) (ev pv : Value) (w : World) (hE : Arr w ev 2 m.xs.length (List.flatMap xtc m.xs)) (hP : Arr w pv 1 m.ps.length (List.map vU16 m.ps)) (hn : m.xs.length < 2 ^ 42) (hm : m.ps.length < 2 ^ 42) :
    Calls Try.prog 22 #[(.agg #[(vU32 m.pg), ev, pv, (.bool m.con)])] w (fun e w' => ∃ v, e = .returned v ∧ Own [] w w' [.row v 36 3 (notesM m).length (List.flatMap ntc (notesM m))]) := by
  refine enter (args := [(.agg #[(vU32 m.pg), ev, pv, (.bool m.con)])]) Try.func22 rfl rfl ?_
  have H0 : Own [] w w [] := Own.start w []
  refine WC.seq ?_
  refine WC.region ?_
  refine WL.op rfl rfl (op_box H0 rfl rfl (fun b1 w1 H1 => ?_))
  refine WL.op rfl rfl (op_assign rfl ?_)
  have H2 := H1.nilRow 36 3
  refine WL.nil ?_
  refine WQ.next ?_
  refine WC.seq ?_
  refine WC.seq ?_
  refine WC.region ?_
  refine WL.op rfl rfl (op_loadS (vs := [_, _, _, _]) rfl (H2.cells (i := 0) rfl rfl) Try.underlying30 rfl Fa.I30 rfl ?_)
  refine WL.op rfl rfl (op_callF Fa.C15 rfl ((dcheck_ok m.pg _ _ m.xs m.ps m.con _ (H2.arr hE) (H2.arr hP) (by omega) (by omega)).mono (fun e w3 hq => ?_)))
  obtain ⟨rfl, hf3⟩ := hq
  refine ⟨_, rfl, ?_⟩
  have H3 := H2.fr' hf3
  refine WL.op rfl rfl (op_neqN (b := 0) rfl rfl ?_)
  refine WL.nil ?_
  refine WQ.next ?_
  refine WC.cond rfl (fun (hb4 : (decide ((mfE m.pg m.xs m.ps) ≠ 0)) = true) => ?_) (fun (hb4 : (decide ((mfE m.pg m.xs m.ps) ≠ 0)) = false) => ?_)
  ·
    have hc4 := of_decide_eq_true hb4
    refine WC.seq ?_
    refine WC.region ?_
    refine WL.op rfl rfl (op_assign rfl ?_)
    refine WL.nil ?_
    refine WQ.next ?_
    refine WC.ret ?_
    refine WQ.thenRet ?_
    refine WQ.out (.tmp rfl .nil) ?_
    rw [notes_not (mfE_not hb4).1]
    exact ⟨_, rfl, (H3.nilRow 36 3).sel [2] rfl rfl⟩
  ·
    have hc4 := of_decide_eq_false hb4
    refine WC.skip ?_
    refine WQ.next ?_
    refine WC.cut (α := Value) (fun v => [(0, (.agg #[(vU32 m.pg), ev, pv, (.bool m.con)])), (1, (ptr b1 0)), (2, v)]) (fun v w' => Own [] w w' [.blk b1 [(vU32 m.pg), ev, pv, (.bool m.con)] 30, .row v 36 3 (nA m).length (List.flatMap ntc (nA m))]) ?_ ?_
    ·
      refine WC.seq ?_
      refine WC.region ?_
      refine WL.op rfl rfl (op_fieldAddr rfl Fa.F30_0 ?_)
      refine WL.op rfl rfl (op_load rfl (H3.cell (i := 0) rfl rfl) Try.underlying26 rfl ?_)
      refine WL.op rfl rfl (op_gtrU32 (b := 0) rfl rfl ?_)
      refine WL.nil ?_
      refine WQ.next ?_
      refine WC.cond rfl (fun (hb5 : (decide (m.pg > (0 : UInt32))) = true) => ?_) (fun (hb5 : (decide (m.pg > (0 : UInt32))) = false) => ?_)
      ·
        have hc5 := of_decide_eq_true hb5
        refine WC.region ?_
        refine WL.op rfl rfl (op_move rfl ?_)
        refine WL.op rfl rfl (op_fieldAddr rfl Fa.F30_0 ?_)
        refine WL.op rfl rfl (op_load rfl (H3.cell (i := 0) rfl rfl) Try.underlying26 rfl ?_)
        refine WL.op rfl rfl (op_build (cs := [_, _, _]) Fa.I36 Fa.PL36 rfl rfl ?_)
        refine WL.op rfl rfl (op_buildSlice (cs := [_, _, _]) H3 Try.underlying22 Fa.I36 rfl rfl rfl rfl (by decide) (by decide) (fun b6 w6 H6 => ?_))
        refine WL.op rfl rfl (op_appendF (f := ntc) (l := []) (l' := [(Nt.mk 1 m.pg 0)]) (i := 1) H6 Try.underlying22 Fa.I36 rfl rfl rfl rfl (Src.ofArr Try.underlying22 (H6.arrR (i := 2) rfl)) (one_flat (fun _ => by simp [ntc, Value.oneCell'])) (by omega) (by omega) (fun v7 w7 H7 => ?_))
        refine WL.op rfl rfl (op_assign rfl ?_)
        refine WL.nil ?_
        exact WQ.here v7 (Own.rowEqF (i := 1) (f := ntc) (show Own [] w w7 [.blk b1 [(vU32 m.pg), ev, pv, (.bool m.con)] 30, .row v7 36 3 (0 + 1) (List.flatMap ntc ([] ++ [(Nt.mk 1 m.pg 0)]))] from (H7.take 2)) rfl (by rw [nA_yes hb5]; try rfl) (by rw [nA_yes hb5]; try rfl)) ⟨rfl, rfl, rfl, trivial⟩
      ·
        have hc5 := of_decide_eq_false hb5
        refine WC.skip ?_
        exact WQ.here (.slice none 0 0) (Own.rowEqF (i := 1) (f := ntc) (show Own [] w w3 [.blk b1 [(vU32 m.pg), ev, pv, (.bool m.con)] 30, .row (.slice none 0 0) 36 3 0 (List.flatMap ntc [])] from H3) rfl (by rw [nA_no hb5]; try rfl) (by rw [nA_no hb5]; try rfl)) ⟨rfl, rfl, rfl, trivial⟩
    ·
      rintro v w8 H8
      show WC _ _ _ _ _ [(0, (.agg #[(vU32 m.pg), ev, pv, (.bool m.con)])), (1, (ptr b1 0)), (2, v)] _
      refine WC.seq ?_
      refine WC.seq ?_
      refine WC.region ?_
      refine WL.op rfl rfl (op_fieldAddr rfl Fa.F30_1 ?_)
      refine WL.op rfl rfl (op_load rfl (H8.cell (i := 0) rfl rfl) Try.underlying27 rfl ?_)
      refine WL.op rfl rfl (op_lenA Try.underlying27 rfl (H8.arr hE) ?_)
      refine WL.op rfl rfl (op_move rfl ?_)
      refine WL.nil ?_
      refine WQ.next ?_
      refine WC.block ?_
      refine WC.loop (α := Nat × Value) (fun (k, v) => [(0, (.agg #[(vU32 m.pg), ev, pv, (.bool m.con)])), (1, (ptr b1 0)), (2, v), (20, ev), (21, (vN m.xs.length)), (22, (vN k))]) (fun (k, v) w' => (k ≤ m.xs.length) ∧ Own [] w w' [.blk b1 [(vU32 m.pg), ev, pv, (.bool m.con)] 30, .row v 36 3 (nX m k).length (List.flatMap ntc (nX m k))]) (fun (k, v) => m.xs.length - k) (0, v) ⟨Nat.zero_le _, H8⟩ ⟨rfl, rfl, rfl, rfl, rfl, rfl, trivial⟩ ?_
      rintro ⟨k, v⟩ w9 ⟨hk1, H9⟩
      show WC _ _ _ _ _ [(0, (.agg #[(vU32 m.pg), ev, pv, (.bool m.con)])), (1, (ptr b1 0)), (2, v), (20, ev), (21, (vN m.xs.length)), (22, (vN k))] _
      have hnl := nX_len (m := m) k
      refine WC.seq ?_
      refine WC.region ?_
      refine WL.op rfl rfl (op_lssN rfl rfl ?_)
      refine WL.nil ?_
      refine WQ.next ?_
      refine WC.seq ?_
      refine WC.cond rfl (fun (hb10 : (decide (k < m.xs.length)) = true) => ?_) (fun (hb10 : (decide (k < m.xs.length)) = false) => ?_)
      ·
        have hc10 := of_decide_eq_true hb10
        refine WC.skip ?_
        refine WQ.next ?_
        refine WC.seq ?_
        refine WC.block ?_
        refine WC.seq ?_
        refine WC.region ?_
        refine WL.op rfl rfl (op_indexAddr Try.underlying27 Fa.I50 rfl (H9.arr hE) rfl (by omega) ?_)
        refine WL.op rfl rfl (op_loadSP (vs := xtc (m.xs.getD k Xt.zero)) rfl (Arr.atsF (H9.arr hE) (fun _ => rfl) (by decide) Xt.zero (by omega)) Try.underlying50 rfl Fa.I50 rfl ?_)
        refine WL.op rfl rfl (op_alloc H9 Fa.I50 (fun b11 w11 H11 => ?_))
        refine WL.op rfl rfl (op_storeBW (i := 2) H11 rfl rfl rfl rfl rfl Fa.I50 (fun w12 H12 => ?_))
        refine WL.nil ?_
        refine WQ.next ?_
        refine WC.region ?_
        refine WL.op rfl rfl (op_move rfl ?_)
        refine WL.op rfl rfl (op_fieldAddr rfl Fa.F50_0 ?_)
        refine WL.op rfl rfl (op_load rfl (H12.cell (i := 2) rfl rfl) Try.underlying26 rfl ?_)
        refine WL.op rfl rfl (op_fieldAddr rfl Fa.F50_1 ?_)
        refine WL.op rfl rfl (op_load rfl (H12.cell (i := 2) rfl rfl) Try.underlying26 rfl ?_)
        refine WL.op rfl rfl (op_build (cs := [_, _, _]) Fa.I36 Fa.PL36 rfl rfl ?_)
        refine WL.op rfl rfl (op_buildSlice (cs := [_, _, _]) H12 Try.underlying22 Fa.I36 rfl rfl rfl rfl (by decide) (by decide) (fun b13 w13 H13 => ?_))
        refine WL.op rfl rfl (op_appendF (f := ntc) (l := (nX m k)) (l' := [(Nt.mk 2 ((m.xs.getD k Xt.zero).id) ((m.xs.getD k Xt.zero).bl))]) (i := 1) H13 Try.underlying22 Fa.I36 rfl rfl rfl rfl (Src.ofArr Try.underlying22 (H13.arrR (i := 3) rfl)) (one_flat (fun _ => by simp [ntc, Value.oneCell'])) (by omega) (by omega) (fun v14 w14 H14 => ?_))
        refine WL.op rfl rfl (op_assign rfl ?_)
        refine WL.nil ?_
        refine WQ.inNormal ?_
        refine WQ.next ?_
        refine WC.region ?_
        refine WL.op rfl rfl (op_addN (b := 1) rfl rfl (by omega) ?_)
        refine WL.op rfl rfl (op_move rfl ?_)
        refine WL.nil ?_
        exact WQ.round (k + 1, v14) ⟨(by omega), (Own.rowEqF (i := 1) (f := ntc) (show Own [] w w14 [.blk b1 [(vU32 m.pg), ev, pv, (.bool m.con)] 30, .row v14 36 3 ((nX m k).length + 1) (List.flatMap ntc ((nX m k) ++ [(Nt.mk 2 ((m.xs.getD k Xt.zero).id) ((m.xs.getD k Xt.zero).bl))]))] from (H14.take 2)) rfl rfl (by rw [nX, List.length_append]; rfl))⟩ ⟨rfl, rfl, rfl, rfl, rfl, rfl, trivial⟩ (by show m.xs.length - (k + 1) < m.xs.length - k; omega)
      ·
        have hc10 := of_decide_eq_false hb10
        refine WC.exit ?_
        refine WQ.thenExit ?_
        refine WQ.thenExit ?_
        refine WQ.inHere ?_
        refine WQ.next ?_
        refine WC.seq ?_
        refine WC.seq ?_
        refine WC.region ?_
        refine WL.op rfl rfl (op_fieldAddr rfl Fa.F30_2 ?_)
        refine WL.op rfl rfl (op_load rfl (H9.cell (i := 0) rfl rfl) Try.underlying28 rfl ?_)
        refine WL.op rfl rfl (op_lenA Try.underlying28 rfl (H9.arr hP) ?_)
        refine WL.op rfl rfl (op_move rfl ?_)
        refine WL.nil ?_
        refine WQ.next ?_
        refine WC.block ?_
        refine WC.loop (α := Nat × Value) (fun (k, v) => [(0, (.agg #[(vU32 m.pg), ev, pv, (.bool m.con)])), (1, (ptr b1 0)), (2, v), (36, pv), (37, (vN m.ps.length)), (38, (vN k))]) (fun (k, v) w' => (k ≤ m.ps.length) ∧ Own [] w w' [.blk b1 [(vU32 m.pg), ev, pv, (.bool m.con)] 30, .row v 36 3 (nP m k).length (List.flatMap ntc (nP m k))]) (fun (k, v) => m.ps.length - k) (0, v) ⟨Nat.zero_le _, (by have hke : k = m.xs.length := (by omega); have h := (show Own [] w w9 [.blk b1 [(vU32 m.pg), ev, pv, (.bool m.con)] 30, .row v 36 3 (nX m k).length (List.flatMap ntc (nX m k))] from H9); rw [hke] at h; exact h)⟩ ⟨rfl, rfl, rfl, rfl, rfl, rfl, trivial⟩ ?_
        rintro ⟨k, v⟩ w15 ⟨hk2, H15⟩
        show WC _ _ _ _ _ [(0, (.agg #[(vU32 m.pg), ev, pv, (.bool m.con)])), (1, (ptr b1 0)), (2, v), (36, pv), (37, (vN m.ps.length)), (38, (vN k))] _
        have hnl2 := nP_len (m := m) k
        refine WC.seq ?_
        refine WC.region ?_
        refine WL.op rfl rfl (op_lssN rfl rfl ?_)
        refine WL.nil ?_
        refine WQ.next ?_
        refine WC.seq ?_
        refine WC.cond rfl (fun (hb16 : (decide (k < m.ps.length)) = true) => ?_) (fun (hb16 : (decide (k < m.ps.length)) = false) => ?_)
        ·
          have hc16 := of_decide_eq_true hb16
          refine WC.skip ?_
          refine WQ.next ?_
          refine WC.seq ?_
          refine WC.block ?_
          refine WC.seq ?_
          refine WC.region ?_
          refine WL.op rfl rfl (op_indexAddr1 Try.underlying28 Fa.I51 rfl (H15.arr hP) rfl (by omega) ?_)
          refine WL.op rfl rfl (op_load rfl ((H15.arr hP).at (get_map vU16 0 (Arr.ltM (H15.arr hP) (by omega)))) Try.underlying51 rfl ?_)
          refine WL.op rfl rfl (op_assign rfl ?_)
          refine WL.nil ?_
          refine WQ.next ?_
          refine WC.region ?_
          refine WL.op rfl rfl (op_move rfl ?_)
          refine WL.op rfl rfl (op_move rfl ?_)
          refine WL.op rfl rfl (op_convU16U32 (hs := Try.underlying51) (hd := Try.underlying26) rfl ?_)
          refine WL.op rfl rfl (op_build (cs := [_, _, _]) Fa.I36 Fa.PL36 rfl rfl ?_)
          refine WL.op rfl rfl (op_buildSlice (cs := [_, _, _]) H15 Try.underlying22 Fa.I36 rfl rfl rfl rfl (by decide) (by decide) (fun b17 w17 H17 => ?_))
          refine WL.op rfl rfl (op_appendF (f := ntc) (l := (nP m k)) (l' := [(Nt.mk 3 (UInt32.ofNat (m.ps.getD k 0).toNat) 0)]) (i := 1) H17 Try.underlying22 Fa.I36 rfl rfl rfl rfl (Src.ofArr Try.underlying22 (H17.arrR (i := 2) rfl)) (one_flat (fun _ => by simp [ntc, Value.oneCell'])) (by omega) (by omega) (fun v18 w18 H18 => ?_))
          refine WL.op rfl rfl (op_assign rfl ?_)
          refine WL.nil ?_
          refine WQ.inNormal ?_
          refine WQ.next ?_
          refine WC.region ?_
          refine WL.op rfl rfl (op_addN (b := 1) rfl rfl (by omega) ?_)
          refine WL.op rfl rfl (op_move rfl ?_)
          refine WL.nil ?_
          exact WQ.round (k + 1, v18) ⟨(by omega), (Own.rowEqF (i := 1) (f := ntc) (show Own [] w w18 [.blk b1 [(vU32 m.pg), ev, pv, (.bool m.con)] 30, .row v18 36 3 ((nP m k).length + 1) (List.flatMap ntc ((nP m k) ++ [(Nt.mk 3 (UInt32.ofNat (m.ps.getD k 0).toNat) 0)]))] from (H18.take 2)) rfl rfl (by rw [nP, List.length_append]; rfl))⟩ ⟨rfl, rfl, rfl, rfl, rfl, rfl, trivial⟩ (by show m.ps.length - (k + 1) < m.ps.length - k; omega)
        ·
          have hc16 := of_decide_eq_false hb16
          refine WC.exit ?_
          refine WQ.thenExit ?_
          refine WQ.thenExit ?_
          refine WQ.inHere ?_
          refine WQ.next ?_
          refine WC.seq ?_
          refine WC.seq ?_
          refine WC.region ?_
          refine WL.op rfl rfl (op_fieldAddr rfl Fa.F30_3 ?_)
          refine WL.op rfl rfl (op_load rfl (H15.cell (i := 0) rfl rfl) Try.underlying4 rfl ?_)
          refine WL.nil ?_
          refine WQ.next ?_
          refine WC.cond rfl (fun (hb19 : m.con = true) => ?_) (fun (hb19 : m.con = false) => ?_)
          ·
            refine WC.region ?_
            refine WL.op rfl rfl (op_move rfl ?_)
            refine WL.op rfl rfl (op_build (cs := [_, _, _]) Fa.I36 Fa.PL36 rfl rfl ?_)
            refine WL.op rfl rfl (op_buildSlice (cs := [_, _, _]) H15 Try.underlying22 Fa.I36 rfl rfl rfl rfl (by decide) (by decide) (fun b20 w20 H20 => ?_))
            refine WL.op rfl rfl (op_appendF (f := ntc) (l := (nP m k)) (l' := [(Nt.mk 4 0 0)]) (i := 1) H20 Try.underlying22 Fa.I36 rfl rfl rfl rfl (Src.ofArr Try.underlying22 (H20.arrR (i := 2) rfl)) (one_flat (fun _ => by simp [ntc, Value.oneCell'])) (by omega) (by omega) (fun v21 w21 H21 => ?_))
            refine WL.op rfl rfl (op_assign rfl ?_)
            refine WL.nil ?_
            refine WQ.next ?_
            refine WC.seq ?_
            refine WC.region ?_
            refine WL.op rfl rfl (op_move rfl ?_)
            refine WL.op rfl rfl (op_assign rfl ?_)
            refine WL.nil ?_
            refine WQ.next ?_
            refine WC.ret ?_
            refine WQ.out (.tmp rfl .nil) ?_
            have h := (show Own [] w w21 [.blk b1 [(vU32 m.pg), ev, pv, (.bool m.con)] 30, .row v21 36 3 ((nP m k).length + 1) (List.flatMap ntc ((nP m k) ++ [(Nt.mk 4 0 0)])), .row (.slice (some ⟨b20, 0, none⟩) 1 1) 36 3 1 (List.flatMap ntc [(Nt.mk 4 0 0)])] from H21)
            have hke : k = m.ps.length := by omega
            subst hke
            rw [(notes_yes (mfE_may hb4) hb19)]
            exact ⟨_, rfl, (Own.rowEqF (i := 1) (f := ntc) (m' := (nP m m.ps.length ++ [Nt.mk 4 0 0]).length) h rfl rfl (by simp)).sel [1] rfl rfl⟩
          ·
            refine WC.skip ?_
            refine WQ.next ?_
            refine WC.seq ?_
            refine WC.region ?_
            refine WL.op rfl rfl (op_move rfl ?_)
            refine WL.op rfl rfl (op_assign rfl ?_)
            refine WL.nil ?_
            refine WQ.next ?_
            refine WC.ret ?_
            refine WQ.out (.tmp rfl .nil) ?_
            have h := (show Own [] w w15 [.blk b1 [(vU32 m.pg), ev, pv, (.bool m.con)] 30, .row v 36 3 (nP m k).length (List.flatMap ntc (nP m k))] from H15)
            have hke : k = m.ps.length := by omega
            subst hke
            rw [(notes_no (mfE_may hb4) hb19)]
            exact ⟨_, rfl, (Own.rowEqF (i := 1) (f := ntc) (m' := (nP m m.ps.length).length) h rfl rfl (by simp)).sel [1] rfl rfl⟩
end Go.Proofs.Ytnngbnenekjffaa
/-! from EDem7 -/
namespace Go.Proofs.Ytnngbnenekjffaa
open Go.Owl Go.Spec
set_option maxRecDepth 100000 in
theorem cov1_ok (x : Xt) (n : Nt) (q : Nat) (w : World) (hQ : cellsAt w q [(vU8 n.kind), (vU32 n.n), (vU32 n.m)]) :
    Calls Try.prog 47 #[(.agg #[(vU32 x.id), (vU32 x.bl)]), (ptr q 0)] w (fun e w' => e = .returned (.bool (covX n x)) ∧ Fr [] w w') := by
  refine enter (args := [(.agg #[(vU32 x.id), (vU32 x.bl)]), (ptr q 0)]) Try.func47 rfl rfl ?_
  have H0 : Own [] w w [Ent.bo q [(vU8 n.kind), (vU32 n.n), (vU32 n.m)]] := ((Own.start w []).oldB hQ)
  refine WC.seq ?_
  refine WC.region ?_
  refine WL.op rfl rfl (op_box H0 rfl rfl (fun b1 w1 H1 => ?_))
  refine WL.op rfl rfl (op_assign rfl ?_)
  refine WL.nil ?_
  refine WQ.next ?_
  refine WC.seq ?_
  refine WC.region ?_
  refine WL.op rfl rfl (op_fieldAddr rfl Fa.F50_0 ?_)
  refine WL.op rfl rfl (op_load rfl (H1.cell (i := 1) rfl rfl) Try.underlying26 rfl ?_)
  refine WL.op rfl rfl (op_fieldAddr rfl Fa.F36_1 ?_)
  refine WL.op rfl rfl (op_load rfl (H1.cellO (i := 0) rfl rfl) Try.underlying26 rfl ?_)
  refine WL.op rfl rfl (op_eqlU32 rfl rfl ?_)
  refine WL.op rfl rfl (op_move rfl ?_)
  refine WL.split (t := 9) rfl (fun (hb2 : (decide (x.id = n.n)) = true) => ?_) (fun (hb2 : (decide (x.id = n.n)) = false) => ?_)
  ·
    have hc2 := of_decide_eq_true hb2
    refine WL.yes rfl rfl rfl hb2 rfl (op_fieldAddr rfl Fa.F50_1 ?_)
    refine WL.yes rfl rfl rfl hb2 rfl (op_load rfl (H1.cell (i := 1) rfl rfl) Try.underlying26 rfl ?_)
    refine WL.yes rfl rfl rfl hb2 rfl (op_fieldAddr rfl Fa.F36_2 ?_)
    refine WL.yes rfl rfl rfl hb2 rfl (op_load rfl (H1.cellO (i := 0) rfl rfl) Try.underlying26 rfl ?_)
    refine WL.yes rfl rfl rfl hb2 rfl (op_geqU32 rfl rfl ?_)
    refine WL.op rfl rfl (op_pickT rfl hb2 rfl ?_)
    refine WL.op rfl rfl (op_assign rfl ?_)
    refine WL.nil ?_
    refine WQ.next ?_
    refine WC.ret ?_
    refine WQ.out (.tmp rfl .nil) ?_
    exact ⟨by (rw [covX, hb2]) <;> rfl, H1.fr⟩
  ·
    have hc2 := of_decide_eq_false hb2
    refine WL.no rfl rfl rfl hb2 rfl ?_
    refine WL.no rfl rfl rfl hb2 rfl ?_
    refine WL.no rfl rfl rfl hb2 rfl ?_
    refine WL.no rfl rfl rfl hb2 rfl ?_
    refine WL.no rfl rfl rfl hb2 rfl ?_
    refine WL.op rfl rfl (op_pickF rfl hb2 rfl ?_)
    refine WL.op rfl rfl (op_assign rfl ?_)
    refine WL.nil ?_
    refine WQ.next ?_
    refine WC.ret ?_
    refine WQ.out (.tmp rfl .nil) ?_
    exact ⟨by (rw [covX, hb2]) <;> rfl, H1.fr⟩
set_option maxRecDepth 100000 in
theorem idxX2_ok (lv : Value) (l : List Xt) (n : Nt) (q : Nat) (w : World) (hA : Arr w lv 2 l.length (List.flatMap xtc l)) (hQ : cellsAt w q [(vU8 n.kind), (vU32 n.n), (vU32 n.m)]) (hn : l.length < 2 ^ 47) :
    Calls Try.prog 48 #[lv, (.func (.func 47) #[] #[(ptr q 0)])] w (fun e w' => e = .returned (vI (fidx (covX n) l)) ∧ Fr [] w w') := by
  refine enter (args := [lv, (.func (.func 47) #[] #[(ptr q 0)])]) Try.func48 rfl rfl ?_
  have H0 : Own [] w w [Ent.bo q [(vU8 n.kind), (vU32 n.n), (vU32 n.m)]] := ((Own.start w []).oldB hQ)
  refine WC.seq ?_
  refine WC.region ?_
  refine WL.op rfl rfl (op_assign rfl ?_)
  refine WL.nil ?_
  refine WQ.next ?_
  refine WC.seq ?_
  refine WC.seq ?_
  refine WC.region ?_
  refine WL.op rfl rfl (op_move rfl ?_)
  refine WL.op rfl rfl (op_lenA Try.underlying27 rfl (H0.arr hA) ?_)
  refine WL.op rfl rfl (op_move rfl ?_)
  refine WL.nil ?_
  refine WQ.next ?_
  refine WC.block ?_
  refine WC.loop (α := Nat) (fun k => [(0, lv), (1, (.func (.func 47) #[] #[(ptr q 0)])), (7, (vN l.length)), (8, (vN k))]) (fun k w' => (k ≤ l.length ∧ (∀ j, j < k → (covX n) (l.getD j Xt.zero) = false)) ∧ Own [] w w' [Ent.bo q [(vU8 n.kind), (vU32 n.n), (vU32 n.m)]]) (fun k => l.length - k) 0 ⟨⟨Nat.zero_le _, fun j h => by omega⟩, H0⟩ ⟨rfl, rfl, rfl, rfl, trivial⟩ ?_
  rintro k w1 ⟨⟨hk1, hok⟩, H1⟩
  show WC _ _ _ _ _ [(0, lv), (1, (.func (.func 47) #[] #[(ptr q 0)])), (7, (vN l.length)), (8, (vN k))] _
  refine WC.seq ?_
  refine WC.region ?_
  refine WL.op rfl rfl (op_lssN rfl rfl ?_)
  refine WL.nil ?_
  refine WQ.next ?_
  refine WC.seq ?_
  refine WC.cond rfl (fun (hb2 : (decide (k < l.length)) = true) => ?_) (fun (hb2 : (decide (k < l.length)) = false) => ?_)
  ·
    have hc2 := of_decide_eq_true hb2
    refine WC.skip ?_
    refine WQ.next ?_
    refine WC.seq ?_
    refine WC.block ?_
    refine WC.seq ?_
    refine WC.region ?_
    refine WL.op rfl rfl (op_move rfl ?_)
    refine WL.op rfl rfl (op_assign rfl ?_)
    refine WL.nil ?_
    refine WQ.next ?_
    refine WC.seq ?_
    refine WC.region ?_
    refine WL.op rfl rfl (op_move rfl ?_)
    refine WL.op rfl rfl (op_move rfl ?_)
    refine WL.op rfl rfl (op_move rfl ?_)
    refine WL.op rfl rfl (op_indexAddr Try.underlying27 Fa.I50 rfl (H1.arr hA) rfl (by omega) ?_)
    refine WL.op rfl rfl (op_loadSP (vs := xtc (l.getD k Xt.zero)) rfl (Arr.atsF (H1.arr hA) (fun _ => rfl) (by decide) Xt.zero (by omega)) Try.underlying50 rfl Fa.I50 rfl ?_)
    refine WL.op rfl rfl (op_call (f := 47) rfl Fa.C47 rfl ((cov1_ok (l.getD k Xt.zero) n q _ (H1.cellsAtO (i := 0) rfl)).mono (fun e w3 hq => ?_)))
    obtain ⟨rfl, hf3⟩ := hq
    refine ⟨_, rfl, ?_⟩
    have H3 := H1.fr' hf3
    refine WL.nil ?_
    refine WQ.next ?_
    refine WC.cond rfl (fun (hb4 : (covX n (l.getD k Xt.zero)) = true) => ?_) (fun (hb4 : (covX n (l.getD k Xt.zero)) = false) => ?_)
    ·
      refine WC.seq ?_
      refine WC.region ?_
      refine WL.op rfl rfl (op_move rfl ?_)
      refine WL.op rfl rfl (op_assign rfl ?_)
      refine WL.nil ?_
      refine WQ.next ?_
      refine WC.ret ?_
      refine WQ.inRet ?_
      refine WQ.thenRet ?_
      refine WQ.thenRet ?_
      refine WQ.inRet ?_
      refine WQ.thenRet ?_
      refine WQ.out (.tmp rfl .nil) ?_
      exact ⟨by rw [fidx_yes (d := Xt.zero) (by omega) hok hb4]; rfl, H3.fr⟩
    ·
      refine WC.skip ?_
      refine WQ.inNormal ?_
      refine WQ.next ?_
      refine WC.region ?_
      refine WL.op rfl rfl (op_addN (b := 1) rfl rfl (by omega) ?_)
      refine WL.op rfl rfl (op_move rfl ?_)
      refine WL.nil ?_
      exact WQ.round (k + 1) ⟨⟨by omega, allPrev hok hb4⟩, H3⟩ ⟨rfl, rfl, rfl, rfl, trivial⟩ (by omega)
  ·
    have hc2 := of_decide_eq_false hb2
    refine WC.exit ?_
    refine WQ.thenExit ?_
    refine WQ.thenExit ?_
    refine WQ.inHere ?_
    refine WQ.next ?_
    refine WC.seq ?_
    refine WC.region ?_
    refine WL.op rfl rfl (op_assign rfl ?_)
    refine WL.nil ?_
    refine WQ.next ?_
    refine WC.ret ?_
    refine WQ.out (.tmp rfl .nil) ?_
    exact ⟨by rw [fidx_no (d := Xt.zero) (fun j hj => hok j (by omega))]; rfl, H1.fr⟩
set_option maxRecDepth 100000 in
theorem conX2_ok (lv : Value) (l : List Xt) (n : Nt) (q : Nat) (w : World) (hA : Arr w lv 2 l.length (List.flatMap xtc l)) (hQ : cellsAt w q [(vU8 n.kind), (vU32 n.n), (vU32 n.m)]) (hn : l.length < 2 ^ 47) :
    Calls Try.prog 32 #[lv, (.func (.func 47) #[] #[(ptr q 0)])] w (fun e w' => e = .returned (.bool (l.any (covX n))) ∧ Fr [] w w') := by
  refine enter (args := [lv, (.func (.func 47) #[] #[(ptr q 0)])]) Try.func32 rfl rfl ?_
  have H0 : Own [] w w [Ent.bo q [(vU8 n.kind), (vU32 n.n), (vU32 n.m)]] := ((Own.start w []).oldB hQ)
  refine WC.seq ?_
  refine WC.region ?_
  refine WL.op rfl rfl (op_assign rfl ?_)
  refine WL.nil ?_
  refine WQ.next ?_
  refine WC.seq ?_
  refine WC.region ?_
  refine WL.op rfl rfl (op_move rfl ?_)
  refine WL.op rfl rfl (op_move rfl ?_)
  refine WL.op rfl rfl (op_callF Fa.C48 rfl ((idxX2_ok _ l n q _ (H0.arr hA) (H0.cellsAtO (i := 0) rfl) (by omega)).mono (fun e w1 hq => ?_)))
  obtain ⟨rfl, hf1⟩ := hq
  refine ⟨_, rfl, ?_⟩
  have H1 := H0.fr' hf1
  refine WL.op rfl rfl (op_geqI (b := (0 : Int)) rfl rfl ?_)
  refine WL.op rfl rfl (op_assign rfl ?_)
  refine WL.nil ?_
  refine WQ.next ?_
  refine WC.ret ?_
  refine WQ.out (.tmp rfl .nil) ?_
  exact ⟨by rw [← fidx_any]; rfl, H1.fr⟩
set_option maxRecDepth 100000 in
theorem dcovers_ok (m : Mf) (ev pv : Value) (x : Nt) (w : World) (hE : Arr w ev 2 m.xs.length (List.flatMap xtc m.xs)) (hP : Arr w pv 1 m.ps.length (List.map vU16 m.ps)) (hn : m.xs.length < 2 ^ 45) (hm : m.ps.length < 2 ^ 45) :
    Calls Try.prog 31 #[(.agg #[(vU32 m.pg), ev, pv, (.bool m.con)]), (.agg #[(vU8 x.kind), (vU32 x.n), (vU32 x.m)])] w (fun e w' => e = .returned (.bool (covN m x)) ∧ Fr [] w w') := by
  refine enter (args := [(.agg #[(vU32 m.pg), ev, pv, (.bool m.con)]), (.agg #[(vU8 x.kind), (vU32 x.n), (vU32 x.m)])]) Try.func31 rfl rfl ?_
  have H0 : Own [] w w [] := Own.start w []
  refine WC.seq ?_
  refine WC.region ?_
  refine WL.op rfl rfl (op_box H0 rfl rfl (fun b1 w1 H1 => ?_))
  refine WL.op rfl rfl (op_box H1 rfl rfl (fun b2 w2 H2 => ?_))
  refine WL.op rfl rfl (op_assign rfl ?_)
  refine WL.nil ?_
  refine WQ.next ?_
  refine WC.seq ?_
  refine WC.seq ?_
  refine WC.region ?_
  refine WL.op rfl rfl (op_fieldAddr rfl Fa.F36_0 ?_)
  refine WL.op rfl rfl (op_load rfl (H2.cell (i := 1) rfl rfl) Try.underlying5 rfl ?_)
  refine WL.nil ?_
  refine WQ.next ?_
  refine WC.block ?_
  refine WC.seq ?_
  refine WC.region ?_
  refine WL.op rfl rfl (op_eqlU8 (b := 1) rfl rfl ?_)
  refine WL.op rfl rfl (op_assign rfl ?_)
  refine WL.nil ?_
  refine WQ.next ?_
  refine WC.cond rfl (fun (hb3 : (decide (x.kind = (1 : UInt8))) = true) => ?_) (fun (hb3 : (decide (x.kind = (1 : UInt8))) = false) => ?_)
  ·
    have hc3 := of_decide_eq_true hb3
    refine WC.seq ?_
    refine WC.region ?_
    refine WL.op rfl rfl (op_fieldAddr rfl Fa.F30_0 ?_)
    refine WL.op rfl rfl (op_load rfl (H2.cell (i := 0) rfl rfl) Try.underlying26 rfl ?_)
    refine WL.op rfl rfl (op_fieldAddr rfl Fa.F36_1 ?_)
    refine WL.op rfl rfl (op_load rfl (H2.cell (i := 1) rfl rfl) Try.underlying26 rfl ?_)
    refine WL.op rfl rfl (op_geqU32 rfl rfl ?_)
    refine WL.op rfl rfl (op_assign rfl ?_)
    refine WL.nil ?_
    refine WQ.next ?_
    refine WC.ret ?_
    refine WQ.inRet ?_
    refine WQ.thenRet ?_
    refine WQ.out (.tmp rfl .nil) ?_
    exact ⟨by (rw [covN, hb3]) <;> rfl, H2.fr⟩
  ·
    have hc3 := of_decide_eq_false hb3
    refine WC.seq ?_
    refine WC.region ?_
    refine WL.op rfl rfl (op_eqlU8 (b := 2) rfl rfl ?_)
    refine WL.op rfl rfl (op_assign rfl ?_)
    refine WL.nil ?_
    refine WQ.next ?_
    refine WC.cond rfl (fun (hb4 : (decide (x.kind = (2 : UInt8))) = true) => ?_) (fun (hb4 : (decide (x.kind = (2 : UInt8))) = false) => ?_)
    ·
      have hc4 := of_decide_eq_true hb4
      refine WC.seq ?_
      refine WC.region ?_
      refine WL.op rfl rfl (op_fieldAddr rfl Fa.F30_1 ?_)
      refine WL.op rfl rfl (op_load rfl (H2.cell (i := 0) rfl rfl) Try.underlying27 rfl ?_)
      refine WL.op rfl rfl (op_makeFunc rfl rfl ?_)
      refine WL.op rfl rfl (op_callF Fa.C32 rfl ((conX2_ok _ m.xs x b2 _ (H2.arr hE) (H2.cellsAt (i := 1) rfl) (by omega)).mono (fun e w5 hq => ?_)))
      obtain ⟨rfl, hf5⟩ := hq
      refine ⟨_, rfl, ?_⟩
      have H5 := H2.fr' hf5
      refine WL.op rfl rfl (op_assign rfl ?_)
      refine WL.nil ?_
      refine WQ.next ?_
      refine WC.ret ?_
      refine WQ.inRet ?_
      refine WQ.thenRet ?_
      refine WQ.out (.tmp rfl .nil) ?_
      exact ⟨by rw [covN_x hb3 hb4]; rfl, H5.fr⟩
    ·
      have hc4 := of_decide_eq_false hb4
      refine WC.seq ?_
      refine WC.region ?_
      refine WL.op rfl rfl (op_eqlU8 (b := 3) rfl rfl ?_)
      refine WL.op rfl rfl (op_assign rfl ?_)
      refine WL.nil ?_
      refine WQ.next ?_
      refine WC.cond rfl (fun (hb6 : (decide (x.kind = (3 : UInt8))) = true) => ?_) (fun (hb6 : (decide (x.kind = (3 : UInt8))) = false) => ?_)
      ·
        have hc6 := of_decide_eq_true hb6
        refine WC.seq ?_
        refine WC.region ?_
        refine WL.op rfl rfl (op_fieldAddr rfl Fa.F30_2 ?_)
        refine WL.op rfl rfl (op_load rfl (H2.cell (i := 0) rfl rfl) Try.underlying28 rfl ?_)
        refine WL.op rfl rfl (op_fieldAddr rfl Fa.F36_1 ?_)
        refine WL.op rfl rfl (op_load rfl (H2.cell (i := 1) rfl rfl) Try.underlying26 rfl ?_)
        refine WL.op rfl rfl (op_convU32U16 (hs := Try.underlying26) (hd := Try.underlying51) rfl ?_)
        refine WL.op rfl rfl (op_callF Fa.C38 rfl ((con16_ok _ m.ps (UInt16.ofNat x.n.toNat) _ (H2.arr hP) (by omega)).mono (fun e w7 hq => ?_)))
        obtain ⟨rfl, hf7⟩ := hq
        refine ⟨_, rfl, ?_⟩
        have H7 := H2.fr' hf7
        refine WL.op rfl rfl (op_assign rfl ?_)
        refine WL.nil ?_
        refine WQ.next ?_
        refine WC.ret ?_
        refine WQ.inRet ?_
        refine WQ.thenRet ?_
        refine WQ.out (.tmp rfl .nil) ?_
        exact ⟨by (rw [covN, hb3, hb4, hb6]) <;> rfl, H7.fr⟩
      ·
        have hc6 := of_decide_eq_false hb6
        refine WC.skip ?_
        refine WQ.inNormal ?_
        refine WQ.next ?_
        refine WC.seq ?_
        refine WC.region ?_
        refine WL.op rfl rfl (op_fieldAddr rfl Fa.F30_3 ?_)
        refine WL.op rfl rfl (op_load rfl (H2.cell (i := 0) rfl rfl) Try.underlying4 rfl ?_)
        refine WL.op rfl rfl (op_assign rfl ?_)
        refine WL.nil ?_
        refine WQ.next ?_
        refine WC.ret ?_
        refine WQ.out (.tmp rfl .nil) ?_
        exact ⟨by (rw [covN, hb3, hb4, hb6]) <;> rfl, H2.fr⟩
set_option maxRecDepth 100000 in
theorem cov2_ok (m : Mf) (ev pv : Value) (x : Nt) (q : Nat) (w : World) (hQ : cellsAt w q [(vU32 m.pg), ev, pv, (.bool m.con)]) (hE : Arr w ev 2 m.xs.length (List.flatMap xtc m.xs)) (hP : Arr w pv 1 m.ps.length (List.map vU16 m.ps)) (hn : m.xs.length < 2 ^ 45) (hm : m.ps.length < 2 ^ 45) :
    Calls Try.prog 30 #[(.agg #[(vU8 x.kind), (vU32 x.n), (vU32 x.m)]), (ptr q 0)] w (fun e w' => e = .returned (.bool (!covN m x)) ∧ Fr [] w w') := by
  refine enter (args := [(.agg #[(vU8 x.kind), (vU32 x.n), (vU32 x.m)]), (ptr q 0)]) Try.func30 rfl rfl ?_
  have H0 : Own [] w w [Ent.bo q [(vU32 m.pg), ev, pv, (.bool m.con)]] := ((Own.start w []).oldB hQ)
  refine WC.seq ?_
  refine WC.region ?_
  refine WL.op rfl rfl (op_box H0 rfl rfl (fun b1 w1 H1 => ?_))
  refine WL.op rfl rfl (op_assign rfl ?_)
  refine WL.nil ?_
  refine WQ.next ?_
  refine WC.seq ?_
  refine WC.region ?_
  refine WL.op rfl rfl (op_loadS (vs := [_, _, _, _]) rfl (H1.cellsO (i := 0) rfl rfl) Try.underlying30 rfl Fa.I30 rfl ?_)
  refine WL.op rfl rfl (op_loadS (vs := [_, _, _]) rfl (H1.cells (i := 1) rfl rfl) Try.underlying36 rfl Fa.I36 rfl ?_)
  refine WL.op rfl rfl (op_callF Fa.C31 rfl ((dcovers_ok m _ _ x _ (H1.arr hE) (H1.arr hP) (by omega) (by omega)).mono (fun e w2 hq => ?_)))
  obtain ⟨rfl, hf2⟩ := hq
  refine ⟨_, rfl, ?_⟩
  have H2 := H1.fr' hf2
  refine WL.op rfl rfl (op_not rfl ?_)
  refine WL.op rfl rfl (op_assign rfl ?_)
  refine WL.nil ?_
  refine WQ.next ?_
  refine WC.ret ?_
  refine WQ.out (.tmp rfl .nil) ?_
  exact ⟨rfl, H2.fr⟩
set_option maxRecDepth 100000 in
theorem idxN2_ok (lv : Value) (l : List Nt) (m : Mf) (ev pv : Value) (q : Nat) (w : World) (hA : Arr w lv 3 l.length (List.flatMap ntc l)) (hQ : cellsAt w q [(vU32 m.pg), ev, pv, (.bool m.con)]) (hE : Arr w ev 2 m.xs.length (List.flatMap xtc m.xs)) (hP : Arr w pv 1 m.ps.length (List.map vU16 m.ps)) (hn : m.xs.length < 2 ^ 45) (hm : m.ps.length < 2 ^ 45) (hl : l.length < 2 ^ 47) :
    Calls Try.prog 46 #[lv, (.func (.func 30) #[] #[(ptr q 0)])] w (fun e w' => e = .returned (vI (fidx (fun n => !covN m n) l)) ∧ Fr [] w w') := by
  refine enter (args := [lv, (.func (.func 30) #[] #[(ptr q 0)])]) Try.func46 rfl rfl ?_
  have H0 : Own [] w w [Ent.bo q [(vU32 m.pg), ev, pv, (.bool m.con)]] := ((Own.start w []).oldB hQ)
  refine WC.seq ?_
  refine WC.region ?_
  refine WL.op rfl rfl (op_assign rfl ?_)
  refine WL.nil ?_
  refine WQ.next ?_
  refine WC.seq ?_
  refine WC.seq ?_
  refine WC.region ?_
  refine WL.op rfl rfl (op_move rfl ?_)
  refine WL.op rfl rfl (op_lenA Try.underlying22 rfl (H0.arr hA) ?_)
  refine WL.op rfl rfl (op_move rfl ?_)
  refine WL.nil ?_
  refine WQ.next ?_
  refine WC.block ?_
  refine WC.loop (α := Nat) (fun k => [(0, lv), (1, (.func (.func 30) #[] #[(ptr q 0)])), (7, (vN l.length)), (8, (vN k))]) (fun k w' => (k ≤ l.length ∧ (∀ j, j < k → (fun n => !covN m n) (l.getD j Nt.zero) = false)) ∧ Own [] w w' [Ent.bo q [(vU32 m.pg), ev, pv, (.bool m.con)]]) (fun k => l.length - k) 0 ⟨⟨Nat.zero_le _, fun j h => by omega⟩, H0⟩ ⟨rfl, rfl, rfl, rfl, trivial⟩ ?_
  rintro k w1 ⟨⟨hk1, hok⟩, H1⟩
  show WC _ _ _ _ _ [(0, lv), (1, (.func (.func 30) #[] #[(ptr q 0)])), (7, (vN l.length)), (8, (vN k))] _
  refine WC.seq ?_
  refine WC.region ?_
  refine WL.op rfl rfl (op_lssN rfl rfl ?_)
  refine WL.nil ?_
  refine WQ.next ?_
  refine WC.seq ?_
  refine WC.cond rfl (fun (hb2 : (decide (k < l.length)) = true) => ?_) (fun (hb2 : (decide (k < l.length)) = false) => ?_)
  ·
    have hc2 := of_decide_eq_true hb2
    refine WC.skip ?_
    refine WQ.next ?_
    refine WC.seq ?_
    refine WC.block ?_
    refine WC.seq ?_
    refine WC.region ?_
    refine WL.op rfl rfl (op_move rfl ?_)
    refine WL.op rfl rfl (op_assign rfl ?_)
    refine WL.nil ?_
    refine WQ.next ?_
    refine WC.seq ?_
    refine WC.region ?_
    refine WL.op rfl rfl (op_move rfl ?_)
    refine WL.op rfl rfl (op_move rfl ?_)
    refine WL.op rfl rfl (op_move rfl ?_)
    refine WL.op rfl rfl (op_indexAddr Try.underlying22 Fa.I36 rfl (H1.arr hA) rfl (by omega) ?_)
    refine WL.op rfl rfl (op_loadSP (vs := ntc (l.getD k Nt.zero)) rfl (Arr.atsF (H1.arr hA) (fun _ => rfl) (by decide) Nt.zero (by omega)) Try.underlying36 rfl Fa.I36 rfl ?_)
    refine WL.op rfl rfl (op_call (f := 30) rfl Fa.C30 rfl ((cov2_ok m _ _ (l.getD k Nt.zero) q _ (H1.cellsAtO (i := 0) rfl) (H1.arr hE) (H1.arr hP) (by omega) (by omega)).mono (fun e w3 hq => ?_)))
    obtain ⟨rfl, hf3⟩ := hq
    refine ⟨_, rfl, ?_⟩
    have H3 := H1.fr' hf3
    refine WL.nil ?_
    refine WQ.next ?_
    refine WC.cond rfl (fun (hb4 : (!covN m (l.getD k Nt.zero)) = true) => ?_) (fun (hb4 : (!covN m (l.getD k Nt.zero)) = false) => ?_)
    ·
      have hn4 := (Bool.not_eq_true' _).mp hb4
      refine WC.seq ?_
      refine WC.region ?_
      refine WL.op rfl rfl (op_move rfl ?_)
      refine WL.op rfl rfl (op_assign rfl ?_)
      refine WL.nil ?_
      refine WQ.next ?_
      refine WC.ret ?_
      refine WQ.inRet ?_
      refine WQ.thenRet ?_
      refine WQ.thenRet ?_
      refine WQ.inRet ?_
      refine WQ.thenRet ?_
      refine WQ.out (.tmp rfl .nil) ?_
      exact ⟨by rw [fidx_yes (d := Nt.zero) (by omega) hok hb4]; rfl, H3.fr⟩
    ·
      have hn4 := (Bool.not_eq_false' _).mp hb4
      refine WC.skip ?_
      refine WQ.inNormal ?_
      refine WQ.next ?_
      refine WC.region ?_
      refine WL.op rfl rfl (op_addN (b := 1) rfl rfl (by omega) ?_)
      refine WL.op rfl rfl (op_move rfl ?_)
      refine WL.nil ?_
      exact WQ.round (k + 1) ⟨⟨by omega, allPrev hok hb4⟩, H3⟩ ⟨rfl, rfl, rfl, rfl, trivial⟩ (by omega)
  ·
    have hc2 := of_decide_eq_false hb2
    refine WC.exit ?_
    refine WQ.thenExit ?_
    refine WQ.thenExit ?_
    refine WQ.inHere ?_
    refine WQ.next ?_
    refine WC.seq ?_
    refine WC.region ?_
    refine WL.op rfl rfl (op_assign rfl ?_)
    refine WL.nil ?_
    refine WQ.next ?_
    refine WC.ret ?_
    refine WQ.out (.tmp rfl .nil) ?_
    exact ⟨by rw [fidx_no (d := Nt.zero) (fun j hj => hok j (by omega))]; rfl, H1.fr⟩
set_option maxRecDepth 100000 in
theorem conN2_ok (lv : Value) (l : List Nt) (m : Mf) (ev pv : Value) (q : Nat) (w : World) (hA : Arr w lv 3 l.length (List.flatMap ntc l)) (hQ : cellsAt w q [(vU32 m.pg), ev, pv, (.bool m.con)]) (hE : Arr w ev 2 m.xs.length (List.flatMap xtc m.xs)) (hP : Arr w pv 1 m.ps.length (List.map vU16 m.ps)) (hn : m.xs.length < 2 ^ 45) (hm : m.ps.length < 2 ^ 45) (hl : l.length < 2 ^ 47) :
    Calls Try.prog 29 #[lv, (.func (.func 30) #[] #[(ptr q 0)])] w (fun e w' => e = .returned (.bool (l.any fun n => !covN m n)) ∧ Fr [] w w') := by
  refine enter (args := [lv, (.func (.func 30) #[] #[(ptr q 0)])]) Try.func29 rfl rfl ?_
  have H0 : Own [] w w [Ent.bo q [(vU32 m.pg), ev, pv, (.bool m.con)]] := ((Own.start w []).oldB hQ)
  refine WC.seq ?_
  refine WC.region ?_
  refine WL.op rfl rfl (op_assign rfl ?_)
  refine WL.nil ?_
  refine WQ.next ?_
  refine WC.seq ?_
  refine WC.region ?_
  refine WL.op rfl rfl (op_move rfl ?_)
  refine WL.op rfl rfl (op_move rfl ?_)
  refine WL.op rfl rfl (op_callF Fa.C46 rfl ((idxN2_ok _ l m _ _ q _ (H0.arr hA) (H0.cellsAtO (i := 0) rfl) (H0.arr hE) (H0.arr hP) (by omega) (by omega) (by omega)).mono (fun e w1 hq => ?_)))
  obtain ⟨rfl, hf1⟩ := hq
  refine ⟨_, rfl, ?_⟩
  have H1 := H0.fr' hf1
  refine WL.op rfl rfl (op_geqI (b := (0 : Int)) rfl rfl ?_)
  refine WL.op rfl rfl (op_assign rfl ?_)
  refine WL.nil ?_
  refine WQ.next ?_
  refine WC.ret ?_
  refine WQ.out (.tmp rfl .nil) ?_
  exact ⟨by rw [← fidx_any]; rfl, H1.fr⟩
end Go.Proofs.Ytnngbnenekjffaa
