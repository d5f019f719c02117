/- General lemmas and walks: DSort4, DOb2, DOb3, DOb4, DOb5. No condition but what each theorem names. -/
import Derived.Test.YtnngbnenekjffaaDoorQf589b15c
import Derived.Test.YtnngbnenekjffaaDoorQ59b88aee
import Derived.Test.YtnngbnenekjffaaDoorQ48a3f988
import Derived.Test.YtnngbnenekjffaaDoorQ7f878364
import Derived.Test.YtnngbnenekjffaaDoorQ2ad7965d
import Derived.Test.YtnngbnenekjffaaDoorQc6230d96
/-! from DSort4 -/
namespace Go.Proofs.YtnngbnenekjffaaDoor
open Go.Owl Go.Spec
set_option maxHeartbeats 4000000 in
set_option maxRecDepth 100000 in
theorem pins_ok (v : Value) (n : Nat) (l : List (List UInt8)) (a b : Nat) (T : List Nat) (w : World) (H : Own T w w [.row v 9 1 n (List.map str l)]) (hn : l.length = n) (hN : n < 2 ^ 61) (hab : a < b) (hb : b ≤ n) (hpre : PreS ltStr [] a b l) :
    Calls Tryd.prog 99 #[v, (vN a), (vN b)] w (fun e w' => ∃ (l' : List (List UInt8)) (r : Bool), e = .returned (.bool r) ∧ (Sw [] a b l l' ∧ (r = true → SortS ltStr [] a b l')) ∧ Own T w w' [.row v 9 1 n (List.map str l')]) := by
  refine enter (args := [v, (vN a), (vN b)]) Tryd.func99 rfl rfl ?_
  refine WC.seq ?_
  refine WC.region ?_
  refine WL.op rfl rfl (op_assign rfl ?_)
  refine WL.nil ?_
  refine WQ.next ?_
  refine WC.seq ?_
  refine WC.region ?_
  refine WL.op rfl rfl (op_move rfl ?_)
  refine WL.op rfl rfl (op_addN (b := 1) rfl rfl (by omega) ?_)
  refine WL.op rfl rfl (op_assign rfl ?_)
  refine WL.nil ?_
  refine WQ.next ?_
  refine WC.seq ?_
  refine WC.seq ?_
  refine WC.region ?_
  refine WL.op rfl rfl (op_assign rfl ?_)
  refine WL.nil ?_
  refine WQ.next ?_
  refine WC.block ?_
  refine WC.loop (α := Nat × Nat × List (List UInt8)) (fun (i, c, l1) => [(0, v), (1, (vN a)), (2, (vN b)), (7, (vN i)), (8, (vN c))]) (fun (i, c, l1) w' => (a + 1 ≤ i ∧ i ≤ b ∧ c ≤ 5 ∧ Sw [] a b l l1 ∧ SortS ltStr [] a i l1 ∧ PreS ltStr [] a b l1) ∧ Own T w w' [.row v 9 1 n (List.map str l1)]) (fun (i, c, l1) => 5 - c) (a + 1, 0, l) ⟨⟨Nat.le_refl _, by omega, by omega, .refl _, SortS.nil (by omega), hpre⟩, H⟩ ⟨rfl, rfl, rfl, rfl, rfl, trivial⟩ ?_
  rintro ⟨i, c, l1⟩ w1 ⟨⟨hi1, hi2, hc1, hs1, ho1, hp1⟩, H1⟩
  show WC _ _ _ _ _ [(0, v), (1, (vN a)), (2, (vN b)), (7, (vN i)), (8, (vN c))] _
  have hL1 := hs1.len
  refine WC.seq ?_
  refine WC.seq ?_
  refine WC.region ?_
  refine WL.op rfl rfl (op_move rfl ?_)
  refine WL.op rfl rfl (op_lssN (b := 5) rfl rfl ?_)
  refine WL.nil ?_
  refine WQ.next ?_
  refine WC.cond rfl (fun (hb2 : (decide (c < 5)) = true) => ?_) (fun (hb2 : (decide (c < 5)) = false) => ?_)
  ·
    have hc2 := of_decide_eq_true hb2
    refine WC.skip ?_
    refine WQ.next ?_
    refine WC.seq ?_
    refine WC.block ?_
    refine WC.cut (α := Nat) (fun i3 => [(0, v), (1, (vN a)), (2, (vN b)), (7, (vN i3)), (8, (vN c))]) (fun i3 w' => (a + 1 ≤ i3 ∧ i3 ≤ b ∧ SortS ltStr [] a i3 l1) ∧ Own T w w' [.row v 9 1 n (List.map str l1)]) ?_ ?_
    ·
      refine WC.block ?_
      refine WC.loop (α := Nat) (fun i2 => [(0, v), (1, (vN a)), (2, (vN b)), (7, (vN i2)), (8, (vN c))]) (fun i2 w' => (a + 1 ≤ i2 ∧ i2 ≤ b ∧ SortS ltStr [] a i2 l1) ∧ Own T w w' [.row v 9 1 n (List.map str l1)]) (fun i2 => b - i2) i ⟨⟨hi1, hi2, ho1⟩, H1⟩ ⟨rfl, rfl, rfl, rfl, rfl, trivial⟩ ?_
      rintro i2 w3 ⟨⟨hi3, hi4, ho2⟩, H3⟩
      show WC _ _ _ _ _ [(0, v), (1, (vN a)), (2, (vN b)), (7, (vN i2)), (8, (vN c))] _
      refine WC.seq ?_
      refine WC.seq ?_
      refine bsplit (fun (hb4 : (decide (i2 < b)) = true) => ?_) (fun (hb4 : (decide (i2 < b)) = false) => ?_)
      ·
        have hc4 := of_decide_eq_true hb4
        refine WC.draw 16 Fa.M H3 (HW.op rfl (fun w1 H1 => op_move rfl ⟨rfl, Fr.refl _ _⟩) (HW.op rfl (fun w1 H1 => op_move rfl ⟨rfl, Fr.refl _ _⟩) (HW.op rfl (fun w1 H1 => op_lssN rfl rfl ⟨rfl, Fr.refl _ _⟩) (HW.op rfl (fun w1 H1 => op_move rfl ⟨rfl, Fr.refl _ _⟩) (HW.yes rfl rfl rfl hb4 (fun w1 H1 => op_move rfl ⟨rfl, Fr.refl _ _⟩) (HW.yes rfl rfl rfl hb4 (fun w1 H1 => op_move rfl ⟨rfl, Fr.refl _ _⟩) (HW.yes rfl rfl rfl hb4 (fun w1 H1 => op_indexAddr1 Tryd.underlying80 Fa.I9 rfl (H1.arrR (i := 0) rfl) rfl (by omega) ⟨rfl, Fr.refl _ _⟩) (HW.yes rfl rfl rfl hb4 (fun w1 H1 => op_load rfl ((H1.arrR (i := 0) rfl).at (get_map str [] (Arr.ltM (H1.arrR (i := 0) rfl) (by omega)))) Tryd.underlying9 rfl ⟨rfl, Fr.refl _ _⟩) (HW.yes rfl rfl rfl hb4 (fun w1 H1 => op_move rfl ⟨rfl, Fr.refl _ _⟩) (HW.yes rfl rfl rfl hb4 (fun w1 H1 => op_move rfl ⟨rfl, Fr.refl _ _⟩) (HW.yes rfl rfl rfl hb4 (fun w1 H1 => op_subN (b := 1) rfl rfl (by omega) (by omega) ⟨rfl, Fr.refl _ _⟩) (HW.yes rfl rfl rfl hb4 (fun w1 H1 => op_indexAddr1 Tryd.underlying80 Fa.I9 rfl (H1.arrR (i := 0) rfl) rfl (by omega) ⟨rfl, Fr.refl _ _⟩) (HW.yes rfl rfl rfl hb4 (fun w1 H1 => op_load rfl ((H1.arrR (i := 0) rfl).at (get_map str [] (Arr.ltM (H1.arrR (i := 0) rfl) (by omega)))) Tryd.underlying9 rfl ⟨rfl, Fr.refl _ _⟩) (HW.yes rfl rfl rfl hb4 (fun w1 H1 => op_callF Fa.C100 rfl ((less_ok (l1.getD i2 []) (l1.getD (i2 - 1) []) _).mono (fun e w2 hq => ⟨_, hq.1, rfl, hq.2⟩))) (HW.yes rfl rfl rfl hb4 (fun w1 H1 => op_not rfl ⟨rfl, Fr.refl _ _⟩) (HW.op rfl (fun w1 H1 => op_pickT rfl hb4 rfl ⟨rfl, Fr.refl _ _⟩)  HW.nil)))))))))))))))) (by kernel_rfl) ?_
        intro β6 w6 H6
        refine WL.nil ?_
        refine WQ.next ?_
        refine WC.cond rfl (fun (hb7 : (!(ltStr (l1.getD i2 []) (l1.getD (i2 - 1) []))) = true) => ?_) (fun (hb7 : (!(ltStr (l1.getD i2 []) (l1.getD (i2 - 1) []))) = false) => ?_)
        ·
          have hn7 := (Bool.not_eq_true' _).mp hb7
          refine WC.skip ?_
          refine WQ.next ?_
          refine WC.block ?_
          refine WC.region ?_
          refine WL.op rfl rfl (op_move rfl ?_)
          refine WL.op rfl rfl (op_addN (b := 1) rfl rfl (by omega) ?_)
          refine WL.op rfl rfl (op_assign rfl ?_)
          refine WL.nil ?_
          refine WQ.inNormal ?_
          exact WQ.round (i2 + 1) ⟨⟨by omega, by omega, sort_snoc ltStrOK ho2 (by omega) hn7⟩, H6⟩ ⟨rfl, rfl, rfl, rfl, rfl, trivial⟩ (by omega)
        ·
          have hn7 := (Bool.not_eq_false' _).mp hb7
          refine WC.exit ?_
          refine WQ.thenExit ?_
          refine WQ.thenExit ?_
          refine WQ.inHere ?_
          exact WQ.here i2 ⟨⟨hi3, hi4, ho2⟩, H6⟩ ⟨rfl, rfl, rfl, rfl, rfl, trivial⟩
      ·
        have hc4 := of_decide_eq_false hb4
        refine WC.draw 16 Fa.M H3 (HW.op rfl (fun w1 H1 => op_move rfl ⟨rfl, Fr.refl _ _⟩) (HW.op rfl (fun w1 H1 => op_move rfl ⟨rfl, Fr.refl _ _⟩) (HW.op rfl (fun w1 H1 => op_lssN rfl rfl ⟨rfl, Fr.refl _ _⟩) (HW.op rfl (fun w1 H1 => op_move rfl ⟨rfl, Fr.refl _ _⟩) (HW.no rfl rfl rfl hb4 (HW.no rfl rfl rfl hb4 (HW.no rfl rfl rfl hb4 (HW.no rfl rfl rfl hb4 (HW.no rfl rfl rfl hb4 (HW.no rfl rfl rfl hb4 (HW.no rfl rfl rfl hb4 (HW.no rfl rfl rfl hb4 (HW.no rfl rfl rfl hb4 (HW.no rfl rfl rfl hb4 (HW.no rfl rfl rfl hb4 (HW.op rfl (fun w1 H1 => op_pickF rfl hb4 rfl ⟨rfl, Fr.refl _ _⟩)  HW.nil)))))))))))))))) (by kernel_rfl) ?_
        intro β8 w8 H8
        refine WL.nil ?_
        refine WQ.next ?_
        refine WC.no rfl rfl ?_
        refine WC.exit ?_
        refine WQ.thenExit ?_
        refine WQ.thenExit ?_
        refine WQ.inHere ?_
        exact WQ.here i2 ⟨⟨hi3, hi4, ho2⟩, H8⟩ ⟨rfl, rfl, rfl, rfl, rfl, trivial⟩
    ·
      rintro i3 w9 ⟨⟨hi5, hi6, ho3⟩, H9⟩
      show WC _ _ _ _ _ [(0, v), (1, (vN a)), (2, (vN b)), (7, (vN i3)), (8, (vN c))] _
      refine WC.seq ?_
      refine WC.seq ?_
      refine WC.region ?_
      refine WL.op rfl rfl (op_move rfl ?_)
      refine WL.op rfl rfl (op_move rfl ?_)
      refine WL.op rfl rfl (op_eqlN rfl rfl ?_)
      refine WL.nil ?_
      refine WQ.next ?_
      refine WC.cond rfl (fun (hb10 : (decide (i3 = b)) = true) => ?_) (fun (hb10 : (decide (i3 = b)) = false) => ?_)
      ·
        have hc10 := of_decide_eq_true hb10
        refine WC.seq ?_
        refine WC.region ?_
        refine WL.op rfl rfl (op_assign rfl ?_)
        refine WL.nil ?_
        refine WQ.next ?_
        refine WC.ret ?_
        refine WQ.thenRet ?_
        refine WQ.inRet ?_
        refine WQ.thenRet ?_
        refine WQ.thenRet ?_
        refine WQ.inRet ?_
        refine WQ.thenRet ?_
        refine WQ.out (.tmp rfl .nil) ?_
        exact ⟨_, _, rfl, ⟨hs1, fun _ p q h1 h2 h3 => ho3 p q h1 h2 (by omega)⟩, H9⟩
      ·
        have hc10 := of_decide_eq_false hb10
        refine WC.skip ?_
        refine WQ.next ?_
        refine WC.seq ?_
        refine WC.seq ?_
        refine WC.region ?_
        refine WL.op rfl rfl (op_move rfl ?_)
        refine WL.op rfl rfl (op_move rfl ?_)
        refine WL.op rfl rfl (op_subN rfl rfl (by omega) (by omega) ?_)
        refine WL.op rfl rfl (op_lssN (b := 50) rfl rfl ?_)
        refine WL.nil ?_
        refine WQ.next ?_
        refine WC.cond rfl (fun (hb11 : (decide ((b - a) < 50)) = true) => ?_) (fun (hb11 : (decide ((b - a) < 50)) = false) => ?_)
        ·
          have hc11 := of_decide_eq_true hb11
          refine WC.seq ?_
          refine WC.region ?_
          refine WL.op rfl rfl (op_assign rfl ?_)
          refine WL.nil ?_
          refine WQ.next ?_
          refine WC.ret ?_
          refine WQ.thenRet ?_
          refine WQ.inRet ?_
          refine WQ.thenRet ?_
          refine WQ.thenRet ?_
          refine WQ.inRet ?_
          refine WQ.thenRet ?_
          refine WQ.out (.tmp rfl .nil) ?_
          exact ⟨_, _, rfl, ⟨hs1, fun h => by cases h⟩, H9⟩
        ·
          have hc11 := of_decide_eq_false hb11
          refine WC.skip ?_
          refine WQ.next ?_
          refine WC.cut (α := List (List UInt8)) (fun l3 => [(0, v), (1, (vN a)), (2, (vN b)), (7, (vN i3)), (8, (vN c))]) (fun l3 w' => (Sw [] a b l l3 ∧ SortS ltStr [] a (i3 - 1) l3 ∧ PreS ltStr [] a b l3) ∧ Own T w w' [.row v 9 1 n (List.map str l3)]) ?_ ?_
          ·
            refine WC.held 18 rfl Fa.M H9 (fun w' => ∃ L', Own T w w' ([] ++ L')) ?_
            intro w12 H12
            refine WH.take (i := 0) (v := v) rfl rfl (.inl rfl) rfl (by kernel_rfl) ⟨[.row v 9 1 n (List.map str l1)], H12⟩ (fun wX hSX => hSX.elim fun LX HX => op_move rfl ⟨rfl, rfl⟩) ?_
            refine WH.take (i := 1) (v := (vN i3)) rfl rfl (.inl rfl) rfl (by kernel_rfl) ⟨[.row v 9 1 n (List.map str l1)], H12⟩ (fun wX hSX => hSX.elim fun LX HX => op_move rfl ⟨rfl, rfl⟩) ?_
            refine WH.take (i := 2) (v := v) rfl rfl (.inl rfl) rfl (by kernel_rfl) ⟨[.row v 9 1 n (List.map str l1)], H12⟩ (fun wX hSX => hSX.elim fun LX HX => op_move rfl ⟨rfl, rfl⟩) ?_
            refine WH.take (i := 3) (v := (vN i3)) rfl rfl (.inl rfl) rfl (by kernel_rfl) ⟨[.row v 9 1 n (List.map str l1)], H12⟩ (fun wX hSX => hSX.elim fun LX HX => op_move rfl ⟨rfl, rfl⟩) ?_
            refine WH.take (i := 4) (v := (vN (i3 - 1))) rfl rfl (.inl rfl) rfl (by kernel_rfl) ⟨[.row v 9 1 n (List.map str l1)], H12⟩ (fun wX hSX => hSX.elim fun LX HX => op_subN (b := 1) rfl rfl (by omega) (by omega) ⟨rfl, rfl⟩) ?_
            refine WH.take (i := 5) (v := v) rfl rfl (.inl rfl) rfl (by kernel_rfl) ⟨[.row v 9 1 n (List.map str l1)], H12⟩ (fun wX hSX => hSX.elim fun LX HX => op_move rfl ⟨rfl, rfl⟩) ?_
            refine WH.take (i := 6) (v := (vN i3)) rfl rfl (.inl rfl) rfl (by kernel_rfl) ⟨[.row v 9 1 n (List.map str l1)], H12⟩ (fun wX hSX => hSX.elim fun LX HX => op_move rfl ⟨rfl, rfl⟩) ?_
            refine WH.take (i := 7) (v := (vN (i3 - 1))) rfl rfl (.inl rfl) rfl (by kernel_rfl) ⟨[.row v 9 1 n (List.map str l1)], H12⟩ (fun wX hSX => hSX.elim fun LX HX => op_subN (b := 1) rfl rfl (by omega) (by omega) ⟨rfl, rfl⟩) ?_
            refine WH.take (i := 8) (v := (.pointer (some (sp v (i3 - 1))))) rfl rfl (.inl rfl) rfl (by kernel_rfl) ⟨[.row v 9 1 n (List.map str l1)], H12⟩ (fun wX hSX => hSX.elim fun LX HX => op_indexAddr1W Tryd.underlying80 Fa.I9 rfl (H12.arrR (i := 0) rfl) rfl (by omega) ⟨rfl, rfl⟩) ?_
            refine WH.take (i := 10) (v := v) rfl rfl (.inl rfl) rfl (by kernel_rfl) ⟨[.row v 9 1 n (List.map str l1)], H12⟩ (fun wX hSX => hSX.elim fun LX HX => op_move rfl ⟨rfl, rfl⟩) ?_
            refine WH.take (i := 11) (v := (vN i3)) rfl rfl (.inl rfl) rfl (by kernel_rfl) ⟨[.row v 9 1 n (List.map str l1)], H12⟩ (fun wX hSX => hSX.elim fun LX HX => op_move rfl ⟨rfl, rfl⟩) ?_
            refine WH.take (i := 12) (v := (.pointer (some (sp v i3)))) rfl rfl (.inl rfl) rfl (by kernel_rfl) ⟨[.row v 9 1 n (List.map str l1)], H12⟩ (fun wX hSX => hSX.elim fun LX HX => op_indexAddr1W Tryd.underlying80 Fa.I9 rfl (H12.arrR (i := 0) rfl) rfl (by omega) ⟨rfl, rfl⟩) ?_
            refine WH.named (fun W hW => ?_)
            have st11_5 : ∀ (wS : World), Own T w wS [.row v 9 1 n (List.map str ((l1.set i3 (l1.getD (i3 - 1) [])).set (i3 - 1) (l1.getD i3 [])))] → W 0 #[true, true, true, true, true, true, true, true, true, true, true, true, true, true, true, true, true, true] [(0, v), (1, (vN a)), (2, (vN b)), (7, (vN i3)), (8, (vN c)), (35, (vN i3)), (36, (vN b)), (37, (.bool (decide (i3 = b)))), (38, (vN b)), (39, (vN a)), (40, (vN (b - a))), (41, (.bool (decide ((b - a) < 50)))), (42, v), (43, (vN i3)), (44, v), (45, (vN i3)), (46, (vN (i3 - 1))), (47, v), (48, (vN i3)), (49, (vN (i3 - 1))), (50, (.pointer (some (sp v (i3 - 1))))), (51, (str (l1.getD (i3 - 1) []))), (52, v), (53, (vN i3)), (54, (.pointer (some (sp v i3)))), (55, (str (l1.getD i3 []))), (56, (.pointer (some (sp v i3)))), (57, (.pointer (some (sp v (i3 - 1)))))] wS := by
              intro wS HS
              rw [hW]
              refine WH.done (by kernel_rfl) ?_
              exact WQ.here (swapL [] l1 i3 (i3 - 1)) ⟨⟨hs1.step (by omega) (by omega) (by omega) (by omega), sort_swap (by omega) (by omega) ho3, pre_sw (by omega) hp1 (Sw.one (by omega) (by omega) (by omega) (by omega))⟩, HS⟩ ⟨rfl, rfl, rfl, rfl, rfl, trivial⟩
            have st11_4 : ∀ (wS : World), Own T w wS [.row v 9 1 n (List.map str (l1.set i3 (l1.getD (i3 - 1) [])))] → W 1 #[true, true, true, true, true, true, true, true, true, true, true, true, true, true, true, true, true, false] [(0, v), (1, (vN a)), (2, (vN b)), (7, (vN i3)), (8, (vN c)), (35, (vN i3)), (36, (vN b)), (37, (.bool (decide (i3 = b)))), (38, (vN b)), (39, (vN a)), (40, (vN (b - a))), (41, (.bool (decide ((b - a) < 50)))), (42, v), (43, (vN i3)), (44, v), (45, (vN i3)), (46, (vN (i3 - 1))), (47, v), (48, (vN i3)), (49, (vN (i3 - 1))), (50, (.pointer (some (sp v (i3 - 1))))), (51, (str (l1.getD (i3 - 1) []))), (52, v), (53, (vN i3)), (54, (.pointer (some (sp v i3)))), (55, (str (l1.getD i3 []))), (56, (.pointer (some (sp v i3)))), (57, (.pointer (some (sp v (i3 - 1)))))] wS := by
              intro wS HS
              rw [hW]
              refine WH.all1 (i := 17) (by kernel_rfl) ?_
              ·
                refine WHS.op (i := 17) rfl (.inl rfl) rfl (op_storeRM (i := 0) (f := str) (l := (l1.set i3 (l1.getD (i3 - 1) []))) (c := (l1.getD i3 [])) HS rfl rfl rfl (by omega) rfl Fa.I9 (fun w23341 H23341 => ?_))
                refine ⟨⟨[.row v 9 1 n (List.map str ((l1.set i3 (l1.getD (i3 - 1) [])).set (i3 - 1) (l1.getD i3 [])))], H23341⟩, ?_⟩
                have hq := st11_5 w23341 H23341
                rw [hW] at hq
                refine WH.cov ?_ hq
                exact by repeat (first | exact trivial | refine ⟨rfl, ?_⟩)
            have st11_3 : ∀ (wS : World), Own T w wS [.row v 9 1 n (List.map str l1)] → W 3 #[true, true, true, true, true, true, true, true, true, true, true, true, true, true, true, false, false, false] [(0, v), (1, (vN a)), (2, (vN b)), (7, (vN i3)), (8, (vN c)), (35, (vN i3)), (36, (vN b)), (37, (.bool (decide (i3 = b)))), (38, (vN b)), (39, (vN a)), (40, (vN (b - a))), (41, (.bool (decide ((b - a) < 50)))), (42, v), (43, (vN i3)), (44, v), (45, (vN i3)), (46, (vN (i3 - 1))), (47, v), (48, (vN i3)), (49, (vN (i3 - 1))), (50, (.pointer (some (sp v (i3 - 1))))), (51, (str (l1.getD (i3 - 1) []))), (52, v), (53, (vN i3)), (54, (.pointer (some (sp v i3)))), (55, (str (l1.getD i3 []))), (56, (.pointer (some (sp v i3))))] wS := by
              intro wS HS
              rw [hW]
              refine WH.all1 (i := 15) (by kernel_rfl) ?_
              ·
                refine WHS.op (i := 15) rfl (.inl rfl) rfl (op_storeRM (i := 0) (f := str) (l := l1) (c := (l1.getD (i3 - 1) [])) HS rfl rfl rfl (by omega) rfl Fa.I9 (fun w23301 H23301 => ?_))
                refine ⟨⟨[.row v 9 1 n (List.map str (l1.set i3 (l1.getD (i3 - 1) [])))], H23301⟩, ?_⟩
                refine WH.take (i := 16) (v := (.pointer (some (sp v (i3 - 1))))) rfl rfl (.inl rfl) rfl (by kernel_rfl) ⟨[.row v 9 1 n (List.map str (l1.set i3 (l1.getD (i3 - 1) [])))], H23301⟩ (fun wX hSX => hSX.elim fun LX HX => op_indexAddr1W Tryd.underlying80 Fa.I9 rfl (H23301.arrR (i := 0) rfl) rfl (by omega) ⟨rfl, rfl⟩) ?_
                have hq := st11_4 w23301 H23301
                rw [hW] at hq
                refine WH.cov ?_ hq
                exact by repeat (first | exact trivial | refine ⟨rfl, ?_⟩)
            have st11_1 : ∀ (wS : World), Own T w wS [.row v 9 1 n (List.map str l1)] → W 5 #[true, true, true, true, true, true, true, true, true, true, true, true, true, false, false, false, false, false] [(0, v), (1, (vN a)), (2, (vN b)), (7, (vN i3)), (8, (vN c)), (35, (vN i3)), (36, (vN b)), (37, (.bool (decide (i3 = b)))), (38, (vN b)), (39, (vN a)), (40, (vN (b - a))), (41, (.bool (decide ((b - a) < 50)))), (42, v), (43, (vN i3)), (44, v), (45, (vN i3)), (46, (vN (i3 - 1))), (47, v), (48, (vN i3)), (49, (vN (i3 - 1))), (50, (.pointer (some (sp v (i3 - 1))))), (51, (str (l1.getD (i3 - 1) []))), (52, v), (53, (vN i3)), (54, (.pointer (some (sp v i3))))] wS := by
              intro wS HS
              rw [hW]
              refine WH.all1 (i := 13) (by kernel_rfl) ?_
              ·
                refine WHS.op (i := 13) rfl (.inl rfl) rfl (op_load rfl ((HS.arrR (i := 0) rfl).at (get_map str [] (Arr.ltM (HS.arrR (i := 0) rfl) (by omega)))) Tryd.underlying9 rfl ?_)
                refine ⟨⟨[.row v 9 1 n (List.map str l1)], HS⟩, ?_⟩
                refine WH.take (i := 14) (v := (.pointer (some (sp v i3)))) rfl rfl (.inl rfl) rfl (by kernel_rfl) ⟨[.row v 9 1 n (List.map str l1)], HS⟩ (fun wX hSX => hSX.elim fun LX HX => op_indexAddr1W Tryd.underlying80 Fa.I9 rfl (HS.arrR (i := 0) rfl) rfl (by omega) ⟨rfl, rfl⟩) ?_
                have hq := st11_3 wS HS
                rw [hW] at hq
                refine WH.cov ?_ hq
                exact by repeat (first | exact trivial | refine ⟨rfl, ?_⟩)
            have st11_2 : ∀ (wS : World), Own T w wS [.row v 9 1 n (List.map str l1)] → W 5 #[true, true, true, true, true, true, true, true, true, false, true, true, true, true, false, false, false, false] [(0, v), (1, (vN a)), (2, (vN b)), (7, (vN i3)), (8, (vN c)), (35, (vN i3)), (36, (vN b)), (37, (.bool (decide (i3 = b)))), (38, (vN b)), (39, (vN a)), (40, (vN (b - a))), (41, (.bool (decide ((b - a) < 50)))), (42, v), (43, (vN i3)), (44, v), (45, (vN i3)), (46, (vN (i3 - 1))), (47, v), (48, (vN i3)), (49, (vN (i3 - 1))), (50, (.pointer (some (sp v (i3 - 1))))), (52, v), (53, (vN i3)), (54, (.pointer (some (sp v i3)))), (55, (str (l1.getD i3 [])))] wS := by
              intro wS HS
              rw [hW]
              refine WH.all1 (i := 9) (by kernel_rfl) ?_
              ·
                refine WHS.op (i := 9) rfl (.inl rfl) rfl (op_load rfl ((HS.arrR (i := 0) rfl).at (get_map str [] (Arr.ltM (HS.arrR (i := 0) rfl) (by omega)))) Tryd.underlying9 rfl ?_)
                refine ⟨⟨[.row v 9 1 n (List.map str l1)], HS⟩, ?_⟩
                refine WH.take (i := 14) (v := (.pointer (some (sp v i3)))) rfl rfl (.inl rfl) rfl (by kernel_rfl) ⟨[.row v 9 1 n (List.map str l1)], HS⟩ (fun wX hSX => hSX.elim fun LX HX => op_indexAddr1W Tryd.underlying80 Fa.I9 rfl (HS.arrR (i := 0) rfl) rfl (by omega) ⟨rfl, rfl⟩) ?_
                have hq := st11_3 wS HS
                rw [hW] at hq
                refine WH.cov ?_ hq
                exact by repeat (first | exact trivial | refine ⟨rfl, ?_⟩)
            have st11_0 : ∀ (wS : World), Own T w wS [.row v 9 1 n (List.map str l1)] → W 6 #[true, true, true, true, true, true, true, true, true, false, true, true, true, false, false, false, false, false] [(0, v), (1, (vN a)), (2, (vN b)), (7, (vN i3)), (8, (vN c)), (35, (vN i3)), (36, (vN b)), (37, (.bool (decide (i3 = b)))), (38, (vN b)), (39, (vN a)), (40, (vN (b - a))), (41, (.bool (decide ((b - a) < 50)))), (42, v), (43, (vN i3)), (44, v), (45, (vN i3)), (46, (vN (i3 - 1))), (47, v), (48, (vN i3)), (49, (vN (i3 - 1))), (50, (.pointer (some (sp v (i3 - 1))))), (52, v), (53, (vN i3)), (54, (.pointer (some (sp v i3))))] wS := by
              intro wS HS
              rw [hW]
              refine WH.all2 (i := 9) (j := 13) (by kernel_rfl) ?_ ?_
              ·
                refine WHS.op (i := 9) rfl (.inl rfl) rfl (op_load rfl ((HS.arrR (i := 0) rfl).at (get_map str [] (Arr.ltM (HS.arrR (i := 0) rfl) (by omega)))) Tryd.underlying9 rfl ?_)
                refine ⟨⟨[.row v 9 1 n (List.map str l1)], HS⟩, ?_⟩
                have hq := st11_1 wS HS
                rw [hW] at hq
                refine WH.cov ?_ hq
                exact by repeat (first | exact trivial | refine ⟨rfl, ?_⟩)
              ·
                refine WHS.op (i := 13) rfl (.inl rfl) rfl (op_load rfl ((HS.arrR (i := 0) rfl).at (get_map str [] (Arr.ltM (HS.arrR (i := 0) rfl) (by omega)))) Tryd.underlying9 rfl ?_)
                refine ⟨⟨[.row v 9 1 n (List.map str l1)], HS⟩, ?_⟩
                have hq := st11_2 wS HS
                rw [hW] at hq
                refine WH.cov ?_ hq
                exact by repeat (first | exact trivial | refine ⟨rfl, ?_⟩)
            have hq := st11_0 w12 H12
            rw [hW] at hq ⊢
            refine WH.cov ?_ hq
            exact by repeat (first | exact trivial | refine ⟨rfl, ?_⟩)
          ·
            rintro l3 w14 ⟨⟨hs3, ho5, hp3⟩, H14⟩
            show WC _ _ _ _ _ [(0, v), (1, (vN a)), (2, (vN b)), (7, (vN i3)), (8, (vN c))] _
            have hL3 := hs3.len
            refine WC.cut (α := List (List UInt8)) (fun l4 => [(0, v), (1, (vN a)), (2, (vN b)), (7, (vN i3)), (8, (vN c))]) (fun l4 w' => (Sw [] a b l l4 ∧ SortS ltStr [] a i3 l4 ∧ PreS ltStr [] a b l4) ∧ Own T w w' [.row v 9 1 n (List.map str l4)]) ?_ ?_
            ·
              refine WC.seq ?_
              refine WC.region ?_
              refine WL.op rfl rfl (op_move rfl ?_)
              refine WL.op rfl rfl (op_move rfl ?_)
              refine WL.op rfl rfl (op_subN rfl rfl (by omega) (by omega) ?_)
              refine WL.op rfl rfl (op_geqN (b := 2) rfl rfl ?_)
              refine WL.nil ?_
              refine WQ.next ?_
              refine WC.cond rfl (fun (hb15 : (decide ((i3 - a) ≥ 2)) = true) => ?_) (fun (hb15 : (decide ((i3 - a) ≥ 2)) = false) => ?_)
              ·
                have hc15 := of_decide_eq_true hb15
                refine WC.seq ?_
                refine WC.region ?_
                refine WL.op rfl rfl (op_move rfl ?_)
                refine WL.op rfl rfl (op_subN (b := 1) rfl rfl (by omega) (by omega) ?_)
                refine WL.op rfl rfl (op_assign rfl ?_)
                refine WL.nil ?_
                refine WQ.next ?_
                refine WC.block ?_
                refine WC.loop (α := Nat × List (List UInt8)) (fun (j, l2) => [(0, v), (1, (vN a)), (2, (vN b)), (7, (vN i3)), (8, (vN c)), (9, (vN j))]) (fun (j, l2) w' => (a ≤ j ∧ j ≤ i3 - 1 ∧ Sw [] a b l l2 ∧ InsI ltStr [] a (i3 - 1) j l2 ∧ PreS ltStr [] a b l2) ∧ Own T w w' [.row v 9 1 n (List.map str l2)]) (fun (j, l2) => j) (i3 - 1, l3) ⟨⟨by omega, Nat.le_refl _, hs3, ins_init ho5, hp3⟩, H14⟩ ⟨rfl, rfl, rfl, rfl, rfl, rfl, trivial⟩ ?_
                rintro ⟨j, l2⟩ w16 ⟨⟨hj1, hj2, hs2, hj3, hp2⟩, H16⟩
                show WC _ _ _ _ _ [(0, v), (1, (vN a)), (2, (vN b)), (7, (vN i3)), (8, (vN c)), (9, (vN j))] _
                have hL2 := hs2.len
                refine WC.seq ?_
                refine WC.seq ?_
                refine WC.region ?_
                refine WL.op rfl rfl (op_move rfl ?_)
                refine WL.op rfl rfl (op_geqN (b := 1) rfl rfl ?_)
                refine WL.nil ?_
                refine WQ.next ?_
                refine WC.cond rfl (fun (hb17 : (decide (j ≥ 1)) = true) => ?_) (fun (hb17 : (decide (j ≥ 1)) = false) => ?_)
                ·
                  have hc17 := of_decide_eq_true hb17
                  refine WC.skip ?_
                  refine WQ.next ?_
                  refine WC.seq ?_
                  refine WC.block ?_
                  refine WC.seq ?_
                  refine WC.seq ?_
                  refine WC.draw 11 Fa.M H16 (HW.op rfl (fun w1 H1 => op_move rfl ⟨rfl, Fr.refl _ _⟩) (HW.op rfl (fun w1 H1 => op_move rfl ⟨rfl, Fr.refl _ _⟩) (HW.op rfl (fun w1 H1 => op_indexAddr1 Tryd.underlying80 Fa.I9 rfl (H1.arrR (i := 0) rfl) rfl (by omega) ⟨rfl, Fr.refl _ _⟩) (HW.op rfl (fun w1 H1 => op_load rfl ((H1.arrR (i := 0) rfl).at (get_map str [] (Arr.ltM (H1.arrR (i := 0) rfl) (by omega)))) Tryd.underlying9 rfl ⟨rfl, Fr.refl _ _⟩) (HW.op rfl (fun w1 H1 => op_move rfl ⟨rfl, Fr.refl _ _⟩) (HW.op rfl (fun w1 H1 => op_move rfl ⟨rfl, Fr.refl _ _⟩) (HW.op rfl (fun w1 H1 => op_subN (b := 1) rfl rfl (by omega) (by omega) ⟨rfl, Fr.refl _ _⟩) (HW.op rfl (fun w1 H1 => op_indexAddr1 Tryd.underlying80 Fa.I9 rfl (H1.arrR (i := 0) rfl) rfl (by omega) ⟨rfl, Fr.refl _ _⟩) (HW.op rfl (fun w1 H1 => op_load rfl ((H1.arrR (i := 0) rfl).at (get_map str [] (Arr.ltM (H1.arrR (i := 0) rfl) (by omega)))) Tryd.underlying9 rfl ⟨rfl, Fr.refl _ _⟩) (HW.op rfl (fun w1 H1 => op_callF Fa.C100 rfl ((less_ok (l2.getD j []) (l2.getD (j - 1) []) _).mono (fun e w2 hq => ⟨_, hq.1, rfl, hq.2⟩))) (HW.op rfl (fun w1 H1 => op_not rfl ⟨rfl, Fr.refl _ _⟩)  HW.nil))))))))))) (by kernel_rfl) ?_
                  intro β19 w19 H19
                  refine WL.nil ?_
                  refine WQ.next ?_
                  refine WC.cond rfl (fun (hb20 : (!(ltStr (l2.getD j []) (l2.getD (j - 1) []))) = true) => ?_) (fun (hb20 : (!(ltStr (l2.getD j []) (l2.getD (j - 1) []))) = false) => ?_)
                  ·
                    have hn20 := (Bool.not_eq_true' _).mp hb20
                    refine WC.exit ?_
                    refine WQ.thenExit ?_
                    refine WQ.inPass rfl ?_
                    refine WQ.thenExit ?_
                    refine WQ.thenExit ?_
                    refine WQ.inHere ?_
                    have hd := ins_done ltStrOK hj3 (.inr hn20) hj1
                    rw [show i3 - 1 + 1 = i3 by omega] at hd
                    exact WQ.here l2 ⟨⟨hs2, hd, hp2⟩, H19⟩ ⟨rfl, rfl, rfl, rfl, rfl, trivial⟩
                  ·
                    have hn20 := (Bool.not_eq_false' _).mp hb20
                    have hja := pre_gt hp2 hj1 (by omega) (by omega) hn20
                    refine WC.skip ?_
                    refine WQ.next ?_
                    refine WC.held 18 rfl Fa.M H19 (fun w' => ∃ L', Own T w w' ([] ++ L')) ?_
                    intro w21 H21
                    refine WH.take (i := 0) (v := v) rfl rfl (.inl rfl) rfl (by kernel_rfl) ⟨[.row v 9 1 n (List.map str l2)], H21⟩ (fun wX hSX => hSX.elim fun LX HX => op_move rfl ⟨rfl, rfl⟩) ?_
                    refine WH.take (i := 1) (v := (vN j)) rfl rfl (.inl rfl) rfl (by kernel_rfl) ⟨[.row v 9 1 n (List.map str l2)], H21⟩ (fun wX hSX => hSX.elim fun LX HX => op_move rfl ⟨rfl, rfl⟩) ?_
                    refine WH.take (i := 2) (v := v) rfl rfl (.inl rfl) rfl (by kernel_rfl) ⟨[.row v 9 1 n (List.map str l2)], H21⟩ (fun wX hSX => hSX.elim fun LX HX => op_move rfl ⟨rfl, rfl⟩) ?_
                    refine WH.take (i := 3) (v := (vN j)) rfl rfl (.inl rfl) rfl (by kernel_rfl) ⟨[.row v 9 1 n (List.map str l2)], H21⟩ (fun wX hSX => hSX.elim fun LX HX => op_move rfl ⟨rfl, rfl⟩) ?_
                    refine WH.take (i := 4) (v := (vN (j - 1))) rfl rfl (.inl rfl) rfl (by kernel_rfl) ⟨[.row v 9 1 n (List.map str l2)], H21⟩ (fun wX hSX => hSX.elim fun LX HX => op_subN (b := 1) rfl rfl (by omega) (by omega) ⟨rfl, rfl⟩) ?_
                    refine WH.take (i := 5) (v := v) rfl rfl (.inl rfl) rfl (by kernel_rfl) ⟨[.row v 9 1 n (List.map str l2)], H21⟩ (fun wX hSX => hSX.elim fun LX HX => op_move rfl ⟨rfl, rfl⟩) ?_
                    refine WH.take (i := 6) (v := (vN j)) rfl rfl (.inl rfl) rfl (by kernel_rfl) ⟨[.row v 9 1 n (List.map str l2)], H21⟩ (fun wX hSX => hSX.elim fun LX HX => op_move rfl ⟨rfl, rfl⟩) ?_
                    refine WH.take (i := 7) (v := (vN (j - 1))) rfl rfl (.inl rfl) rfl (by kernel_rfl) ⟨[.row v 9 1 n (List.map str l2)], H21⟩ (fun wX hSX => hSX.elim fun LX HX => op_subN (b := 1) rfl rfl (by omega) (by omega) ⟨rfl, rfl⟩) ?_
                    refine WH.take (i := 8) (v := (.pointer (some (sp v (j - 1))))) rfl rfl (.inl rfl) rfl (by kernel_rfl) ⟨[.row v 9 1 n (List.map str l2)], H21⟩ (fun wX hSX => hSX.elim fun LX HX => op_indexAddr1W Tryd.underlying80 Fa.I9 rfl (H21.arrR (i := 0) rfl) rfl (by omega) ⟨rfl, rfl⟩) ?_
                    refine WH.take (i := 10) (v := v) rfl rfl (.inl rfl) rfl (by kernel_rfl) ⟨[.row v 9 1 n (List.map str l2)], H21⟩ (fun wX hSX => hSX.elim fun LX HX => op_move rfl ⟨rfl, rfl⟩) ?_
                    refine WH.take (i := 11) (v := (vN j)) rfl rfl (.inl rfl) rfl (by kernel_rfl) ⟨[.row v 9 1 n (List.map str l2)], H21⟩ (fun wX hSX => hSX.elim fun LX HX => op_move rfl ⟨rfl, rfl⟩) ?_
                    refine WH.take (i := 12) (v := (.pointer (some (sp v j)))) rfl rfl (.inl rfl) rfl (by kernel_rfl) ⟨[.row v 9 1 n (List.map str l2)], H21⟩ (fun wX hSX => hSX.elim fun LX HX => op_indexAddr1W Tryd.underlying80 Fa.I9 rfl (H21.arrR (i := 0) rfl) rfl (by omega) ⟨rfl, rfl⟩) ?_
                    refine WH.named (fun W hW => ?_)
                    have st17_5 : ∀ (wS : World), Own T w wS [.row v 9 1 n (List.map str ((l2.set j (l2.getD (j - 1) [])).set (j - 1) (l2.getD j [])))] → W 0 #[true, true, true, true, true, true, true, true, true, true, true, true, true, true, true, true, true, true] [(0, v), (1, (vN a)), (2, (vN b)), (7, (vN i3)), (8, (vN c)), (9, (vN j)), (64, (vN j)), (65, (.bool (decide (j ≥ 1)))), (68, v), (69, (vN j)), (70, (.pointer (some (sp v j)))), (71, (str (l2.getD j []))), (72, v), (73, (vN j)), (74, (vN (j - 1))), (75, (.pointer (some (sp v (j - 1))))), (76, (str (l2.getD (j - 1) []))), (77, (.bool (ltStr (l2.getD j []) (l2.getD (j - 1) [])))), (78, (.bool (!(ltStr (l2.getD j []) (l2.getD (j - 1) []))))), (79, v), (80, (vN j)), (81, v), (82, (vN j)), (83, (vN (j - 1))), (84, v), (85, (vN j)), (86, (vN (j - 1))), (87, (.pointer (some (sp v (j - 1))))), (88, (str (l2.getD (j - 1) []))), (89, v), (90, (vN j)), (91, (.pointer (some (sp v j)))), (92, (str (l2.getD j []))), (93, (.pointer (some (sp v j)))), (94, (.pointer (some (sp v (j - 1)))))] wS := by
                      intro wS HS
                      rw [hW]
                      refine WH.done (by kernel_rfl) ?_
                      refine WQ.inNormal ?_
                      refine WQ.next ?_
                      refine WC.region ?_
                      refine WL.op rfl rfl (op_move rfl ?_)
                      refine WL.op rfl rfl (op_subN (b := 1) rfl rfl (by omega) (by omega) ?_)
                      refine WL.op rfl rfl (op_assign rfl ?_)
                      refine WL.nil ?_
                      exact WQ.round (j - 1, swapL [] l2 j (j - 1)) ⟨⟨by omega, by omega, hs2.step (by omega) (by omega) (by omega) (by omega), ins_step ltStrOK (by omega) hj3 hja hj2 hn20, pre_sw (by omega) hp2 (Sw.one (by omega) (by omega) (by omega) (by omega))⟩, HS⟩ ⟨rfl, rfl, rfl, rfl, rfl, rfl, trivial⟩ (by show j - 1 < j; omega)
                    have st17_4 : ∀ (wS : World), Own T w wS [.row v 9 1 n (List.map str (l2.set j (l2.getD (j - 1) [])))] → W 1 #[true, true, true, true, true, true, true, true, true, true, true, true, true, true, true, true, true, false] [(0, v), (1, (vN a)), (2, (vN b)), (7, (vN i3)), (8, (vN c)), (9, (vN j)), (64, (vN j)), (65, (.bool (decide (j ≥ 1)))), (68, v), (69, (vN j)), (70, (.pointer (some (sp v j)))), (71, (str (l2.getD j []))), (72, v), (73, (vN j)), (74, (vN (j - 1))), (75, (.pointer (some (sp v (j - 1))))), (76, (str (l2.getD (j - 1) []))), (77, (.bool (ltStr (l2.getD j []) (l2.getD (j - 1) [])))), (78, (.bool (!(ltStr (l2.getD j []) (l2.getD (j - 1) []))))), (79, v), (80, (vN j)), (81, v), (82, (vN j)), (83, (vN (j - 1))), (84, v), (85, (vN j)), (86, (vN (j - 1))), (87, (.pointer (some (sp v (j - 1))))), (88, (str (l2.getD (j - 1) []))), (89, v), (90, (vN j)), (91, (.pointer (some (sp v j)))), (92, (str (l2.getD j []))), (93, (.pointer (some (sp v j)))), (94, (.pointer (some (sp v (j - 1)))))] wS := by
                      intro wS HS
                      rw [hW]
                      refine WH.all1 (i := 17) (by kernel_rfl) ?_
                      ·
                        refine WHS.op (i := 17) rfl (.inl rfl) rfl (op_storeRM (i := 0) (f := str) (l := (l2.set j (l2.getD (j - 1) []))) (c := (l2.getD j [])) HS rfl rfl rfl (by omega) rfl Fa.I9 (fun w32341 H32341 => ?_))
                        refine ⟨⟨[.row v 9 1 n (List.map str ((l2.set j (l2.getD (j - 1) [])).set (j - 1) (l2.getD j [])))], H32341⟩, ?_⟩
                        have hq := st17_5 w32341 H32341
                        rw [hW] at hq
                        refine WH.cov ?_ hq
                        exact by repeat (first | exact trivial | refine ⟨rfl, ?_⟩)
                    have st17_3 : ∀ (wS : World), Own T w wS [.row v 9 1 n (List.map str l2)] → W 3 #[true, true, true, true, true, true, true, true, true, true, true, true, true, true, true, false, false, false] [(0, v), (1, (vN a)), (2, (vN b)), (7, (vN i3)), (8, (vN c)), (9, (vN j)), (64, (vN j)), (65, (.bool (decide (j ≥ 1)))), (68, v), (69, (vN j)), (70, (.pointer (some (sp v j)))), (71, (str (l2.getD j []))), (72, v), (73, (vN j)), (74, (vN (j - 1))), (75, (.pointer (some (sp v (j - 1))))), (76, (str (l2.getD (j - 1) []))), (77, (.bool (ltStr (l2.getD j []) (l2.getD (j - 1) [])))), (78, (.bool (!(ltStr (l2.getD j []) (l2.getD (j - 1) []))))), (79, v), (80, (vN j)), (81, v), (82, (vN j)), (83, (vN (j - 1))), (84, v), (85, (vN j)), (86, (vN (j - 1))), (87, (.pointer (some (sp v (j - 1))))), (88, (str (l2.getD (j - 1) []))), (89, v), (90, (vN j)), (91, (.pointer (some (sp v j)))), (92, (str (l2.getD j []))), (93, (.pointer (some (sp v j))))] wS := by
                      intro wS HS
                      rw [hW]
                      refine WH.all1 (i := 15) (by kernel_rfl) ?_
                      ·
                        refine WHS.op (i := 15) rfl (.inl rfl) rfl (op_storeRM (i := 0) (f := str) (l := l2) (c := (l2.getD (j - 1) [])) HS rfl rfl rfl (by omega) rfl Fa.I9 (fun w32301 H32301 => ?_))
                        refine ⟨⟨[.row v 9 1 n (List.map str (l2.set j (l2.getD (j - 1) [])))], H32301⟩, ?_⟩
                        refine WH.take (i := 16) (v := (.pointer (some (sp v (j - 1))))) rfl rfl (.inl rfl) rfl (by kernel_rfl) ⟨[.row v 9 1 n (List.map str (l2.set j (l2.getD (j - 1) [])))], H32301⟩ (fun wX hSX => hSX.elim fun LX HX => op_indexAddr1W Tryd.underlying80 Fa.I9 rfl (H32301.arrR (i := 0) rfl) rfl (by omega) ⟨rfl, rfl⟩) ?_
                        have hq := st17_4 w32301 H32301
                        rw [hW] at hq
                        refine WH.cov ?_ hq
                        exact by repeat (first | exact trivial | refine ⟨rfl, ?_⟩)
                    have st17_1 : ∀ (wS : World), Own T w wS [.row v 9 1 n (List.map str l2)] → W 5 #[true, true, true, true, true, true, true, true, true, true, true, true, true, false, false, false, false, false] [(0, v), (1, (vN a)), (2, (vN b)), (7, (vN i3)), (8, (vN c)), (9, (vN j)), (64, (vN j)), (65, (.bool (decide (j ≥ 1)))), (68, v), (69, (vN j)), (70, (.pointer (some (sp v j)))), (71, (str (l2.getD j []))), (72, v), (73, (vN j)), (74, (vN (j - 1))), (75, (.pointer (some (sp v (j - 1))))), (76, (str (l2.getD (j - 1) []))), (77, (.bool (ltStr (l2.getD j []) (l2.getD (j - 1) [])))), (78, (.bool (!(ltStr (l2.getD j []) (l2.getD (j - 1) []))))), (79, v), (80, (vN j)), (81, v), (82, (vN j)), (83, (vN (j - 1))), (84, v), (85, (vN j)), (86, (vN (j - 1))), (87, (.pointer (some (sp v (j - 1))))), (88, (str (l2.getD (j - 1) []))), (89, v), (90, (vN j)), (91, (.pointer (some (sp v j))))] wS := by
                      intro wS HS
                      rw [hW]
                      refine WH.all1 (i := 13) (by kernel_rfl) ?_
                      ·
                        refine WHS.op (i := 13) rfl (.inl rfl) rfl (op_load rfl ((HS.arrR (i := 0) rfl).at (get_map str [] (Arr.ltM (HS.arrR (i := 0) rfl) (by omega)))) Tryd.underlying9 rfl ?_)
                        refine ⟨⟨[.row v 9 1 n (List.map str l2)], HS⟩, ?_⟩
                        refine WH.take (i := 14) (v := (.pointer (some (sp v j)))) rfl rfl (.inl rfl) rfl (by kernel_rfl) ⟨[.row v 9 1 n (List.map str l2)], HS⟩ (fun wX hSX => hSX.elim fun LX HX => op_indexAddr1W Tryd.underlying80 Fa.I9 rfl (HS.arrR (i := 0) rfl) rfl (by omega) ⟨rfl, rfl⟩) ?_
                        have hq := st17_3 wS HS
                        rw [hW] at hq
                        refine WH.cov ?_ hq
                        exact by repeat (first | exact trivial | refine ⟨rfl, ?_⟩)
                    have st17_2 : ∀ (wS : World), Own T w wS [.row v 9 1 n (List.map str l2)] → W 5 #[true, true, true, true, true, true, true, true, true, false, true, true, true, true, false, false, false, false] [(0, v), (1, (vN a)), (2, (vN b)), (7, (vN i3)), (8, (vN c)), (9, (vN j)), (64, (vN j)), (65, (.bool (decide (j ≥ 1)))), (68, v), (69, (vN j)), (70, (.pointer (some (sp v j)))), (71, (str (l2.getD j []))), (72, v), (73, (vN j)), (74, (vN (j - 1))), (75, (.pointer (some (sp v (j - 1))))), (76, (str (l2.getD (j - 1) []))), (77, (.bool (ltStr (l2.getD j []) (l2.getD (j - 1) [])))), (78, (.bool (!(ltStr (l2.getD j []) (l2.getD (j - 1) []))))), (79, v), (80, (vN j)), (81, v), (82, (vN j)), (83, (vN (j - 1))), (84, v), (85, (vN j)), (86, (vN (j - 1))), (87, (.pointer (some (sp v (j - 1))))), (89, v), (90, (vN j)), (91, (.pointer (some (sp v j)))), (92, (str (l2.getD j [])))] wS := by
                      intro wS HS
                      rw [hW]
                      refine WH.all1 (i := 9) (by kernel_rfl) ?_
                      ·
                        refine WHS.op (i := 9) rfl (.inl rfl) rfl (op_load rfl ((HS.arrR (i := 0) rfl).at (get_map str [] (Arr.ltM (HS.arrR (i := 0) rfl) (by omega)))) Tryd.underlying9 rfl ?_)
                        refine ⟨⟨[.row v 9 1 n (List.map str l2)], HS⟩, ?_⟩
                        refine WH.take (i := 14) (v := (.pointer (some (sp v j)))) rfl rfl (.inl rfl) rfl (by kernel_rfl) ⟨[.row v 9 1 n (List.map str l2)], HS⟩ (fun wX hSX => hSX.elim fun LX HX => op_indexAddr1W Tryd.underlying80 Fa.I9 rfl (HS.arrR (i := 0) rfl) rfl (by omega) ⟨rfl, rfl⟩) ?_
                        have hq := st17_3 wS HS
                        rw [hW] at hq
                        refine WH.cov ?_ hq
                        exact by repeat (first | exact trivial | refine ⟨rfl, ?_⟩)
                    have st17_0 : ∀ (wS : World), Own T w wS [.row v 9 1 n (List.map str l2)] → W 6 #[true, true, true, true, true, true, true, true, true, false, true, true, true, false, false, false, false, false] [(0, v), (1, (vN a)), (2, (vN b)), (7, (vN i3)), (8, (vN c)), (9, (vN j)), (64, (vN j)), (65, (.bool (decide (j ≥ 1)))), (68, v), (69, (vN j)), (70, (.pointer (some (sp v j)))), (71, (str (l2.getD j []))), (72, v), (73, (vN j)), (74, (vN (j - 1))), (75, (.pointer (some (sp v (j - 1))))), (76, (str (l2.getD (j - 1) []))), (77, (.bool (ltStr (l2.getD j []) (l2.getD (j - 1) [])))), (78, (.bool (!(ltStr (l2.getD j []) (l2.getD (j - 1) []))))), (79, v), (80, (vN j)), (81, v), (82, (vN j)), (83, (vN (j - 1))), (84, v), (85, (vN j)), (86, (vN (j - 1))), (87, (.pointer (some (sp v (j - 1))))), (89, v), (90, (vN j)), (91, (.pointer (some (sp v j))))] wS := by
                      intro wS HS
                      rw [hW]
                      refine WH.all2 (i := 9) (j := 13) (by kernel_rfl) ?_ ?_
                      ·
                        refine WHS.op (i := 9) rfl (.inl rfl) rfl (op_load rfl ((HS.arrR (i := 0) rfl).at (get_map str [] (Arr.ltM (HS.arrR (i := 0) rfl) (by omega)))) Tryd.underlying9 rfl ?_)
                        refine ⟨⟨[.row v 9 1 n (List.map str l2)], HS⟩, ?_⟩
                        have hq := st17_1 wS HS
                        rw [hW] at hq
                        refine WH.cov ?_ hq
                        exact by repeat (first | exact trivial | refine ⟨rfl, ?_⟩)
                      ·
                        refine WHS.op (i := 13) rfl (.inl rfl) rfl (op_load rfl ((HS.arrR (i := 0) rfl).at (get_map str [] (Arr.ltM (HS.arrR (i := 0) rfl) (by omega)))) Tryd.underlying9 rfl ?_)
                        refine ⟨⟨[.row v 9 1 n (List.map str l2)], HS⟩, ?_⟩
                        have hq := st17_2 wS HS
                        rw [hW] at hq
                        refine WH.cov ?_ hq
                        exact by repeat (first | exact trivial | refine ⟨rfl, ?_⟩)
                    have hq := st17_0 w21 H21
                    rw [hW] at hq ⊢
                    refine WH.cov ?_ hq
                    exact by repeat (first | exact trivial | refine ⟨rfl, ?_⟩)
                ·
                  have hc17 := of_decide_eq_false hb17
                  refine WC.exit ?_
                  refine WQ.thenExit ?_
                  refine WQ.thenExit ?_
                  refine WQ.inHere ?_
                  have hd := ins_done ltStrOK hj3 (.inl (by omega)) hj1
                  rw [show i3 - 1 + 1 = i3 by omega] at hd
                  exact WQ.here l2 ⟨⟨hs2, hd, hp2⟩, H16⟩ ⟨rfl, rfl, rfl, rfl, rfl, trivial⟩
              ·
                have hc15 := of_decide_eq_false hb15
                refine WC.skip ?_
                exact WQ.here l3 ⟨⟨hs3, SortS.nil (by omega), hp3⟩, H14⟩ ⟨rfl, rfl, rfl, rfl, rfl, trivial⟩
            ·
              rintro l4 w23 ⟨⟨hs4, ho4, hp4⟩, H23⟩
              show WC _ _ _ _ _ [(0, v), (1, (vN a)), (2, (vN b)), (7, (vN i3)), (8, (vN c))] _
              have hL4 := hs4.len
              refine WC.seq ?_
              refine WC.region ?_
              refine WL.op rfl rfl (op_move rfl ?_)
              refine WL.op rfl rfl (op_move rfl ?_)
              refine WL.op rfl rfl (op_subN rfl rfl (by omega) (by omega) ?_)
              refine WL.op rfl rfl (op_geqN (b := 2) rfl rfl ?_)
              refine WL.nil ?_
              refine WQ.next ?_
              refine WC.cond rfl (fun (hb24 : (decide ((b - i3) ≥ 2)) = true) => ?_) (fun (hb24 : (decide ((b - i3) ≥ 2)) = false) => ?_)
              ·
                have hc24 := of_decide_eq_true hb24
                refine WC.seq ?_
                refine WC.region ?_
                refine WL.op rfl rfl (op_move rfl ?_)
                refine WL.op rfl rfl (op_addN (b := 1) rfl rfl (by omega) ?_)
                refine WL.op rfl rfl (op_assign rfl ?_)
                refine WL.nil ?_
                refine WQ.next ?_
                refine WC.block ?_
                refine WC.loop (α := Nat × List (List UInt8)) (fun (k, l7) => [(0, v), (1, (vN a)), (2, (vN b)), (7, (vN i3)), (8, (vN c)), (10, (vN k))]) (fun (k, l7) w' => (i3 + 1 ≤ k ∧ k ≤ b ∧ Sw [] a b l l7 ∧ SortS ltStr [] a i3 l7 ∧ PreS ltStr [] a b l7) ∧ Own T w w' [.row v 9 1 n (List.map str l7)]) (fun (k, l7) => b - k) (i3 + 1, l4) ⟨⟨Nat.le_refl _, by omega, hs4, ho4, hp4⟩, H23⟩ ⟨rfl, rfl, rfl, rfl, rfl, rfl, trivial⟩ ?_
                rintro ⟨k, l7⟩ w25 ⟨⟨hk1, hk2, hs7, ho7, hp7⟩, H25⟩
                show WC _ _ _ _ _ [(0, v), (1, (vN a)), (2, (vN b)), (7, (vN i3)), (8, (vN c)), (10, (vN k))] _
                have hL7 := hs7.len
                refine WC.seq ?_
                refine WC.seq ?_
                refine WC.region ?_
                refine WL.op rfl rfl (op_move rfl ?_)
                refine WL.op rfl rfl (op_move rfl ?_)
                refine WL.op rfl rfl (op_lssN rfl rfl ?_)
                refine WL.nil ?_
                refine WQ.next ?_
                refine WC.cond rfl (fun (hb26 : (decide (k < b)) = true) => ?_) (fun (hb26 : (decide (k < b)) = false) => ?_)
                ·
                  have hc26 := of_decide_eq_true hb26
                  refine WC.skip ?_
                  refine WQ.next ?_
                  refine WC.seq ?_
                  refine WC.block ?_
                  refine WC.seq ?_
                  refine WC.seq ?_
                  refine WC.draw 11 Fa.M H25 (HW.op rfl (fun w1 H1 => op_move rfl ⟨rfl, Fr.refl _ _⟩) (HW.op rfl (fun w1 H1 => op_move rfl ⟨rfl, Fr.refl _ _⟩) (HW.op rfl (fun w1 H1 => op_indexAddr1 Tryd.underlying80 Fa.I9 rfl (H1.arrR (i := 0) rfl) rfl (by omega) ⟨rfl, Fr.refl _ _⟩) (HW.op rfl (fun w1 H1 => op_load rfl ((H1.arrR (i := 0) rfl).at (get_map str [] (Arr.ltM (H1.arrR (i := 0) rfl) (by omega)))) Tryd.underlying9 rfl ⟨rfl, Fr.refl _ _⟩) (HW.op rfl (fun w1 H1 => op_move rfl ⟨rfl, Fr.refl _ _⟩) (HW.op rfl (fun w1 H1 => op_move rfl ⟨rfl, Fr.refl _ _⟩) (HW.op rfl (fun w1 H1 => op_subN (b := 1) rfl rfl (by omega) (by omega) ⟨rfl, Fr.refl _ _⟩) (HW.op rfl (fun w1 H1 => op_indexAddr1 Tryd.underlying80 Fa.I9 rfl (H1.arrR (i := 0) rfl) rfl (by omega) ⟨rfl, Fr.refl _ _⟩) (HW.op rfl (fun w1 H1 => op_load rfl ((H1.arrR (i := 0) rfl).at (get_map str [] (Arr.ltM (H1.arrR (i := 0) rfl) (by omega)))) Tryd.underlying9 rfl ⟨rfl, Fr.refl _ _⟩) (HW.op rfl (fun w1 H1 => op_callF Fa.C100 rfl ((less_ok (l7.getD k []) (l7.getD (k - 1) []) _).mono (fun e w2 hq => ⟨_, hq.1, rfl, hq.2⟩))) (HW.op rfl (fun w1 H1 => op_not rfl ⟨rfl, Fr.refl _ _⟩)  HW.nil))))))))))) (by kernel_rfl) ?_
                  intro β28 w28 H28
                  refine WL.nil ?_
                  refine WQ.next ?_
                  refine WC.cond rfl (fun (hb29 : (!(ltStr (l7.getD k []) (l7.getD (k - 1) []))) = true) => ?_) (fun (hb29 : (!(ltStr (l7.getD k []) (l7.getD (k - 1) []))) = false) => ?_)
                  ·
                    have hn29 := (Bool.not_eq_true' _).mp hb29
                    refine WC.exit ?_
                    refine WQ.thenExit ?_
                    refine WQ.inPass rfl ?_
                    refine WQ.thenExit ?_
                    refine WQ.thenExit ?_
                    refine WQ.inHere ?_
                    refine WQ.inNormal ?_
                    refine WQ.next ?_
                    refine WC.region ?_
                    refine WL.op rfl rfl (op_move rfl ?_)
                    refine WL.op rfl rfl (op_addN (b := 1) rfl rfl (by omega) ?_)
                    refine WL.op rfl rfl (op_assign rfl ?_)
                    refine WL.nil ?_
                    exact WQ.round (i3, c + 1, l7) ⟨⟨by omega, by omega, by omega, hs7, ho7, hp7⟩, H28⟩ ⟨rfl, rfl, rfl, rfl, rfl, trivial⟩ (by show 5 - (c + 1) < 5 - c; omega)
                  ·
                    have hn29 := (Bool.not_eq_false' _).mp hb29
                    refine WC.skip ?_
                    refine WQ.next ?_
                    refine WC.held 18 rfl Fa.M H28 (fun w' => ∃ L', Own T w w' ([] ++ L')) ?_
                    intro w30 H30
                    refine WH.take (i := 0) (v := v) rfl rfl (.inl rfl) rfl (by kernel_rfl) ⟨[.row v 9 1 n (List.map str l7)], H30⟩ (fun wX hSX => hSX.elim fun LX HX => op_move rfl ⟨rfl, rfl⟩) ?_
                    refine WH.take (i := 1) (v := (vN k)) rfl rfl (.inl rfl) rfl (by kernel_rfl) ⟨[.row v 9 1 n (List.map str l7)], H30⟩ (fun wX hSX => hSX.elim fun LX HX => op_move rfl ⟨rfl, rfl⟩) ?_
                    refine WH.take (i := 2) (v := v) rfl rfl (.inl rfl) rfl (by kernel_rfl) ⟨[.row v 9 1 n (List.map str l7)], H30⟩ (fun wX hSX => hSX.elim fun LX HX => op_move rfl ⟨rfl, rfl⟩) ?_
                    refine WH.take (i := 3) (v := (vN k)) rfl rfl (.inl rfl) rfl (by kernel_rfl) ⟨[.row v 9 1 n (List.map str l7)], H30⟩ (fun wX hSX => hSX.elim fun LX HX => op_move rfl ⟨rfl, rfl⟩) ?_
                    refine WH.take (i := 4) (v := (vN (k - 1))) rfl rfl (.inl rfl) rfl (by kernel_rfl) ⟨[.row v 9 1 n (List.map str l7)], H30⟩ (fun wX hSX => hSX.elim fun LX HX => op_subN (b := 1) rfl rfl (by omega) (by omega) ⟨rfl, rfl⟩) ?_
                    refine WH.take (i := 5) (v := v) rfl rfl (.inl rfl) rfl (by kernel_rfl) ⟨[.row v 9 1 n (List.map str l7)], H30⟩ (fun wX hSX => hSX.elim fun LX HX => op_move rfl ⟨rfl, rfl⟩) ?_
                    refine WH.take (i := 6) (v := (vN k)) rfl rfl (.inl rfl) rfl (by kernel_rfl) ⟨[.row v 9 1 n (List.map str l7)], H30⟩ (fun wX hSX => hSX.elim fun LX HX => op_move rfl ⟨rfl, rfl⟩) ?_
                    refine WH.take (i := 7) (v := (vN (k - 1))) rfl rfl (.inl rfl) rfl (by kernel_rfl) ⟨[.row v 9 1 n (List.map str l7)], H30⟩ (fun wX hSX => hSX.elim fun LX HX => op_subN (b := 1) rfl rfl (by omega) (by omega) ⟨rfl, rfl⟩) ?_
                    refine WH.take (i := 8) (v := (.pointer (some (sp v (k - 1))))) rfl rfl (.inl rfl) rfl (by kernel_rfl) ⟨[.row v 9 1 n (List.map str l7)], H30⟩ (fun wX hSX => hSX.elim fun LX HX => op_indexAddr1W Tryd.underlying80 Fa.I9 rfl (H30.arrR (i := 0) rfl) rfl (by omega) ⟨rfl, rfl⟩) ?_
                    refine WH.take (i := 10) (v := v) rfl rfl (.inl rfl) rfl (by kernel_rfl) ⟨[.row v 9 1 n (List.map str l7)], H30⟩ (fun wX hSX => hSX.elim fun LX HX => op_move rfl ⟨rfl, rfl⟩) ?_
                    refine WH.take (i := 11) (v := (vN k)) rfl rfl (.inl rfl) rfl (by kernel_rfl) ⟨[.row v 9 1 n (List.map str l7)], H30⟩ (fun wX hSX => hSX.elim fun LX HX => op_move rfl ⟨rfl, rfl⟩) ?_
                    refine WH.take (i := 12) (v := (.pointer (some (sp v k)))) rfl rfl (.inl rfl) rfl (by kernel_rfl) ⟨[.row v 9 1 n (List.map str l7)], H30⟩ (fun wX hSX => hSX.elim fun LX HX => op_indexAddr1W Tryd.underlying80 Fa.I9 rfl (H30.arrR (i := 0) rfl) rfl (by omega) ⟨rfl, rfl⟩) ?_
                    refine WH.named (fun W hW => ?_)
                    have st23_5 : ∀ (wS : World), Own T w wS [.row v 9 1 n (List.map str ((l7.set k (l7.getD (k - 1) [])).set (k - 1) (l7.getD k [])))] → W 0 #[true, true, true, true, true, true, true, true, true, true, true, true, true, true, true, true, true, true] [(0, v), (1, (vN a)), (2, (vN b)), (7, (vN i3)), (8, (vN c)), (10, (vN k)), (101, (vN k)), (102, (vN b)), (103, (.bool (decide (k < b)))), (106, v), (107, (vN k)), (108, (.pointer (some (sp v k)))), (109, (str (l7.getD k []))), (110, v), (111, (vN k)), (112, (vN (k - 1))), (113, (.pointer (some (sp v (k - 1))))), (114, (str (l7.getD (k - 1) []))), (115, (.bool (ltStr (l7.getD k []) (l7.getD (k - 1) [])))), (116, (.bool (!(ltStr (l7.getD k []) (l7.getD (k - 1) []))))), (117, v), (118, (vN k)), (119, v), (120, (vN k)), (121, (vN (k - 1))), (122, v), (123, (vN k)), (124, (vN (k - 1))), (125, (.pointer (some (sp v (k - 1))))), (126, (str (l7.getD (k - 1) []))), (127, v), (128, (vN k)), (129, (.pointer (some (sp v k)))), (130, (str (l7.getD k []))), (131, (.pointer (some (sp v k)))), (132, (.pointer (some (sp v (k - 1)))))] wS := by
                      intro wS HS
                      rw [hW]
                      refine WH.done (by kernel_rfl) ?_
                      refine WQ.inNormal ?_
                      refine WQ.next ?_
                      refine WC.region ?_
                      refine WL.op rfl rfl (op_move rfl ?_)
                      refine WL.op rfl rfl (op_addN (b := 1) rfl rfl (by omega) ?_)
                      refine WL.op rfl rfl (op_assign rfl ?_)
                      refine WL.nil ?_
                      exact WQ.round (k + 1, swapL [] l7 k (k - 1)) ⟨⟨by omega, by omega, hs7.step (by omega) (by omega) (by omega) (by omega), sort_keep (b := b) (by omega) ho7 (Sw.one (by omega) (by omega) (by omega) (by omega)), pre_sw (by omega) hp7 (Sw.one (by omega) (by omega) (by omega) (by omega))⟩, HS⟩ ⟨rfl, rfl, rfl, rfl, rfl, rfl, trivial⟩ (by show b - (k + 1) < b - k; omega)
                    have st23_4 : ∀ (wS : World), Own T w wS [.row v 9 1 n (List.map str (l7.set k (l7.getD (k - 1) [])))] → W 1 #[true, true, true, true, true, true, true, true, true, true, true, true, true, true, true, true, true, false] [(0, v), (1, (vN a)), (2, (vN b)), (7, (vN i3)), (8, (vN c)), (10, (vN k)), (101, (vN k)), (102, (vN b)), (103, (.bool (decide (k < b)))), (106, v), (107, (vN k)), (108, (.pointer (some (sp v k)))), (109, (str (l7.getD k []))), (110, v), (111, (vN k)), (112, (vN (k - 1))), (113, (.pointer (some (sp v (k - 1))))), (114, (str (l7.getD (k - 1) []))), (115, (.bool (ltStr (l7.getD k []) (l7.getD (k - 1) [])))), (116, (.bool (!(ltStr (l7.getD k []) (l7.getD (k - 1) []))))), (117, v), (118, (vN k)), (119, v), (120, (vN k)), (121, (vN (k - 1))), (122, v), (123, (vN k)), (124, (vN (k - 1))), (125, (.pointer (some (sp v (k - 1))))), (126, (str (l7.getD (k - 1) []))), (127, v), (128, (vN k)), (129, (.pointer (some (sp v k)))), (130, (str (l7.getD k []))), (131, (.pointer (some (sp v k)))), (132, (.pointer (some (sp v (k - 1)))))] wS := by
                      intro wS HS
                      rw [hW]
                      refine WH.all1 (i := 17) (by kernel_rfl) ?_
                      ·
                        refine WHS.op (i := 17) rfl (.inl rfl) rfl (op_storeRM (i := 0) (f := str) (l := (l7.set k (l7.getD (k - 1) []))) (c := (l7.getD k [])) HS rfl rfl rfl (by omega) rfl Fa.I9 (fun w41341 H41341 => ?_))
                        refine ⟨⟨[.row v 9 1 n (List.map str ((l7.set k (l7.getD (k - 1) [])).set (k - 1) (l7.getD k [])))], H41341⟩, ?_⟩
                        have hq := st23_5 w41341 H41341
                        rw [hW] at hq
                        refine WH.cov ?_ hq
                        exact by repeat (first | exact trivial | refine ⟨rfl, ?_⟩)
                    have st23_3 : ∀ (wS : World), Own T w wS [.row v 9 1 n (List.map str l7)] → W 3 #[true, true, true, true, true, true, true, true, true, true, true, true, true, true, true, false, false, false] [(0, v), (1, (vN a)), (2, (vN b)), (7, (vN i3)), (8, (vN c)), (10, (vN k)), (101, (vN k)), (102, (vN b)), (103, (.bool (decide (k < b)))), (106, v), (107, (vN k)), (108, (.pointer (some (sp v k)))), (109, (str (l7.getD k []))), (110, v), (111, (vN k)), (112, (vN (k - 1))), (113, (.pointer (some (sp v (k - 1))))), (114, (str (l7.getD (k - 1) []))), (115, (.bool (ltStr (l7.getD k []) (l7.getD (k - 1) [])))), (116, (.bool (!(ltStr (l7.getD k []) (l7.getD (k - 1) []))))), (117, v), (118, (vN k)), (119, v), (120, (vN k)), (121, (vN (k - 1))), (122, v), (123, (vN k)), (124, (vN (k - 1))), (125, (.pointer (some (sp v (k - 1))))), (126, (str (l7.getD (k - 1) []))), (127, v), (128, (vN k)), (129, (.pointer (some (sp v k)))), (130, (str (l7.getD k []))), (131, (.pointer (some (sp v k))))] wS := by
                      intro wS HS
                      rw [hW]
                      refine WH.all1 (i := 15) (by kernel_rfl) ?_
                      ·
                        refine WHS.op (i := 15) rfl (.inl rfl) rfl (op_storeRM (i := 0) (f := str) (l := l7) (c := (l7.getD (k - 1) [])) HS rfl rfl rfl (by omega) rfl Fa.I9 (fun w41301 H41301 => ?_))
                        refine ⟨⟨[.row v 9 1 n (List.map str (l7.set k (l7.getD (k - 1) [])))], H41301⟩, ?_⟩
                        refine WH.take (i := 16) (v := (.pointer (some (sp v (k - 1))))) rfl rfl (.inl rfl) rfl (by kernel_rfl) ⟨[.row v 9 1 n (List.map str (l7.set k (l7.getD (k - 1) [])))], H41301⟩ (fun wX hSX => hSX.elim fun LX HX => op_indexAddr1W Tryd.underlying80 Fa.I9 rfl (H41301.arrR (i := 0) rfl) rfl (by omega) ⟨rfl, rfl⟩) ?_
                        have hq := st23_4 w41301 H41301
                        rw [hW] at hq
                        refine WH.cov ?_ hq
                        exact by repeat (first | exact trivial | refine ⟨rfl, ?_⟩)
                    have st23_1 : ∀ (wS : World), Own T w wS [.row v 9 1 n (List.map str l7)] → W 5 #[true, true, true, true, true, true, true, true, true, true, true, true, true, false, false, false, false, false] [(0, v), (1, (vN a)), (2, (vN b)), (7, (vN i3)), (8, (vN c)), (10, (vN k)), (101, (vN k)), (102, (vN b)), (103, (.bool (decide (k < b)))), (106, v), (107, (vN k)), (108, (.pointer (some (sp v k)))), (109, (str (l7.getD k []))), (110, v), (111, (vN k)), (112, (vN (k - 1))), (113, (.pointer (some (sp v (k - 1))))), (114, (str (l7.getD (k - 1) []))), (115, (.bool (ltStr (l7.getD k []) (l7.getD (k - 1) [])))), (116, (.bool (!(ltStr (l7.getD k []) (l7.getD (k - 1) []))))), (117, v), (118, (vN k)), (119, v), (120, (vN k)), (121, (vN (k - 1))), (122, v), (123, (vN k)), (124, (vN (k - 1))), (125, (.pointer (some (sp v (k - 1))))), (126, (str (l7.getD (k - 1) []))), (127, v), (128, (vN k)), (129, (.pointer (some (sp v k))))] wS := by
                      intro wS HS
                      rw [hW]
                      refine WH.all1 (i := 13) (by kernel_rfl) ?_
                      ·
                        refine WHS.op (i := 13) rfl (.inl rfl) rfl (op_load rfl ((HS.arrR (i := 0) rfl).at (get_map str [] (Arr.ltM (HS.arrR (i := 0) rfl) (by omega)))) Tryd.underlying9 rfl ?_)
                        refine ⟨⟨[.row v 9 1 n (List.map str l7)], HS⟩, ?_⟩
                        refine WH.take (i := 14) (v := (.pointer (some (sp v k)))) rfl rfl (.inl rfl) rfl (by kernel_rfl) ⟨[.row v 9 1 n (List.map str l7)], HS⟩ (fun wX hSX => hSX.elim fun LX HX => op_indexAddr1W Tryd.underlying80 Fa.I9 rfl (HS.arrR (i := 0) rfl) rfl (by omega) ⟨rfl, rfl⟩) ?_
                        have hq := st23_3 wS HS
                        rw [hW] at hq
                        refine WH.cov ?_ hq
                        exact by repeat (first | exact trivial | refine ⟨rfl, ?_⟩)
                    have st23_2 : ∀ (wS : World), Own T w wS [.row v 9 1 n (List.map str l7)] → W 5 #[true, true, true, true, true, true, true, true, true, false, true, true, true, true, false, false, false, false] [(0, v), (1, (vN a)), (2, (vN b)), (7, (vN i3)), (8, (vN c)), (10, (vN k)), (101, (vN k)), (102, (vN b)), (103, (.bool (decide (k < b)))), (106, v), (107, (vN k)), (108, (.pointer (some (sp v k)))), (109, (str (l7.getD k []))), (110, v), (111, (vN k)), (112, (vN (k - 1))), (113, (.pointer (some (sp v (k - 1))))), (114, (str (l7.getD (k - 1) []))), (115, (.bool (ltStr (l7.getD k []) (l7.getD (k - 1) [])))), (116, (.bool (!(ltStr (l7.getD k []) (l7.getD (k - 1) []))))), (117, v), (118, (vN k)), (119, v), (120, (vN k)), (121, (vN (k - 1))), (122, v), (123, (vN k)), (124, (vN (k - 1))), (125, (.pointer (some (sp v (k - 1))))), (127, v), (128, (vN k)), (129, (.pointer (some (sp v k)))), (130, (str (l7.getD k [])))] wS := by
                      intro wS HS
                      rw [hW]
                      refine WH.all1 (i := 9) (by kernel_rfl) ?_
                      ·
                        refine WHS.op (i := 9) rfl (.inl rfl) rfl (op_load rfl ((HS.arrR (i := 0) rfl).at (get_map str [] (Arr.ltM (HS.arrR (i := 0) rfl) (by omega)))) Tryd.underlying9 rfl ?_)
                        refine ⟨⟨[.row v 9 1 n (List.map str l7)], HS⟩, ?_⟩
                        refine WH.take (i := 14) (v := (.pointer (some (sp v k)))) rfl rfl (.inl rfl) rfl (by kernel_rfl) ⟨[.row v 9 1 n (List.map str l7)], HS⟩ (fun wX hSX => hSX.elim fun LX HX => op_indexAddr1W Tryd.underlying80 Fa.I9 rfl (HS.arrR (i := 0) rfl) rfl (by omega) ⟨rfl, rfl⟩) ?_
                        have hq := st23_3 wS HS
                        rw [hW] at hq
                        refine WH.cov ?_ hq
                        exact by repeat (first | exact trivial | refine ⟨rfl, ?_⟩)
                    have st23_0 : ∀ (wS : World), Own T w wS [.row v 9 1 n (List.map str l7)] → W 6 #[true, true, true, true, true, true, true, true, true, false, true, true, true, false, false, false, false, false] [(0, v), (1, (vN a)), (2, (vN b)), (7, (vN i3)), (8, (vN c)), (10, (vN k)), (101, (vN k)), (102, (vN b)), (103, (.bool (decide (k < b)))), (106, v), (107, (vN k)), (108, (.pointer (some (sp v k)))), (109, (str (l7.getD k []))), (110, v), (111, (vN k)), (112, (vN (k - 1))), (113, (.pointer (some (sp v (k - 1))))), (114, (str (l7.getD (k - 1) []))), (115, (.bool (ltStr (l7.getD k []) (l7.getD (k - 1) [])))), (116, (.bool (!(ltStr (l7.getD k []) (l7.getD (k - 1) []))))), (117, v), (118, (vN k)), (119, v), (120, (vN k)), (121, (vN (k - 1))), (122, v), (123, (vN k)), (124, (vN (k - 1))), (125, (.pointer (some (sp v (k - 1))))), (127, v), (128, (vN k)), (129, (.pointer (some (sp v k))))] wS := by
                      intro wS HS
                      rw [hW]
                      refine WH.all2 (i := 9) (j := 13) (by kernel_rfl) ?_ ?_
                      ·
                        refine WHS.op (i := 9) rfl (.inl rfl) rfl (op_load rfl ((HS.arrR (i := 0) rfl).at (get_map str [] (Arr.ltM (HS.arrR (i := 0) rfl) (by omega)))) Tryd.underlying9 rfl ?_)
                        refine ⟨⟨[.row v 9 1 n (List.map str l7)], HS⟩, ?_⟩
                        have hq := st23_1 wS HS
                        rw [hW] at hq
                        refine WH.cov ?_ hq
                        exact by repeat (first | exact trivial | refine ⟨rfl, ?_⟩)
                      ·
                        refine WHS.op (i := 13) rfl (.inl rfl) rfl (op_load rfl ((HS.arrR (i := 0) rfl).at (get_map str [] (Arr.ltM (HS.arrR (i := 0) rfl) (by omega)))) Tryd.underlying9 rfl ?_)
                        refine ⟨⟨[.row v 9 1 n (List.map str l7)], HS⟩, ?_⟩
                        have hq := st23_2 wS HS
                        rw [hW] at hq
                        refine WH.cov ?_ hq
                        exact by repeat (first | exact trivial | refine ⟨rfl, ?_⟩)
                    have hq := st23_0 w30 H30
                    rw [hW] at hq ⊢
                    refine WH.cov ?_ hq
                    exact by repeat (first | exact trivial | refine ⟨rfl, ?_⟩)
                ·
                  have hc26 := of_decide_eq_false hb26
                  refine WC.exit ?_
                  refine WQ.thenExit ?_
                  refine WQ.thenExit ?_
                  refine WQ.inHere ?_
                  refine WQ.inNormal ?_
                  refine WQ.next ?_
                  refine WC.region ?_
                  refine WL.op rfl rfl (op_move rfl ?_)
                  refine WL.op rfl rfl (op_addN (b := 1) rfl rfl (by omega) ?_)
                  refine WL.op rfl rfl (op_assign rfl ?_)
                  refine WL.nil ?_
                  exact WQ.round (i3, c + 1, l7) ⟨⟨by omega, by omega, by omega, hs7, ho7, hp7⟩, H25⟩ ⟨rfl, rfl, rfl, rfl, rfl, trivial⟩ (by show 5 - (c + 1) < 5 - c; omega)
              ·
                have hc24 := of_decide_eq_false hb24
                refine WC.skip ?_
                refine WQ.inNormal ?_
                refine WQ.next ?_
                refine WC.region ?_
                refine WL.op rfl rfl (op_move rfl ?_)
                refine WL.op rfl rfl (op_addN (b := 1) rfl rfl (by omega) ?_)
                refine WL.op rfl rfl (op_assign rfl ?_)
                refine WL.nil ?_
                exact WQ.round (i3, c + 1, l4) ⟨⟨by omega, by omega, by omega, hs4, ho4, hp4⟩, H23⟩ ⟨rfl, rfl, rfl, rfl, rfl, trivial⟩ (by show 5 - (c + 1) < 5 - c; omega)
  ·
    have hc2 := of_decide_eq_false hb2
    refine WC.exit ?_
    refine WQ.thenExit ?_
    refine WQ.thenExit ?_
    refine WQ.inHere ?_
    refine WQ.next ?_
    refine WC.seq ?_
    refine WC.region ?_
    refine WL.op rfl rfl (op_assign rfl ?_)
    refine WL.nil ?_
    refine WQ.next ?_
    refine WC.ret ?_
    refine WQ.out (.tmp rfl .nil) ?_
    exact ⟨_, _, rfl, ⟨hs1, fun h => by cases h⟩, H1⟩
set_option maxHeartbeats 4000000 in
set_option maxRecDepth 100000 in
theorem pdq_step (v : Value) (n : Nat) (l : List (List UInt8)) (a b : Nat) (m : Nat) (T : List Nat) (w : World) (H : Own T w w [.row v 9 1 n (List.map str l)]) (hn : l.length = n) (hN : n < 2 ^ 61) (hab : a ≤ b) (hb : b ≤ n) (hm : m < 2 ^ 62) (hpre : PreS ltStr [] a b l) (IH : ∀ (l2 : List (List UInt8)) (a2 b2 m2 : Nat) (T2 : List Nat) (w2 : World), Own T2 w2 w2 [.row v 9 1 n (List.map str l2)] → l2.length = n → b2 - a2 < b - a → a2 ≤ b2 → b2 ≤ n → m2 < 2 ^ 62 → PreS ltStr [] a2 b2 l2 → Calls Tryd.prog 87 #[v, vN a2, vN b2, vN m2] w2 (fun e w3 => ∃ l3 : List (List UInt8), e = .returned undef ∧ (Sw [] a2 b2 l2 l3 ∧ SortS ltStr [] a2 b2 l3) ∧ Own T2 w2 w3 [.row v 9 1 n (List.map str l3)])) :
    Calls Tryd.prog 87 #[v, (vN a), (vN b), (vN m)] w (fun e w' => ∃ (l' : List (List UInt8)), e = .returned undef ∧ (Sw [] a b l l' ∧ SortS ltStr [] a b l') ∧ Own T w w' [.row v 9 1 n (List.map str l')]) := by
  refine enter (args := [v, (vN a), (vN b), (vN m)]) Tryd.func87 rfl rfl ?_
  refine WC.seq ?_
  refine WC.region ?_
  refine WL.op rfl rfl (op_assign rfl ?_)
  refine WL.nil ?_
  refine WQ.next ?_
  refine WC.seq ?_
  refine WC.region ?_
  refine WL.op rfl rfl (op_assign rfl ?_)
  refine WL.nil ?_
  refine WQ.next ?_
  refine WC.block ?_
  refine WC.loop (α := Nat × Nat × Nat × Bool × Bool × List (List UInt8)) (fun (a1, b1, m1, p1, q1, l1) => [(0, v), (1, (vN a1)), (2, (vN b1)), (3, (vN m1)), (8, (.bool p1)), (9, (.bool q1))]) (fun (a1, b1, m1, p1, q1, l1) w' => (a ≤ a1 ∧ a1 ≤ b1 ∧ b1 ≤ b ∧ m1 < 2 ^ 62 ∧ Sw [] a b l l1 ∧ OutS ltStr [] a b a1 b1 l1 ∧ PreS ltStr [] a1 b1 l1) ∧ Own T w w' [.row v 9 1 n (List.map str l1)]) (fun (a1, b1, m1, p1, q1, l1) => b1 - a1) (a, b, m, true, true, l) ⟨⟨Nat.le_refl _, hab, Nat.le_refl _, hm, .refl _, out_init, hpre⟩, H⟩ ⟨rfl, rfl, rfl, rfl, rfl, rfl, trivial⟩ ?_
  rintro ⟨a1, b1, m1, p1, q1, l1⟩ w1 ⟨⟨ha1, hab1, hb1, hm0, hs1, ho1, hpr1⟩, H1⟩
  show WC _ _ _ _ _ [(0, v), (1, (vN a1)), (2, (vN b1)), (3, (vN m1)), (8, (.bool p1)), (9, (.bool q1))] _
  have hL1 := hs1.len
  refine WC.block ?_
  refine WC.seq ?_
  refine WC.region ?_
  refine WL.op rfl rfl (op_move rfl ?_)
  refine WL.op rfl rfl (op_move rfl ?_)
  refine WL.op rfl rfl (op_subN rfl rfl (by omega) (by omega) ?_)
  refine WL.op rfl rfl (op_assign rfl ?_)
  refine WL.nil ?_
  refine WQ.next ?_
  refine WC.seq ?_
  refine WC.seq ?_
  refine WC.region ?_
  refine WL.op rfl rfl (op_move rfl ?_)
  refine WL.op rfl rfl (op_leqN (b := 12) rfl rfl ?_)
  refine WL.nil ?_
  refine WQ.next ?_
  refine WC.cond rfl (fun (hb2 : (decide ((b1 - a1) ≤ 12)) = true) => ?_) (fun (hb2 : (decide ((b1 - a1) ≤ 12)) = false) => ?_)
  ·
    have hc2 := of_decide_eq_true hb2
    refine WC.seq ?_
    refine WC.region ?_
    refine WL.op rfl rfl (op_move rfl ?_)
    refine WL.op rfl rfl (op_move rfl ?_)
    refine WL.op rfl rfl (op_move rfl ?_)
    refine WL.op rfl rfl (op_callF Fa.C94 rfl ((ins_ok v n l1 a1 b1 _ _ (H1.part [0] rfl rfl) (by omega) (by omega) (by omega) (by omega)).mono (fun e w3 hq => ?_)))
    obtain ⟨l3, rfl, hc3, hq3⟩ := hq
    refine ⟨_, rfl, ?_⟩
    have H3 : Own T w w3 [.row v 9 1 n (List.map str l3)] := H1.splice [0] [.row v 9 1 n (List.map str l3)] [] rfl rfl hq3 (Fits.solid True.intro Fits.nil)
    refine WL.nil ?_
    refine WQ.next ?_
    refine WC.ret ?_
    refine WQ.thenRet ?_
    refine WQ.inRet ?_
    refine WQ.thenRet ?_
    refine WQ.inRet ?_
    refine WQ.out .nil ?_
    exact ⟨_, rfl, ⟨hs1.trans (hc3.1.mono (by omega) (by omega)), out_done (out_sw (by omega) (by omega) (by omega) ho1 hc3.1) hc3.2⟩, H3⟩
  ·
    have hc2 := of_decide_eq_false hb2
    refine WC.skip ?_
    refine WQ.next ?_
    refine WC.seq ?_
    refine WC.seq ?_
    refine WC.region ?_
    refine WL.op rfl rfl (op_move rfl ?_)
    refine WL.op rfl rfl (op_eqlN (b := 0) rfl rfl ?_)
    refine WL.nil ?_
    refine WQ.next ?_
    refine WC.cond rfl (fun (hb4 : (decide (m1 = 0)) = true) => ?_) (fun (hb4 : (decide (m1 = 0)) = false) => ?_)
    ·
      have hc4 := of_decide_eq_true hb4
      refine WC.seq ?_
      refine WC.region ?_
      refine WL.op rfl rfl (op_move rfl ?_)
      refine WL.op rfl rfl (op_move rfl ?_)
      refine WL.op rfl rfl (op_move rfl ?_)
      refine WL.op rfl rfl (op_callF Fa.C95 rfl ((heap_ok v n l1 a1 b1 _ _ (H1.part [0] rfl rfl) (by omega) (by omega) (by omega) (by omega)).mono (fun e w5 hq => ?_)))
      obtain ⟨l5, rfl, hc5, hq5⟩ := hq
      refine ⟨_, rfl, ?_⟩
      have H5 : Own T w w5 [.row v 9 1 n (List.map str l5)] := H1.splice [0] [.row v 9 1 n (List.map str l5)] [] rfl rfl hq5 (Fits.solid True.intro Fits.nil)
      refine WL.nil ?_
      refine WQ.next ?_
      refine WC.ret ?_
      refine WQ.thenRet ?_
      refine WQ.inRet ?_
      refine WQ.thenRet ?_
      refine WQ.inRet ?_
      refine WQ.out .nil ?_
      exact ⟨_, rfl, ⟨hs1.trans (hc5.1.mono (by omega) (by omega)), out_done (out_sw (by omega) (by omega) (by omega) ho1 hc5.1) hc5.2⟩, H5⟩
    ·
      have hc4 := of_decide_eq_false hb4
      refine WC.skip ?_
      refine WQ.next ?_
      refine WC.cut (α := Nat × List (List UInt8)) (fun (m2, l2) => [(0, v), (1, (vN a1)), (2, (vN b1)), (3, (vN m2)), (8, (.bool p1)), (9, (.bool q1)), (10, (vN (b1 - a1)))]) (fun (m2, l2) w' => (m2 < 2 ^ 62 ∧ Sw [] a1 b1 l1 l2) ∧ Own T w w' [.row v 9 1 n (List.map str l2)]) ?_ ?_
      ·
        refine WC.seq ?_
        refine WC.region ?_
        refine WL.op rfl rfl (op_move rfl ?_)
        refine WL.op rfl rfl (op_not rfl ?_)
        refine WL.nil ?_
        refine WQ.next ?_
        refine WC.cond rfl (fun (hb6 : (!p1) = true) => ?_) (fun (hb6 : (!p1) = false) => ?_)
        ·
          have hn6 := (Bool.not_eq_true' _).mp hb6
          refine WC.seq ?_
          refine WC.region ?_
          refine WL.op rfl rfl (op_move rfl ?_)
          refine WL.op rfl rfl (op_move rfl ?_)
          refine WL.op rfl rfl (op_move rfl ?_)
          refine WL.op rfl rfl (op_callF Fa.C96 rfl ((brk_ok v n l1 a1 b1 _ _ (H1.part [0] rfl rfl) (by omega) (by omega) (by omega) (by omega)).mono (fun e w7 hq => ?_)))
          obtain ⟨l7, rfl, hc7, hq7⟩ := hq
          refine ⟨_, rfl, ?_⟩
          have H7 : Own T w w7 [.row v 9 1 n (List.map str l7)] := H1.splice [0] [.row v 9 1 n (List.map str l7)] [] rfl rfl hq7 (Fits.solid True.intro Fits.nil)
          refine WL.nil ?_
          refine WQ.next ?_
          refine WC.region ?_
          refine WL.op rfl rfl (op_move rfl ?_)
          refine WL.op rfl rfl (op_subN (b := 1) rfl rfl (by omega) (by omega) ?_)
          refine WL.op rfl rfl (op_assign rfl ?_)
          refine WL.nil ?_
          exact WQ.here ((m1 - 1), l7) ⟨⟨by omega, hc7⟩, H7⟩ ⟨rfl, rfl, rfl, rfl, rfl, rfl, rfl, trivial⟩
        ·
          have hn6 := (Bool.not_eq_false' _).mp hb6
          refine WC.skip ?_
          exact WQ.here (m1, l1) ⟨⟨by omega, .refl _⟩, H1⟩ ⟨rfl, rfl, rfl, rfl, rfl, rfl, rfl, trivial⟩
      ·
        rintro ⟨m2, l2⟩ w8 ⟨⟨hm9, hs2⟩, H8⟩
        show WC _ _ _ _ _ [(0, v), (1, (vN a1)), (2, (vN b1)), (3, (vN m2)), (8, (.bool p1)), (9, (.bool q1)), (10, (vN (b1 - a1)))] _
        have hL2 := hs2.len
        refine WC.seq ?_
        refine WC.region ?_
        refine WL.op rfl rfl (op_move rfl ?_)
        refine WL.op rfl rfl (op_move rfl ?_)
        refine WL.op rfl rfl (op_move rfl ?_)
        refine WL.op rfl rfl (op_callF Fa.C97 rfl ((piv_ok v n l2 a1 b1 _ _ (H8.part [0] rfl rfl) (by omega) (by omega) (by omega) (by omega)).mono (fun e w9 hq => ?_)))
        obtain ⟨p9, h9, rfl, hc9, hq9⟩ := hq
        refine ⟨_, rfl, ?_⟩
        have H9 : Own T w w9 [.row v 9 1 n (List.map str l2)] := H8.splice [0] [.row v 9 1 n (List.map str l2)] [] rfl rfl hq9 (Fits.solid True.intro Fits.nil)
        refine WL.op rfl rfl (op_move rfl ?_)
        refine WL.op rfl rfl (op_extract rfl rfl ?_)
        refine WL.op rfl rfl (op_extract rfl rfl ?_)
        refine WL.op rfl rfl (op_assign rfl ?_)
        refine WL.op rfl rfl (op_assign rfl ?_)
        refine WL.nil ?_
        refine WQ.next ?_
        refine WC.cut (α := Nat × Nat × List (List UInt8)) (fun (pv, h, l3) => [(0, v), (1, (vN a1)), (2, (vN b1)), (3, (vN m2)), (8, (.bool p1)), (9, (.bool q1)), (10, (vN (b1 - a1))), (11, (vN pv)), (12, (vN h))]) (fun (pv, h, l3) w' => (a1 ≤ pv ∧ pv < b1 ∧ Sw [] a1 b1 l1 l3) ∧ Own T w w' [.row v 9 1 n (List.map str l3)]) ?_ ?_
        ·
          refine WC.seq ?_
          refine WC.region ?_
          refine WL.op rfl rfl (op_move rfl ?_)
          refine WL.op rfl rfl (op_eqlN (b := 2) rfl rfl ?_)
          refine WL.nil ?_
          refine WQ.next ?_
          refine WC.cond rfl (fun (hb10 : (decide (h9 = 2)) = true) => ?_) (fun (hb10 : (decide (h9 = 2)) = false) => ?_)
          ·
            have hc10 := of_decide_eq_true hb10
            refine WC.seq ?_
            refine WC.region ?_
            refine WL.op rfl rfl (op_move rfl ?_)
            refine WL.op rfl rfl (op_move rfl ?_)
            refine WL.op rfl rfl (op_move rfl ?_)
            refine WL.op rfl rfl (op_callF Fa.C98 rfl ((rev_ok v n l2 a1 b1 _ _ (H9.part [0] rfl rfl) (by omega) (by omega) (by omega) (by omega)).mono (fun e w11 hq => ?_)))
            obtain ⟨l11, rfl, hc11, hq11⟩ := hq
            refine ⟨_, rfl, ?_⟩
            have H11 : Own T w w11 [.row v 9 1 n (List.map str l11)] := H9.splice [0] [.row v 9 1 n (List.map str l11)] [] rfl rfl hq11 (Fits.solid True.intro Fits.nil)
            refine WL.nil ?_
            refine WQ.next ?_
            refine WC.seq ?_
            refine WC.region ?_
            refine WL.op rfl rfl (op_move rfl ?_)
            refine WL.op rfl rfl (op_subN (b := 1) rfl rfl (by omega) (by omega) ?_)
            refine WL.op rfl rfl (op_move rfl ?_)
            refine WL.op rfl rfl (op_move rfl ?_)
            refine WL.op rfl rfl (op_subN rfl rfl (by omega) (by omega) ?_)
            refine WL.op rfl rfl (op_subN rfl rfl (by omega) (by omega) ?_)
            refine WL.op rfl rfl (op_assign rfl ?_)
            refine WL.nil ?_
            refine WQ.next ?_
            refine WC.region ?_
            refine WL.op rfl rfl (op_assign rfl ?_)
            refine WL.nil ?_
            exact WQ.here (((b1 - 1) - (p9 - a1)), 1, l11) ⟨⟨by omega, by omega, hs2.trans hc11⟩, H11⟩ ⟨rfl, rfl, rfl, rfl, rfl, rfl, rfl, rfl, rfl, trivial⟩
          ·
            have hc10 := of_decide_eq_false hb10
            refine WC.skip ?_
            exact WQ.here (p9, h9, l2) ⟨⟨by omega, by omega, hs2⟩, H9⟩ ⟨rfl, rfl, rfl, rfl, rfl, rfl, rfl, rfl, rfl, trivial⟩
        ·
          rintro ⟨pv, h, l3⟩ w12 ⟨⟨hv1, hv2, hs3⟩, H12⟩
          show WC _ _ _ _ _ [(0, v), (1, (vN a1)), (2, (vN b1)), (3, (vN m2)), (8, (.bool p1)), (9, (.bool q1)), (10, (vN (b1 - a1))), (11, (vN pv)), (12, (vN h))] _
          have hL3 := hs3.len
          refine WC.cut (α := List (List UInt8)) (fun l4 => [(0, v), (1, (vN a1)), (2, (vN b1)), (3, (vN m2)), (8, (.bool p1)), (9, (.bool q1)), (10, (vN (b1 - a1))), (11, (vN pv))]) (fun l4 w' => (Sw [] a1 b1 l1 l4) ∧ Own T w w' [.row v 9 1 n (List.map str l4)]) ?_ ?_
          ·
            refine WC.seq ?_
            refine WC.region ?_
            refine WL.op rfl rfl (op_move rfl ?_)
            refine WL.op rfl rfl (op_move rfl ?_)
            refine WL.split (t := 62) rfl (fun (hb13 : p1 = true) => ?_) (fun (hb13 : p1 = false) => ?_)
            ·
              refine WL.yes rfl rfl rfl hb13 rfl (op_move rfl ?_)
              refine WL.op rfl rfl (op_pickT rfl hb13 rfl ?_)
              refine WL.op rfl rfl (op_move rfl ?_)
              refine WL.split (t := 65) rfl (fun (hb14 : q1 = true) => ?_) (fun (hb14 : q1 = false) => ?_)
              ·
                refine WL.yes rfl rfl rfl hb14 rfl (op_move rfl ?_)
                refine WL.yes rfl rfl rfl hb14 rfl (op_eqlN (b := 1) rfl rfl ?_)
                refine WL.op rfl rfl (op_pickT rfl hb14 rfl ?_)
                refine WL.nil ?_
                refine WQ.next ?_
                refine WC.cond rfl (fun (hb15 : (decide (h = 1)) = true) => ?_) (fun (hb15 : (decide (h = 1)) = false) => ?_)
                ·
                  have hc15 := of_decide_eq_true hb15
                  refine WC.seq ?_
                  refine WC.region ?_
                  refine WL.op rfl rfl (op_move rfl ?_)
                  refine WL.op rfl rfl (op_move rfl ?_)
                  refine WL.op rfl rfl (op_move rfl ?_)
                  refine WL.op rfl rfl (op_callF Fa.C99 rfl ((pins_ok v n l3 a1 b1 _ _ (H12.part [0] rfl rfl) (by omega) (by omega) (by omega) (by omega) (pre_sw (by omega) hpr1 hs3)).mono (fun e w16 hq => ?_)))
                  obtain ⟨l16, r16, rfl, hc16, hq16⟩ := hq
                  refine ⟨_, rfl, ?_⟩
                  have H16 : Own T w w16 [.row v 9 1 n (List.map str l16)] := H12.splice [0] [.row v 9 1 n (List.map str l16)] [] rfl rfl hq16 (Fits.solid True.intro Fits.nil)
                  refine WL.nil ?_
                  refine WQ.next ?_
                  refine WC.cond rfl (fun (hb17 : r16 = true) => ?_) (fun (hb17 : r16 = false) => ?_)
                  ·
                    refine WC.ret ?_
                    refine WQ.thenRet ?_
                    refine WQ.inRet ?_
                    refine WQ.thenRet ?_
                    refine WQ.inRet ?_
                    refine WQ.out .nil ?_
                    exact ⟨_, rfl, ⟨hs1.trans ((hs3.trans hc16.1).mono (by omega) (by omega)), out_done (out_sw (by omega) (by omega) (by omega) ho1 (hs3.trans hc16.1)) (hc16.2 hb17)⟩, H16⟩
                  ·
                    refine WC.skip ?_
                    exact WQ.here l16 ⟨(hs3.trans hc16.1), H16⟩ ⟨rfl, rfl, rfl, rfl, rfl, rfl, rfl, rfl, trivial⟩
                ·
                  have hc15 := of_decide_eq_false hb15
                  refine WC.skip ?_
                  exact WQ.here l3 ⟨hs3, H12⟩ ⟨rfl, rfl, rfl, rfl, rfl, rfl, rfl, rfl, trivial⟩
              ·
                refine WL.no rfl rfl rfl hb14 rfl ?_
                refine WL.no rfl rfl rfl hb14 rfl ?_
                refine WL.op rfl rfl (op_pickF rfl hb14 rfl ?_)
                refine WL.nil ?_
                refine WQ.next ?_
                refine WC.no rfl rfl ?_
                refine WC.skip ?_
                exact WQ.here l3 ⟨hs3, H12⟩ ⟨rfl, rfl, rfl, rfl, rfl, rfl, rfl, rfl, trivial⟩
            ·
              refine WL.no rfl rfl rfl hb13 rfl ?_
              refine WL.op rfl rfl (op_pickF rfl hb13 rfl ?_)
              refine WL.op rfl rfl (op_move rfl ?_)
              refine WL.no rfl rfl rfl rfl rfl ?_
              refine WL.no rfl rfl rfl rfl rfl ?_
              refine WL.op rfl rfl (op_pickF rfl rfl rfl ?_)
              refine WL.nil ?_
              refine WQ.next ?_
              refine WC.no rfl rfl ?_
              refine WC.skip ?_
              exact WQ.here l3 ⟨hs3, H12⟩ ⟨rfl, rfl, rfl, rfl, rfl, rfl, rfl, rfl, trivial⟩
          ·
            rintro l4 w18 ⟨hs4, H18⟩
            show WC _ _ _ _ _ [(0, v), (1, (vN a1)), (2, (vN b1)), (3, (vN m2)), (8, (.bool p1)), (9, (.bool q1)), (10, (vN (b1 - a1))), (11, (vN pv))] _
            have hL4 := hs4.len
            have hO4 := out_sw (by omega) (by omega) (by omega) ho1 hs4
            have hP4 := pre_sw (by omega) hpr1 hs4
            refine WC.seq ?_
            refine WC.seq ?_
            refine bsplit (fun (hb19 : (decide (a1 > 0)) = true) => ?_) (fun (hb19 : (decide (a1 > 0)) = false) => ?_)
            ·
              have hc19 := of_decide_eq_true hb19
              refine WC.draw 15 Fa.M H18 (HW.op rfl (fun w1 H1 => op_move rfl ⟨rfl, Fr.refl _ _⟩) (HW.op rfl (fun w1 H1 => op_gtrN (b := 0) rfl rfl ⟨rfl, Fr.refl _ _⟩) (HW.op rfl (fun w1 H1 => op_move rfl ⟨rfl, Fr.refl _ _⟩) (HW.yes rfl rfl rfl hb19 (fun w1 H1 => op_move rfl ⟨rfl, Fr.refl _ _⟩) (HW.yes rfl rfl rfl hb19 (fun w1 H1 => op_move rfl ⟨rfl, Fr.refl _ _⟩) (HW.yes rfl rfl rfl hb19 (fun w1 H1 => op_subN (b := 1) rfl rfl (by omega) (by omega) ⟨rfl, Fr.refl _ _⟩) (HW.yes rfl rfl rfl hb19 (fun w1 H1 => op_indexAddr1 Tryd.underlying80 Fa.I9 rfl (H1.arrR (i := 0) rfl) rfl (by omega) ⟨rfl, Fr.refl _ _⟩) (HW.yes rfl rfl rfl hb19 (fun w1 H1 => op_load rfl ((H1.arrR (i := 0) rfl).at (get_map str [] (Arr.ltM (H1.arrR (i := 0) rfl) (by omega)))) Tryd.underlying9 rfl ⟨rfl, Fr.refl _ _⟩) (HW.yes rfl rfl rfl hb19 (fun w1 H1 => op_move rfl ⟨rfl, Fr.refl _ _⟩) (HW.yes rfl rfl rfl hb19 (fun w1 H1 => op_move rfl ⟨rfl, Fr.refl _ _⟩) (HW.yes rfl rfl rfl hb19 (fun w1 H1 => op_indexAddr1 Tryd.underlying80 Fa.I9 rfl (H1.arrR (i := 0) rfl) rfl (by omega) ⟨rfl, Fr.refl _ _⟩) (HW.yes rfl rfl rfl hb19 (fun w1 H1 => op_load rfl ((H1.arrR (i := 0) rfl).at (get_map str [] (Arr.ltM (H1.arrR (i := 0) rfl) (by omega)))) Tryd.underlying9 rfl ⟨rfl, Fr.refl _ _⟩) (HW.yes rfl rfl rfl hb19 (fun w1 H1 => op_callF Fa.C100 rfl ((less_ok (l4.getD (a1 - 1) []) (l4.getD pv []) _).mono (fun e w2 hq => ⟨_, hq.1, rfl, hq.2⟩))) (HW.yes rfl rfl rfl hb19 (fun w1 H1 => op_not rfl ⟨rfl, Fr.refl _ _⟩) (HW.op rfl (fun w1 H1 => op_pickT rfl hb19 rfl ⟨rfl, Fr.refl _ _⟩)  HW.nil))))))))))))))) (by kernel_rfl) ?_
              intro β21 w21 H21
              refine WL.nil ?_
              refine WQ.next ?_
              refine WC.cond rfl (fun (hb22 : (!(ltStr (l4.getD (a1 - 1) []) (l4.getD pv []))) = true) => ?_) (fun (hb22 : (!(ltStr (l4.getD (a1 - 1) []) (l4.getD pv []))) = false) => ?_)
              ·
                have hn22 := (Bool.not_eq_true' _).mp hb22
                refine WC.seq ?_
                refine WC.region ?_
                refine WL.op rfl rfl (op_move rfl ?_)
                refine WL.op rfl rfl (op_move rfl ?_)
                refine WL.op rfl rfl (op_move rfl ?_)
                refine WL.op rfl rfl (op_move rfl ?_)
                refine WL.op rfl rfl (op_callF Fa.C101 rfl ((parteq_ok v n l4 a1 b1 pv _ _ (H21.part [0] rfl rfl) (by omega) (by omega) (by omega) (by omega) (by omega)).mono (fun e w23 hq => ?_)))
                obtain ⟨l23, m23, rfl, hc23, hq23⟩ := hq
                refine ⟨_, rfl, ?_⟩
                have H23 : Own T w w23 [.row v 9 1 n (List.map str l23)] := H21.splice [0] [.row v 9 1 n (List.map str l23)] [] rfl rfl hq23 (Fits.solid True.intro Fits.nil)
                refine WL.op rfl rfl (op_assign rfl ?_)
                refine WL.nil ?_
                refine WQ.next ?_
                refine WC.seq ?_
                refine WC.region ?_
                refine WL.op rfl rfl (op_move rfl ?_)
                refine WL.op rfl rfl (op_assign rfl ?_)
                refine WL.nil ?_
                refine WQ.next ?_
                refine WC.exit ?_
                refine WQ.thenExit ?_
                refine WQ.inHere ?_
                have hm1 := hc23.2.1
                have hm2 := hc23.2.2.1
                have hE := eq_left ltStrOK (by omega) (by omega) hO4 (by omega) hP4 (by omega) hn22 hc23.1 hc23.2
                exact WQ.round (m23, b1, m2, p1, q1, l23) ⟨⟨by omega, by omega, by omega, by omega, hs1.trans ((hs4.trans hc23.1).mono (by omega) (by omega)), hE.1, hE.2⟩, H23⟩ ⟨rfl, rfl, rfl, rfl, rfl, rfl, trivial⟩ (by show b1 - m23 < b1 - a1; omega)
              ·
                have hn22 := (Bool.not_eq_false' _).mp hb22
                refine WC.skip ?_
                refine WQ.next ?_
                refine WC.seq ?_
                refine WC.region ?_
                refine WL.op rfl rfl (op_move rfl ?_)
                refine WL.op rfl rfl (op_move rfl ?_)
                refine WL.op rfl rfl (op_move rfl ?_)
                refine WL.op rfl rfl (op_move rfl ?_)
                refine WL.op rfl rfl (op_callF Fa.C102 rfl ((part_ok v n l4 a1 b1 pv _ _ (H21.part [0] rfl rfl) (by omega) (by omega) (by omega) (by omega) (by omega)).mono (fun e w24 hq => ?_)))
                obtain ⟨l24, m24, f24, rfl, hc24, hq24⟩ := hq
                refine ⟨_, rfl, ?_⟩
                have H24 : Own T w w24 [.row v 9 1 n (List.map str l24)] := H21.splice [0] [.row v 9 1 n (List.map str l24)] [] rfl rfl hq24 (Fits.solid True.intro Fits.nil)
                refine WL.op rfl rfl (op_move rfl ?_)
                refine WL.op rfl rfl (op_extract rfl rfl ?_)
                refine WL.op rfl rfl (op_extract rfl rfl ?_)
                refine WL.op rfl rfl (op_assign rfl ?_)
                refine WL.op rfl rfl (op_assign rfl ?_)
                refine WL.nil ?_
                refine WQ.next ?_
                refine WC.seq ?_
                refine WC.region ?_
                have hLP := hc24.1.len
                have hm1 := hc24.2.1
                have hm2 := hc24.2.2.1
                have hO5 := out_sw (by omega) (by omega) (by omega) hO4 hc24.1
                have hP5 := pre_sw (by omega) hP4 hc24.1
                refine WL.op rfl rfl (op_move rfl ?_)
                refine WL.op rfl rfl (op_assign rfl ?_)
                refine WL.nil ?_
                refine WQ.next ?_
                refine WC.seq ?_
                refine WC.region ?_
                refine WL.op rfl rfl (op_move rfl ?_)
                refine WL.op rfl rfl (op_move rfl ?_)
                refine WL.op rfl rfl (op_subN rfl rfl (by omega) (by omega) ?_)
                refine WL.op rfl rfl (op_move rfl ?_)
                refine WL.op rfl rfl (op_move rfl ?_)
                refine WL.op rfl rfl (op_subN rfl rfl (by omega) (by omega) ?_)
                refine WL.op rfl rfl (op_assign rfl ?_)
                refine WL.op rfl rfl (op_assign rfl ?_)
                refine WL.nil ?_
                refine WQ.next ?_
                refine WC.seq ?_
                refine WC.region ?_
                refine WL.op rfl rfl (op_move rfl ?_)
                refine WL.op rfl rfl (op_quoN (b := 8) rfl rfl (by omega) (by omega) ?_)
                refine WL.op rfl rfl (op_assign rfl ?_)
                refine WL.nil ?_
                refine WQ.next ?_
                refine WC.seq ?_
                refine WC.region ?_
                refine WL.op rfl rfl (op_move rfl ?_)
                refine WL.op rfl rfl (op_move rfl ?_)
                refine WL.op rfl rfl (op_lssN rfl rfl ?_)
                refine WL.nil ?_
                refine WQ.next ?_
                refine WC.cond rfl (fun (hb25 : (decide ((m24 - a1) < (b1 - m24))) = true) => ?_) (fun (hb25 : (decide ((m24 - a1) < (b1 - m24))) = false) => ?_)
                ·
                  have hc25 := of_decide_eq_true hb25
                  refine WC.seq ?_
                  refine WC.region ?_
                  refine WL.op rfl rfl (op_move rfl ?_)
                  refine WL.op rfl rfl (op_move rfl ?_)
                  refine WL.op rfl rfl (op_geqN rfl rfl ?_)
                  refine WL.op rfl rfl (op_assign rfl ?_)
                  refine WL.nil ?_
                  refine WQ.next ?_
                  refine WC.seq ?_
                  refine WC.region ?_
                  refine WL.op rfl rfl (op_move rfl ?_)
                  refine WL.op rfl rfl (op_move rfl ?_)
                  refine WL.op rfl rfl (op_move rfl ?_)
                  refine WL.op rfl rfl (op_move rfl ?_)
                  refine WL.op rfl rfl (op_callF Fa.C87 rfl ((IH l24 a1 m24 m2 _ _ (H24.part [0] rfl rfl) (by omega) (by omega) (by omega) (by omega) (by omega) (pre_left hP5 (by omega))).mono (fun e w26 hq => ?_)))
                  obtain ⟨l26, rfl, hc26, hq26⟩ := hq
                  refine ⟨_, rfl, ?_⟩
                  have H26 : Own T w w26 [.row v 9 1 n (List.map str l26)] := H24.splice [0] [.row v 9 1 n (List.map str l26)] [] rfl rfl hq26 (Fits.solid True.intro Fits.nil)
                  refine WL.nil ?_
                  refine WQ.next ?_
                  refine WC.region ?_
                  refine WL.op rfl rfl (op_move rfl ?_)
                  refine WL.op rfl rfl (op_addN (b := 1) rfl rfl (by omega) ?_)
                  refine WL.op rfl rfl (op_assign rfl ?_)
                  refine WL.nil ?_
                  refine WQ.inNormal ?_
                  have hE := part_left ltStrOK (by omega) (by omega) hO5 (by omega) hc24.2 hc26.1 hc26.2
                  exact WQ.round ((m24 + 1), b1, m2, (decide ((m24 - a1) ≥ ((b1 - a1) / 8))), f24, l26) ⟨⟨by omega, by omega, by omega, by omega, hs1.trans (((hs4.trans hc24.1).trans (hc26.1.mono (by omega) (by omega))).mono (by omega) (by omega)), hE.1, hE.2⟩, H26⟩ ⟨rfl, rfl, rfl, rfl, rfl, rfl, trivial⟩ (by show b1 - (m24 + 1) < b1 - a1; omega)
                ·
                  have hc25 := of_decide_eq_false hb25
                  refine WC.seq ?_
                  refine WC.region ?_
                  refine WL.op rfl rfl (op_move rfl ?_)
                  refine WL.op rfl rfl (op_move rfl ?_)
                  refine WL.op rfl rfl (op_geqN rfl rfl ?_)
                  refine WL.op rfl rfl (op_assign rfl ?_)
                  refine WL.nil ?_
                  refine WQ.next ?_
                  refine WC.seq ?_
                  refine WC.region ?_
                  refine WL.op rfl rfl (op_move rfl ?_)
                  refine WL.op rfl rfl (op_move rfl ?_)
                  refine WL.op rfl rfl (op_addN (b := 1) rfl rfl (by omega) ?_)
                  refine WL.op rfl rfl (op_move rfl ?_)
                  refine WL.op rfl rfl (op_move rfl ?_)
                  refine WL.op rfl rfl (op_callF Fa.C87 rfl ((IH l24 (m24 + 1) b1 m2 _ _ (H24.part [0] rfl rfl) (by omega) (by omega) (by omega) (by omega) (by omega) (pre_right hc24.2)).mono (fun e w27 hq => ?_)))
                  obtain ⟨l27, rfl, hc27, hq27⟩ := hq
                  refine ⟨_, rfl, ?_⟩
                  have H27 : Own T w w27 [.row v 9 1 n (List.map str l27)] := H24.splice [0] [.row v 9 1 n (List.map str l27)] [] rfl rfl hq27 (Fits.solid True.intro Fits.nil)
                  refine WL.nil ?_
                  refine WQ.next ?_
                  refine WC.region ?_
                  refine WL.op rfl rfl (op_move rfl ?_)
                  refine WL.op rfl rfl (op_assign rfl ?_)
                  refine WL.nil ?_
                  refine WQ.inNormal ?_
                  have hE := part_right ltStrOK (by omega) (by omega) hO5 (by omega) hc24.2 hc27.1 hc27.2
                  exact WQ.round (a1, m24, m2, (decide ((b1 - m24) ≥ ((b1 - a1) / 8))), f24, l27) ⟨⟨by omega, by omega, by omega, by omega, hs1.trans (((hs4.trans hc24.1).trans (hc27.1.mono (by omega) (by omega))).mono (by omega) (by omega)), hE, pre_right_sw (by omega) hP5 (by omega) (by omega) hc27.1⟩, H27⟩ ⟨rfl, rfl, rfl, rfl, rfl, rfl, trivial⟩ (by show m24 - a1 < b1 - a1; omega)
            ·
              have hc19 := of_decide_eq_false hb19
              refine WC.draw 15 Fa.M H18 (HW.op rfl (fun w1 H1 => op_move rfl ⟨rfl, Fr.refl _ _⟩) (HW.op rfl (fun w1 H1 => op_gtrN (b := 0) rfl rfl ⟨rfl, Fr.refl _ _⟩) (HW.op rfl (fun w1 H1 => op_move rfl ⟨rfl, Fr.refl _ _⟩) (HW.no rfl rfl rfl hb19 (HW.no rfl rfl rfl hb19 (HW.no rfl rfl rfl hb19 (HW.no rfl rfl rfl hb19 (HW.no rfl rfl rfl hb19 (HW.no rfl rfl rfl hb19 (HW.no rfl rfl rfl hb19 (HW.no rfl rfl rfl hb19 (HW.no rfl rfl rfl hb19 (HW.no rfl rfl rfl hb19 (HW.no rfl rfl rfl hb19 (HW.op rfl (fun w1 H1 => op_pickF rfl hb19 rfl ⟨rfl, Fr.refl _ _⟩)  HW.nil))))))))))))))) (by kernel_rfl) ?_
              intro β28 w28 H28
              refine WL.nil ?_
              refine WQ.next ?_
              refine WC.no rfl rfl ?_
              refine WC.skip ?_
              refine WQ.next ?_
              refine WC.seq ?_
              refine WC.region ?_
              refine WL.op rfl rfl (op_move rfl ?_)
              refine WL.op rfl rfl (op_move rfl ?_)
              refine WL.op rfl rfl (op_move rfl ?_)
              refine WL.op rfl rfl (op_move rfl ?_)
              refine WL.op rfl rfl (op_callF Fa.C102 rfl ((part_ok v n l4 a1 b1 pv _ _ (H28.part [0] rfl rfl) (by omega) (by omega) (by omega) (by omega) (by omega)).mono (fun e w29 hq => ?_)))
              obtain ⟨l29, m29, f29, rfl, hc29, hq29⟩ := hq
              refine ⟨_, rfl, ?_⟩
              have H29 : Own T w w29 [.row v 9 1 n (List.map str l29)] := H28.splice [0] [.row v 9 1 n (List.map str l29)] [] rfl rfl hq29 (Fits.solid True.intro Fits.nil)
              refine WL.op rfl rfl (op_move rfl ?_)
              refine WL.op rfl rfl (op_extract rfl rfl ?_)
              refine WL.op rfl rfl (op_extract rfl rfl ?_)
              refine WL.op rfl rfl (op_assign rfl ?_)
              refine WL.op rfl rfl (op_assign rfl ?_)
              refine WL.nil ?_
              refine WQ.next ?_
              refine WC.seq ?_
              refine WC.region ?_
              have hLP := hc29.1.len
              have hm1 := hc29.2.1
              have hm2 := hc29.2.2.1
              have hO5 := out_sw (by omega) (by omega) (by omega) hO4 hc29.1
              have hP5 := pre_sw (by omega) hP4 hc29.1
              refine WL.op rfl rfl (op_move rfl ?_)
              refine WL.op rfl rfl (op_assign rfl ?_)
              refine WL.nil ?_
              refine WQ.next ?_
              refine WC.seq ?_
              refine WC.region ?_
              refine WL.op rfl rfl (op_move rfl ?_)
              refine WL.op rfl rfl (op_move rfl ?_)
              refine WL.op rfl rfl (op_subN rfl rfl (by omega) (by omega) ?_)
              refine WL.op rfl rfl (op_move rfl ?_)
              refine WL.op rfl rfl (op_move rfl ?_)
              refine WL.op rfl rfl (op_subN rfl rfl (by omega) (by omega) ?_)
              refine WL.op rfl rfl (op_assign rfl ?_)
              refine WL.op rfl rfl (op_assign rfl ?_)
              refine WL.nil ?_
              refine WQ.next ?_
              refine WC.seq ?_
              refine WC.region ?_
              refine WL.op rfl rfl (op_move rfl ?_)
              refine WL.op rfl rfl (op_quoN (b := 8) rfl rfl (by omega) (by omega) ?_)
              refine WL.op rfl rfl (op_assign rfl ?_)
              refine WL.nil ?_
              refine WQ.next ?_
              refine WC.seq ?_
              refine WC.region ?_
              refine WL.op rfl rfl (op_move rfl ?_)
              refine WL.op rfl rfl (op_move rfl ?_)
              refine WL.op rfl rfl (op_lssN rfl rfl ?_)
              refine WL.nil ?_
              refine WQ.next ?_
              refine WC.cond rfl (fun (hb30 : (decide ((m29 - a1) < (b1 - m29))) = true) => ?_) (fun (hb30 : (decide ((m29 - a1) < (b1 - m29))) = false) => ?_)
              ·
                have hc30 := of_decide_eq_true hb30
                refine WC.seq ?_
                refine WC.region ?_
                refine WL.op rfl rfl (op_move rfl ?_)
                refine WL.op rfl rfl (op_move rfl ?_)
                refine WL.op rfl rfl (op_geqN rfl rfl ?_)
                refine WL.op rfl rfl (op_assign rfl ?_)
                refine WL.nil ?_
                refine WQ.next ?_
                refine WC.seq ?_
                refine WC.region ?_
                refine WL.op rfl rfl (op_move rfl ?_)
                refine WL.op rfl rfl (op_move rfl ?_)
                refine WL.op rfl rfl (op_move rfl ?_)
                refine WL.op rfl rfl (op_move rfl ?_)
                refine WL.op rfl rfl (op_callF Fa.C87 rfl ((IH l29 a1 m29 m2 _ _ (H29.part [0] rfl rfl) (by omega) (by omega) (by omega) (by omega) (by omega) (pre_left hP5 (by omega))).mono (fun e w31 hq => ?_)))
                obtain ⟨l31, rfl, hc31, hq31⟩ := hq
                refine ⟨_, rfl, ?_⟩
                have H31 : Own T w w31 [.row v 9 1 n (List.map str l31)] := H29.splice [0] [.row v 9 1 n (List.map str l31)] [] rfl rfl hq31 (Fits.solid True.intro Fits.nil)
                refine WL.nil ?_
                refine WQ.next ?_
                refine WC.region ?_
                refine WL.op rfl rfl (op_move rfl ?_)
                refine WL.op rfl rfl (op_addN (b := 1) rfl rfl (by omega) ?_)
                refine WL.op rfl rfl (op_assign rfl ?_)
                refine WL.nil ?_
                refine WQ.inNormal ?_
                have hE := part_left ltStrOK (by omega) (by omega) hO5 (by omega) hc29.2 hc31.1 hc31.2
                exact WQ.round ((m29 + 1), b1, m2, (decide ((m29 - a1) ≥ ((b1 - a1) / 8))), f29, l31) ⟨⟨by omega, by omega, by omega, by omega, hs1.trans (((hs4.trans hc29.1).trans (hc31.1.mono (by omega) (by omega))).mono (by omega) (by omega)), hE.1, hE.2⟩, H31⟩ ⟨rfl, rfl, rfl, rfl, rfl, rfl, trivial⟩ (by show b1 - (m29 + 1) < b1 - a1; omega)
              ·
                have hc30 := of_decide_eq_false hb30
                refine WC.seq ?_
                refine WC.region ?_
                refine WL.op rfl rfl (op_move rfl ?_)
                refine WL.op rfl rfl (op_move rfl ?_)
                refine WL.op rfl rfl (op_geqN rfl rfl ?_)
                refine WL.op rfl rfl (op_assign rfl ?_)
                refine WL.nil ?_
                refine WQ.next ?_
                refine WC.seq ?_
                refine WC.region ?_
                refine WL.op rfl rfl (op_move rfl ?_)
                refine WL.op rfl rfl (op_move rfl ?_)
                refine WL.op rfl rfl (op_addN (b := 1) rfl rfl (by omega) ?_)
                refine WL.op rfl rfl (op_move rfl ?_)
                refine WL.op rfl rfl (op_move rfl ?_)
                refine WL.op rfl rfl (op_callF Fa.C87 rfl ((IH l29 (m29 + 1) b1 m2 _ _ (H29.part [0] rfl rfl) (by omega) (by omega) (by omega) (by omega) (by omega) (pre_right hc29.2)).mono (fun e w32 hq => ?_)))
                obtain ⟨l32, rfl, hc32, hq32⟩ := hq
                refine ⟨_, rfl, ?_⟩
                have H32 : Own T w w32 [.row v 9 1 n (List.map str l32)] := H29.splice [0] [.row v 9 1 n (List.map str l32)] [] rfl rfl hq32 (Fits.solid True.intro Fits.nil)
                refine WL.nil ?_
                refine WQ.next ?_
                refine WC.region ?_
                refine WL.op rfl rfl (op_move rfl ?_)
                refine WL.op rfl rfl (op_assign rfl ?_)
                refine WL.nil ?_
                refine WQ.inNormal ?_
                have hE := part_right ltStrOK (by omega) (by omega) hO5 (by omega) hc29.2 hc32.1 hc32.2
                exact WQ.round (a1, m29, m2, (decide ((b1 - m29) ≥ ((b1 - a1) / 8))), f29, l32) ⟨⟨by omega, by omega, by omega, by omega, hs1.trans (((hs4.trans hc29.1).trans (hc32.1.mono (by omega) (by omega))).mono (by omega) (by omega)), hE, pre_right_sw (by omega) hP5 (by omega) (by omega) hc32.1⟩, H32⟩ ⟨rfl, rfl, rfl, rfl, rfl, rfl, trivial⟩ (by show m29 - a1 < b1 - a1; omega)
theorem pdq_ok (v : Value) (n : Nat) (l : List (List UInt8)) (a b : Nat) (m : Nat) (T : List Nat) (w : World) (H : Own T w w [.row v 9 1 n (List.map str l)]) (hn : l.length = n) (hN : n < 2 ^ 61) (hab : a ≤ b) (hb : b ≤ n) (hm : m < 2 ^ 62) (hpre : PreS ltStr [] a b l) :
    Calls Tryd.prog 87 #[v, vN a, vN b, vN m] w (fun e w' => ∃ (l' : List (List UInt8)), e = .returned undef ∧ (Sw [] a b l l' ∧ SortS ltStr [] a b l') ∧ Own T w w' [.row v 9 1 n (List.map str l')]) := by
  have key : ∀ (N : Nat) (l : List (List UInt8)) (a b m : Nat) (T : List Nat) (w : World), Own T w w [.row v 9 1 n (List.map str l)] → l.length = n → b - a < N → a ≤ b → b ≤ n → m < 2 ^ 62 → PreS ltStr [] a b l → Calls Tryd.prog 87 #[v, vN a, vN b, vN m] w (fun e w' => ∃ (l' : List (List UInt8)), e = .returned undef ∧ (Sw [] a b l l' ∧ SortS ltStr [] a b l') ∧ Own T w w' [.row v 9 1 n (List.map str l')]) := by
    intro N
    induction N with
    | zero => intro l a b m T w H hn hlt; omega
    | succ N ih => intro l a b m T w H hn hlt hab hb hm hpre; exact pdq_step v n l a b m T w H hn hN hab hb hm hpre (fun l2 a2 b2 m2 T2 w2 H2 h1 h2 h3 h4 h5 h6 => ih l2 a2 b2 m2 T2 w2 H2 h1 (by omega) h3 h4 h5 h6)
  exact key (b - a + 1) l a b m T w H hn (by omega) hab hb hm hpre
set_option maxRecDepth 100000 in
theorem sort_ok (v : Value) (n : Nat) (l : List (List UInt8)) (T : List Nat) (w : World) (H : Own T w w [.row v 9 1 n (List.map str l)]) (hn : l.length = n) (hN : n < 2 ^ 61) :
    Calls Tryd.prog 67 #[v] w (fun e w' => ∃ (l' : List (List UInt8)), e = .returned undef ∧ (Sw [] 0 n l l' ∧ SortS ltStr [] 0 n l') ∧ Own T w w' [.row v 9 1 n (List.map str l')]) := by
  refine enter (args := [v]) Tryd.func67 rfl rfl ?_
  refine WC.seq ?_
  refine WC.region ?_
  refine WL.op rfl rfl (op_move rfl ?_)
  refine WL.op rfl rfl (op_lenA Tryd.underlying80 rfl (H.arrR (i := 0) rfl) ?_)
  refine WL.op rfl rfl (op_assign rfl ?_)
  refine WL.nil ?_
  refine WQ.next ?_
  refine WC.region ?_
  refine WL.op rfl rfl (op_move rfl ?_)
  refine WL.op rfl rfl (op_move rfl ?_)
  refine WL.op rfl rfl (op_move rfl ?_)
  refine WL.op rfl rfl (op_convNU64 (hs := Tryd.underlying3) (hd := Tryd.underlying59) rfl ?_)
  refine WL.op rfl rfl (op_callF Fa.C88 rfl ((blen_ok (UInt64.ofNat n) _).mono (fun e w1 hq => ?_)))
  obtain ⟨rfl, hf1⟩ := hq
  refine ⟨_, rfl, ?_⟩
  have H1 := H.fr' hf1
  refine WL.op rfl rfl (op_callF Fa.C87 rfl ((pdq_ok v n l 0 n (lenN (UInt64.ofNat n).toNat) _ _ (H1.part [0] rfl rfl) (by omega) (by omega) (by omega) (by omega) (Nat.lt_of_le_of_lt (lenN_le (k := 64) (UInt64.toNat_lt _)) (by decide)) (.inl rfl)).mono (fun e w2 hq => ?_)))
  obtain ⟨l2, rfl, hc2, hq2⟩ := hq
  refine ⟨_, rfl, ?_⟩
  have H2 : Own T w w2 [.row v 9 1 n (List.map str l2)] := H1.splice [0] [.row v 9 1 n (List.map str l2)] [] rfl rfl hq2 (Fits.solid True.intro Fits.nil)
  refine WL.nil ?_
  refine WQ.outEnd .nil ?_
  exact ⟨_, rfl, hc2, H2⟩
end Go.Proofs.YtnngbnenekjffaaDoor
/-! from DOb2 -/
namespace Go.Proofs.YtnngbnenekjffaaDoor
open Go.Owl Go.Spec
set_option maxRecDepth 100000 in
theorem comp_ok (v : Value) (n : Nat) (l : List (List UInt8)) (T : List Nat) (w : World) (H : Own T w w [.row v 9 1 n (List.map str l)]) (hn : l.length = n) (hN : n < 2 ^ 61) :
    Calls Tryd.prog 68 #[v] w (fun e w' => ∃ v', e = .returned v' ∧ Own T w w' [.row v' 9 1 (cpt [] l n).length (List.map str (cpt [] l n))]) := by
  refine enter (args := [v]) Tryd.func68 rfl rfl ?_
  refine WC.seq ?_
  refine WC.region ?_
  refine WL.op rfl rfl (op_assign rfl ?_)
  refine WL.nil ?_
  refine WQ.next ?_
  refine WC.seq ?_
  refine WC.seq ?_
  refine WC.region ?_
  refine WL.op rfl rfl (op_move rfl ?_)
  refine WL.op rfl rfl (op_lenA Tryd.underlying80 rfl (H.arrR (i := 0) rfl) ?_)
  refine WL.op rfl rfl (op_lssN (b := 2) rfl rfl ?_)
  refine WL.nil ?_
  refine WQ.next ?_
  refine WC.cond rfl (fun (hb1 : (decide (n < 2)) = true) => ?_) (fun (hb1 : (decide (n < 2)) = false) => ?_)
  ·
    have hc1 := of_decide_eq_true hb1
    refine WC.seq ?_
    refine WC.region ?_
    refine WL.op rfl rfl (op_move rfl ?_)
    refine WL.op rfl rfl (op_assign rfl ?_)
    refine WL.nil ?_
    refine WQ.next ?_
    refine WC.ret ?_
    refine WQ.thenRet ?_
    refine WQ.out (.tmp rfl .nil) ?_
    refine ⟨_, rfl, ?_⟩
    exact H.rowEqN (i := 0) rfl (cpt_short (by omega) hn).symm (by rw [cpt_short (by omega) hn]; exact hn.symm)
  ·
    have hc1 := of_decide_eq_false hb1
    refine WC.skip ?_
    refine WQ.next ?_
    refine WC.seq ?_
    refine WC.seq ?_
    refine WC.region ?_
    refine WL.op rfl rfl (op_assign rfl ?_)
    refine WL.nil ?_
    refine WQ.next ?_
    refine WC.block ?_
    refine WC.loop (α := Nat) (fun k => [(0, v), (2, (.slice none 0 0)), (3, (vN k))]) (fun k w' => (1 ≤ k ∧ k ≤ n ∧ (∀ j, 0 < j → j < k → l.getD j [] ≠ l.getD (j - 1) [])) ∧ Own T w w' [.row v 9 1 n (List.map str l)]) (fun k => n - k) 1 ⟨⟨Nat.le_refl _, by omega, fun j h1 h2 => by omega⟩, H⟩ ⟨rfl, rfl, rfl, trivial⟩ ?_
    rintro k w2 ⟨⟨hk1, hk2, hok⟩, H2⟩
    show WC _ _ _ _ _ [(0, v), (2, (.slice none 0 0)), (3, (vN k))] _
    refine WC.seq ?_
    refine WC.seq ?_
    refine WC.region ?_
    refine WL.op rfl rfl (op_move rfl ?_)
    refine WL.op rfl rfl (op_move rfl ?_)
    refine WL.op rfl rfl (op_lenA Tryd.underlying80 rfl (H2.arrR (i := 0) rfl) ?_)
    refine WL.op rfl rfl (op_lssN rfl rfl ?_)
    refine WL.nil ?_
    refine WQ.next ?_
    refine WC.cond rfl (fun (hb3 : (decide (k < n)) = true) => ?_) (fun (hb3 : (decide (k < n)) = false) => ?_)
    ·
      have hc3 := of_decide_eq_true hb3
      refine WC.skip ?_
      refine WQ.next ?_
      refine WC.seq ?_
      refine WC.block ?_
      refine WC.seq ?_
      refine WC.draw 10 Fa.M H2 (HW.op rfl (fun w1 H1 => op_move rfl ⟨rfl, Fr.refl _ _⟩) (HW.op rfl (fun w1 H1 => op_move rfl ⟨rfl, Fr.refl _ _⟩) (HW.op rfl (fun w1 H1 => op_indexAddr1 Tryd.underlying80 Fa.I9 rfl (H1.arrR (i := 0) rfl) rfl (by omega) ⟨rfl, Fr.refl _ _⟩) (HW.op rfl (fun w1 H1 => op_load rfl ((H1.arrR (i := 0) rfl).at (get_map str [] (Arr.ltM (H1.arrR (i := 0) rfl) (by omega)))) Tryd.underlying9 rfl ⟨rfl, Fr.refl _ _⟩) (HW.op rfl (fun w1 H1 => op_move rfl ⟨rfl, Fr.refl _ _⟩) (HW.op rfl (fun w1 H1 => op_move rfl ⟨rfl, Fr.refl _ _⟩) (HW.op rfl (fun w1 H1 => op_subN (b := 1) rfl rfl (by omega) (by omega) ⟨rfl, Fr.refl _ _⟩) (HW.op rfl (fun w1 H1 => op_indexAddr1 Tryd.underlying80 Fa.I9 rfl (H1.arrR (i := 0) rfl) rfl (by omega) ⟨rfl, Fr.refl _ _⟩) (HW.op rfl (fun w1 H1 => op_load rfl ((H1.arrR (i := 0) rfl).at (get_map str [] (Arr.ltM (H1.arrR (i := 0) rfl) (by omega)))) Tryd.underlying9 rfl ⟨rfl, Fr.refl _ _⟩) (HW.op rfl (fun w1 H1 => op_eqlStr rfl rfl ⟨rfl, Fr.refl _ _⟩)  HW.nil)))))))))) (by kernel_rfl) ?_
      intro β4 w4 H4
      refine WL.nil ?_
      refine WQ.next ?_
      refine WC.cond rfl (fun (hb5 : (decide ((l.getD k []) = (l.getD (k - 1) []))) = true) => ?_) (fun (hb5 : (decide ((l.getD k []) = (l.getD (k - 1) []))) = false) => ?_)
      ·
        have hc5 := of_decide_eq_true hb5
        refine WC.seq ?_
        refine WC.region ?_
        refine WL.op rfl rfl (op_move rfl ?_)
        refine WL.op rfl rfl (op_move rfl ?_)
        refine WL.op rfl rfl (op_cutLo Tryd.underlying80 Fa.I9 rfl (H4.arrR (i := 0) rfl) rfl (by omega) ?_)
        refine WL.op rfl rfl (op_assign rfl ?_)
        refine WL.nil ?_
        refine WQ.next ?_
        refine WC.seq ?_
        refine WC.seq ?_
        refine WC.region ?_
        refine WL.op rfl rfl (op_assign rfl ?_)
        refine WL.nil ?_
        refine WQ.next ?_
        refine WC.block ?_
        refine WC.loop (α := Nat × Nat × List (List UInt8)) (fun (i, j, l1) => [(0, v), (2, (.slice none 0 0)), (3, (vN j)), (4, (cutV v k n 1)), (5, (vN i))]) (fun (i, j, l1) w' => (1 ≤ i ∧ i ≤ n - k ∧ k ≤ j ∧ j + 1 ≤ k + i ∧ l1.length = n ∧ cpt [] l (k + i) = l1.take j ∧ (∀ q, j ≤ q → l1.getD q [] = l.getD q [])) ∧ Own T w w' [.row v 9 1 n (List.map str l1)]) (fun (i, j, l1) => n - k - i) (1, k, l) ⟨⟨Nat.le_refl _, by omega, Nat.le_refl _, Nat.le_refl _, hn, by rw [cpt_same (by omega) (of_decide_eq_true hb5), cpt_take (by omega) hok], fun q _ => rfl⟩, H4⟩ ⟨rfl, rfl, rfl, rfl, rfl, trivial⟩ ?_
        rintro ⟨i, j, l1⟩ w6 ⟨⟨hi1, hi2, hj1, hj2, hL1, hc1, hg1⟩, H6⟩
        show WC _ _ _ _ _ [(0, v), (2, (.slice none 0 0)), (3, (vN j)), (4, (cutV v k n 1)), (5, (vN i))] _
        have e1 : (l1.drop k).getD i [] = l.getD (k + i) [] := by rw [getDrop, hg1 _ (by omega)]
        have e2 : (l1.drop k).getD (i - 1) [] = l.getD (k + i - 1) [] := by rw [getDrop, show k + (i - 1) = k + i - 1 by omega, hg1 _ (by omega)]
        refine WC.seq ?_
        refine WC.seq ?_
        refine WC.region ?_
        refine WL.op rfl rfl (op_move rfl ?_)
        refine WL.op rfl rfl (op_move rfl ?_)
        refine WL.op rfl rfl (op_lenA Tryd.underlying80 rfl ((H6.arrR (i := 0) rfl).cutLoM (f := str) (l := l1) (a := k) (by omega)) ?_)
        refine WL.op rfl rfl (op_lssN rfl rfl ?_)
        refine WL.nil ?_
        refine WQ.next ?_
        refine WC.cond rfl (fun (hb7 : (decide (i < (n - k))) = true) => ?_) (fun (hb7 : (decide (i < (n - k))) = false) => ?_)
        ·
          have hc7 := of_decide_eq_true hb7
          refine WC.skip ?_
          refine WQ.next ?_
          refine WC.seq ?_
          refine WC.block ?_
          refine WC.seq ?_
          refine WC.draw 10 Fa.M H6 (HW.op rfl (fun w1 H1 => op_move rfl ⟨rfl, Fr.refl _ _⟩) (HW.op rfl (fun w1 H1 => op_move rfl ⟨rfl, Fr.refl _ _⟩) (HW.op rfl (fun w1 H1 => op_indexAddr1 Tryd.underlying80 Fa.I9 rfl ((H1.arrR (i := 0) rfl).cutLoM (f := str) (l := l1) (a := k) (by omega)) rfl (by omega) ⟨rfl, Fr.refl _ _⟩) (HW.op rfl (fun w1 H1 => op_load rfl (((H1.arrR (i := 0) rfl).cutLoM (f := str) (l := l1) (a := k) (by omega)).at (get_map str [] (Arr.ltM ((H1.arrR (i := 0) rfl).cutLoM (f := str) (l := l1) (a := k) (by omega)) (by omega)))) Tryd.underlying9 rfl ⟨rfl, Fr.refl _ _⟩) (HW.op rfl (fun w1 H1 => op_move rfl ⟨rfl, Fr.refl _ _⟩) (HW.op rfl (fun w1 H1 => op_move rfl ⟨rfl, Fr.refl _ _⟩) (HW.op rfl (fun w1 H1 => op_subN (b := 1) rfl rfl (by omega) (by omega) ⟨rfl, Fr.refl _ _⟩) (HW.op rfl (fun w1 H1 => op_indexAddr1 Tryd.underlying80 Fa.I9 rfl ((H1.arrR (i := 0) rfl).cutLoM (f := str) (l := l1) (a := k) (by omega)) rfl (by omega) ⟨rfl, Fr.refl _ _⟩) (HW.op rfl (fun w1 H1 => op_load rfl (((H1.arrR (i := 0) rfl).cutLoM (f := str) (l := l1) (a := k) (by omega)).at (get_map str [] (Arr.ltM ((H1.arrR (i := 0) rfl).cutLoM (f := str) (l := l1) (a := k) (by omega)) (by omega)))) Tryd.underlying9 rfl ⟨rfl, Fr.refl _ _⟩) (HW.op rfl (fun w1 H1 => op_neqStr rfl rfl ⟨rfl, Fr.refl _ _⟩)  HW.nil)))))))))) (by kernel_rfl) ?_
          intro β8 w8 H8
          refine WL.nil ?_
          refine WQ.next ?_
          refine WC.cond rfl (fun (hb9 : (decide (((l1.drop k).getD i []) ≠ ((l1.drop k).getD (i - 1) []))) = true) => ?_) (fun (hb9 : (decide (((l1.drop k).getD i []) ≠ ((l1.drop k).getD (i - 1) []))) = false) => ?_)
          ·
            have hc9 := of_decide_eq_true hb9
            refine WC.seq ?_
            refine WC.region ?_
            refine WL.op rfl rfl (op_move rfl ?_)
            refine WL.op rfl rfl (op_move rfl ?_)
            refine WL.op rfl rfl (op_move rfl ?_)
            refine WL.op rfl rfl (op_move rfl ?_)
            refine WL.op rfl rfl (op_indexAddr1 Tryd.underlying80 Fa.I9 rfl ((H8.arrR (i := 0) rfl).cutLoM (f := str) (l := l1) (a := k) (by omega)) rfl (by omega) ?_)
            refine WL.op rfl rfl (op_load rfl (((H8.arrR (i := 0) rfl).cutLoM (f := str) (l := l1) (a := k) (by omega)).at (get_map str [] (Arr.ltM ((H8.arrR (i := 0) rfl).cutLoM (f := str) (l := l1) (a := k) (by omega)) (by omega)))) Tryd.underlying9 rfl ?_)
            refine WL.op rfl rfl (op_indexAddr1 Tryd.underlying80 Fa.I9 rfl (H8.arrR (i := 0) rfl) rfl (by omega) ?_)
            refine WL.op rfl rfl (op_storeRM (i := 0) (f := str) (l := l1) (c := ((l1.drop k).getD i [])) H8 rfl rfl rfl (by omega) rfl Fa.I9 (fun w10 H10 => ?_))
            refine WL.nil ?_
            refine WQ.next ?_
            refine WC.region ?_
            refine WL.op rfl rfl (op_move rfl ?_)
            refine WL.op rfl rfl (op_addN (b := 1) rfl rfl (by omega) ?_)
            refine WL.op rfl rfl (op_assign rfl ?_)
            refine WL.nil ?_
            refine WQ.inNormal ?_
            refine WQ.next ?_
            refine WC.region ?_
            refine WL.op rfl rfl (op_move rfl ?_)
            refine WL.op rfl rfl (op_addN (b := 1) rfl rfl (by omega) ?_)
            refine WL.op rfl rfl (op_assign rfl ?_)
            refine WL.nil ?_
            exact WQ.round (i + 1, j + 1, (l1.set j ((l1.drop k).getD i []))) ⟨⟨by omega, by omega, by omega, by omega, by rw [List.length_set]; exact hL1, by rw [← Nat.add_assoc, cpt_other (.inr (by rw [← e1, ← e2]; exact of_decide_eq_true hb9)), hc1, e1, take_set_snoc (by omega)], fun q hq => by rw [getD_set _ _ _ _ (by omega), if_neg (by omega)]; exact hg1 q (by omega)⟩, H10⟩ ⟨rfl, rfl, rfl, rfl, rfl, trivial⟩ (by show n - k - (i + 1) < n - k - i; omega)
          ·
            have hc9 := of_decide_eq_false hb9
            refine WC.skip ?_
            refine WQ.inNormal ?_
            refine WQ.next ?_
            refine WC.region ?_
            refine WL.op rfl rfl (op_move rfl ?_)
            refine WL.op rfl rfl (op_addN (b := 1) rfl rfl (by omega) ?_)
            refine WL.op rfl rfl (op_assign rfl ?_)
            refine WL.nil ?_
            exact WQ.round (i + 1, j, l1) ⟨⟨by omega, by omega, hj1, by omega, hL1, by rw [← Nat.add_assoc, cpt_same (by omega) (by rw [← e1, ← e2]; exact Decidable.not_not.mp (of_decide_eq_false hb9))]; exact hc1, hg1⟩, H8⟩ ⟨rfl, rfl, rfl, rfl, rfl, trivial⟩ (by show n - k - (i + 1) < n - k - i; omega)
        ·
          have hc7 := of_decide_eq_false hb7
          refine WC.exit ?_
          refine WQ.thenExit ?_
          refine WQ.thenExit ?_
          refine WQ.inHere ?_
          refine WQ.next ?_
          refine WC.seq ?_
          refine WC.region ?_
          refine WL.op rfl rfl (op_move rfl ?_)
          refine WL.op rfl rfl (op_move rfl ?_)
          refine WL.op rfl rfl (op_cutLo Tryd.underlying80 Fa.I9 rfl (H6.arrR (i := 0) rfl) rfl (by omega) ?_)
          refine WL.op rfl rfl (op_clearM (i := 0) (f := str) (l := l1) (c := []) H6 Tryd.underlying80 Fa.Z9 rfl rfl (Sub.cut (a := j) (b := n) (H6.arrR (i := 0) rfl) (by omega) (by omega)) (by omega) rfl rfl (fun w11 H11 => ?_))
          refine WL.nil ?_
          refine WQ.next ?_
          refine WC.seq ?_
          refine WC.region ?_
          refine WL.op rfl rfl (op_move rfl ?_)
          refine WL.op rfl rfl (op_move rfl ?_)
          refine WL.op rfl rfl (op_cutHi Tryd.underlying80 Fa.I9 rfl (H11.arrR (i := 0) rfl) rfl (by omega) ?_)
          have H12 := H11.cutHiM (f := str) (l := (l1.take j ++ (List.replicate (n - j) [] ++ l1.drop (j + (n - j))))) (b := j) (i := 0) rfl (by omega)
          refine WL.op rfl rfl (op_assign rfl ?_)
          refine WL.nil ?_
          refine WQ.next ?_
          refine WC.ret ?_
          refine WQ.inRet ?_
          refine WQ.thenRet ?_
          refine WQ.thenRet ?_
          refine WQ.inRet ?_
          refine WQ.thenRet ?_
          refine WQ.out (.tmp rfl .nil) ?_
          refine ⟨_, rfl, ?_⟩
          exact H12.rowEqN (i := 0) rfl (cpt_cut (by omega) (by rw [show k + i = n by omega] at hc1; exact hc1)) (by rw [show k + i = n by omega] at hc1; rw [hc1, List.length_take]; omega)
      ·
        have hc5 := of_decide_eq_false hb5
        refine WC.skip ?_
        refine WQ.inNormal ?_
        refine WQ.next ?_
        refine WC.region ?_
        refine WL.op rfl rfl (op_move rfl ?_)
        refine WL.op rfl rfl (op_addN (b := 1) rfl rfl (by omega) ?_)
        refine WL.op rfl rfl (op_assign rfl ?_)
        refine WL.nil ?_
        exact WQ.round (k + 1) ⟨⟨by omega, by omega, fun j h1 h2 => by rcases Nat.lt_or_ge j k with h3 | h3; exact hok j h1 h3; rw [show j = k by omega]; exact of_decide_eq_false hb5⟩, H4⟩ ⟨rfl, rfl, rfl, trivial⟩ (by omega)
    ·
      have hc3 := of_decide_eq_false hb3
      refine WC.exit ?_
      refine WQ.thenExit ?_
      refine WQ.thenExit ?_
      refine WQ.inHere ?_
      refine WQ.next ?_
      refine WC.seq ?_
      refine WC.region ?_
      refine WL.op rfl rfl (op_move rfl ?_)
      refine WL.op rfl rfl (op_assign rfl ?_)
      refine WL.nil ?_
      refine WQ.next ?_
      refine WC.ret ?_
      refine WQ.out (.tmp rfl .nil) ?_
      refine ⟨_, rfl, ?_⟩
      exact H2.rowEqN (i := 0) rfl (by rw [cpt_take (by omega) (fun j h1 h2 => hok j h1 (by omega)), ← hn, List.take_length]) (by rw [cpt_take (by omega) (fun j h1 h2 => hok j h1 (by omega)), List.length_take]; omega)
end Go.Proofs.YtnngbnenekjffaaDoor
/-! from DOb3 -/
namespace Go.Proofs.YtnngbnenekjffaaDoor
open Go.Owl Go.Spec
set_option maxHeartbeats 1000000 in
set_option maxRecDepth 100000 in
theorem onames_ok (lv : Value) (l : List Ob) (w : World) (hA : Arr w lv 2 l.length (List.flatMap obc l)) (hI : ObD.list.ok w l) (hF : ∀ o ∈ l, FitOb o) (hn : l.length ≤ 20) :
    Calls Tryd.prog 39 #[lv] w (fun e w' => ∃ v, e = .returned v ∧ Own [] w w' [.row v 9 1 (resN l).length (List.map str (resN l))]) := by
  refine enter (args := [lv]) Tryd.func39 rfl rfl ?_
  have H0 : Own [] w w [] := Own.start w []
  refine WC.seq ?_
  refine WC.region ?_
  refine WL.op rfl rfl (op_assign rfl ?_)
  refine WL.nil ?_
  refine WQ.next ?_
  refine WC.seq ?_
  refine WC.region ?_
  refine WL.op rfl rfl (op_assign rfl ?_)
  have H1 := H0.nilRow 9 1
  refine WL.nil ?_
  refine WQ.next ?_
  refine WC.seq ?_
  refine WC.seq ?_
  refine WC.region ?_
  refine WL.op rfl rfl (op_move rfl ?_)
  refine WL.op rfl rfl (op_lenA Tryd.underlying78 rfl (H1.arr hA) ?_)
  refine WL.op rfl rfl (op_move rfl ?_)
  refine WL.nil ?_
  refine WQ.next ?_
  refine WC.block ?_
  refine WC.loop (α := Nat × Value) (fun (i, v) => [(2, (.slice none 0 0)), (3, v), (8, lv), (9, (vN l.length)), (10, (vN i))]) (fun (i, v) w' => (i ≤ l.length) ∧ Own [] w w' [.row v 9 1 (nmAll l i).length (List.map str (nmAll l i))]) (fun (i, v) => l.length - i) (0, .slice none 0 0) ⟨Nat.zero_le _, H1⟩ ⟨rfl, rfl, rfl, rfl, rfl, trivial⟩ ?_
  rintro ⟨i, v⟩ w2 ⟨hi1, H2⟩
  show WC _ _ _ _ _ [(2, (.slice none 0 0)), (3, v), (8, lv), (9, (vN l.length)), (10, (vN i))] _
  have hnl := nmAll_len (lo := l) i
  have hfo := hF_ob hF i
  obtain ⟨hfo1, hfo2, hfo3⟩ := hfo
  refine WC.seq ?_
  refine WC.region ?_
  refine WL.op rfl rfl (op_lssN rfl rfl ?_)
  refine WL.nil ?_
  refine WQ.next ?_
  refine WC.seq ?_
  refine WC.cond rfl (fun (hb3 : (decide (i < l.length)) = true) => ?_) (fun (hb3 : (decide (i < l.length)) = false) => ?_)
  ·
    have hc3 := of_decide_eq_true hb3
    refine WC.skip ?_
    refine WQ.next ?_
    refine WC.seq ?_
    refine WC.block ?_
    refine WC.seq ?_
    refine WC.region ?_
    refine WL.op rfl rfl (op_indexAddr Tryd.underlying78 Fa.I32 rfl (H2.arr hA) rfl (by omega) ?_)
    refine WL.op rfl rfl (op_loadSP (vs := obc (l.getD i Ob.zero)) rfl (Arr.atsF (H2.arr hA) (fun _ => rfl) (by decide) Ob.zero (by omega)) Tryd.underlying32 rfl Fa.I32 rfl ?_)
    refine WL.op rfl rfl (op_alloc H2 Fa.I32 (fun b4 w4 H4 => ?_))
    refine WL.op rfl rfl (op_storeBW (i := 1) H4 rfl rfl rfl rfl (one_cons rfl (one_cons (Arr.one ((ObD_sy (Deep.getD ObD (Deep.fr0 ObD.list hI H4.fr) Ob.zero (ObD_zero _) i)))) one_nil)) Fa.I32 (fun w5 H5 => ?_))
    refine WL.nil ?_
    refine WQ.next ?_
    refine WC.seq ?_
    refine WC.seq ?_
    refine WC.region ?_
    refine WL.op rfl rfl (op_loadS (vs := [_, _]) rfl (H5.cells (i := 1) rfl rfl) Tryd.underlying32 rfl Fa.I32 rfl ?_)
    refine WL.op rfl rfl (op_callF Fa.C31 rfl ((ocheck_ok ((l.getD i Ob.zero).nm) _ ((l.getD i Ob.zero).sy) _ ((ObD_sy (Deep.getD ObD (Deep.fr0 ObD.list hI H5.fr) Ob.zero (ObD_zero _) i))) (ObD_in (Deep.getD ObD (Deep.fr0 ObD.list hI H5.fr) Ob.zero (ObD_zero _) i)) hfo3 (by omega) (by omega)).mono (fun e w6 hq => ?_)))
    obtain ⟨rfl, hf6⟩ := hq
    refine ⟨_, rfl, ?_⟩
    have H6 := H5.fr' hf6
    refine WL.op rfl rfl (op_neqN (b := 0) rfl rfl ?_)
    refine WL.nil ?_
    refine WQ.next ?_
    refine WC.cond rfl (fun (hb7 : (decide ((toldN (mayOb ((l.getD i Ob.zero).nm) ((l.getD i Ob.zero).sy))) ≠ 0)) = true) => ?_) (fun (hb7 : (decide ((toldN (mayOb ((l.getD i Ob.zero).nm) ((l.getD i Ob.zero).sy))) ≠ 0)) = false) => ?_)
    ·
      have hc7 := of_decide_eq_true hb7
      refine WC.exit ?_
      refine WQ.thenExit ?_
      refine WQ.inHere ?_
      refine WQ.next ?_
      refine WC.region ?_
      refine WL.op rfl rfl (op_addN (b := 1) rfl rfl (by omega) ?_)
      refine WL.op rfl rfl (op_move rfl ?_)
      refine WL.nil ?_
      exact WQ.round (i + 1, v) ⟨(by omega), (Own.rowEqN (i := 0) (f := str) (show Own [] w w6 [.row v 9 1 (nmAll l i).length (List.map str (nmAll l i))] from (H6.take 1)) rfl (nmAll_not (told_no hb7)).symm (by rw [nmAll_not (told_no hb7)]))⟩ ⟨rfl, rfl, rfl, rfl, rfl, trivial⟩ (by show l.length - (i + 1) < l.length - i; omega)
    ·
      have hc7 := of_decide_eq_false hb7
      refine WC.skip ?_
      refine WQ.next ?_
      refine WC.seq ?_
      refine WC.region ?_
      refine WL.op rfl rfl (op_fieldAddr rfl Fa.F32_1 ?_)
      refine WL.op rfl rfl (op_load rfl (H6.cell (i := 1) rfl rfl) Tryd.underlying30 rfl ?_)
      refine WL.op rfl rfl (op_lenA Tryd.underlying30 rfl ((ObD_sy (Deep.getD ObD (Deep.fr0 ObD.list hI H6.fr) Ob.zero (ObD_zero _) i))) ?_)
      refine WL.op rfl rfl (op_move rfl ?_)
      refine WL.nil ?_
      refine WQ.next ?_
      refine WC.block ?_
      refine WC.loop (α := Nat × Value) (fun (k, v) => [(2, (.slice none 0 0)), (3, v), (8, lv), (9, (vN l.length)), (10, (vN i)), (18, (l.getD i Ob.zero).sv), (19, (vN (l.getD i Ob.zero).sy.length)), (20, (vN k))]) (fun (k, v) w' => (k ≤ (l.getD i Ob.zero).sy.length) ∧ Own [] w w' [.row v 9 1 ((nmAll l i).length + k) (List.map str (nmAll l i ++ nmTo (l.getD i Ob.zero).sy k)), .blk b4 [(str (l.getD i Ob.zero).nm), (l.getD i Ob.zero).sv] 32]) (fun (k, v) => (l.getD i Ob.zero).sy.length - k) (0, v) ⟨Nat.zero_le _, (Own.rowEqN (i := 0) (f := str) H6 rfl (by rw [nmTo, List.append_nil]) rfl)⟩ ⟨rfl, rfl, rfl, rfl, rfl, rfl, rfl, rfl, trivial⟩ ?_
      rintro ⟨k, v⟩ w8 ⟨hk1, H8⟩
      show WC _ _ _ _ _ [(2, (.slice none 0 0)), (3, v), (8, lv), (9, (vN l.length)), (10, (vN i)), (18, (l.getD i Ob.zero).sv), (19, (vN (l.getD i Ob.zero).sy.length)), (20, (vN k))] _
      have h64 := may_64 (told_yes hb7)
      refine WC.seq ?_
      refine WC.region ?_
      refine WL.op rfl rfl (op_lssN rfl rfl ?_)
      refine WL.nil ?_
      refine WQ.next ?_
      refine WC.seq ?_
      refine WC.cond rfl (fun (hb9 : (decide (k < (l.getD i Ob.zero).sy.length)) = true) => ?_) (fun (hb9 : (decide (k < (l.getD i Ob.zero).sy.length)) = false) => ?_)
      ·
        have hc9 := of_decide_eq_true hb9
        refine WC.skip ?_
        refine WQ.next ?_
        refine WC.seq ?_
        refine WC.block ?_
        refine WC.seq ?_
        refine WC.region ?_
        refine WL.op rfl rfl (op_indexAddr Tryd.underlying30 Fa.I26 rfl ((ObD_sy (Deep.getD ObD (Deep.fr0 ObD.list hI H8.fr) Ob.zero (ObD_zero _) i))) rfl (by omega) ?_)
        refine WL.op rfl rfl (op_loadSP (vs := syc ((l.getD i Ob.zero).sy.getD k Sy.zero)) rfl (Arr.atsF ((ObD_sy (Deep.getD ObD (Deep.fr0 ObD.list hI H8.fr) Ob.zero (ObD_zero _) i))) (fun _ => rfl) (by decide) Sy.zero (by omega)) Tryd.underlying26 rfl Fa.I26 rfl ?_)
        refine WL.op rfl rfl (op_alloc H8 Fa.I26 (fun b10 w10 H10 => ?_))
        refine WL.op rfl rfl (op_storeBW (i := 2) H10 rfl rfl rfl rfl (one_cons rfl (one_cons rfl (one_cons rfl (one_cons rfl (one_cons rfl (one_cons (Arr.one ((SyD_rl (Deep.getD SyD (ObD_in (Deep.getD ObD (Deep.fr0 ObD.list hI H10.fr) Ob.zero (ObD_zero _) i)) Sy.zero (SyD_zero _) k)))) (one_cons (Arr.one ((SyD_nt (Deep.getD SyD (ObD_in (Deep.getD ObD (Deep.fr0 ObD.list hI H10.fr) Ob.zero (ObD_zero _) i)) Sy.zero (SyD_zero _) k)))) one_nil))))))) Fa.I26 (fun w11 H11 => ?_))
        refine WL.nil ?_
        refine WQ.next ?_
        refine WC.region ?_
        refine WL.op rfl rfl (op_move rfl ?_)
        refine WL.op rfl rfl (op_fieldAddr rfl Fa.F26_0 ?_)
        refine WL.op rfl rfl (op_load rfl (H11.cell (i := 2) rfl rfl) Tryd.underlying9 rfl ?_)
        refine WL.op rfl rfl (op_buildSlice (cs := [_]) H11 Tryd.underlying80 Fa.I9 rfl rfl rfl rfl (by decide) (by decide) (fun b12 w12 H12 => ?_))
        refine WL.op rfl rfl (op_appendM (f := str) (l := (nmAll l i ++ nmTo (l.getD i Ob.zero).sy k)) (l' := [((l.getD i Ob.zero).sy.getD k Sy.zero).nm]) (i := 0) H12 Tryd.underlying80 Fa.I9 rfl rfl rfl rfl (Src.ofArr Tryd.underlying80 (H12.arrR (i := 3) rfl)) (one_mapM (fun _ => rfl)) (by omega) (by omega) (fun v13 w13 H13 => ?_))
        refine WL.op rfl rfl (op_assign rfl ?_)
        refine WL.nil ?_
        refine WQ.inNormal ?_
        refine WQ.next ?_
        refine WC.region ?_
        refine WL.op rfl rfl (op_addN (b := 1) rfl rfl (by omega) ?_)
        refine WL.op rfl rfl (op_move rfl ?_)
        refine WL.nil ?_
        exact WQ.round (k + 1, v13) ⟨(by omega), (Own.rowEqN (i := 0) (f := str) (show Own [] w w13 [.row v13 9 1 (((nmAll l i).length + k) + 1) (List.map str ((nmAll l i ++ nmTo (l.getD i Ob.zero).sy k) ++ [((l.getD i Ob.zero).sy.getD k Sy.zero).nm])), .blk b4 [(str (l.getD i Ob.zero).nm), (l.getD i Ob.zero).sv] 32] from (H13.take 2)) rfl (by rw [nmTo, List.append_assoc]) (by omega))⟩ ⟨rfl, rfl, rfl, rfl, rfl, rfl, rfl, rfl, trivial⟩ (by show (l.getD i Ob.zero).sy.length - (k + 1) < (l.getD i Ob.zero).sy.length - k; omega)
      ·
        have hc9 := of_decide_eq_false hb9
        refine WC.exit ?_
        refine WQ.thenExit ?_
        refine WQ.thenExit ?_
        refine WQ.inHere ?_
        refine WQ.inNormal ?_
        refine WQ.next ?_
        refine WC.region ?_
        refine WL.op rfl rfl (op_addN (b := 1) rfl rfl (by omega) ?_)
        refine WL.op rfl rfl (op_move rfl ?_)
        refine WL.nil ?_
        exact WQ.round (i + 1, v) ⟨(by omega), (Own.rowEqN (i := 0) (f := str) (show Own [] w w8 [.row v 9 1 ((nmAll l i).length + k) (List.map str (nmAll l i ++ nmTo (l.getD i Ob.zero).sy k))] from (H8.take 1)) rfl (nmAll_yes (told_yes hb7) (by omega)).symm (by rw [nmAll_yes (told_yes hb7) (k := k) (by omega), List.length_append, nmTo_len]))⟩ ⟨rfl, rfl, rfl, rfl, rfl, trivial⟩ (by show l.length - (i + 1) < l.length - i; omega)
  ·
    have hc3 := of_decide_eq_false hb3
    refine WC.exit ?_
    refine WQ.thenExit ?_
    refine WQ.thenExit ?_
    refine WQ.inHere ?_
    refine WQ.next ?_
    refine WC.seq ?_
    refine WC.region ?_
    refine WL.op rfl rfl (op_move rfl ?_)
    refine WL.op rfl rfl (op_callF Fa.C67 rfl ((sort_ok v ((nmAll l i).length) (nmAll l i) _ _ (H2.part [0] rfl rfl) rfl (by omega)).mono (fun e w14 hq => ?_)))
    obtain ⟨l14, rfl, hc14, hq14⟩ := hq
    refine ⟨_, rfl, ?_⟩
    have H14 : Own [] w w14 [.row v 9 1 (nmAll l i).length (List.map str l14)] := H2.splice [0] [.row v 9 1 (nmAll l i).length (List.map str l14)] [] rfl rfl hq14 (Fits.solid True.intro Fits.nil)
    refine WL.nil ?_
    refine WQ.next ?_
    refine WC.seq ?_
    refine WC.region ?_
    refine WL.op rfl rfl (op_move rfl ?_)
    have hll : l14.length = (nmAll l i).length := hc14.1.len
    refine WL.op rfl rfl (op_callF Fa.C68 rfl ((comp_ok v ((nmAll l i).length) l14 _ _ (H14.part [0] rfl rfl) hll (by omega)).mono (fun e w15 hq => ?_)))
    obtain ⟨v15, rfl, hq15⟩ := hq
    refine ⟨_, rfl, ?_⟩
    have H15 : Own [] w w15 [.row v15 9 1 (cpt [] l14 ((nmAll l i).length)).length (List.map str (cpt [] l14 ((nmAll l i).length)))] := H14.splice [0] [.row v15 9 1 (cpt [] l14 ((nmAll l i).length)).length (List.map str (cpt [] l14 ((nmAll l i).length)))] [] rfl rfl hq15 (Fits.solid True.intro Fits.nil)
    refine WL.op rfl rfl (op_assign rfl ?_)
    refine WL.nil ?_
    refine WQ.next ?_
    refine WC.ret ?_
    refine WQ.out (.tmp rfl .nil) ?_
    have h := (show Own [] w w15 [.row v15 9 1 (cpt [] l14 ((nmAll l i).length)).length (List.map str (cpt [] l14 ((nmAll l i).length)))] from H15)
    have hi : i = l.length := by omega
    subst hi
    have hcp := cpt_all ltStrTot (hc14.1.len.trans rfl) rfl hc14.1 hc14.2
    have hne := names_eq (lo := l) hcp.1 hcp.2
    rw [hne] at h
    exact ⟨_, rfl, h.sel [0] rfl rfl⟩
end Go.Proofs.YtnngbnenekjffaaDoor
/-! from DOb4 -/
namespace Go.Proofs.YtnngbnenekjffaaDoor
open Go.Owl Go.Spec
set_option maxRecDepth 100000 in
theorem same07_ok (va vb : Value) (a b : List (List UInt8)) (w : World) (hA : Arr w va 1 a.length (List.map str a)) (hB : Arr w vb 1 b.length (List.map str b)) (hn : a.length < 2 ^ 40) :
    Calls Tryd.prog 38 #[va, vb] w (fun e w' => e = .returned (.bool (decide (a = b))) ∧ Fr [] w w') := by
  refine enter (args := [va, vb]) Tryd.func38 rfl rfl ?_
  have H0 : Own [] w w [] := Own.start w []
  refine WC.seq ?_
  refine WC.region ?_
  refine WL.op rfl rfl (op_assign rfl ?_)
  refine WL.nil ?_
  refine WQ.next ?_
  refine WC.seq ?_
  refine WC.seq ?_
  refine WC.region ?_
  refine WL.op rfl rfl (op_move rfl ?_)
  refine WL.op rfl rfl (op_lenA Tryd.underlying80 rfl (H0.arr hA) ?_)
  refine WL.op rfl rfl (op_move rfl ?_)
  refine WL.op rfl rfl (op_lenA Tryd.underlying80 rfl (H0.arr hB) ?_)
  refine WL.op rfl rfl (op_neqN rfl rfl ?_)
  refine WL.nil ?_
  refine WQ.next ?_
  refine WC.cond rfl (fun (hb1 : (decide (a.length ≠ b.length)) = true) => ?_) (fun (hb1 : (decide (a.length ≠ b.length)) = false) => ?_)
  ·
    have hc1 := of_decide_eq_true hb1
    refine WC.seq ?_
    refine WC.region ?_
    refine WL.op rfl rfl (op_assign rfl ?_)
    refine WL.nil ?_
    refine WQ.next ?_
    refine WC.ret ?_
    refine WQ.thenRet ?_
    refine WQ.out (.tmp rfl .nil) ?_
    exact ⟨by rw [decide_eq_false (fun h : a = b => of_decide_eq_true hb1 (by rw [h]))]; rfl, H0.fr⟩
  ·
    have hc1 := of_decide_eq_false hb1
    refine WC.skip ?_
    refine WQ.next ?_
    refine WC.seq ?_
    refine WC.seq ?_
    refine WC.region ?_
    refine WL.op rfl rfl (op_assign rfl ?_)
    refine WL.nil ?_
    refine WQ.next ?_
    refine WC.block ?_
    refine WC.loop (α := Nat) (fun k => [(0, va), (1, vb), (4, (.bool false)), (5, (vN k))]) (fun k w' => (k ≤ a.length ∧ (∀ j, j < k → a.getD j [] = b.getD j [])) ∧ Own [] w w' []) (fun k => a.length - k) 0 ⟨⟨Nat.zero_le _, fun j h => by omega⟩, H0⟩ ⟨rfl, rfl, rfl, rfl, trivial⟩ ?_
    rintro k w2 ⟨⟨hk1, hok⟩, H2⟩
    show WC _ _ _ _ _ [(0, va), (1, vb), (4, (.bool false)), (5, (vN k))] _
    refine WC.seq ?_
    refine WC.seq ?_
    refine WC.region ?_
    refine WL.op rfl rfl (op_move rfl ?_)
    refine WL.op rfl rfl (op_move rfl ?_)
    refine WL.op rfl rfl (op_lenA Tryd.underlying80 rfl (H2.arr hA) ?_)
    refine WL.op rfl rfl (op_lssN rfl rfl ?_)
    refine WL.nil ?_
    refine WQ.next ?_
    refine WC.cond rfl (fun (hb3 : (decide (k < a.length)) = true) => ?_) (fun (hb3 : (decide (k < a.length)) = false) => ?_)
    ·
      have hc3 := of_decide_eq_true hb3
      refine WC.skip ?_
      refine WQ.next ?_
      refine WC.seq ?_
      refine WC.block ?_
      refine WC.seq ?_
      refine WC.draw 9 Fa.M H2 (HW.op rfl (fun w1 H1 => op_move rfl ⟨rfl, Fr.refl _ _⟩) (HW.op rfl (fun w1 H1 => op_move rfl ⟨rfl, Fr.refl _ _⟩) (HW.op rfl (fun w1 H1 => op_indexAddr1 Tryd.underlying80 Fa.I9 rfl (H1.arr hA) rfl (by omega) ⟨rfl, Fr.refl _ _⟩) (HW.op rfl (fun w1 H1 => op_load rfl ((H1.arr hA).at (get_map str [] (Arr.ltM (H1.arr hA) (by omega)))) Tryd.underlying9 rfl ⟨rfl, Fr.refl _ _⟩) (HW.op rfl (fun w1 H1 => op_move rfl ⟨rfl, Fr.refl _ _⟩) (HW.op rfl (fun w1 H1 => op_move rfl ⟨rfl, Fr.refl _ _⟩) (HW.op rfl (fun w1 H1 => op_indexAddr1 Tryd.underlying80 Fa.I9 rfl (H1.arr hB) rfl (by omega) ⟨rfl, Fr.refl _ _⟩) (HW.op rfl (fun w1 H1 => op_load rfl ((H1.arr hB).at (get_map str [] (Arr.ltM (H1.arr hB) (by omega)))) Tryd.underlying9 rfl ⟨rfl, Fr.refl _ _⟩) (HW.op rfl (fun w1 H1 => op_neqStr rfl rfl ⟨rfl, Fr.refl _ _⟩)  HW.nil))))))))) (by kernel_rfl) ?_
      intro β4 w4 H4
      refine WL.nil ?_
      refine WQ.next ?_
      refine WC.cond rfl (fun (hb5 : (decide ((a.getD k []) ≠ (b.getD k []))) = true) => ?_) (fun (hb5 : (decide ((a.getD k []) ≠ (b.getD k []))) = false) => ?_)
      ·
        have hc5 := of_decide_eq_true hb5
        refine WC.seq ?_
        refine WC.region ?_
        refine WL.op rfl rfl (op_assign rfl ?_)
        refine WL.nil ?_
        refine WQ.next ?_
        refine WC.ret ?_
        refine WQ.inRet ?_
        refine WQ.thenRet ?_
        refine WQ.thenRet ?_
        refine WQ.inRet ?_
        refine WQ.thenRet ?_
        refine WQ.out (.tmp rfl .nil) ?_
        exact ⟨by rw [decide_eq_false (fun h : a = b => of_decide_eq_true hb5 (by rw [h]))]; rfl, H4.fr⟩
      ·
        have hc5 := of_decide_eq_false hb5
        refine WC.skip ?_
        refine WQ.inNormal ?_
        refine WQ.next ?_
        refine WC.region ?_
        refine WL.op rfl rfl (op_move rfl ?_)
        refine WL.op rfl rfl (op_addN (b := 1) rfl rfl (by omega) ?_)
        refine WL.op rfl rfl (op_assign rfl ?_)
        refine WL.nil ?_
        exact WQ.round (k + 1) ⟨⟨by omega, allPrev hok (Decidable.not_not.mp (of_decide_eq_false hb5))⟩, H4⟩ ⟨rfl, rfl, rfl, rfl, trivial⟩ (by omega)
    ·
      have hc3 := of_decide_eq_false hb3
      refine WC.exit ?_
      refine WQ.thenExit ?_
      refine WQ.thenExit ?_
      refine WQ.inHere ?_
      refine WQ.next ?_
      refine WC.seq ?_
      refine WC.region ?_
      refine WL.op rfl rfl (op_assign rfl ?_)
      refine WL.nil ?_
      refine WQ.next ?_
      refine WC.ret ?_
      refine WQ.out (.tmp rfl .nil) ?_
      exact ⟨by rw [decide_eq_true (ext_getD (d := []) (by omega) (fun j hj => hok j (by omega)))]; rfl, H2.fr⟩
set_option maxRecDepth 100000 in
theorem rmayo_ok (nm : List UInt8) (lv : Value) (l : List Sy) (w : World) (hA : Arr w lv 7 l.length (List.flatMap syc l)) (hI : SyD.list.ok w l) (hF : ∀ x ∈ l, FitH x) (hn : l.length < 2 ^ 46) (hnm : nm.length < 2 ^ 47) :
    Calls Tryd.prog 33 #[(.agg #[(str nm), lv])] w (fun e w' => e = .returned (.bool (mayOb nm l)) ∧ Fr [] w w') := by
  refine enter (args := [(.agg #[(str nm), lv])]) Tryd.func33 rfl rfl ?_
  have H0 : Own [] w w [] := Own.start w []
  refine WC.seq ?_
  refine WC.region ?_
  refine WL.op rfl rfl (op_box H0 rfl rfl (fun b1 w1 H1 => ?_))
  refine WL.op rfl rfl (op_assign rfl ?_)
  refine WL.nil ?_
  refine WQ.next ?_
  refine WC.seq ?_
  refine WC.seq ?_
  refine WC.region ?_
  refine WL.op rfl rfl (op_assign rfl ?_)
  refine WL.nil ?_
  refine WQ.next ?_
  refine WC.block ?_
  refine WC.loop (α := Nat) (fun k => [(1, (ptr b1 0)), (2, (.bool false)), (3, (vN k))]) (fun k w' => (k ≤ l.length ∧ Dst l k ∧ (∀ j, j < k → symB (l.getD j Sy.zero) = true)) ∧ Own [] w w' [.blk b1 [(str nm), lv] 32]) (fun k => l.length - k) 0 ⟨⟨Nat.zero_le _, fun i j h1 h2 => by omega, fun j h => by omega⟩, H1⟩ ⟨rfl, rfl, rfl, trivial⟩ ?_
  rintro k w2 ⟨⟨hk1, hds, hok⟩, H2⟩
  show WC _ _ _ _ _ [(1, (ptr b1 0)), (2, (.bool false)), (3, (vN k))] _
  refine WC.seq ?_
  refine WC.seq ?_
  refine WC.region ?_
  refine WL.op rfl rfl (op_move rfl ?_)
  refine WL.op rfl rfl (op_fieldAddr rfl Fa.F32_1 ?_)
  refine WL.op rfl rfl (op_load rfl (H2.cell (i := 0) rfl rfl) Tryd.underlying30 rfl ?_)
  refine WL.op rfl rfl (op_lenA Tryd.underlying30 rfl (H2.arr hA) ?_)
  refine WL.op rfl rfl (op_lssN rfl rfl ?_)
  refine WL.nil ?_
  refine WQ.next ?_
  refine WC.cond rfl (fun (hb3 : (decide (k < l.length)) = true) => ?_) (fun (hb3 : (decide (k < l.length)) = false) => ?_)
  ·
    have hc3 := of_decide_eq_true hb3
    have hf := hF (l.getD k Sy.zero) (getDmem (by omega))
    obtain ⟨hf1, hf2, hf3, hf4, hf5⟩ := hf
    refine WC.skip ?_
    refine WQ.next ?_
    refine WC.seq ?_
    refine WC.block ?_
    refine WC.seq ?_
    refine WC.seq ?_
    refine WC.region ?_
    refine WL.op rfl rfl (op_fieldAddr rfl Fa.F32_1 ?_)
    refine WL.op rfl rfl (op_load rfl (H2.cell (i := 0) rfl rfl) Tryd.underlying30 rfl ?_)
    refine WL.op rfl rfl (op_move rfl ?_)
    refine WL.op rfl rfl (op_indexAddr Tryd.underlying30 Fa.I26 rfl (H2.arr hA) rfl (by omega) ?_)
    refine WL.op rfl rfl (op_loadSP (vs := syc (l.getD k Sy.zero)) rfl (Arr.atsF (H2.arr hA) (fun _ => rfl) (by decide) Sy.zero (by omega)) Tryd.underlying26 rfl Fa.I26 rfl ?_)
    refine WL.op rfl rfl (op_callF Fa.C26 rfl ((rsym_ok (l.getD k Sy.zero) _ (SyD_mk (x := (l.getD k Sy.zero)) ((SyD_rl (Deep.getD SyD (Deep.fr0 SyD.list hI H2.fr) Sy.zero (SyD_zero _) k))) ((SyD_nt (Deep.getD SyD (Deep.fr0 SyD.list hI H2.fr) Sy.zero (SyD_zero _) k)))) hf1 hf2 hf3 hf4 hf5).mono (fun e w4 hq => ?_)))
    obtain ⟨rfl, hf4⟩ := hq
    refine ⟨_, rfl, ?_⟩
    have H4 := H2.fr' hf4
    refine WL.op rfl rfl (op_not rfl ?_)
    refine WL.nil ?_
    refine WQ.next ?_
    refine WC.cond rfl (fun (hb5 : (!(symB (l.getD k Sy.zero))) = true) => ?_) (fun (hb5 : (!(symB (l.getD k Sy.zero))) = false) => ?_)
    ·
      have hn5 := (Bool.not_eq_true' _).mp hb5
      refine WC.seq ?_
      refine WC.region ?_
      refine WL.op rfl rfl (op_assign rfl ?_)
      refine WL.nil ?_
      refine WQ.next ?_
      refine WC.ret ?_
      refine WQ.thenRet ?_
      refine WQ.inRet ?_
      refine WQ.thenRet ?_
      refine WQ.thenRet ?_
      refine WQ.inRet ?_
      refine WQ.thenRet ?_
      refine WQ.out (.tmp rfl .nil) ?_
      exact ⟨by rw [may_sym (k := k) (by omega) hn5]; rfl, H4.fr⟩
    ·
      have hn5 := (Bool.not_eq_false' _).mp hb5
      refine WC.skip ?_
      refine WQ.next ?_
      refine WC.seq ?_
      refine WC.region ?_
      refine WL.op rfl rfl (op_assign rfl ?_)
      refine WL.nil ?_
      refine WQ.next ?_
      refine WC.block ?_
      refine WC.loop (α := Nat) (fun i => [(1, (ptr b1 0)), (2, (.bool false)), (3, (vN k)), (4, (vN i))]) (fun i w' => (i ≤ k ∧ (∀ j, j < i → decide ((l.getD j Sy.zero).nm = (l.getD k Sy.zero).nm) = false)) ∧ Own [] w w' [.blk b1 [(str nm), lv] 32]) (fun i => k - i) 0 ⟨⟨Nat.zero_le _, fun j h => by omega⟩, H4⟩ ⟨rfl, rfl, rfl, rfl, trivial⟩ ?_
      rintro i w6 ⟨⟨hi1, hin⟩, H6⟩
      show WC _ _ _ _ _ [(1, (ptr b1 0)), (2, (.bool false)), (3, (vN k)), (4, (vN i))] _
      refine WC.seq ?_
      refine WC.seq ?_
      refine WC.region ?_
      refine WL.op rfl rfl (op_move rfl ?_)
      refine WL.op rfl rfl (op_move rfl ?_)
      refine WL.op rfl rfl (op_lssN rfl rfl ?_)
      refine WL.nil ?_
      refine WQ.next ?_
      refine WC.cond rfl (fun (hb7 : (decide (i < k)) = true) => ?_) (fun (hb7 : (decide (i < k)) = false) => ?_)
      ·
        have hc7 := of_decide_eq_true hb7
        refine WC.skip ?_
        refine WQ.next ?_
        refine WC.seq ?_
        refine WC.block ?_
        refine WC.seq ?_
        refine WC.draw 13 Fa.M H6 (HW.op rfl (fun w1 H1 => op_fieldAddr rfl Fa.F32_1 ⟨rfl, Fr.refl _ _⟩) (HW.op rfl (fun w1 H1 => op_load rfl (H1.cell (i := 0) rfl rfl) Tryd.underlying30 rfl ⟨rfl, Fr.refl _ _⟩) (HW.op rfl (fun w1 H1 => op_move rfl ⟨rfl, Fr.refl _ _⟩) (HW.op rfl (fun w1 H1 => op_indexAddr Tryd.underlying30 Fa.I26 rfl (H1.arr hA) rfl (by omega) ⟨rfl, Fr.refl _ _⟩) (HW.op rfl (fun w1 H1 => op_fieldAddrS rfl Fa.F26_0 ⟨rfl, Fr.refl _ _⟩) (HW.op rfl (fun w1 H1 => op_load rfl (Arr.atF (k := 0) (H1.arr hA) (fun _ => rfl) (by decide) Sy.zero (by omega) rfl) Tryd.underlying9 rfl ⟨rfl, Fr.refl _ _⟩) (HW.op rfl (fun w1 H1 => op_fieldAddr rfl Fa.F32_1 ⟨rfl, Fr.refl _ _⟩) (HW.op rfl (fun w1 H1 => op_load rfl (H1.cell (i := 0) rfl rfl) Tryd.underlying30 rfl ⟨rfl, Fr.refl _ _⟩) (HW.op rfl (fun w1 H1 => op_move rfl ⟨rfl, Fr.refl _ _⟩) (HW.op rfl (fun w1 H1 => op_indexAddr Tryd.underlying30 Fa.I26 rfl (H1.arr hA) rfl (by omega) ⟨rfl, Fr.refl _ _⟩) (HW.op rfl (fun w1 H1 => op_fieldAddrS rfl Fa.F26_0 ⟨rfl, Fr.refl _ _⟩) (HW.op rfl (fun w1 H1 => op_load rfl (Arr.atF (k := 0) (H1.arr hA) (fun _ => rfl) (by decide) Sy.zero (by omega) rfl) Tryd.underlying9 rfl ⟨rfl, Fr.refl _ _⟩) (HW.op rfl (fun w1 H1 => op_eqlStr rfl rfl ⟨rfl, Fr.refl _ _⟩)  HW.nil))))))))))))) (by kernel_rfl) ?_
        intro β8 w8 H8
        refine WL.nil ?_
        refine WQ.next ?_
        refine WC.cond rfl (fun (hb9 : (decide ((l.getD i Sy.zero).nm = (l.getD k Sy.zero).nm)) = true) => ?_) (fun (hb9 : (decide ((l.getD i Sy.zero).nm = (l.getD k Sy.zero).nm)) = false) => ?_)
        ·
          have hc9 := of_decide_eq_true hb9
          refine WC.seq ?_
          refine WC.region ?_
          refine WL.op rfl rfl (op_assign rfl ?_)
          refine WL.nil ?_
          refine WQ.next ?_
          refine WC.ret ?_
          refine WQ.inRet ?_
          refine WQ.thenRet ?_
          refine WQ.thenRet ?_
          refine WQ.inRet ?_
          refine WQ.inRet ?_
          refine WQ.thenRet ?_
          refine WQ.thenRet ?_
          refine WQ.inRet ?_
          refine WQ.thenRet ?_
          refine WQ.out (.tmp rfl .nil) ?_
          exact ⟨by rw [may_dup (k := k) (j := i) (by omega) (by omega) (of_decide_eq_true hb9)]; rfl, H8.fr⟩
        ·
          have hc9 := of_decide_eq_false hb9
          refine WC.skip ?_
          refine WQ.inNormal ?_
          refine WQ.next ?_
          refine WC.region ?_
          refine WL.op rfl rfl (op_move rfl ?_)
          refine WL.op rfl rfl (op_addN (b := 1) rfl rfl (by omega) ?_)
          refine WL.op rfl rfl (op_assign rfl ?_)
          refine WL.nil ?_
          exact WQ.round (i + 1) ⟨⟨by omega, allPrev hin hb9⟩, H8⟩ ⟨rfl, rfl, rfl, rfl, trivial⟩ (by omega)
      ·
        have hc7 := of_decide_eq_false hb7
        refine WC.exit ?_
        refine WQ.thenExit ?_
        refine WQ.thenExit ?_
        refine WQ.inHere ?_
        refine WQ.inNormal ?_
        refine WQ.next ?_
        refine WC.region ?_
        refine WL.op rfl rfl (op_move rfl ?_)
        refine WL.op rfl rfl (op_addN (b := 1) rfl rfl (by omega) ?_)
        refine WL.op rfl rfl (op_assign rfl ?_)
        refine WL.nil ?_
        exact WQ.round (k + 1) ⟨⟨by omega, dst_step hds (fun j hj => hin j (by omega)), allPrev hok hn5⟩, H6⟩ ⟨rfl, rfl, rfl, trivial⟩ (by omega)
  ·
    have hc3 := of_decide_eq_false hb3
    refine WC.exit ?_
    refine WQ.thenExit ?_
    refine WQ.thenExit ?_
    refine WQ.inHere ?_
    refine WQ.next ?_
    refine WC.seq ?_
    refine WC.region ?_
    refine WL.op rfl rfl (op_fieldAddr rfl Fa.F32_0 ?_)
    refine WL.op rfl rfl (op_load rfl (H2.cell (i := 0) rfl rfl) Tryd.underlying9 rfl ?_)
    refine WL.op rfl rfl (op_callF Fa.C58 rfl ((rname_ok nm _ hnm).mono (fun e w10 hq => ?_)))
    obtain ⟨rfl, hf10⟩ := hq
    refine ⟨_, rfl, ?_⟩
    have H10 := H2.fr' hf10
    refine WL.op rfl rfl (op_move rfl ?_)
    refine WL.split (t := 40) rfl (fun (hb11 : (nameB nm) = true) => ?_) (fun (hb11 : (nameB nm) = false) => ?_)
    ·
      refine WL.yes rfl rfl rfl hb11 rfl (op_fieldAddr rfl Fa.F32_1 ?_)
      refine WL.yes rfl rfl rfl hb11 rfl (op_load rfl (H10.cell (i := 0) rfl rfl) Tryd.underlying30 rfl ?_)
      refine WL.yes rfl rfl rfl hb11 rfl (op_lenA Tryd.underlying30 rfl (H10.arr hA) ?_)
      refine WL.yes rfl rfl rfl hb11 rfl (op_leqN (b := 64) rfl rfl ?_)
      refine WL.op rfl rfl (op_pickT rfl hb11 rfl ?_)
      refine WL.op rfl rfl (op_assign rfl ?_)
      refine WL.nil ?_
      refine WQ.next ?_
      refine WC.ret ?_
      refine WQ.out (.tmp rfl .nil) ?_
      obtain rfl : k = l.length := by omega
      exact ⟨by (rw [may_end hok hds, hb11]) <;> rfl, H10.fr⟩
    ·
      refine WL.no rfl rfl rfl hb11 rfl ?_
      refine WL.no rfl rfl rfl hb11 rfl ?_
      refine WL.no rfl rfl rfl hb11 rfl ?_
      refine WL.no rfl rfl rfl hb11 rfl ?_
      refine WL.op rfl rfl (op_pickF rfl hb11 rfl ?_)
      refine WL.op rfl rfl (op_assign rfl ?_)
      refine WL.nil ?_
      refine WQ.next ?_
      refine WC.ret ?_
      refine WQ.out (.tmp rfl .nil) ?_
      obtain rfl : k = l.length := by omega
      exact ⟨by (rw [may_end hok hds, hb11]) <;> rfl, H10.fr⟩
set_option maxRecDepth 100000 in
theorem rfind_ok (nm : List UInt8) (lv : Value) (l : List Sy) (s : List UInt8) (w : World) (hA : Arr w lv 7 l.length (List.flatMap syc l)) (hI : SyD.list.ok w l) (hF : ∀ x ∈ l, FitH x) (hn : l.length < 2 ^ 46) (hnm : nm.length < 2 ^ 47) :
    Calls Tryd.prog 36 #[(.agg #[(str nm), lv]), (str s)] w (fun e w' => e = .returned (.tuple #[vN (findI nm s l), .bool (findB nm s l)]) ∧ Fr [] w w') := by
  refine enter (args := [(.agg #[(str nm), lv]), (str s)]) Tryd.func36 rfl rfl ?_
  have H0 : Own [] w w [] := Own.start w []
  refine WC.seq ?_
  refine WC.region ?_
  refine WL.op rfl rfl (op_box H0 rfl rfl (fun b1 w1 H1 => ?_))
  refine WL.op rfl rfl (op_assign rfl ?_)
  refine WL.op rfl rfl (op_assign rfl ?_)
  refine WL.nil ?_
  refine WQ.next ?_
  refine WC.seq ?_
  refine WC.seq ?_
  refine WC.region ?_
  refine WL.op rfl rfl (op_assign rfl ?_)
  refine WL.nil ?_
  refine WQ.next ?_
  refine WC.block ?_
  refine WC.loop (α := Nat) (fun k => [(1, (str s)), (2, (ptr b1 0)), (4, (vN 0)), (5, (.bool false)), (6, (vN k))]) (fun k w' => (k ≤ l.length ∧ (∀ j, j < k → decide ((l.getD j Sy.zero).nm = s) = false)) ∧ Own [] w w' [.blk b1 [(str nm), lv] 32]) (fun k => l.length - k) 0 ⟨⟨Nat.zero_le _, fun j h => by omega⟩, H1⟩ ⟨rfl, rfl, rfl, rfl, rfl, trivial⟩ ?_
  rintro k w2 ⟨⟨hk1, hok⟩, H2⟩
  show WC _ _ _ _ _ [(1, (str s)), (2, (ptr b1 0)), (4, (vN 0)), (5, (.bool false)), (6, (vN k))] _
  refine WC.seq ?_
  refine WC.seq ?_
  refine WC.region ?_
  refine WL.op rfl rfl (op_move rfl ?_)
  refine WL.op rfl rfl (op_fieldAddr rfl Fa.F32_1 ?_)
  refine WL.op rfl rfl (op_load rfl (H2.cell (i := 0) rfl rfl) Tryd.underlying30 rfl ?_)
  refine WL.op rfl rfl (op_lenA Tryd.underlying30 rfl (H2.arr hA) ?_)
  refine WL.op rfl rfl (op_lssN rfl rfl ?_)
  refine WL.op rfl rfl (op_move rfl ?_)
  refine WL.split (t := 12) rfl (fun (hb3 : (decide (k < l.length)) = true) => ?_) (fun (hb3 : (decide (k < l.length)) = false) => ?_)
  ·
    have hc3 := of_decide_eq_true hb3
    refine WL.yes rfl rfl rfl hb3 rfl (op_loadS (vs := [_, _]) rfl (H2.cells (i := 0) rfl rfl) Tryd.underlying32 rfl Fa.I32 rfl ?_)
    refine WL.yes rfl rfl rfl hb3 rfl (op_callF Fa.C33 rfl ((rmayo_ok nm _ l _ (H2.arr hA) (Deep.fr0 SyD.list hI H2.fr) hF hn hnm).mono (fun e w4 hq => ?_)))
    obtain ⟨rfl, hf4⟩ := hq
    refine ⟨_, rfl, ?_⟩
    have H4 := H2.fr' hf4
    refine WL.op rfl rfl (op_pickT rfl hb3 rfl ?_)
    refine WL.nil ?_
    refine WQ.next ?_
    refine WC.cond rfl (fun (hb5 : (mayOb nm l) = true) => ?_) (fun (hb5 : (mayOb nm l) = false) => ?_)
    ·
      refine WC.skip ?_
      refine WQ.next ?_
      refine WC.seq ?_
      refine WC.block ?_
      refine WC.seq ?_
      refine WC.region ?_
      refine WL.op rfl rfl (op_fieldAddr rfl Fa.F32_1 ?_)
      refine WL.op rfl rfl (op_load rfl (H4.cell (i := 0) rfl rfl) Tryd.underlying30 rfl ?_)
      refine WL.op rfl rfl (op_move rfl ?_)
      refine WL.op rfl rfl (op_indexAddr Tryd.underlying30 Fa.I26 rfl (H4.arr hA) rfl (by omega) ?_)
      refine WL.op rfl rfl (op_fieldAddrS rfl Fa.F26_0 ?_)
      refine WL.op rfl rfl (op_load rfl (Arr.atF (k := 0) (H4.arr hA) (fun _ => rfl) (by decide) Sy.zero (by omega) rfl) Tryd.underlying9 rfl ?_)
      refine WL.op rfl rfl (op_move rfl ?_)
      refine WL.op rfl rfl (op_eqlStr rfl rfl ?_)
      refine WL.nil ?_
      refine WQ.next ?_
      refine WC.cond rfl (fun (hb6 : (decide ((l.getD k Sy.zero).nm = s)) = true) => ?_) (fun (hb6 : (decide ((l.getD k Sy.zero).nm = s)) = false) => ?_)
      ·
        have hc6 := of_decide_eq_true hb6
        refine WC.seq ?_
        refine WC.region ?_
        refine WL.op rfl rfl (op_move rfl ?_)
        refine WL.op rfl rfl (op_assign rfl ?_)
        refine WL.op rfl rfl (op_assign rfl ?_)
        refine WL.nil ?_
        refine WQ.next ?_
        refine WC.ret ?_
        refine WQ.inRet ?_
        refine WQ.thenRet ?_
        refine WQ.thenRet ?_
        refine WQ.inRet ?_
        refine WQ.thenRet ?_
        refine WQ.out (.tmp rfl (.tmp rfl .nil)) ?_
        have hfa := find_at (nm := nm) hb5 (by omega) hok hb6
        exact ⟨by rw [hfa.1, hfa.2]; rfl, H4.fr⟩
      ·
        have hc6 := of_decide_eq_false hb6
        refine WC.skip ?_
        refine WQ.inNormal ?_
        refine WQ.next ?_
        refine WC.region ?_
        refine WL.op rfl rfl (op_move rfl ?_)
        refine WL.op rfl rfl (op_addN (b := 1) rfl rfl (by omega) ?_)
        refine WL.op rfl rfl (op_assign rfl ?_)
        refine WL.nil ?_
        exact WQ.round (k + 1) ⟨⟨by omega, allPrev hok hb6⟩, H4⟩ ⟨rfl, rfl, rfl, rfl, rfl, trivial⟩ (by omega)
    ·
      refine WC.exit ?_
      refine WQ.thenExit ?_
      refine WQ.thenExit ?_
      refine WQ.inHere ?_
      refine WQ.next ?_
      refine WC.seq ?_
      refine WC.region ?_
      refine WL.op rfl rfl (op_assign rfl ?_)
      refine WL.op rfl rfl (op_assign rfl ?_)
      refine WL.nil ?_
      refine WQ.next ?_
      refine WC.ret ?_
      refine WQ.out (.tmp rfl (.tmp rfl .nil)) ?_
      have hfa := find_no (nm := nm) (s := s) (l := l) (.inl hb5)
      exact ⟨by rw [hfa.1, hfa.2]; rfl, H4.fr⟩
  ·
    have hc3 := of_decide_eq_false hb3
    refine WL.no rfl rfl rfl hb3 rfl ?_
    refine WL.no rfl rfl rfl hb3 rfl ?_
    refine WL.op rfl rfl (op_pickF rfl hb3 rfl ?_)
    refine WL.nil ?_
    refine WQ.next ?_
    refine WC.no rfl rfl ?_
    refine WC.exit ?_
    refine WQ.thenExit ?_
    refine WQ.thenExit ?_
    refine WQ.inHere ?_
    refine WQ.next ?_
    refine WC.seq ?_
    refine WC.region ?_
    refine WL.op rfl rfl (op_assign rfl ?_)
    refine WL.op rfl rfl (op_assign rfl ?_)
    refine WL.nil ?_
    refine WQ.next ?_
    refine WC.ret ?_
    refine WQ.out (.tmp rfl (.tmp rfl .nil)) ?_
    have hfa := find_no (nm := nm) (s := s) (l := l) (.inr (fun j hj => hok j (by omega)))
    exact ⟨by rw [hfa.1, hfa.2]; rfl, H2.fr⟩
set_option maxRecDepth 100000 in
theorem same08_ok (n m : List UInt8) (va vb : Value) (a b : List Sy) (w : World) (hA : Arr w va 7 a.length (List.flatMap syc a)) (hI : SyD.list.ok w a) (hB : Arr w vb 7 b.length (List.flatMap syc b)) (hJ : SyD.list.ok w b) (hn : a.length < 2 ^ 46) (hF : ∀ x ∈ a, FitH x) :
    Calls Tryd.prog 37 #[(.agg #[(str n), va]), (.agg #[(str m), vb])] w (fun e w' => e = .returned (.bool (sameO n m a b)) ∧ Fr [] w w') := by
  refine enter (args := [(.agg #[(str n), va]), (.agg #[(str m), vb])]) Tryd.func37 rfl rfl ?_
  have H0 : Own [] w w [] := Own.start w []
  refine WC.seq ?_
  refine WC.region ?_
  refine WL.op rfl rfl (op_box H0 rfl rfl (fun b1 w1 H1 => ?_))
  refine WL.op rfl rfl (op_box H1 rfl rfl (fun b2 w2 H2 => ?_))
  refine WL.op rfl rfl (op_assign rfl ?_)
  refine WL.nil ?_
  refine WQ.next ?_
  refine WC.seq ?_
  refine WC.seq ?_
  refine WC.region ?_
  refine WL.op rfl rfl (op_fieldAddr rfl Fa.F32_0 ?_)
  refine WL.op rfl rfl (op_load rfl (H2.cell (i := 0) rfl rfl) Tryd.underlying9 rfl ?_)
  refine WL.op rfl rfl (op_fieldAddr rfl Fa.F32_0 ?_)
  refine WL.op rfl rfl (op_load rfl (H2.cell (i := 1) rfl rfl) Tryd.underlying9 rfl ?_)
  refine WL.op rfl rfl (op_neqStr rfl rfl ?_)
  refine WL.op rfl rfl (op_move rfl ?_)
  refine WL.split (t := 11) rfl (fun (hb3 : (decide (n ≠ m)) = true) => ?_) (fun (hb3 : (decide (n ≠ m)) = false) => ?_)
  ·
    have hc3 := of_decide_eq_true hb3
    refine WL.no rfl rfl rfl hb3 rfl ?_
    refine WL.no rfl rfl rfl hb3 rfl ?_
    refine WL.no rfl rfl rfl hb3 rfl ?_
    refine WL.no rfl rfl rfl hb3 rfl ?_
    refine WL.no rfl rfl rfl hb3 rfl ?_
    refine WL.no rfl rfl rfl hb3 rfl ?_
    refine WL.no rfl rfl rfl hb3 rfl ?_
    refine WL.op rfl rfl (op_pickT rfl hb3 rfl ?_)
    refine WL.nil ?_
    refine WQ.next ?_
    refine WC.yes rfl rfl ?_
    refine WC.seq ?_
    refine WC.region ?_
    refine WL.op rfl rfl (op_assign rfl ?_)
    refine WL.nil ?_
    refine WQ.next ?_
    refine WC.ret ?_
    refine WQ.thenRet ?_
    refine WQ.out (.tmp rfl .nil) ?_
    exact ⟨by rw [sameO_nm (of_decide_eq_true hb3)]; rfl, H2.fr⟩
  ·
    have hc3 := of_decide_eq_false hb3
    refine WL.yes rfl rfl rfl hb3 rfl (op_fieldAddr rfl Fa.F32_1 ?_)
    refine WL.yes rfl rfl rfl hb3 rfl (op_load rfl (H2.cell (i := 0) rfl rfl) Tryd.underlying30 rfl ?_)
    refine WL.yes rfl rfl rfl hb3 rfl (op_lenA Tryd.underlying30 rfl (H2.arr hA) ?_)
    refine WL.yes rfl rfl rfl hb3 rfl (op_fieldAddr rfl Fa.F32_1 ?_)
    refine WL.yes rfl rfl rfl hb3 rfl (op_load rfl (H2.cell (i := 1) rfl rfl) Tryd.underlying30 rfl ?_)
    refine WL.yes rfl rfl rfl hb3 rfl (op_lenA Tryd.underlying30 rfl (H2.arr hB) ?_)
    refine WL.yes rfl rfl rfl hb3 rfl (op_neqN rfl rfl ?_)
    refine WL.op rfl rfl (op_pickF rfl hb3 rfl ?_)
    refine WL.nil ?_
    refine WQ.next ?_
    refine WC.cond rfl (fun (hb4 : (decide (a.length ≠ b.length)) = true) => ?_) (fun (hb4 : (decide (a.length ≠ b.length)) = false) => ?_)
    ·
      have hc4 := of_decide_eq_true hb4
      refine WC.seq ?_
      refine WC.region ?_
      refine WL.op rfl rfl (op_assign rfl ?_)
      refine WL.nil ?_
      refine WQ.next ?_
      refine WC.ret ?_
      refine WQ.thenRet ?_
      refine WQ.out (.tmp rfl .nil) ?_
      exact ⟨by rw [sameO_len (of_decide_eq_true hb4)]; rfl, H2.fr⟩
    ·
      have hc4 := of_decide_eq_false hb4
      refine WC.skip ?_
      refine WQ.next ?_
      refine WC.seq ?_
      refine WC.seq ?_
      refine WC.region ?_
      refine WL.op rfl rfl (op_assign rfl ?_)
      refine WL.nil ?_
      refine WQ.next ?_
      refine WC.block ?_
      refine WC.loop (α := Nat) (fun k => [(2, (ptr b1 0)), (3, (ptr b2 0)), (4, (.bool false)), (5, (vN k))]) (fun k w' => (k ≤ a.length ∧ (∀ j, j < k → sameY (a.getD j Sy.zero) (b.getD j Sy.zero) = true)) ∧ Own [] w w' [.blk b1 [(str n), va] 32, .blk b2 [(str m), vb] 32]) (fun k => a.length - k) 0 ⟨⟨Nat.zero_le _, fun j h => by omega⟩, H2⟩ ⟨rfl, rfl, rfl, rfl, trivial⟩ ?_
      rintro k w5 ⟨⟨hk1, hok⟩, H5⟩
      show WC _ _ _ _ _ [(2, (ptr b1 0)), (3, (ptr b2 0)), (4, (.bool false)), (5, (vN k))] _
      have hf := fitH_getD hF k
      obtain ⟨hf1, hf2, hf3, hf4, hf5⟩ := hf
      refine WC.seq ?_
      refine WC.seq ?_
      refine WC.region ?_
      refine WL.op rfl rfl (op_move rfl ?_)
      refine WL.op rfl rfl (op_fieldAddr rfl Fa.F32_1 ?_)
      refine WL.op rfl rfl (op_load rfl (H5.cell (i := 0) rfl rfl) Tryd.underlying30 rfl ?_)
      refine WL.op rfl rfl (op_lenA Tryd.underlying30 rfl (H5.arr hA) ?_)
      refine WL.op rfl rfl (op_lssN rfl rfl ?_)
      refine WL.nil ?_
      refine WQ.next ?_
      refine WC.cond rfl (fun (hb6 : (decide (k < a.length)) = true) => ?_) (fun (hb6 : (decide (k < a.length)) = false) => ?_)
      ·
        have hc6 := of_decide_eq_true hb6
        refine WC.skip ?_
        refine WQ.next ?_
        refine WC.seq ?_
        refine WC.block ?_
        refine WC.seq ?_
        refine WC.draw 12 Fa.M H5 (HW.op rfl (fun w1 H1 => op_fieldAddr rfl Fa.F32_1 ⟨rfl, Fr.refl _ _⟩) (HW.op rfl (fun w1 H1 => op_load rfl (H1.cell (i := 0) rfl rfl) Tryd.underlying30 rfl ⟨rfl, Fr.refl _ _⟩) (HW.op rfl (fun w1 H1 => op_move rfl ⟨rfl, Fr.refl _ _⟩) (HW.op rfl (fun w1 H1 => op_indexAddr Tryd.underlying30 Fa.I26 rfl (H1.arr hA) rfl (by omega) ⟨rfl, Fr.refl _ _⟩) (HW.op rfl (fun w1 H1 => op_loadSP (vs := syc (a.getD k Sy.zero)) rfl (Arr.atsF (H1.arr hA) (fun _ => rfl) (by decide) Sy.zero (by omega)) Tryd.underlying26 rfl Fa.I26 rfl ⟨rfl, Fr.refl _ _⟩) (HW.op rfl (fun w1 H1 => op_fieldAddr rfl Fa.F32_1 ⟨rfl, Fr.refl _ _⟩) (HW.op rfl (fun w1 H1 => op_load rfl (H1.cell (i := 1) rfl rfl) Tryd.underlying30 rfl ⟨rfl, Fr.refl _ _⟩) (HW.op rfl (fun w1 H1 => op_move rfl ⟨rfl, Fr.refl _ _⟩) (HW.op rfl (fun w1 H1 => op_indexAddr Tryd.underlying30 Fa.I26 rfl (H1.arr hB) rfl (by omega) ⟨rfl, Fr.refl _ _⟩) (HW.op rfl (fun w1 H1 => op_loadSP (vs := syc (b.getD k Sy.zero)) rfl (Arr.atsF (H1.arr hB) (fun _ => rfl) (by decide) Sy.zero (by omega)) Tryd.underlying26 rfl Fa.I26 rfl ⟨rfl, Fr.refl _ _⟩) (HW.op rfl (fun w1 H1 => op_callF Fa.C19 rfl ((samesy_ok (a.getD k Sy.zero) (b.getD k Sy.zero) _ (SyD_mk (x := (a.getD k Sy.zero)) ((SyD_rl (Deep.getD SyD (Deep.fr0 SyD.list hI H1.fr) Sy.zero (SyD_zero _) k))) ((SyD_nt (Deep.getD SyD (Deep.fr0 SyD.list hI H1.fr) Sy.zero (SyD_zero _) k)))) (SyD_mk (x := (b.getD k Sy.zero)) ((SyD_rl (Deep.getD SyD (Deep.fr0 SyD.list hJ H1.fr) Sy.zero (SyD_zero _) k))) ((SyD_nt (Deep.getD SyD (Deep.fr0 SyD.list hJ H1.fr) Sy.zero (SyD_zero _) k)))) (by omega) (by omega)).mono (fun e w2 hq => ⟨_, hq.1, rfl, hq.2⟩))) (HW.op rfl (fun w1 H1 => op_not rfl ⟨rfl, Fr.refl _ _⟩)  HW.nil)))))))))))) (by kernel_rfl) ?_
        intro β8 w8 H8
        refine WL.nil ?_
        refine WQ.next ?_
        refine WC.cond rfl (fun (hb9 : (!(sameY (a.getD k Sy.zero) (b.getD k Sy.zero))) = true) => ?_) (fun (hb9 : (!(sameY (a.getD k Sy.zero) (b.getD k Sy.zero))) = false) => ?_)
        ·
          have hn9 := (Bool.not_eq_true' _).mp hb9
          refine WC.seq ?_
          refine WC.region ?_
          refine WL.op rfl rfl (op_assign rfl ?_)
          refine WL.nil ?_
          refine WQ.next ?_
          refine WC.ret ?_
          refine WQ.inRet ?_
          refine WQ.thenRet ?_
          refine WQ.thenRet ?_
          refine WQ.inRet ?_
          refine WQ.thenRet ?_
          refine WQ.out (.tmp rfl .nil) ?_
          exact ⟨by rw [sameO_no (k := k) (by omega) hn9]; rfl, H8.fr⟩
        ·
          have hn9 := (Bool.not_eq_false' _).mp hb9
          refine WC.skip ?_
          refine WQ.inNormal ?_
          refine WQ.next ?_
          refine WC.region ?_
          refine WL.op rfl rfl (op_move rfl ?_)
          refine WL.op rfl rfl (op_addN (b := 1) rfl rfl (by omega) ?_)
          refine WL.op rfl rfl (op_assign rfl ?_)
          refine WL.nil ?_
          exact WQ.round (k + 1) ⟨⟨by omega, allPrev hok hn9⟩, H8⟩ ⟨rfl, rfl, rfl, rfl, trivial⟩ (by omega)
      ·
        have hc6 := of_decide_eq_false hb6
        refine WC.exit ?_
        refine WQ.thenExit ?_
        refine WQ.thenExit ?_
        refine WQ.inHere ?_
        refine WQ.next ?_
        refine WC.seq ?_
        refine WC.region ?_
        refine WL.op rfl rfl (op_assign rfl ?_)
        refine WL.nil ?_
        refine WQ.next ?_
        refine WC.ret ?_
        refine WQ.out (.tmp rfl .nil) ?_
        exact ⟨by rw [sameO_yes (Decidable.not_not.mp (of_decide_eq_false hb3)) (Decidable.not_not.mp (of_decide_eq_false hb4)) (fun j hj => hok j (by omega))]; rfl, H5.fr⟩
set_option maxRecDepth 100000 in
theorem main08_ok (off : UInt32) (w : World) :
    Calls Tryd.prog 63 #[(vU32 off)] w (fun e w' => ∃ v, e = .returned (.agg #[str [109, 97, 105, 110], vU8 1, vU8 1, vU32 8, str [40, 0, 0, 0, 0, 0, 0, 0], v, .slice none 0 0]) ∧ Own [] w w' [.row v 44 4 [Rl.mk off 1 [109, 97, 105, 110] 0].length (List.flatMap rlc [Rl.mk off 1 [109, 97, 105, 110] 0])]) := by
  refine enter (args := [(vU32 off)]) Tryd.func63 rfl rfl ?_
  have H0 : Own [] w w [] := Own.start w []
  refine WC.seq ?_
  refine WC.region ?_
  refine WL.op rfl rfl (op_alloc H0 Fa.I26 (fun b1 w1 H1 => ?_))
  refine WL.nil ?_
  refine WQ.next ?_
  refine WC.seq ?_
  refine WC.region ?_
  refine WL.op rfl rfl (op_move rfl ?_)
  refine WL.op rfl rfl (op_build (cs := [_, _, _, _]) Fa.I44 Fa.PL44 rfl rfl ?_)
  refine WL.op rfl rfl (op_buildSlice (cs := [_, _, _, _]) H1 Tryd.underlying23 Fa.I44 rfl rfl rfl rfl (by decide) (by decide) (fun b2 w2 H2 => ?_))
  refine WL.op rfl rfl (op_build (cs := [_, _, _, _, _, _, _]) Fa.I26 Fa.PL26 rfl rfl ?_)
  refine WL.op rfl rfl (op_storeBW (i := 0) H2 rfl rfl rfl rfl (one_cons rfl (one_cons rfl (one_cons rfl (one_cons rfl (one_cons rfl (one_cons (Arr.one (H2.arrR (i := 1) rfl)) (one_cons rfl one_nil))))))) Fa.I26 (fun w3 H3 => ?_))
  refine WL.nil ?_
  refine WQ.next ?_
  refine WC.ret ?_
  refine WQ.out (.cell rfl (run_loadVarS (vs := [_, _, _, _, _, _, _]) (H3.cells (i := 0) rfl rfl) Tryd.underlying26 rfl Fa.I26 rfl) .nil) ?_
  exact ⟨_, rfl, H3.sel [1] rfl rfl⟩
end Go.Proofs.YtnngbnenekjffaaDoor
/-! from DOb5 -/
namespace Go.Proofs.YtnngbnenekjffaaDoor
open Go.Owl Go.Spec
set_option maxHeartbeats 1000000 in
set_option maxRecDepth 100000 in
theorem alive08_ok  (w : World) :
    Calls Tryd.prog 30 #[] w (fun e w' => e = .returned (.bool true) ∧ Fr [] w w') := by
  refine enter (args := []) Tryd.func30 rfl rfl ?_
  have H0 : Own [] w w [] := Own.start w []
  refine WC.seq ?_
  refine WC.region ?_
  refine WL.op rfl rfl (op_assign rfl ?_)
  refine WL.nil ?_
  refine WQ.next ?_
  refine WC.seq ?_
  refine WC.region ?_
  refine WL.op rfl rfl (op_callF Fa.C63 rfl ((main08_ok 4 _).mono (fun e w1 hq => ?_)))
  obtain ⟨v1, rfl, hq1⟩ := hq
  refine ⟨_, rfl, ?_⟩
  have H1 : Own [] w w1 [.row v1 44 4 [Rl.mk 4 1 [109, 97, 105, 110] 0].length (List.flatMap rlc [Rl.mk 4 1 [109, 97, 105, 110] 0])] := H0.splice [] [] [.row v1 44 4 [Rl.mk 4 1 [109, 97, 105, 110] 0].length (List.flatMap rlc [Rl.mk 4 1 [109, 97, 105, 110] 0])] rfl rfl hq1 (Fits.solid True.intro Fits.nil)
  refine WL.op rfl rfl (op_alloc H1 Fa.I26 (fun b2 w2 H2 => ?_))
  refine WL.op rfl rfl (op_storeBW (i := 1) H2 rfl rfl rfl rfl (one_cons rfl (one_cons rfl (one_cons rfl (one_cons rfl (one_cons rfl (one_cons (Arr.one (H2.arrR (i := 0) rfl)) (one_cons rfl one_nil))))))) Fa.I26 (fun w3 H3 => ?_))
  refine WL.nil ?_
  refine WQ.next ?_
  refine WC.seq ?_
  refine WC.region ?_
  refine WL.op rfl rfl (op_fieldAddr rfl Fa.F26_5 ?_)
  refine WL.op rfl rfl (op_load rfl (H3.cell (i := 1) rfl rfl) Tryd.underlying23 rfl ?_)
  refine WL.op rfl rfl (op_build (cs := [_, _, _, _]) Fa.I44 Fa.PL44 rfl rfl ?_)
  refine WL.op rfl rfl (op_buildSlice (cs := [_, _, _, _]) H3 Tryd.underlying23 Fa.I44 rfl rfl rfl rfl (by decide) (by decide) (fun b4 w4 H4 => ?_))
  refine WL.op rfl rfl (op_appendF (f := rlc) (l := [Rl.mk 4 1 [109, 97, 105, 110] 0]) (l' := [(Rl.mk 6 2 [109, 97, 105, 110] 0)]) (i := 0) H4 Tryd.underlying23 Fa.I44 rfl rfl rfl rfl (Src.ofArr Tryd.underlying23 (H4.arrR (i := 2) rfl)) (one_flat (fun _ => by simp [rlc, Value.oneCell'])) (of_decide_eq_true (by kernel_rfl)) (of_decide_eq_true (by kernel_rfl)) (fun v5 w5 H5 => ?_))
  refine WL.op rfl rfl (op_fieldAddr rfl Fa.F26_5 ?_)
  refine WL.op rfl rfl (op_storeB (i := 1) H5 rfl rfl rfl rfl (Arr.one (H5.arrR (i := 0) rfl)) Fa.I23 (fun w6 H6 => ?_))
  refine WL.nil ?_
  refine WQ.next ?_
  refine WC.seq ?_
  refine WC.region ?_
  refine WL.op rfl rfl (op_callF Fa.C63 rfl ((main08_ok 4 _).mono (fun e w7 hq => ?_)))
  obtain ⟨v7, rfl, hq7⟩ := hq
  refine ⟨_, rfl, ?_⟩
  have H7 : Own [] w w7 [.row v5 44 4 ([Rl.mk 4 1 [109, 97, 105, 110] 0].length + 1) (List.flatMap rlc ([Rl.mk 4 1 [109, 97, 105, 110] 0] ++ [(Rl.mk 6 2 [109, 97, 105, 110] 0)])), .blk b2 [(str [109, 97, 105, 110]), (vU8 1), (vU8 1), (vU32 8), (str [40, 0, 0, 0, 0, 0, 0, 0]), v5, (.slice none 0 0)] 26, .row (.slice (some ⟨b4, 0, none⟩) 1 1) 44 4 1 (List.flatMap rlc [(Rl.mk 6 2 [109, 97, 105, 110] 0)]), .row v7 44 4 [Rl.mk 4 1 [109, 97, 105, 110] 0].length (List.flatMap rlc [Rl.mk 4 1 [109, 97, 105, 110] 0])] := H6.splice [] [] [.row v7 44 4 [Rl.mk 4 1 [109, 97, 105, 110] 0].length (List.flatMap rlc [Rl.mk 4 1 [109, 97, 105, 110] 0])] rfl rfl hq7 (Fits.solid True.intro Fits.nil)
  refine WL.op rfl rfl (op_buildSlice (cs := [_, _, _, _, _, _, _]) H7 Tryd.underlying30 Fa.I26 rfl rfl rfl rfl (by decide) (by decide) (fun b8 w8 H8 => ?_))
  refine WL.op rfl rfl (op_build (cs := [_, _]) Fa.I32 Fa.PL32 rfl rfl ?_)
  refine WL.op rfl rfl (op_alloc H8 Fa.I32 (fun b9 w9 H9 => ?_))
  refine WL.op rfl rfl (op_storeBW (i := 5) H9 rfl rfl rfl rfl (one_cons rfl (one_cons (Arr.one (H9.arrR (i := 4) rfl)) one_nil)) Fa.I32 (fun w10 H10 => ?_))
  refine WL.nil ?_
  refine WQ.next ?_
  refine WC.seq ?_
  refine WC.region ?_
  refine WL.op rfl rfl (op_loadS (vs := [_, _]) rfl (H10.cells (i := 5) rfl rfl) Tryd.underlying32 rfl Fa.I32 rfl ?_)
  refine WL.op rfl rfl (op_callF Fa.C35 rfl ((ofind_ok ([111]) _ ([(Sy.mk [109, 97, 105, 110] 1 1 8 [40, 0, 0, 0, 0, 0, 0, 0] v7 [Rl.mk 4 1 [109, 97, 105, 110] 0] (.slice none 0 0) [])]) ([109, 97, 105, 110]) _ (H10.arrR (i := 4) rfl) (SyD.list_one (SyD_mk (x := (Sy.mk [109, 97, 105, 110] 1 1 8 [40, 0, 0, 0, 0, 0, 0, 0] v7 [Rl.mk 4 1 [109, 97, 105, 110] 0] (.slice none 0 0) [])) (H10.arrR (i := 3) rfl) (Arr.nil _ _))) (fitH_main (by kernel_rfl) (by show 1 < 2 ^ 40; decide)) (by show 1 < 2 ^ 46; decide) (by show 1 < 2 ^ 47; decide)).mono (fun e w11 hq => ?_)))
  obtain ⟨rfl, hf11⟩ := hq
  refine ⟨_, rfl, ?_⟩
  have H11 := H10.fr' hf11
  refine WL.op rfl rfl (op_move rfl ?_)
  refine WL.op rfl rfl (op_extract rfl rfl ?_)
  refine WL.op rfl rfl (op_extract rfl rfl ?_)
  refine WL.op rfl rfl (op_assign rfl ?_)
  refine WL.op rfl rfl (op_assign rfl ?_)
  refine WL.nil ?_
  refine WQ.next ?_
  refine WC.seq ?_
  refine WC.region ?_
  refine WL.op rfl rfl (op_loadS (vs := [_, _]) rfl (H11.cells (i := 5) rfl rfl) Tryd.underlying32 rfl Fa.I32 rfl ?_)
  refine WL.op rfl rfl (op_callF Fa.C35 rfl ((ofind_ok ([111]) _ ([(Sy.mk [109, 97, 105, 110] 1 1 8 [40, 0, 0, 0, 0, 0, 0, 0] v7 [Rl.mk 4 1 [109, 97, 105, 110] 0] (.slice none 0 0) [])]) ([120]) _ (H11.arrR (i := 4) rfl) (SyD.list_one (SyD_mk (x := (Sy.mk [109, 97, 105, 110] 1 1 8 [40, 0, 0, 0, 0, 0, 0, 0] v7 [Rl.mk 4 1 [109, 97, 105, 110] 0] (.slice none 0 0) [])) (H11.arrR (i := 3) rfl) (Arr.nil _ _))) (fitH_main (by kernel_rfl) (by show 1 < 2 ^ 40; decide)) (by show 1 < 2 ^ 46; decide) (by show 1 < 2 ^ 47; decide)).mono (fun e w12 hq => ?_)))
  obtain ⟨rfl, hf12⟩ := hq
  refine ⟨_, rfl, ?_⟩
  have H12 := H11.fr' hf12
  refine WL.op rfl rfl (op_move rfl ?_)
  refine WL.op rfl rfl (op_extract rfl rfl ?_)
  refine WL.op rfl rfl (op_extract rfl rfl ?_)
  refine WL.op rfl rfl (op_assign rfl ?_)
  refine WL.op rfl rfl (op_assign rfl ?_)
  refine WL.nil ?_
  refine WQ.next ?_
  refine WC.seq ?_
  refine WC.region ?_
  refine WL.op rfl rfl (op_callF Fa.C63 rfl ((main08_ok 4 _).mono (fun e w13 hq => ?_)))
  obtain ⟨v13, rfl, hq13⟩ := hq
  refine ⟨_, rfl, ?_⟩
  have H13 : Own [] w w13 [.row v5 44 4 ([Rl.mk 4 1 [109, 97, 105, 110] 0].length + 1) (List.flatMap rlc ([Rl.mk 4 1 [109, 97, 105, 110] 0] ++ [(Rl.mk 6 2 [109, 97, 105, 110] 0)])), .blk b2 [(str [109, 97, 105, 110]), (vU8 1), (vU8 1), (vU32 8), (str [40, 0, 0, 0, 0, 0, 0, 0]), v5, (.slice none 0 0)] 26, .row (.slice (some ⟨b4, 0, none⟩) 1 1) 44 4 1 (List.flatMap rlc [(Rl.mk 6 2 [109, 97, 105, 110] 0)]), .row v7 44 4 [Rl.mk 4 1 [109, 97, 105, 110] 0].length (List.flatMap rlc [Rl.mk 4 1 [109, 97, 105, 110] 0]), .row (.slice (some ⟨b8, 0, none⟩) 1 1) 26 7 1 (List.flatMap syc [(Sy.mk [109, 97, 105, 110] 1 1 8 [40, 0, 0, 0, 0, 0, 0, 0] v7 [Rl.mk 4 1 [109, 97, 105, 110] 0] (.slice none 0 0) [])]), .blk b9 [(str [111]), (.slice (some ⟨b8, 0, none⟩) 1 1)] 32, .row v13 44 4 [Rl.mk 4 1 [109, 97, 105, 110] 0].length (List.flatMap rlc [Rl.mk 4 1 [109, 97, 105, 110] 0])] := H12.splice [] [] [.row v13 44 4 [Rl.mk 4 1 [109, 97, 105, 110] 0].length (List.flatMap rlc [Rl.mk 4 1 [109, 97, 105, 110] 0])] rfl rfl hq13 (Fits.solid True.intro Fits.nil)
  refine WL.op rfl rfl (op_callF Fa.C27 rfl ((osym_ok (Sy.mk [109, 97, 105, 110] 1 1 8 [40, 0, 0, 0, 0, 0, 0, 0] v13 [Rl.mk 4 1 [109, 97, 105, 110] 0] (.slice none 0 0) []) _ (SyD_mk (x := (Sy.mk [109, 97, 105, 110] 1 1 8 [40, 0, 0, 0, 0, 0, 0, 0] v13 [Rl.mk 4 1 [109, 97, 105, 110] 0] (.slice none 0 0) [])) (H13.arrR (i := 6) rfl) (Arr.nil _ _)) (by show 4 < 2 ^ 47; decide) (by show 8 < 2 ^ 32; decide) (small_rl (by kernel_rfl)) (of_decide_eq_true (by kernel_rfl)) (by show 0 < 2 ^ 40; decide)).mono (fun e w14 hq => ?_)))
  obtain ⟨rfl, hf14⟩ := hq
  refine ⟨_, rfl, ?_⟩
  have H14 := H13.fr' hf14
  refine WL.op rfl rfl (op_eqlN (b := 0) rfl rfl ?_)
  refine WL.op rfl rfl (op_move rfl ?_)
  refine WL.yes rfl rfl rfl (by kernel_rfl) rfl (op_callF Fa.C63 rfl ((main08_ok 5 _).mono (fun e w15 hq => ?_)))
  obtain ⟨v15, rfl, hq15⟩ := hq
  refine ⟨_, rfl, ?_⟩
  have H15 : Own [] w w15 [.row v5 44 4 ([Rl.mk 4 1 [109, 97, 105, 110] 0].length + 1) (List.flatMap rlc ([Rl.mk 4 1 [109, 97, 105, 110] 0] ++ [(Rl.mk 6 2 [109, 97, 105, 110] 0)])), .blk b2 [(str [109, 97, 105, 110]), (vU8 1), (vU8 1), (vU32 8), (str [40, 0, 0, 0, 0, 0, 0, 0]), v5, (.slice none 0 0)] 26, .row (.slice (some ⟨b4, 0, none⟩) 1 1) 44 4 1 (List.flatMap rlc [(Rl.mk 6 2 [109, 97, 105, 110] 0)]), .row v7 44 4 [Rl.mk 4 1 [109, 97, 105, 110] 0].length (List.flatMap rlc [Rl.mk 4 1 [109, 97, 105, 110] 0]), .row (.slice (some ⟨b8, 0, none⟩) 1 1) 26 7 1 (List.flatMap syc [(Sy.mk [109, 97, 105, 110] 1 1 8 [40, 0, 0, 0, 0, 0, 0, 0] v7 [Rl.mk 4 1 [109, 97, 105, 110] 0] (.slice none 0 0) [])]), .blk b9 [(str [111]), (.slice (some ⟨b8, 0, none⟩) 1 1)] 32, .row v13 44 4 [Rl.mk 4 1 [109, 97, 105, 110] 0].length (List.flatMap rlc [Rl.mk 4 1 [109, 97, 105, 110] 0]), .row v15 44 4 [Rl.mk 5 1 [109, 97, 105, 110] 0].length (List.flatMap rlc [Rl.mk 5 1 [109, 97, 105, 110] 0])] := H14.splice [] [] [.row v15 44 4 [Rl.mk 5 1 [109, 97, 105, 110] 0].length (List.flatMap rlc [Rl.mk 5 1 [109, 97, 105, 110] 0])] rfl rfl hq15 (Fits.solid True.intro Fits.nil)
  refine WL.yes rfl rfl rfl (by kernel_rfl) rfl (op_callF Fa.C27 rfl ((osym_ok (Sy.mk [109, 97, 105, 110] 1 1 8 [40, 0, 0, 0, 0, 0, 0, 0] v15 [Rl.mk 5 1 [109, 97, 105, 110] 0] (.slice none 0 0) []) _ (SyD_mk (x := (Sy.mk [109, 97, 105, 110] 1 1 8 [40, 0, 0, 0, 0, 0, 0, 0] v15 [Rl.mk 5 1 [109, 97, 105, 110] 0] (.slice none 0 0) [])) (H15.arrR (i := 7) rfl) (Arr.nil _ _)) (by show 4 < 2 ^ 47; decide) (by show 8 < 2 ^ 32; decide) (small_rl (by kernel_rfl)) (of_decide_eq_true (by kernel_rfl)) (by show 0 < 2 ^ 40; decide)).mono (fun e w16 hq => ?_)))
  obtain ⟨rfl, hf16⟩ := hq
  refine ⟨_, rfl, ?_⟩
  have H16 := H15.fr' hf16
  refine WL.yes rfl rfl rfl (by kernel_rfl) rfl (op_eqlN (b := 2) rfl rfl ?_)
  refine WL.op rfl rfl (op_pickT rfl (by kernel_rfl) rfl ?_)
  refine WL.op rfl rfl (op_move rfl ?_)
  refine WL.yes rfl rfl rfl (by kernel_rfl) rfl (op_loadS (vs := [_, _, _, _, _, _, _]) rfl (H16.cells (i := 1) rfl rfl) Tryd.underlying26 rfl Fa.I26 rfl ?_)
  refine WL.yes rfl rfl rfl (by kernel_rfl) rfl (op_callF Fa.C27 rfl ((osym_ok (Sy.mk [109, 97, 105, 110] 1 1 8 [40, 0, 0, 0, 0, 0, 0, 0] v5 ([Rl.mk 4 1 [109, 97, 105, 110] 0] ++ [(Rl.mk 6 2 [109, 97, 105, 110] 0)]) (.slice none 0 0) []) _ (SyD_mk (x := (Sy.mk [109, 97, 105, 110] 1 1 8 [40, 0, 0, 0, 0, 0, 0, 0] v5 ([Rl.mk 4 1 [109, 97, 105, 110] 0] ++ [(Rl.mk 6 2 [109, 97, 105, 110] 0)]) (.slice none 0 0) [])) (Arr.lenF ((H16.arrR (i := 0) rfl)) (fun _ => rfl) (by decide)) (Arr.nil _ _)) (by show 4 < 2 ^ 47; decide) (by show 8 < 2 ^ 32; decide) (small_rl (by kernel_rfl)) (of_decide_eq_true (by kernel_rfl)) (by show 0 < 2 ^ 40; decide)).mono (fun e w17 hq => ?_)))
  obtain ⟨rfl, hf17⟩ := hq
  refine ⟨_, rfl, ?_⟩
  have H17 := H16.fr' hf17
  refine WL.yes rfl rfl rfl (by kernel_rfl) rfl (op_eqlN (b := 2) rfl rfl ?_)
  refine WL.op rfl rfl (op_pickT rfl (by kernel_rfl) rfl ?_)
  refine WL.op rfl rfl (op_move rfl ?_)
  refine WL.yes rfl rfl rfl (by kernel_rfl) rfl (op_loadS (vs := [_, _]) rfl (H17.cells (i := 5) rfl rfl) Tryd.underlying32 rfl Fa.I32 rfl ?_)
  refine WL.yes rfl rfl rfl (by kernel_rfl) rfl (op_callF Fa.C31 rfl ((ocheck_ok ([111]) _ ([(Sy.mk [109, 97, 105, 110] 1 1 8 [40, 0, 0, 0, 0, 0, 0, 0] v7 [Rl.mk 4 1 [109, 97, 105, 110] 0] (.slice none 0 0) [])]) _ (H17.arrR (i := 4) rfl) (SyD.list_one (SyD_mk (x := (Sy.mk [109, 97, 105, 110] 1 1 8 [40, 0, 0, 0, 0, 0, 0, 0] v7 [Rl.mk 4 1 [109, 97, 105, 110] 0] (.slice none 0 0) [])) (H17.arrR (i := 3) rfl) (Arr.nil _ _))) (fitH_main (by kernel_rfl) (by show 1 < 2 ^ 40; decide)) (by show 1 < 2 ^ 46; decide) (by show 1 < 2 ^ 47; decide)).mono (fun e w18 hq => ?_)))
  obtain ⟨rfl, hf18⟩ := hq
  refine ⟨_, rfl, ?_⟩
  have H18 := H17.fr' hf18
  refine WL.yes rfl rfl rfl (by kernel_rfl) rfl (op_eqlN (b := 0) rfl rfl ?_)
  refine WL.op rfl rfl (op_pickT rfl (by kernel_rfl) rfl ?_)
  refine WL.op rfl rfl (op_move rfl ?_)
  refine WL.yes rfl rfl rfl (by kernel_rfl) rfl (op_move rfl ?_)
  refine WL.yes rfl rfl rfl (by kernel_rfl) rfl (op_eqlN (b := 0) rfl rfl ?_)
  refine WL.op rfl rfl (op_pickT rfl (by kernel_rfl) rfl ?_)
  refine WL.op rfl rfl (op_move rfl ?_)
  refine WL.yes rfl rfl rfl (by kernel_rfl) rfl (op_move rfl ?_)
  refine WL.op rfl rfl (op_pickT rfl (by kernel_rfl) rfl ?_)
  refine WL.op rfl rfl (op_move rfl ?_)
  refine WL.yes rfl rfl rfl (by kernel_rfl) rfl (op_move rfl ?_)
  refine WL.yes rfl rfl rfl (by kernel_rfl) rfl (op_not rfl ?_)
  refine WL.op rfl rfl (op_pickT rfl (by kernel_rfl) rfl ?_)
  refine WL.op rfl rfl (op_move rfl ?_)
  refine WL.yes rfl rfl rfl (by kernel_rfl) rfl (op_loadS (vs := [_, _]) rfl (H18.cells (i := 5) rfl rfl) Tryd.underlying32 rfl Fa.I32 rfl ?_)
  refine WL.yes rfl rfl rfl (by kernel_rfl) rfl (op_loadS (vs := [_, _]) rfl (H18.cells (i := 5) rfl rfl) Tryd.underlying32 rfl Fa.I32 rfl ?_)
  refine WL.yes rfl rfl rfl (by kernel_rfl) rfl (op_buildSlice (cs := [_, _, _, _]) H18 Tryd.underlying78 Fa.I32 rfl rfl rfl rfl (by decide) (by decide) (fun b19 w19 H19 => ?_))
  refine WL.yes rfl rfl rfl (by kernel_rfl) rfl (op_callF Fa.C39 rfl ((onames_ok _ [(Ob.mk ([111]) (.slice (some ⟨b8, 0, none⟩) 1 1) ([(Sy.mk [109, 97, 105, 110] 1 1 8 [40, 0, 0, 0, 0, 0, 0, 0] v7 [Rl.mk 4 1 [109, 97, 105, 110] 0] (.slice none 0 0) [])])), (Ob.mk ([111]) (.slice (some ⟨b8, 0, none⟩) 1 1) ([(Sy.mk [109, 97, 105, 110] 1 1 8 [40, 0, 0, 0, 0, 0, 0, 0] v7 [Rl.mk 4 1 [109, 97, 105, 110] 0] (.slice none 0 0) [])]))] _ (H19.arrR (i := 8) rfl) (ObL_cons (ObD_mk (o := (Ob.mk ([111]) (.slice (some ⟨b8, 0, none⟩) 1 1) ([(Sy.mk [109, 97, 105, 110] 1 1 8 [40, 0, 0, 0, 0, 0, 0, 0] v7 [Rl.mk 4 1 [109, 97, 105, 110] 0] (.slice none 0 0) [])]))) (H19.arrR (i := 4) rfl) (SyD.list_one (SyD_mk (x := (Sy.mk [109, 97, 105, 110] 1 1 8 [40, 0, 0, 0, 0, 0, 0, 0] v7 [Rl.mk 4 1 [109, 97, 105, 110] 0] (.slice none 0 0) [])) (H19.arrR (i := 3) rfl) (Arr.nil _ _)))) (ObL_cons (ObD_mk (o := (Ob.mk ([111]) (.slice (some ⟨b8, 0, none⟩) 1 1) ([(Sy.mk [109, 97, 105, 110] 1 1 8 [40, 0, 0, 0, 0, 0, 0, 0] v7 [Rl.mk 4 1 [109, 97, 105, 110] 0] (.slice none 0 0) [])]))) (H19.arrR (i := 4) rfl) (SyD.list_one (SyD_mk (x := (Sy.mk [109, 97, 105, 110] 1 1 8 [40, 0, 0, 0, 0, 0, 0, 0] v7 [Rl.mk 4 1 [109, 97, 105, 110] 0] (.slice none 0 0) [])) (H19.arrR (i := 3) rfl) (Arr.nil _ _)))) (Deep.list_nil ObD))) (fitOb_two (fitOb_main (by kernel_rfl) (by show 1 < 2 ^ 40; decide))) (by show 2 ≤ 20; decide)).mono (fun e w20 hq => ?_)))
  obtain ⟨v20, rfl, hq20⟩ := hq
  refine ⟨_, rfl, ?_⟩
  have H20 : Own [] w w20 [.row v5 44 4 ([Rl.mk 4 1 [109, 97, 105, 110] 0].length + 1) (List.flatMap rlc ([Rl.mk 4 1 [109, 97, 105, 110] 0] ++ [(Rl.mk 6 2 [109, 97, 105, 110] 0)])), .blk b2 [(str [109, 97, 105, 110]), (vU8 1), (vU8 1), (vU32 8), (str [40, 0, 0, 0, 0, 0, 0, 0]), v5, (.slice none 0 0)] 26, .row (.slice (some ⟨b4, 0, none⟩) 1 1) 44 4 1 (List.flatMap rlc [(Rl.mk 6 2 [109, 97, 105, 110] 0)]), .row v7 44 4 [Rl.mk 4 1 [109, 97, 105, 110] 0].length (List.flatMap rlc [Rl.mk 4 1 [109, 97, 105, 110] 0]), .row (.slice (some ⟨b8, 0, none⟩) 1 1) 26 7 1 (List.flatMap syc [(Sy.mk [109, 97, 105, 110] 1 1 8 [40, 0, 0, 0, 0, 0, 0, 0] v7 [Rl.mk 4 1 [109, 97, 105, 110] 0] (.slice none 0 0) [])]), .blk b9 [(str [111]), (.slice (some ⟨b8, 0, none⟩) 1 1)] 32, .row v13 44 4 [Rl.mk 4 1 [109, 97, 105, 110] 0].length (List.flatMap rlc [Rl.mk 4 1 [109, 97, 105, 110] 0]), .row v15 44 4 [Rl.mk 5 1 [109, 97, 105, 110] 0].length (List.flatMap rlc [Rl.mk 5 1 [109, 97, 105, 110] 0]), .row (.slice (some ⟨b19, 0, none⟩) 2 2) 32 2 2 (List.flatMap obc [(Ob.mk [111] (.slice (some ⟨b8, 0, none⟩) 1 1) [(Sy.mk [109, 97, 105, 110] 1 1 8 [40, 0, 0, 0, 0, 0, 0, 0] v7 [Rl.mk 4 1 [109, 97, 105, 110] 0] (.slice none 0 0) [])]), (Ob.mk [111] (.slice (some ⟨b8, 0, none⟩) 1 1) [(Sy.mk [109, 97, 105, 110] 1 1 8 [40, 0, 0, 0, 0, 0, 0, 0] v7 [Rl.mk 4 1 [109, 97, 105, 110] 0] (.slice none 0 0) [])])]), .row v20 9 1 (resN [(Ob.mk ([111]) (.slice (some ⟨b8, 0, none⟩) 1 1) ([(Sy.mk [109, 97, 105, 110] 1 1 8 [40, 0, 0, 0, 0, 0, 0, 0] v7 [Rl.mk 4 1 [109, 97, 105, 110] 0] (.slice none 0 0) [])])), (Ob.mk ([111]) (.slice (some ⟨b8, 0, none⟩) 1 1) ([(Sy.mk [109, 97, 105, 110] 1 1 8 [40, 0, 0, 0, 0, 0, 0, 0] v7 [Rl.mk 4 1 [109, 97, 105, 110] 0] (.slice none 0 0) [])]))]).length (List.map str (resN [(Ob.mk ([111]) (.slice (some ⟨b8, 0, none⟩) 1 1) ([(Sy.mk [109, 97, 105, 110] 1 1 8 [40, 0, 0, 0, 0, 0, 0, 0] v7 [Rl.mk 4 1 [109, 97, 105, 110] 0] (.slice none 0 0) [])])), (Ob.mk ([111]) (.slice (some ⟨b8, 0, none⟩) 1 1) ([(Sy.mk [109, 97, 105, 110] 1 1 8 [40, 0, 0, 0, 0, 0, 0, 0] v7 [Rl.mk 4 1 [109, 97, 105, 110] 0] (.slice none 0 0) [])]))]))] := H19.splice [] [] [.row v20 9 1 (resN [(Ob.mk ([111]) (.slice (some ⟨b8, 0, none⟩) 1 1) ([(Sy.mk [109, 97, 105, 110] 1 1 8 [40, 0, 0, 0, 0, 0, 0, 0] v7 [Rl.mk 4 1 [109, 97, 105, 110] 0] (.slice none 0 0) [])])), (Ob.mk ([111]) (.slice (some ⟨b8, 0, none⟩) 1 1) ([(Sy.mk [109, 97, 105, 110] 1 1 8 [40, 0, 0, 0, 0, 0, 0, 0] v7 [Rl.mk 4 1 [109, 97, 105, 110] 0] (.slice none 0 0) [])]))]).length (List.map str (resN [(Ob.mk ([111]) (.slice (some ⟨b8, 0, none⟩) 1 1) ([(Sy.mk [109, 97, 105, 110] 1 1 8 [40, 0, 0, 0, 0, 0, 0, 0] v7 [Rl.mk 4 1 [109, 97, 105, 110] 0] (.slice none 0 0) [])])), (Ob.mk ([111]) (.slice (some ⟨b8, 0, none⟩) 1 1) ([(Sy.mk [109, 97, 105, 110] 1 1 8 [40, 0, 0, 0, 0, 0, 0, 0] v7 [Rl.mk 4 1 [109, 97, 105, 110] 0] (.slice none 0 0) [])]))]))] rfl rfl hq20 (Fits.solid True.intro Fits.nil)
  refine WL.yes rfl rfl rfl (by kernel_rfl) rfl (op_buildSlice (cs := [_]) H20 Tryd.underlying80 Fa.I9 rfl rfl rfl rfl (by decide) (by decide) (fun b21 w21 H21 => ?_))
  refine WL.yes rfl rfl rfl (by kernel_rfl) rfl (op_callF Fa.C38 rfl ((same07_ok _ _ (resN [(Ob.mk ([111]) (.slice (some ⟨b8, 0, none⟩) 1 1) ([(Sy.mk [109, 97, 105, 110] 1 1 8 [40, 0, 0, 0, 0, 0, 0, 0] v7 [Rl.mk 4 1 [109, 97, 105, 110] 0] (.slice none 0 0) [])])), (Ob.mk ([111]) (.slice (some ⟨b8, 0, none⟩) 1 1) ([(Sy.mk [109, 97, 105, 110] 1 1 8 [40, 0, 0, 0, 0, 0, 0, 0] v7 [Rl.mk 4 1 [109, 97, 105, 110] 0] (.slice none 0 0) [])]))]) ([[109, 97, 105, 110]]) _ (H21.arrR (i := 9) rfl) (H21.arrR (i := 10) rfl) (of_decide_eq_true (by kernel_rfl))).mono (fun e w22 hq => ?_)))
  obtain ⟨rfl, hf22⟩ := hq
  refine ⟨_, rfl, ?_⟩
  have H22 := H21.fr' hf22
  refine WL.op rfl rfl (op_pickT rfl (by kernel_rfl) rfl ?_)
  refine WL.op rfl rfl (op_move rfl ?_)
  refine WL.yes rfl rfl rfl (by kernel_rfl) rfl (op_build (cs := [_, _, _]) Fa.I68 Fa.PL68 rfl rfl ?_)
  refine WL.yes rfl rfl rfl (by kernel_rfl) rfl (op_callF Fa.C32 rfl ((onote_ok (Nt.mk 3 0 0) _).mono (fun e w23 hq => ?_)))
  obtain ⟨rfl, hf23⟩ := hq
  refine ⟨_, rfl, ?_⟩
  have H23 := H22.fr' hf23
  refine WL.yes rfl rfl rfl (by kernel_rfl) rfl (op_eqlN (b := 2) rfl rfl ?_)
  refine WL.op rfl rfl (op_pickT rfl (by kernel_rfl) rfl ?_)
  refine WL.op rfl rfl (op_assign rfl ?_)
  refine WL.nil ?_
  refine WQ.next ?_
  refine WC.ret ?_
  refine WQ.out (.tmp rfl .nil) ?_
  exact ⟨rfl, H23.fr⟩
end Go.Proofs.YtnngbnenekjffaaDoor
