/- General lemmas and walks: NSort4, WSeq3, WCap17, WCap18, WCap19, WCap20, WCap21. No condition but what each theorem names. -/
import Derived.Test.YtbjhccnffacbcaaQ87ceff81
import Derived.Test.YtbjhccnffacbcaaQc4b92081
import Derived.Test.YtbjhccnffacbcaaQ88a55cf8
import Derived.Test.YtbjhccnffacbcaaQ02f141bf
import Derived.Test.YtbjhccnffacbcaaQ726357e9
/-! from NSort4 -/
namespace Go.Proofs.Ytbjhccnffacbcaa
open Go.Owl Go.Spec
set_option maxHeartbeats 4000000 in
set_option maxRecDepth 100000 in
theorem pins_ok (v : Value) (n : Nat) (l : List Nat) (a b : Nat) (T : List Nat) (w : World) (H : Owl.Own T w w [.row v 3 1 n (List.map vN l)]) (hn : l.length = n) (hN : n < 2 ^ 61) (hab : a < b) (hb : b ≤ n) (hpre : PreS ltN 0 a b l) :
  Calls Try.prog 148 #[v, (vN a), (vN b)] w (fun e w' => ∃ (l' : List Nat) (r : Bool), e = .returned (.bool r) ∧ (Sw 0 a b l l' ∧ (r = true → SortS ltN 0 a b l')) ∧ Owl.Own T w w' [.row v 3 1 n (List.map vN l')]) := by
 refine enter (args := [v, (vN a), (vN b)]) Try.func148 rfl rfl ?_
 refine ws ?_
 refine wo (op_assign rfl ?_)
 refine wn ?_
 refine ws ?_
 refine wo (op_move rfl ?_)
 refine wo (op_addN (b := 1) rfl rfl (by omega) ?_)
 refine wo (op_assign rfl ?_)
 refine wn ?_
 refine WC.seq ?_
 refine ws ?_
 refine wo (op_assign rfl ?_)
 refine wn ?_
 refine WC.block ?_
 refine WC.loop (α := Nat × Nat × List Nat) (fun (i, c, l1) => [(0, v), (1, (vN a)), (2, (vN b)), (7, (vN i)), (8, (vN c))]) (fun (i, c, l1) w' => (a + 1 ≤ i ∧ i ≤ b ∧ c ≤ 5 ∧ Sw 0 a b l l1 ∧ SortS ltN 0 a i l1 ∧ PreS ltN 0 a b l1) ∧ Owl.Own T w w' [.row v 3 1 n (List.map vN l1)]) (fun (i, c, l1) => 5 - c) (a + 1, 0, l) ⟨⟨Nat.le_refl _, by omega, by omega, .refl _, SortS.nil (by omega), hpre⟩, H⟩ ⟨rfl, rfl, rfl, rfl, rfl, trivial⟩ ?_
 rintro ⟨i, c, l1⟩ w1 ⟨⟨hi1, hi2, hc1, hs1, ho1, hp1⟩, H1⟩
 show WC _ _ _ _ _ [(0, v), (1, (vN a)), (2, (vN b)), (7, (vN i)), (8, (vN c))] _
 have hL1 := hs1.len
 refine WC.seq ?_
 refine ws ?_
 refine wo (op_move rfl ?_)
 refine wo (op_lssN (b := 5) rfl rfl ?_)
 refine wn ?_
 refine WC.cond rfl (fun (hb2 : (decide (c < 5)) = true) => ?_) (fun (hb2 : (decide (c < 5)) = false) => ?_)
 ·
  have hc2 := of_decide_eq_true hb2
  refine WC.skip ?_
  refine WQ.next ?_
  refine WC.seq ?_
  refine WC.block ?_
  refine WC.cut (α := Nat) (fun i3 => [(0, v), (1, (vN a)), (2, (vN b)), (7, (vN i3)), (8, (vN c))]) (fun i3 w' => (a + 1 ≤ i3 ∧ i3 ≤ b ∧ SortS ltN 0 a i3 l1) ∧ Owl.Own T w w' [.row v 3 1 n (List.map vN l1)]) ?_ ?_
  ·
   refine WC.block ?_
   refine WC.loop (α := Nat) (fun i2 => [(0, v), (1, (vN a)), (2, (vN b)), (7, (vN i2)), (8, (vN c))]) (fun i2 w' => (a + 1 ≤ i2 ∧ i2 ≤ b ∧ SortS ltN 0 a i2 l1) ∧ Owl.Own T w w' [.row v 3 1 n (List.map vN l1)]) (fun i2 => b - i2) i ⟨⟨hi1, hi2, ho1⟩, H1⟩ ⟨rfl, rfl, rfl, rfl, rfl, trivial⟩ ?_
   rintro i2 w3 ⟨⟨hi3, hi4, ho2⟩, H3⟩
   show WC _ _ _ _ _ [(0, v), (1, (vN a)), (2, (vN b)), (7, (vN i2)), (8, (vN c))] _
   refine WC.seq ?_
   refine WC.seq ?_
   refine bsplit (fun (hb4 : (decide (i2 < b)) = true) => ?_) (fun (hb4 : (decide (i2 < b)) = false) => ?_)
   ·
    have hc4 := of_decide_eq_true hb4
    refine WC.draw 16 Fa.M H3 (HW.op rfl (fun w1 H1 => op_move rfl ⟨rfl, Fr.refl _ _⟩) (HW.op rfl (fun w1 H1 => op_move rfl ⟨rfl, Fr.refl _ _⟩) (HW.op rfl (fun w1 H1 => op_lssN rfl rfl ⟨rfl, Fr.refl _ _⟩) (HW.op rfl (fun w1 H1 => op_move rfl ⟨rfl, Fr.refl _ _⟩) (HW.yes rfl rfl rfl hb4 (fun w1 H1 => op_move rfl ⟨rfl, Fr.refl _ _⟩) (HW.yes rfl rfl rfl hb4 (fun w1 H1 => op_move rfl ⟨rfl, Fr.refl _ _⟩) (HW.yes rfl rfl rfl hb4 (fun w1 H1 => op_indexAddr1 Try.underlying64 Fa.I3 rfl (H1.arrR (i := 0) rfl) rfl (by omega) ⟨rfl, Fr.refl _ _⟩) (HW.yes rfl rfl rfl hb4 (fun w1 H1 => op_load rfl ((H1.arrR (i := 0) rfl).at (get_map vN 0 (Arr.ltM (H1.arrR (i := 0) rfl) (by omega)))) Try.underlying3 rfl ⟨rfl, Fr.refl _ _⟩) (HW.yes rfl rfl rfl hb4 (fun w1 H1 => op_move rfl ⟨rfl, Fr.refl _ _⟩) (HW.yes rfl rfl rfl hb4 (fun w1 H1 => op_move rfl ⟨rfl, Fr.refl _ _⟩) (HW.yes rfl rfl rfl hb4 (fun w1 H1 => op_subN (b := 1) rfl rfl (by omega) (by omega) ⟨rfl, Fr.refl _ _⟩) (HW.yes rfl rfl rfl hb4 (fun w1 H1 => op_indexAddr1 Try.underlying64 Fa.I3 rfl (H1.arrR (i := 0) rfl) rfl (by omega) ⟨rfl, Fr.refl _ _⟩) (HW.yes rfl rfl rfl hb4 (fun w1 H1 => op_load rfl ((H1.arrR (i := 0) rfl).at (get_map vN 0 (Arr.ltM (H1.arrR (i := 0) rfl) (by omega)))) Try.underlying3 rfl ⟨rfl, Fr.refl _ _⟩) (HW.yes rfl rfl rfl hb4 (fun w1 H1 => op_callF Fa.C149 rfl ((less_ok (l1.getD i2 0) (l1.getD (i2 - 1) 0) _).mono (fun e w2 hq => ⟨_, hq.1, rfl, hq.2⟩))) (HW.yes rfl rfl rfl hb4 (fun w1 H1 => op_not rfl ⟨rfl, Fr.refl _ _⟩) (HW.op rfl (fun w1 H1 => op_pickT rfl hb4 rfl ⟨rfl, Fr.refl _ _⟩)  HW.nil)))))))))))))))) (by kernel_rfl) ?_
    intro β6 w6 H6
    refine wn ?_
    refine WC.cond rfl (fun (hb7 : (!(ltN (l1.getD i2 0) (l1.getD (i2 - 1) 0))) = true) => ?_) (fun (hb7 : (!(ltN (l1.getD i2 0) (l1.getD (i2 - 1) 0))) = false) => ?_)
    ·
     have hn7 := (Bool.not_eq_true' _).mp hb7
     refine WC.skip ?_
     refine WQ.next ?_
     refine WC.block ?_
     refine WC.region ?_
     refine wo (op_move rfl ?_)
     refine wo (op_addN (b := 1) rfl rfl (by omega) ?_)
     refine wo (op_assign rfl ?_)
     refine WL.nil ?_
     refine WQ.inNormal ?_
     exact WQ.round (i2 + 1) ⟨⟨by omega, by omega, sort_snoc ltNOK ho2 (by omega) hn7⟩, H6⟩ ⟨rfl, rfl, rfl, rfl, rfl, trivial⟩ (by omega)
    ·
     have hn7 := (Bool.not_eq_false' _).mp hb7
     refine WC.exit ?_
     refine WQ.thenExit ?_
     refine WQ.thenExit ?_
     refine WQ.inHere ?_
     exact WQ.here i2 ⟨⟨hi3, hi4, ho2⟩, H6⟩ ⟨rfl, rfl, rfl, rfl, rfl, trivial⟩
   ·
    have hc4 := of_decide_eq_false hb4
    refine WC.draw 16 Fa.M H3 (HW.op rfl (fun w1 H1 => op_move rfl ⟨rfl, Fr.refl _ _⟩) (HW.op rfl (fun w1 H1 => op_move rfl ⟨rfl, Fr.refl _ _⟩) (HW.op rfl (fun w1 H1 => op_lssN rfl rfl ⟨rfl, Fr.refl _ _⟩) (HW.op rfl (fun w1 H1 => op_move rfl ⟨rfl, Fr.refl _ _⟩) (HW.no rfl rfl rfl hb4 (HW.no rfl rfl rfl hb4 (HW.no rfl rfl rfl hb4 (HW.no rfl rfl rfl hb4 (HW.no rfl rfl rfl hb4 (HW.no rfl rfl rfl hb4 (HW.no rfl rfl rfl hb4 (HW.no rfl rfl rfl hb4 (HW.no rfl rfl rfl hb4 (HW.no rfl rfl rfl hb4 (HW.no rfl rfl rfl hb4 (HW.op rfl (fun w1 H1 => op_pickF rfl hb4 rfl ⟨rfl, Fr.refl _ _⟩)  HW.nil)))))))))))))))) (by kernel_rfl) ?_
    intro β8 w8 H8
    refine wn ?_
    refine WC.no rfl rfl ?_
    refine WC.exit ?_
    refine WQ.thenExit ?_
    refine WQ.thenExit ?_
    refine WQ.inHere ?_
    exact WQ.here i2 ⟨⟨hi3, hi4, ho2⟩, H8⟩ ⟨rfl, rfl, rfl, rfl, rfl, trivial⟩
  ·
   rintro i3 w9 ⟨⟨hi5, hi6, ho3⟩, H9⟩
   show WC _ _ _ _ _ [(0, v), (1, (vN a)), (2, (vN b)), (7, (vN i3)), (8, (vN c))] _
   refine WC.seq ?_
   refine ws ?_
   refine wo (op_move rfl ?_)
   refine wo (op_move rfl ?_)
   refine wo (op_eqlN rfl rfl ?_)
   refine wn ?_
   refine WC.cond rfl (fun (hb10 : (decide (i3 = b)) = true) => ?_) (fun (hb10 : (decide (i3 = b)) = false) => ?_)
   ·
    have hc10 := of_decide_eq_true hb10
    refine ws ?_
    refine wo (op_assign rfl ?_)
    refine wn ?_
    refine WC.ret ?_
    refine WQ.thenRet ?_
    refine WQ.inRet ?_
    refine WQ.thenRet ?_
    refine WQ.thenRet ?_
    refine WQ.inRet ?_
    refine WQ.thenRet ?_
    refine WQ.out (.tmp rfl .nil) ?_
    exact ⟨_, _, rfl, ⟨hs1, fun _ p q h1 h2 h3 => ho3 p q h1 h2 (by omega)⟩, H9⟩
   ·
    have hc10 := of_decide_eq_false hb10
    refine WC.skip ?_
    refine WQ.next ?_
    refine WC.seq ?_
    refine ws ?_
    refine wo (op_move rfl ?_)
    refine wo (op_move rfl ?_)
    refine wo (op_subN rfl rfl (by omega) (by omega) ?_)
    refine wo (op_lssN (b := 50) rfl rfl ?_)
    refine wn ?_
    refine WC.cond rfl (fun (hb11 : (decide ((b - a) < 50)) = true) => ?_) (fun (hb11 : (decide ((b - a) < 50)) = false) => ?_)
    ·
     have hc11 := of_decide_eq_true hb11
     refine ws ?_
     refine wo (op_assign rfl ?_)
     refine wn ?_
     refine WC.ret ?_
     refine WQ.thenRet ?_
     refine WQ.inRet ?_
     refine WQ.thenRet ?_
     refine WQ.thenRet ?_
     refine WQ.inRet ?_
     refine WQ.thenRet ?_
     refine WQ.out (.tmp rfl .nil) ?_
     exact ⟨_, _, rfl, ⟨hs1, fun h => by cases h⟩, H9⟩
    ·
     have hc11 := of_decide_eq_false hb11
     refine WC.skip ?_
     refine WQ.next ?_
     refine WC.cut (α := List Nat) (fun l3 => [(0, v), (1, (vN a)), (2, (vN b)), (7, (vN i3)), (8, (vN c))]) (fun l3 w' => (Sw 0 a b l l3 ∧ SortS ltN 0 a (i3 - 1) l3 ∧ PreS ltN 0 a b l3) ∧ Owl.Own T w w' [.row v 3 1 n (List.map vN l3)]) ?_ ?_
     ·
      refine WC.held 18 rfl Fa.M H9 (fun w' => ∃ L', Owl.Own T w w' ([] ++ L')) ?_
      intro w12 H12
      refine WH.take (i := 0) (v := v) rfl rfl (.inl rfl) rfl (by kernel_rfl) ⟨[.row v 3 1 n (List.map vN l1)], H12⟩ (fun wX hSX => hSX.elim fun LX HX => op_move rfl ⟨rfl, rfl⟩) ?_
      refine WH.take (i := 1) (v := (vN i3)) rfl rfl (.inl rfl) rfl (by kernel_rfl) ⟨[.row v 3 1 n (List.map vN l1)], H12⟩ (fun wX hSX => hSX.elim fun LX HX => op_move rfl ⟨rfl, rfl⟩) ?_
      refine WH.take (i := 2) (v := v) rfl rfl (.inl rfl) rfl (by kernel_rfl) ⟨[.row v 3 1 n (List.map vN l1)], H12⟩ (fun wX hSX => hSX.elim fun LX HX => op_move rfl ⟨rfl, rfl⟩) ?_
      refine WH.take (i := 3) (v := (vN i3)) rfl rfl (.inl rfl) rfl (by kernel_rfl) ⟨[.row v 3 1 n (List.map vN l1)], H12⟩ (fun wX hSX => hSX.elim fun LX HX => op_move rfl ⟨rfl, rfl⟩) ?_
      refine WH.take (i := 4) (v := (vN (i3 - 1))) rfl rfl (.inl rfl) rfl (by kernel_rfl) ⟨[.row v 3 1 n (List.map vN l1)], H12⟩ (fun wX hSX => hSX.elim fun LX HX => op_subN (b := 1) rfl rfl (by omega) (by omega) ⟨rfl, rfl⟩) ?_
      refine WH.take (i := 5) (v := v) rfl rfl (.inl rfl) rfl (by kernel_rfl) ⟨[.row v 3 1 n (List.map vN l1)], H12⟩ (fun wX hSX => hSX.elim fun LX HX => op_move rfl ⟨rfl, rfl⟩) ?_
      refine WH.take (i := 6) (v := (vN i3)) rfl rfl (.inl rfl) rfl (by kernel_rfl) ⟨[.row v 3 1 n (List.map vN l1)], H12⟩ (fun wX hSX => hSX.elim fun LX HX => op_move rfl ⟨rfl, rfl⟩) ?_
      refine WH.take (i := 7) (v := (vN (i3 - 1))) rfl rfl (.inl rfl) rfl (by kernel_rfl) ⟨[.row v 3 1 n (List.map vN l1)], H12⟩ (fun wX hSX => hSX.elim fun LX HX => op_subN (b := 1) rfl rfl (by omega) (by omega) ⟨rfl, rfl⟩) ?_
      refine WH.take (i := 8) (v := (.pointer (some (sp v (i3 - 1))))) rfl rfl (.inl rfl) rfl (by kernel_rfl) ⟨[.row v 3 1 n (List.map vN l1)], H12⟩ (fun wX hSX => hSX.elim fun LX HX => op_indexAddr1W Try.underlying64 Fa.I3 rfl (H12.arrR (i := 0) rfl) rfl (by omega) ⟨rfl, rfl⟩) ?_
      refine WH.take (i := 10) (v := v) rfl rfl (.inl rfl) rfl (by kernel_rfl) ⟨[.row v 3 1 n (List.map vN l1)], H12⟩ (fun wX hSX => hSX.elim fun LX HX => op_move rfl ⟨rfl, rfl⟩) ?_
      refine WH.take (i := 11) (v := (vN i3)) rfl rfl (.inl rfl) rfl (by kernel_rfl) ⟨[.row v 3 1 n (List.map vN l1)], H12⟩ (fun wX hSX => hSX.elim fun LX HX => op_move rfl ⟨rfl, rfl⟩) ?_
      refine WH.take (i := 12) (v := (.pointer (some (sp v i3)))) rfl rfl (.inl rfl) rfl (by kernel_rfl) ⟨[.row v 3 1 n (List.map vN l1)], H12⟩ (fun wX hSX => hSX.elim fun LX HX => op_indexAddr1W Try.underlying64 Fa.I3 rfl (H12.arrR (i := 0) rfl) rfl (by omega) ⟨rfl, rfl⟩) ?_
      refine WH.named (fun W hW => ?_)
      have st11_5 : ∀ (wS : World), Owl.Own T w wS [.row v 3 1 n (List.map vN ((l1.set i3 (l1.getD (i3 - 1) 0)).set (i3 - 1) (l1.getD i3 0)))] → W 0 #[tt, tt, tt, tt, tt, tt, tt, tt, tt, tt, tt, tt, tt, tt, tt, tt, tt, tt] [(0, v), (1, (vN a)), (2, (vN b)), (7, (vN i3)), (8, (vN c)), (35, (vN i3)), (36, (vN b)), (37, (.bool (decide (i3 = b)))), (38, (vN b)), (39, (vN a)), (40, (vN (b - a))), (41, (.bool (decide ((b - a) < 50)))), (42, v), (43, (vN i3)), (44, v), (45, (vN i3)), (46, (vN (i3 - 1))), (47, v), (48, (vN i3)), (49, (vN (i3 - 1))), (50, (.pointer (some (sp v (i3 - 1))))), (51, (vN (l1.getD (i3 - 1) 0))), (52, v), (53, (vN i3)), (54, (.pointer (some (sp v i3)))), (55, (vN (l1.getD i3 0))), (56, (.pointer (some (sp v i3)))), (57, (.pointer (some (sp v (i3 - 1)))))] wS := by
       intro wS HS
       rw [hW]
       refine WH.done (by kernel_rfl) ?_
       exact WQ.here (swapL 0 l1 i3 (i3 - 1)) ⟨⟨hs1.step (by omega) (by omega) (by omega) (by omega), sort_swap (by omega) (by omega) ho3, pre_sw (by omega) hp1 (Sw.one (by omega) (by omega) (by omega) (by omega))⟩, HS⟩ ⟨rfl, rfl, rfl, rfl, rfl, trivial⟩
      have st11_4 : ∀ (wS : World), Owl.Own T w wS [.row v 3 1 n (List.map vN (l1.set i3 (l1.getD (i3 - 1) 0)))] → W 1 #[tt, tt, tt, tt, tt, tt, tt, tt, tt, tt, tt, tt, tt, tt, tt, tt, tt, ff] [(0, v), (1, (vN a)), (2, (vN b)), (7, (vN i3)), (8, (vN c)), (35, (vN i3)), (36, (vN b)), (37, (.bool (decide (i3 = b)))), (38, (vN b)), (39, (vN a)), (40, (vN (b - a))), (41, (.bool (decide ((b - a) < 50)))), (42, v), (43, (vN i3)), (44, v), (45, (vN i3)), (46, (vN (i3 - 1))), (47, v), (48, (vN i3)), (49, (vN (i3 - 1))), (50, (.pointer (some (sp v (i3 - 1))))), (51, (vN (l1.getD (i3 - 1) 0))), (52, v), (53, (vN i3)), (54, (.pointer (some (sp v i3)))), (55, (vN (l1.getD i3 0))), (56, (.pointer (some (sp v i3)))), (57, (.pointer (some (sp v (i3 - 1)))))] wS := by
       intro wS HS
       rw [hW]
       refine WH.all1 (i := 17) (by kernel_rfl) ?_
       ·
        refine WHS.op (i := 17) rfl (.inl rfl) rfl (op_storeRM (i := 0) (f := vN) (l := (l1.set i3 (l1.getD (i3 - 1) 0))) (c := (l1.getD i3 0)) HS rfl rfl rfl (by omega) rfl Fa.I3 (fun w23341 H23341 => ?_))
        refine ⟨⟨[.row v 3 1 n (List.map vN ((l1.set i3 (l1.getD (i3 - 1) 0)).set (i3 - 1) (l1.getD i3 0)))], H23341⟩, ?_⟩
        have hq := st11_5 w23341 H23341
        rw [hW] at hq
        exact WH.cv hq
      have st11_3 : ∀ (wS : World), Owl.Own T w wS [.row v 3 1 n (List.map vN l1)] → W 3 #[tt, tt, tt, tt, tt, tt, tt, tt, tt, tt, tt, tt, tt, tt, tt, ff, ff, ff] [(0, v), (1, (vN a)), (2, (vN b)), (7, (vN i3)), (8, (vN c)), (35, (vN i3)), (36, (vN b)), (37, (.bool (decide (i3 = b)))), (38, (vN b)), (39, (vN a)), (40, (vN (b - a))), (41, (.bool (decide ((b - a) < 50)))), (42, v), (43, (vN i3)), (44, v), (45, (vN i3)), (46, (vN (i3 - 1))), (47, v), (48, (vN i3)), (49, (vN (i3 - 1))), (50, (.pointer (some (sp v (i3 - 1))))), (51, (vN (l1.getD (i3 - 1) 0))), (52, v), (53, (vN i3)), (54, (.pointer (some (sp v i3)))), (55, (vN (l1.getD i3 0))), (56, (.pointer (some (sp v i3))))] wS := by
       intro wS HS
       rw [hW]
       refine WH.all1 (i := 15) (by kernel_rfl) ?_
       ·
        refine WHS.op (i := 15) rfl (.inl rfl) rfl (op_storeRM (i := 0) (f := vN) (l := l1) (c := (l1.getD (i3 - 1) 0)) HS rfl rfl rfl (by omega) rfl Fa.I3 (fun w23301 H23301 => ?_))
        refine ⟨⟨[.row v 3 1 n (List.map vN (l1.set i3 (l1.getD (i3 - 1) 0)))], H23301⟩, ?_⟩
        refine WH.take (i := 16) (v := (.pointer (some (sp v (i3 - 1))))) rfl rfl (.inl rfl) rfl (by kernel_rfl) ⟨[.row v 3 1 n (List.map vN (l1.set i3 (l1.getD (i3 - 1) 0)))], H23301⟩ (fun wX hSX => hSX.elim fun LX HX => op_indexAddr1W Try.underlying64 Fa.I3 rfl (H23301.arrR (i := 0) rfl) rfl (by omega) ⟨rfl, rfl⟩) ?_
        have hq := st11_4 w23301 H23301
        rw [hW] at hq
        exact WH.cv hq
      have st11_1 : ∀ (wS : World), Owl.Own T w wS [.row v 3 1 n (List.map vN l1)] → W 5 #[tt, tt, tt, tt, tt, tt, tt, tt, tt, tt, tt, tt, tt, ff, ff, ff, ff, ff] [(0, v), (1, (vN a)), (2, (vN b)), (7, (vN i3)), (8, (vN c)), (35, (vN i3)), (36, (vN b)), (37, (.bool (decide (i3 = b)))), (38, (vN b)), (39, (vN a)), (40, (vN (b - a))), (41, (.bool (decide ((b - a) < 50)))), (42, v), (43, (vN i3)), (44, v), (45, (vN i3)), (46, (vN (i3 - 1))), (47, v), (48, (vN i3)), (49, (vN (i3 - 1))), (50, (.pointer (some (sp v (i3 - 1))))), (51, (vN (l1.getD (i3 - 1) 0))), (52, v), (53, (vN i3)), (54, (.pointer (some (sp v i3))))] wS := by
       intro wS HS
       rw [hW]
       refine WH.all1 (i := 13) (by kernel_rfl) ?_
       ·
        refine WHS.op (i := 13) rfl (.inl rfl) rfl (op_load rfl ((HS.arrR (i := 0) rfl).at (get_map vN 0 (Arr.ltM (HS.arrR (i := 0) rfl) (by omega)))) Try.underlying3 rfl ?_)
        refine ⟨⟨[.row v 3 1 n (List.map vN l1)], HS⟩, ?_⟩
        refine WH.take (i := 14) (v := (.pointer (some (sp v i3)))) rfl rfl (.inl rfl) rfl (by kernel_rfl) ⟨[.row v 3 1 n (List.map vN l1)], HS⟩ (fun wX hSX => hSX.elim fun LX HX => op_indexAddr1W Try.underlying64 Fa.I3 rfl (HS.arrR (i := 0) rfl) rfl (by omega) ⟨rfl, rfl⟩) ?_
        have hq := st11_3 wS HS
        rw [hW] at hq
        exact WH.cv hq
      have st11_2 : ∀ (wS : World), Owl.Own T w wS [.row v 3 1 n (List.map vN l1)] → W 5 #[tt, tt, tt, tt, tt, tt, tt, tt, tt, ff, tt, tt, tt, tt, ff, ff, ff, ff] [(0, v), (1, (vN a)), (2, (vN b)), (7, (vN i3)), (8, (vN c)), (35, (vN i3)), (36, (vN b)), (37, (.bool (decide (i3 = b)))), (38, (vN b)), (39, (vN a)), (40, (vN (b - a))), (41, (.bool (decide ((b - a) < 50)))), (42, v), (43, (vN i3)), (44, v), (45, (vN i3)), (46, (vN (i3 - 1))), (47, v), (48, (vN i3)), (49, (vN (i3 - 1))), (50, (.pointer (some (sp v (i3 - 1))))), (52, v), (53, (vN i3)), (54, (.pointer (some (sp v i3)))), (55, (vN (l1.getD i3 0)))] wS := by
       intro wS HS
       rw [hW]
       refine WH.all1 (i := 9) (by kernel_rfl) ?_
       ·
        refine WHS.op (i := 9) rfl (.inl rfl) rfl (op_load rfl ((HS.arrR (i := 0) rfl).at (get_map vN 0 (Arr.ltM (HS.arrR (i := 0) rfl) (by omega)))) Try.underlying3 rfl ?_)
        refine ⟨⟨[.row v 3 1 n (List.map vN l1)], HS⟩, ?_⟩
        refine WH.take (i := 14) (v := (.pointer (some (sp v i3)))) rfl rfl (.inl rfl) rfl (by kernel_rfl) ⟨[.row v 3 1 n (List.map vN l1)], HS⟩ (fun wX hSX => hSX.elim fun LX HX => op_indexAddr1W Try.underlying64 Fa.I3 rfl (HS.arrR (i := 0) rfl) rfl (by omega) ⟨rfl, rfl⟩) ?_
        have hq := st11_3 wS HS
        rw [hW] at hq
        exact WH.cv hq
      have st11_0 : ∀ (wS : World), Owl.Own T w wS [.row v 3 1 n (List.map vN l1)] → W 6 #[tt, tt, tt, tt, tt, tt, tt, tt, tt, ff, tt, tt, tt, ff, ff, ff, ff, ff] [(0, v), (1, (vN a)), (2, (vN b)), (7, (vN i3)), (8, (vN c)), (35, (vN i3)), (36, (vN b)), (37, (.bool (decide (i3 = b)))), (38, (vN b)), (39, (vN a)), (40, (vN (b - a))), (41, (.bool (decide ((b - a) < 50)))), (42, v), (43, (vN i3)), (44, v), (45, (vN i3)), (46, (vN (i3 - 1))), (47, v), (48, (vN i3)), (49, (vN (i3 - 1))), (50, (.pointer (some (sp v (i3 - 1))))), (52, v), (53, (vN i3)), (54, (.pointer (some (sp v i3))))] wS := by
       intro wS HS
       rw [hW]
       refine WH.all2 (i := 9) (j := 13) (by kernel_rfl) ?_ ?_
       ·
        refine WHS.op (i := 9) rfl (.inl rfl) rfl (op_load rfl ((HS.arrR (i := 0) rfl).at (get_map vN 0 (Arr.ltM (HS.arrR (i := 0) rfl) (by omega)))) Try.underlying3 rfl ?_)
        refine ⟨⟨[.row v 3 1 n (List.map vN l1)], HS⟩, ?_⟩
        have hq := st11_1 wS HS
        rw [hW] at hq
        exact WH.cv hq
       ·
        refine WHS.op (i := 13) rfl (.inl rfl) rfl (op_load rfl ((HS.arrR (i := 0) rfl).at (get_map vN 0 (Arr.ltM (HS.arrR (i := 0) rfl) (by omega)))) Try.underlying3 rfl ?_)
        refine ⟨⟨[.row v 3 1 n (List.map vN l1)], HS⟩, ?_⟩
        have hq := st11_2 wS HS
        rw [hW] at hq
        exact WH.cv hq
      have hq := st11_0 w12 H12
      rw [hW] at hq ⊢
      exact WH.cv hq
     ·
      rintro l3 w14 ⟨⟨hs3, ho5, hp3⟩, H14⟩
      show WC _ _ _ _ _ [(0, v), (1, (vN a)), (2, (vN b)), (7, (vN i3)), (8, (vN c))] _
      have hL3 := hs3.len
      refine WC.cut (α := List Nat) (fun l4 => [(0, v), (1, (vN a)), (2, (vN b)), (7, (vN i3)), (8, (vN c))]) (fun l4 w' => (Sw 0 a b l l4 ∧ SortS ltN 0 a i3 l4 ∧ PreS ltN 0 a b l4) ∧ Owl.Own T w w' [.row v 3 1 n (List.map vN l4)]) ?_ ?_
      ·
       refine ws ?_
       refine wo (op_move rfl ?_)
       refine wo (op_move rfl ?_)
       refine wo (op_subN rfl rfl (by omega) (by omega) ?_)
       refine wo (op_geqN (b := 2) rfl rfl ?_)
       refine wn ?_
       refine WC.cond rfl (fun (hb15 : (decide ((i3 - a) ≥ 2)) = true) => ?_) (fun (hb15 : (decide ((i3 - a) ≥ 2)) = false) => ?_)
       ·
        have hc15 := of_decide_eq_true hb15
        refine ws ?_
        refine wo (op_move rfl ?_)
        refine wo (op_subN (b := 1) rfl rfl (by omega) (by omega) ?_)
        refine wo (op_assign rfl ?_)
        refine wn ?_
        refine WC.block ?_
        refine WC.loop (α := Nat × List Nat) (fun (j, l2) => [(0, v), (1, (vN a)), (2, (vN b)), (7, (vN i3)), (8, (vN c)), (9, (vN j))]) (fun (j, l2) w' => (a ≤ j ∧ j ≤ i3 - 1 ∧ Sw 0 a b l l2 ∧ InsI ltN 0 a (i3 - 1) j l2 ∧ PreS ltN 0 a b l2) ∧ Owl.Own T w w' [.row v 3 1 n (List.map vN l2)]) (fun (j, l2) => j) (i3 - 1, l3) ⟨⟨by omega, Nat.le_refl _, hs3, ins_init ho5, hp3⟩, H14⟩ ⟨rfl, rfl, rfl, rfl, rfl, rfl, trivial⟩ ?_
        rintro ⟨j, l2⟩ w16 ⟨⟨hj1, hj2, hs2, hj3, hp2⟩, H16⟩
        show WC _ _ _ _ _ [(0, v), (1, (vN a)), (2, (vN b)), (7, (vN i3)), (8, (vN c)), (9, (vN j))] _
        have hL2 := hs2.len
        refine WC.seq ?_
        refine ws ?_
        refine wo (op_move rfl ?_)
        refine wo (op_geqN (b := 1) rfl rfl ?_)
        refine wn ?_
        refine WC.cond rfl (fun (hb17 : (decide (j ≥ 1)) = true) => ?_) (fun (hb17 : (decide (j ≥ 1)) = false) => ?_)
        ·
         have hc17 := of_decide_eq_true hb17
         refine WC.skip ?_
         refine WQ.next ?_
         refine WC.seq ?_
         refine WC.block ?_
         refine WC.seq ?_
         refine WC.seq ?_
         refine WC.draw 11 Fa.M H16 (HW.op rfl (fun w1 H1 => op_move rfl ⟨rfl, Fr.refl _ _⟩) (HW.op rfl (fun w1 H1 => op_move rfl ⟨rfl, Fr.refl _ _⟩) (HW.op rfl (fun w1 H1 => op_indexAddr1 Try.underlying64 Fa.I3 rfl (H1.arrR (i := 0) rfl) rfl (by omega) ⟨rfl, Fr.refl _ _⟩) (HW.op rfl (fun w1 H1 => op_load rfl ((H1.arrR (i := 0) rfl).at (get_map vN 0 (Arr.ltM (H1.arrR (i := 0) rfl) (by omega)))) Try.underlying3 rfl ⟨rfl, Fr.refl _ _⟩) (HW.op rfl (fun w1 H1 => op_move rfl ⟨rfl, Fr.refl _ _⟩) (HW.op rfl (fun w1 H1 => op_move rfl ⟨rfl, Fr.refl _ _⟩) (HW.op rfl (fun w1 H1 => op_subN (b := 1) rfl rfl (by omega) (by omega) ⟨rfl, Fr.refl _ _⟩) (HW.op rfl (fun w1 H1 => op_indexAddr1 Try.underlying64 Fa.I3 rfl (H1.arrR (i := 0) rfl) rfl (by omega) ⟨rfl, Fr.refl _ _⟩) (HW.op rfl (fun w1 H1 => op_load rfl ((H1.arrR (i := 0) rfl).at (get_map vN 0 (Arr.ltM (H1.arrR (i := 0) rfl) (by omega)))) Try.underlying3 rfl ⟨rfl, Fr.refl _ _⟩) (HW.op rfl (fun w1 H1 => op_callF Fa.C149 rfl ((less_ok (l2.getD j 0) (l2.getD (j - 1) 0) _).mono (fun e w2 hq => ⟨_, hq.1, rfl, hq.2⟩))) (HW.op rfl (fun w1 H1 => op_not rfl ⟨rfl, Fr.refl _ _⟩)  HW.nil))))))))))) (by kernel_rfl) ?_
         intro β19 w19 H19
         refine wn ?_
         refine WC.cond rfl (fun (hb20 : (!(ltN (l2.getD j 0) (l2.getD (j - 1) 0))) = true) => ?_) (fun (hb20 : (!(ltN (l2.getD j 0) (l2.getD (j - 1) 0))) = false) => ?_)
         ·
          have hn20 := (Bool.not_eq_true' _).mp hb20
          refine WC.exit ?_
          refine WQ.thenExit ?_
          refine WQ.inPass rfl ?_
          refine WQ.thenExit ?_
          refine WQ.thenExit ?_
          refine WQ.inHere ?_
          have hd := ins_done ltNOK hj3 (.inr hn20) hj1
          rw [show i3 - 1 + 1 = i3 by omega] at hd
          exact WQ.here l2 ⟨⟨hs2, hd, hp2⟩, H19⟩ ⟨rfl, rfl, rfl, rfl, rfl, trivial⟩
         ·
          have hn20 := (Bool.not_eq_false' _).mp hb20
          have hja := pre_gt hp2 hj1 (by omega) (by omega) hn20
          refine WC.skip ?_
          refine WQ.next ?_
          refine WC.held 18 rfl Fa.M H19 (fun w' => ∃ L', Owl.Own T w w' ([] ++ L')) ?_
          intro w21 H21
          refine WH.take (i := 0) (v := v) rfl rfl (.inl rfl) rfl (by kernel_rfl) ⟨[.row v 3 1 n (List.map vN l2)], H21⟩ (fun wX hSX => hSX.elim fun LX HX => op_move rfl ⟨rfl, rfl⟩) ?_
          refine WH.take (i := 1) (v := (vN j)) rfl rfl (.inl rfl) rfl (by kernel_rfl) ⟨[.row v 3 1 n (List.map vN l2)], H21⟩ (fun wX hSX => hSX.elim fun LX HX => op_move rfl ⟨rfl, rfl⟩) ?_
          refine WH.take (i := 2) (v := v) rfl rfl (.inl rfl) rfl (by kernel_rfl) ⟨[.row v 3 1 n (List.map vN l2)], H21⟩ (fun wX hSX => hSX.elim fun LX HX => op_move rfl ⟨rfl, rfl⟩) ?_
          refine WH.take (i := 3) (v := (vN j)) rfl rfl (.inl rfl) rfl (by kernel_rfl) ⟨[.row v 3 1 n (List.map vN l2)], H21⟩ (fun wX hSX => hSX.elim fun LX HX => op_move rfl ⟨rfl, rfl⟩) ?_
          refine WH.take (i := 4) (v := (vN (j - 1))) rfl rfl (.inl rfl) rfl (by kernel_rfl) ⟨[.row v 3 1 n (List.map vN l2)], H21⟩ (fun wX hSX => hSX.elim fun LX HX => op_subN (b := 1) rfl rfl (by omega) (by omega) ⟨rfl, rfl⟩) ?_
          refine WH.take (i := 5) (v := v) rfl rfl (.inl rfl) rfl (by kernel_rfl) ⟨[.row v 3 1 n (List.map vN l2)], H21⟩ (fun wX hSX => hSX.elim fun LX HX => op_move rfl ⟨rfl, rfl⟩) ?_
          refine WH.take (i := 6) (v := (vN j)) rfl rfl (.inl rfl) rfl (by kernel_rfl) ⟨[.row v 3 1 n (List.map vN l2)], H21⟩ (fun wX hSX => hSX.elim fun LX HX => op_move rfl ⟨rfl, rfl⟩) ?_
          refine WH.take (i := 7) (v := (vN (j - 1))) rfl rfl (.inl rfl) rfl (by kernel_rfl) ⟨[.row v 3 1 n (List.map vN l2)], H21⟩ (fun wX hSX => hSX.elim fun LX HX => op_subN (b := 1) rfl rfl (by omega) (by omega) ⟨rfl, rfl⟩) ?_
          refine WH.take (i := 8) (v := (.pointer (some (sp v (j - 1))))) rfl rfl (.inl rfl) rfl (by kernel_rfl) ⟨[.row v 3 1 n (List.map vN l2)], H21⟩ (fun wX hSX => hSX.elim fun LX HX => op_indexAddr1W Try.underlying64 Fa.I3 rfl (H21.arrR (i := 0) rfl) rfl (by omega) ⟨rfl, rfl⟩) ?_
          refine WH.take (i := 10) (v := v) rfl rfl (.inl rfl) rfl (by kernel_rfl) ⟨[.row v 3 1 n (List.map vN l2)], H21⟩ (fun wX hSX => hSX.elim fun LX HX => op_move rfl ⟨rfl, rfl⟩) ?_
          refine WH.take (i := 11) (v := (vN j)) rfl rfl (.inl rfl) rfl (by kernel_rfl) ⟨[.row v 3 1 n (List.map vN l2)], H21⟩ (fun wX hSX => hSX.elim fun LX HX => op_move rfl ⟨rfl, rfl⟩) ?_
          refine WH.take (i := 12) (v := (.pointer (some (sp v j)))) rfl rfl (.inl rfl) rfl (by kernel_rfl) ⟨[.row v 3 1 n (List.map vN l2)], H21⟩ (fun wX hSX => hSX.elim fun LX HX => op_indexAddr1W Try.underlying64 Fa.I3 rfl (H21.arrR (i := 0) rfl) rfl (by omega) ⟨rfl, rfl⟩) ?_
          refine WH.named (fun W hW => ?_)
          have st17_5 : ∀ (wS : World), Owl.Own T w wS [.row v 3 1 n (List.map vN ((l2.set j (l2.getD (j - 1) 0)).set (j - 1) (l2.getD j 0)))] → W 0 #[tt, tt, tt, tt, tt, tt, tt, tt, tt, tt, tt, tt, tt, tt, tt, tt, tt, tt] [(0, v), (1, (vN a)), (2, (vN b)), (7, (vN i3)), (8, (vN c)), (9, (vN j)), (64, (vN j)), (65, (.bool (decide (j ≥ 1)))), (68, v), (69, (vN j)), (70, (.pointer (some (sp v j)))), (71, (vN (l2.getD j 0))), (72, v), (73, (vN j)), (74, (vN (j - 1))), (75, (.pointer (some (sp v (j - 1))))), (76, (vN (l2.getD (j - 1) 0))), (77, (.bool (ltN (l2.getD j 0) (l2.getD (j - 1) 0)))), (78, (.bool (!(ltN (l2.getD j 0) (l2.getD (j - 1) 0))))), (79, v), (80, (vN j)), (81, v), (82, (vN j)), (83, (vN (j - 1))), (84, v), (85, (vN j)), (86, (vN (j - 1))), (87, (.pointer (some (sp v (j - 1))))), (88, (vN (l2.getD (j - 1) 0))), (89, v), (90, (vN j)), (91, (.pointer (some (sp v j)))), (92, (vN (l2.getD j 0))), (93, (.pointer (some (sp v j)))), (94, (.pointer (some (sp v (j - 1)))))] wS := by
           intro wS HS
           rw [hW]
           refine WH.done (by kernel_rfl) ?_
           refine WQ.inNormal ?_
           refine WQ.next ?_
           refine WC.region ?_
           refine wo (op_move rfl ?_)
           refine wo (op_subN (b := 1) rfl rfl (by omega) (by omega) ?_)
           refine wo (op_assign rfl ?_)
           refine WL.nil ?_
           exact WQ.round (j - 1, swapL 0 l2 j (j - 1)) ⟨⟨by omega, by omega, hs2.step (by omega) (by omega) (by omega) (by omega), ins_step ltNOK (by omega) hj3 hja hj2 hn20, pre_sw (by omega) hp2 (Sw.one (by omega) (by omega) (by omega) (by omega))⟩, HS⟩ ⟨rfl, rfl, rfl, rfl, rfl, rfl, trivial⟩ (by show j - 1 < j; omega)
          have st17_4 : ∀ (wS : World), Owl.Own T w wS [.row v 3 1 n (List.map vN (l2.set j (l2.getD (j - 1) 0)))] → W 1 #[tt, tt, tt, tt, tt, tt, tt, tt, tt, tt, tt, tt, tt, tt, tt, tt, tt, ff] [(0, v), (1, (vN a)), (2, (vN b)), (7, (vN i3)), (8, (vN c)), (9, (vN j)), (64, (vN j)), (65, (.bool (decide (j ≥ 1)))), (68, v), (69, (vN j)), (70, (.pointer (some (sp v j)))), (71, (vN (l2.getD j 0))), (72, v), (73, (vN j)), (74, (vN (j - 1))), (75, (.pointer (some (sp v (j - 1))))), (76, (vN (l2.getD (j - 1) 0))), (77, (.bool (ltN (l2.getD j 0) (l2.getD (j - 1) 0)))), (78, (.bool (!(ltN (l2.getD j 0) (l2.getD (j - 1) 0))))), (79, v), (80, (vN j)), (81, v), (82, (vN j)), (83, (vN (j - 1))), (84, v), (85, (vN j)), (86, (vN (j - 1))), (87, (.pointer (some (sp v (j - 1))))), (88, (vN (l2.getD (j - 1) 0))), (89, v), (90, (vN j)), (91, (.pointer (some (sp v j)))), (92, (vN (l2.getD j 0))), (93, (.pointer (some (sp v j)))), (94, (.pointer (some (sp v (j - 1)))))] wS := by
           intro wS HS
           rw [hW]
           refine WH.all1 (i := 17) (by kernel_rfl) ?_
           ·
            refine WHS.op (i := 17) rfl (.inl rfl) rfl (op_storeRM (i := 0) (f := vN) (l := (l2.set j (l2.getD (j - 1) 0))) (c := (l2.getD j 0)) HS rfl rfl rfl (by omega) rfl Fa.I3 (fun w32341 H32341 => ?_))
            refine ⟨⟨[.row v 3 1 n (List.map vN ((l2.set j (l2.getD (j - 1) 0)).set (j - 1) (l2.getD j 0)))], H32341⟩, ?_⟩
            have hq := st17_5 w32341 H32341
            rw [hW] at hq
            exact WH.cv hq
          have st17_3 : ∀ (wS : World), Owl.Own T w wS [.row v 3 1 n (List.map vN l2)] → W 3 #[tt, tt, tt, tt, tt, tt, tt, tt, tt, tt, tt, tt, tt, tt, tt, ff, ff, ff] [(0, v), (1, (vN a)), (2, (vN b)), (7, (vN i3)), (8, (vN c)), (9, (vN j)), (64, (vN j)), (65, (.bool (decide (j ≥ 1)))), (68, v), (69, (vN j)), (70, (.pointer (some (sp v j)))), (71, (vN (l2.getD j 0))), (72, v), (73, (vN j)), (74, (vN (j - 1))), (75, (.pointer (some (sp v (j - 1))))), (76, (vN (l2.getD (j - 1) 0))), (77, (.bool (ltN (l2.getD j 0) (l2.getD (j - 1) 0)))), (78, (.bool (!(ltN (l2.getD j 0) (l2.getD (j - 1) 0))))), (79, v), (80, (vN j)), (81, v), (82, (vN j)), (83, (vN (j - 1))), (84, v), (85, (vN j)), (86, (vN (j - 1))), (87, (.pointer (some (sp v (j - 1))))), (88, (vN (l2.getD (j - 1) 0))), (89, v), (90, (vN j)), (91, (.pointer (some (sp v j)))), (92, (vN (l2.getD j 0))), (93, (.pointer (some (sp v j))))] wS := by
           intro wS HS
           rw [hW]
           refine WH.all1 (i := 15) (by kernel_rfl) ?_
           ·
            refine WHS.op (i := 15) rfl (.inl rfl) rfl (op_storeRM (i := 0) (f := vN) (l := l2) (c := (l2.getD (j - 1) 0)) HS rfl rfl rfl (by omega) rfl Fa.I3 (fun w32301 H32301 => ?_))
            refine ⟨⟨[.row v 3 1 n (List.map vN (l2.set j (l2.getD (j - 1) 0)))], H32301⟩, ?_⟩
            refine WH.take (i := 16) (v := (.pointer (some (sp v (j - 1))))) rfl rfl (.inl rfl) rfl (by kernel_rfl) ⟨[.row v 3 1 n (List.map vN (l2.set j (l2.getD (j - 1) 0)))], H32301⟩ (fun wX hSX => hSX.elim fun LX HX => op_indexAddr1W Try.underlying64 Fa.I3 rfl (H32301.arrR (i := 0) rfl) rfl (by omega) ⟨rfl, rfl⟩) ?_
            have hq := st17_4 w32301 H32301
            rw [hW] at hq
            exact WH.cv hq
          have st17_1 : ∀ (wS : World), Owl.Own T w wS [.row v 3 1 n (List.map vN l2)] → W 5 #[tt, tt, tt, tt, tt, tt, tt, tt, tt, tt, tt, tt, tt, ff, ff, ff, ff, ff] [(0, v), (1, (vN a)), (2, (vN b)), (7, (vN i3)), (8, (vN c)), (9, (vN j)), (64, (vN j)), (65, (.bool (decide (j ≥ 1)))), (68, v), (69, (vN j)), (70, (.pointer (some (sp v j)))), (71, (vN (l2.getD j 0))), (72, v), (73, (vN j)), (74, (vN (j - 1))), (75, (.pointer (some (sp v (j - 1))))), (76, (vN (l2.getD (j - 1) 0))), (77, (.bool (ltN (l2.getD j 0) (l2.getD (j - 1) 0)))), (78, (.bool (!(ltN (l2.getD j 0) (l2.getD (j - 1) 0))))), (79, v), (80, (vN j)), (81, v), (82, (vN j)), (83, (vN (j - 1))), (84, v), (85, (vN j)), (86, (vN (j - 1))), (87, (.pointer (some (sp v (j - 1))))), (88, (vN (l2.getD (j - 1) 0))), (89, v), (90, (vN j)), (91, (.pointer (some (sp v j))))] wS := by
           intro wS HS
           rw [hW]
           refine WH.all1 (i := 13) (by kernel_rfl) ?_
           ·
            refine WHS.op (i := 13) rfl (.inl rfl) rfl (op_load rfl ((HS.arrR (i := 0) rfl).at (get_map vN 0 (Arr.ltM (HS.arrR (i := 0) rfl) (by omega)))) Try.underlying3 rfl ?_)
            refine ⟨⟨[.row v 3 1 n (List.map vN l2)], HS⟩, ?_⟩
            refine WH.take (i := 14) (v := (.pointer (some (sp v j)))) rfl rfl (.inl rfl) rfl (by kernel_rfl) ⟨[.row v 3 1 n (List.map vN l2)], HS⟩ (fun wX hSX => hSX.elim fun LX HX => op_indexAddr1W Try.underlying64 Fa.I3 rfl (HS.arrR (i := 0) rfl) rfl (by omega) ⟨rfl, rfl⟩) ?_
            have hq := st17_3 wS HS
            rw [hW] at hq
            exact WH.cv hq
          have st17_2 : ∀ (wS : World), Owl.Own T w wS [.row v 3 1 n (List.map vN l2)] → W 5 #[tt, tt, tt, tt, tt, tt, tt, tt, tt, ff, tt, tt, tt, tt, ff, ff, ff, ff] [(0, v), (1, (vN a)), (2, (vN b)), (7, (vN i3)), (8, (vN c)), (9, (vN j)), (64, (vN j)), (65, (.bool (decide (j ≥ 1)))), (68, v), (69, (vN j)), (70, (.pointer (some (sp v j)))), (71, (vN (l2.getD j 0))), (72, v), (73, (vN j)), (74, (vN (j - 1))), (75, (.pointer (some (sp v (j - 1))))), (76, (vN (l2.getD (j - 1) 0))), (77, (.bool (ltN (l2.getD j 0) (l2.getD (j - 1) 0)))), (78, (.bool (!(ltN (l2.getD j 0) (l2.getD (j - 1) 0))))), (79, v), (80, (vN j)), (81, v), (82, (vN j)), (83, (vN (j - 1))), (84, v), (85, (vN j)), (86, (vN (j - 1))), (87, (.pointer (some (sp v (j - 1))))), (89, v), (90, (vN j)), (91, (.pointer (some (sp v j)))), (92, (vN (l2.getD j 0)))] wS := by
           intro wS HS
           rw [hW]
           refine WH.all1 (i := 9) (by kernel_rfl) ?_
           ·
            refine WHS.op (i := 9) rfl (.inl rfl) rfl (op_load rfl ((HS.arrR (i := 0) rfl).at (get_map vN 0 (Arr.ltM (HS.arrR (i := 0) rfl) (by omega)))) Try.underlying3 rfl ?_)
            refine ⟨⟨[.row v 3 1 n (List.map vN l2)], HS⟩, ?_⟩
            refine WH.take (i := 14) (v := (.pointer (some (sp v j)))) rfl rfl (.inl rfl) rfl (by kernel_rfl) ⟨[.row v 3 1 n (List.map vN l2)], HS⟩ (fun wX hSX => hSX.elim fun LX HX => op_indexAddr1W Try.underlying64 Fa.I3 rfl (HS.arrR (i := 0) rfl) rfl (by omega) ⟨rfl, rfl⟩) ?_
            have hq := st17_3 wS HS
            rw [hW] at hq
            exact WH.cv hq
          have st17_0 : ∀ (wS : World), Owl.Own T w wS [.row v 3 1 n (List.map vN l2)] → W 6 #[tt, tt, tt, tt, tt, tt, tt, tt, tt, ff, tt, tt, tt, ff, ff, ff, ff, ff] [(0, v), (1, (vN a)), (2, (vN b)), (7, (vN i3)), (8, (vN c)), (9, (vN j)), (64, (vN j)), (65, (.bool (decide (j ≥ 1)))), (68, v), (69, (vN j)), (70, (.pointer (some (sp v j)))), (71, (vN (l2.getD j 0))), (72, v), (73, (vN j)), (74, (vN (j - 1))), (75, (.pointer (some (sp v (j - 1))))), (76, (vN (l2.getD (j - 1) 0))), (77, (.bool (ltN (l2.getD j 0) (l2.getD (j - 1) 0)))), (78, (.bool (!(ltN (l2.getD j 0) (l2.getD (j - 1) 0))))), (79, v), (80, (vN j)), (81, v), (82, (vN j)), (83, (vN (j - 1))), (84, v), (85, (vN j)), (86, (vN (j - 1))), (87, (.pointer (some (sp v (j - 1))))), (89, v), (90, (vN j)), (91, (.pointer (some (sp v j))))] wS := by
           intro wS HS
           rw [hW]
           refine WH.all2 (i := 9) (j := 13) (by kernel_rfl) ?_ ?_
           ·
            refine WHS.op (i := 9) rfl (.inl rfl) rfl (op_load rfl ((HS.arrR (i := 0) rfl).at (get_map vN 0 (Arr.ltM (HS.arrR (i := 0) rfl) (by omega)))) Try.underlying3 rfl ?_)
            refine ⟨⟨[.row v 3 1 n (List.map vN l2)], HS⟩, ?_⟩
            have hq := st17_1 wS HS
            rw [hW] at hq
            exact WH.cv hq
           ·
            refine WHS.op (i := 13) rfl (.inl rfl) rfl (op_load rfl ((HS.arrR (i := 0) rfl).at (get_map vN 0 (Arr.ltM (HS.arrR (i := 0) rfl) (by omega)))) Try.underlying3 rfl ?_)
            refine ⟨⟨[.row v 3 1 n (List.map vN l2)], HS⟩, ?_⟩
            have hq := st17_2 wS HS
            rw [hW] at hq
            exact WH.cv hq
          have hq := st17_0 w21 H21
          rw [hW] at hq ⊢
          exact WH.cv hq
        ·
         have hc17 := of_decide_eq_false hb17
         refine WC.exit ?_
         refine WQ.thenExit ?_
         refine WQ.thenExit ?_
         refine WQ.inHere ?_
         have hd := ins_done ltNOK hj3 (.inl (by omega)) hj1
         rw [show i3 - 1 + 1 = i3 by omega] at hd
         exact WQ.here l2 ⟨⟨hs2, hd, hp2⟩, H16⟩ ⟨rfl, rfl, rfl, rfl, rfl, trivial⟩
       ·
        have hc15 := of_decide_eq_false hb15
        refine WC.skip ?_
        exact WQ.here l3 ⟨⟨hs3, SortS.nil (by omega), hp3⟩, H14⟩ ⟨rfl, rfl, rfl, rfl, rfl, trivial⟩
      ·
       rintro l4 w23 ⟨⟨hs4, ho4, hp4⟩, H23⟩
       show WC _ _ _ _ _ [(0, v), (1, (vN a)), (2, (vN b)), (7, (vN i3)), (8, (vN c))] _
       have hL4 := hs4.len
       refine ws ?_
       refine wo (op_move rfl ?_)
       refine wo (op_move rfl ?_)
       refine wo (op_subN rfl rfl (by omega) (by omega) ?_)
       refine wo (op_geqN (b := 2) rfl rfl ?_)
       refine wn ?_
       refine WC.cond rfl (fun (hb24 : (decide ((b - i3) ≥ 2)) = true) => ?_) (fun (hb24 : (decide ((b - i3) ≥ 2)) = false) => ?_)
       ·
        have hc24 := of_decide_eq_true hb24
        refine ws ?_
        refine wo (op_move rfl ?_)
        refine wo (op_addN (b := 1) rfl rfl (by omega) ?_)
        refine wo (op_assign rfl ?_)
        refine wn ?_
        refine WC.block ?_
        refine WC.loop (α := Nat × List Nat) (fun (k, l7) => [(0, v), (1, (vN a)), (2, (vN b)), (7, (vN i3)), (8, (vN c)), (10, (vN k))]) (fun (k, l7) w' => (i3 + 1 ≤ k ∧ k ≤ b ∧ Sw 0 a b l l7 ∧ SortS ltN 0 a i3 l7 ∧ PreS ltN 0 a b l7) ∧ Owl.Own T w w' [.row v 3 1 n (List.map vN l7)]) (fun (k, l7) => b - k) (i3 + 1, l4) ⟨⟨Nat.le_refl _, by omega, hs4, ho4, hp4⟩, H23⟩ ⟨rfl, rfl, rfl, rfl, rfl, rfl, trivial⟩ ?_
        rintro ⟨k, l7⟩ w25 ⟨⟨hk1, hk2, hs7, ho7, hp7⟩, H25⟩
        show WC _ _ _ _ _ [(0, v), (1, (vN a)), (2, (vN b)), (7, (vN i3)), (8, (vN c)), (10, (vN k))] _
        have hL7 := hs7.len
        refine WC.seq ?_
        refine ws ?_
        refine wo (op_move rfl ?_)
        refine wo (op_move rfl ?_)
        refine wo (op_lssN rfl rfl ?_)
        refine wn ?_
        refine WC.cond rfl (fun (hb26 : (decide (k < b)) = true) => ?_) (fun (hb26 : (decide (k < b)) = false) => ?_)
        ·
         have hc26 := of_decide_eq_true hb26
         refine WC.skip ?_
         refine WQ.next ?_
         refine WC.seq ?_
         refine WC.block ?_
         refine WC.seq ?_
         refine WC.seq ?_
         refine WC.draw 11 Fa.M H25 (HW.op rfl (fun w1 H1 => op_move rfl ⟨rfl, Fr.refl _ _⟩) (HW.op rfl (fun w1 H1 => op_move rfl ⟨rfl, Fr.refl _ _⟩) (HW.op rfl (fun w1 H1 => op_indexAddr1 Try.underlying64 Fa.I3 rfl (H1.arrR (i := 0) rfl) rfl (by omega) ⟨rfl, Fr.refl _ _⟩) (HW.op rfl (fun w1 H1 => op_load rfl ((H1.arrR (i := 0) rfl).at (get_map vN 0 (Arr.ltM (H1.arrR (i := 0) rfl) (by omega)))) Try.underlying3 rfl ⟨rfl, Fr.refl _ _⟩) (HW.op rfl (fun w1 H1 => op_move rfl ⟨rfl, Fr.refl _ _⟩) (HW.op rfl (fun w1 H1 => op_move rfl ⟨rfl, Fr.refl _ _⟩) (HW.op rfl (fun w1 H1 => op_subN (b := 1) rfl rfl (by omega) (by omega) ⟨rfl, Fr.refl _ _⟩) (HW.op rfl (fun w1 H1 => op_indexAddr1 Try.underlying64 Fa.I3 rfl (H1.arrR (i := 0) rfl) rfl (by omega) ⟨rfl, Fr.refl _ _⟩) (HW.op rfl (fun w1 H1 => op_load rfl ((H1.arrR (i := 0) rfl).at (get_map vN 0 (Arr.ltM (H1.arrR (i := 0) rfl) (by omega)))) Try.underlying3 rfl ⟨rfl, Fr.refl _ _⟩) (HW.op rfl (fun w1 H1 => op_callF Fa.C149 rfl ((less_ok (l7.getD k 0) (l7.getD (k - 1) 0) _).mono (fun e w2 hq => ⟨_, hq.1, rfl, hq.2⟩))) (HW.op rfl (fun w1 H1 => op_not rfl ⟨rfl, Fr.refl _ _⟩)  HW.nil))))))))))) (by kernel_rfl) ?_
         intro β28 w28 H28
         refine wn ?_
         refine WC.cond rfl (fun (hb29 : (!(ltN (l7.getD k 0) (l7.getD (k - 1) 0))) = true) => ?_) (fun (hb29 : (!(ltN (l7.getD k 0) (l7.getD (k - 1) 0))) = false) => ?_)
         ·
          have hn29 := (Bool.not_eq_true' _).mp hb29
          refine WC.exit ?_
          refine WQ.thenExit ?_
          refine WQ.inPass rfl ?_
          refine WQ.thenExit ?_
          refine WQ.thenExit ?_
          refine WQ.inHere ?_
          refine WQ.inNormal ?_
          refine WQ.next ?_
          refine WC.region ?_
          refine wo (op_move rfl ?_)
          refine wo (op_addN (b := 1) rfl rfl (by omega) ?_)
          refine wo (op_assign rfl ?_)
          refine WL.nil ?_
          exact WQ.round (i3, c + 1, l7) ⟨⟨by omega, by omega, by omega, hs7, ho7, hp7⟩, H28⟩ ⟨rfl, rfl, rfl, rfl, rfl, trivial⟩ (by show 5 - (c + 1) < 5 - c; omega)
         ·
          have hn29 := (Bool.not_eq_false' _).mp hb29
          refine WC.skip ?_
          refine WQ.next ?_
          refine WC.held 18 rfl Fa.M H28 (fun w' => ∃ L', Owl.Own T w w' ([] ++ L')) ?_
          intro w30 H30
          refine WH.take (i := 0) (v := v) rfl rfl (.inl rfl) rfl (by kernel_rfl) ⟨[.row v 3 1 n (List.map vN l7)], H30⟩ (fun wX hSX => hSX.elim fun LX HX => op_move rfl ⟨rfl, rfl⟩) ?_
          refine WH.take (i := 1) (v := (vN k)) rfl rfl (.inl rfl) rfl (by kernel_rfl) ⟨[.row v 3 1 n (List.map vN l7)], H30⟩ (fun wX hSX => hSX.elim fun LX HX => op_move rfl ⟨rfl, rfl⟩) ?_
          refine WH.take (i := 2) (v := v) rfl rfl (.inl rfl) rfl (by kernel_rfl) ⟨[.row v 3 1 n (List.map vN l7)], H30⟩ (fun wX hSX => hSX.elim fun LX HX => op_move rfl ⟨rfl, rfl⟩) ?_
          refine WH.take (i := 3) (v := (vN k)) rfl rfl (.inl rfl) rfl (by kernel_rfl) ⟨[.row v 3 1 n (List.map vN l7)], H30⟩ (fun wX hSX => hSX.elim fun LX HX => op_move rfl ⟨rfl, rfl⟩) ?_
          refine WH.take (i := 4) (v := (vN (k - 1))) rfl rfl (.inl rfl) rfl (by kernel_rfl) ⟨[.row v 3 1 n (List.map vN l7)], H30⟩ (fun wX hSX => hSX.elim fun LX HX => op_subN (b := 1) rfl rfl (by omega) (by omega) ⟨rfl, rfl⟩) ?_
          refine WH.take (i := 5) (v := v) rfl rfl (.inl rfl) rfl (by kernel_rfl) ⟨[.row v 3 1 n (List.map vN l7)], H30⟩ (fun wX hSX => hSX.elim fun LX HX => op_move rfl ⟨rfl, rfl⟩) ?_
          refine WH.take (i := 6) (v := (vN k)) rfl rfl (.inl rfl) rfl (by kernel_rfl) ⟨[.row v 3 1 n (List.map vN l7)], H30⟩ (fun wX hSX => hSX.elim fun LX HX => op_move rfl ⟨rfl, rfl⟩) ?_
          refine WH.take (i := 7) (v := (vN (k - 1))) rfl rfl (.inl rfl) rfl (by kernel_rfl) ⟨[.row v 3 1 n (List.map vN l7)], H30⟩ (fun wX hSX => hSX.elim fun LX HX => op_subN (b := 1) rfl rfl (by omega) (by omega) ⟨rfl, rfl⟩) ?_
          refine WH.take (i := 8) (v := (.pointer (some (sp v (k - 1))))) rfl rfl (.inl rfl) rfl (by kernel_rfl) ⟨[.row v 3 1 n (List.map vN l7)], H30⟩ (fun wX hSX => hSX.elim fun LX HX => op_indexAddr1W Try.underlying64 Fa.I3 rfl (H30.arrR (i := 0) rfl) rfl (by omega) ⟨rfl, rfl⟩) ?_
          refine WH.take (i := 10) (v := v) rfl rfl (.inl rfl) rfl (by kernel_rfl) ⟨[.row v 3 1 n (List.map vN l7)], H30⟩ (fun wX hSX => hSX.elim fun LX HX => op_move rfl ⟨rfl, rfl⟩) ?_
          refine WH.take (i := 11) (v := (vN k)) rfl rfl (.inl rfl) rfl (by kernel_rfl) ⟨[.row v 3 1 n (List.map vN l7)], H30⟩ (fun wX hSX => hSX.elim fun LX HX => op_move rfl ⟨rfl, rfl⟩) ?_
          refine WH.take (i := 12) (v := (.pointer (some (sp v k)))) rfl rfl (.inl rfl) rfl (by kernel_rfl) ⟨[.row v 3 1 n (List.map vN l7)], H30⟩ (fun wX hSX => hSX.elim fun LX HX => op_indexAddr1W Try.underlying64 Fa.I3 rfl (H30.arrR (i := 0) rfl) rfl (by omega) ⟨rfl, rfl⟩) ?_
          refine WH.named (fun W hW => ?_)
          have st23_5 : ∀ (wS : World), Owl.Own T w wS [.row v 3 1 n (List.map vN ((l7.set k (l7.getD (k - 1) 0)).set (k - 1) (l7.getD k 0)))] → W 0 #[tt, tt, tt, tt, tt, tt, tt, tt, tt, tt, tt, tt, tt, tt, tt, tt, tt, tt] [(0, v), (1, (vN a)), (2, (vN b)), (7, (vN i3)), (8, (vN c)), (10, (vN k)), (101, (vN k)), (102, (vN b)), (103, (.bool (decide (k < b)))), (106, v), (107, (vN k)), (108, (.pointer (some (sp v k)))), (109, (vN (l7.getD k 0))), (110, v), (111, (vN k)), (112, (vN (k - 1))), (113, (.pointer (some (sp v (k - 1))))), (114, (vN (l7.getD (k - 1) 0))), (115, (.bool (ltN (l7.getD k 0) (l7.getD (k - 1) 0)))), (116, (.bool (!(ltN (l7.getD k 0) (l7.getD (k - 1) 0))))), (117, v), (118, (vN k)), (119, v), (120, (vN k)), (121, (vN (k - 1))), (122, v), (123, (vN k)), (124, (vN (k - 1))), (125, (.pointer (some (sp v (k - 1))))), (126, (vN (l7.getD (k - 1) 0))), (127, v), (128, (vN k)), (129, (.pointer (some (sp v k)))), (130, (vN (l7.getD k 0))), (131, (.pointer (some (sp v k)))), (132, (.pointer (some (sp v (k - 1)))))] wS := by
           intro wS HS
           rw [hW]
           refine WH.done (by kernel_rfl) ?_
           refine WQ.inNormal ?_
           refine WQ.next ?_
           refine WC.region ?_
           refine wo (op_move rfl ?_)
           refine wo (op_addN (b := 1) rfl rfl (by omega) ?_)
           refine wo (op_assign rfl ?_)
           refine WL.nil ?_
           exact WQ.round (k + 1, swapL 0 l7 k (k - 1)) ⟨⟨by omega, by omega, hs7.step (by omega) (by omega) (by omega) (by omega), sort_keep (b := b) (by omega) ho7 (Sw.one (by omega) (by omega) (by omega) (by omega)), pre_sw (by omega) hp7 (Sw.one (by omega) (by omega) (by omega) (by omega))⟩, HS⟩ ⟨rfl, rfl, rfl, rfl, rfl, rfl, trivial⟩ (by show b - (k + 1) < b - k; omega)
          have st23_4 : ∀ (wS : World), Owl.Own T w wS [.row v 3 1 n (List.map vN (l7.set k (l7.getD (k - 1) 0)))] → W 1 #[tt, tt, tt, tt, tt, tt, tt, tt, tt, tt, tt, tt, tt, tt, tt, tt, tt, ff] [(0, v), (1, (vN a)), (2, (vN b)), (7, (vN i3)), (8, (vN c)), (10, (vN k)), (101, (vN k)), (102, (vN b)), (103, (.bool (decide (k < b)))), (106, v), (107, (vN k)), (108, (.pointer (some (sp v k)))), (109, (vN (l7.getD k 0))), (110, v), (111, (vN k)), (112, (vN (k - 1))), (113, (.pointer (some (sp v (k - 1))))), (114, (vN (l7.getD (k - 1) 0))), (115, (.bool (ltN (l7.getD k 0) (l7.getD (k - 1) 0)))), (116, (.bool (!(ltN (l7.getD k 0) (l7.getD (k - 1) 0))))), (117, v), (118, (vN k)), (119, v), (120, (vN k)), (121, (vN (k - 1))), (122, v), (123, (vN k)), (124, (vN (k - 1))), (125, (.pointer (some (sp v (k - 1))))), (126, (vN (l7.getD (k - 1) 0))), (127, v), (128, (vN k)), (129, (.pointer (some (sp v k)))), (130, (vN (l7.getD k 0))), (131, (.pointer (some (sp v k)))), (132, (.pointer (some (sp v (k - 1)))))] wS := by
           intro wS HS
           rw [hW]
           refine WH.all1 (i := 17) (by kernel_rfl) ?_
           ·
            refine WHS.op (i := 17) rfl (.inl rfl) rfl (op_storeRM (i := 0) (f := vN) (l := (l7.set k (l7.getD (k - 1) 0))) (c := (l7.getD k 0)) HS rfl rfl rfl (by omega) rfl Fa.I3 (fun w41341 H41341 => ?_))
            refine ⟨⟨[.row v 3 1 n (List.map vN ((l7.set k (l7.getD (k - 1) 0)).set (k - 1) (l7.getD k 0)))], H41341⟩, ?_⟩
            have hq := st23_5 w41341 H41341
            rw [hW] at hq
            exact WH.cv hq
          have st23_3 : ∀ (wS : World), Owl.Own T w wS [.row v 3 1 n (List.map vN l7)] → W 3 #[tt, tt, tt, tt, tt, tt, tt, tt, tt, tt, tt, tt, tt, tt, tt, ff, ff, ff] [(0, v), (1, (vN a)), (2, (vN b)), (7, (vN i3)), (8, (vN c)), (10, (vN k)), (101, (vN k)), (102, (vN b)), (103, (.bool (decide (k < b)))), (106, v), (107, (vN k)), (108, (.pointer (some (sp v k)))), (109, (vN (l7.getD k 0))), (110, v), (111, (vN k)), (112, (vN (k - 1))), (113, (.pointer (some (sp v (k - 1))))), (114, (vN (l7.getD (k - 1) 0))), (115, (.bool (ltN (l7.getD k 0) (l7.getD (k - 1) 0)))), (116, (.bool (!(ltN (l7.getD k 0) (l7.getD (k - 1) 0))))), (117, v), (118, (vN k)), (119, v), (120, (vN k)), (121, (vN (k - 1))), (122, v), (123, (vN k)), (124, (vN (k - 1))), (125, (.pointer (some (sp v (k - 1))))), (126, (vN (l7.getD (k - 1) 0))), (127, v), (128, (vN k)), (129, (.pointer (some (sp v k)))), (130, (vN (l7.getD k 0))), (131, (.pointer (some (sp v k))))] wS := by
           intro wS HS
           rw [hW]
           refine WH.all1 (i := 15) (by kernel_rfl) ?_
           ·
            refine WHS.op (i := 15) rfl (.inl rfl) rfl (op_storeRM (i := 0) (f := vN) (l := l7) (c := (l7.getD (k - 1) 0)) HS rfl rfl rfl (by omega) rfl Fa.I3 (fun w41301 H41301 => ?_))
            refine ⟨⟨[.row v 3 1 n (List.map vN (l7.set k (l7.getD (k - 1) 0)))], H41301⟩, ?_⟩
            refine WH.take (i := 16) (v := (.pointer (some (sp v (k - 1))))) rfl rfl (.inl rfl) rfl (by kernel_rfl) ⟨[.row v 3 1 n (List.map vN (l7.set k (l7.getD (k - 1) 0)))], H41301⟩ (fun wX hSX => hSX.elim fun LX HX => op_indexAddr1W Try.underlying64 Fa.I3 rfl (H41301.arrR (i := 0) rfl) rfl (by omega) ⟨rfl, rfl⟩) ?_
            have hq := st23_4 w41301 H41301
            rw [hW] at hq
            exact WH.cv hq
          have st23_1 : ∀ (wS : World), Owl.Own T w wS [.row v 3 1 n (List.map vN l7)] → W 5 #[tt, tt, tt, tt, tt, tt, tt, tt, tt, tt, tt, tt, tt, ff, ff, ff, ff, ff] [(0, v), (1, (vN a)), (2, (vN b)), (7, (vN i3)), (8, (vN c)), (10, (vN k)), (101, (vN k)), (102, (vN b)), (103, (.bool (decide (k < b)))), (106, v), (107, (vN k)), (108, (.pointer (some (sp v k)))), (109, (vN (l7.getD k 0))), (110, v), (111, (vN k)), (112, (vN (k - 1))), (113, (.pointer (some (sp v (k - 1))))), (114, (vN (l7.getD (k - 1) 0))), (115, (.bool (ltN (l7.getD k 0) (l7.getD (k - 1) 0)))), (116, (.bool (!(ltN (l7.getD k 0) (l7.getD (k - 1) 0))))), (117, v), (118, (vN k)), (119, v), (120, (vN k)), (121, (vN (k - 1))), (122, v), (123, (vN k)), (124, (vN (k - 1))), (125, (.pointer (some (sp v (k - 1))))), (126, (vN (l7.getD (k - 1) 0))), (127, v), (128, (vN k)), (129, (.pointer (some (sp v k))))] wS := by
           intro wS HS
           rw [hW]
           refine WH.all1 (i := 13) (by kernel_rfl) ?_
           ·
            refine WHS.op (i := 13) rfl (.inl rfl) rfl (op_load rfl ((HS.arrR (i := 0) rfl).at (get_map vN 0 (Arr.ltM (HS.arrR (i := 0) rfl) (by omega)))) Try.underlying3 rfl ?_)
            refine ⟨⟨[.row v 3 1 n (List.map vN l7)], HS⟩, ?_⟩
            refine WH.take (i := 14) (v := (.pointer (some (sp v k)))) rfl rfl (.inl rfl) rfl (by kernel_rfl) ⟨[.row v 3 1 n (List.map vN l7)], HS⟩ (fun wX hSX => hSX.elim fun LX HX => op_indexAddr1W Try.underlying64 Fa.I3 rfl (HS.arrR (i := 0) rfl) rfl (by omega) ⟨rfl, rfl⟩) ?_
            have hq := st23_3 wS HS
            rw [hW] at hq
            exact WH.cv hq
          have st23_2 : ∀ (wS : World), Owl.Own T w wS [.row v 3 1 n (List.map vN l7)] → W 5 #[tt, tt, tt, tt, tt, tt, tt, tt, tt, ff, tt, tt, tt, tt, ff, ff, ff, ff] [(0, v), (1, (vN a)), (2, (vN b)), (7, (vN i3)), (8, (vN c)), (10, (vN k)), (101, (vN k)), (102, (vN b)), (103, (.bool (decide (k < b)))), (106, v), (107, (vN k)), (108, (.pointer (some (sp v k)))), (109, (vN (l7.getD k 0))), (110, v), (111, (vN k)), (112, (vN (k - 1))), (113, (.pointer (some (sp v (k - 1))))), (114, (vN (l7.getD (k - 1) 0))), (115, (.bool (ltN (l7.getD k 0) (l7.getD (k - 1) 0)))), (116, (.bool (!(ltN (l7.getD k 0) (l7.getD (k - 1) 0))))), (117, v), (118, (vN k)), (119, v), (120, (vN k)), (121, (vN (k - 1))), (122, v), (123, (vN k)), (124, (vN (k - 1))), (125, (.pointer (some (sp v (k - 1))))), (127, v), (128, (vN k)), (129, (.pointer (some (sp v k)))), (130, (vN (l7.getD k 0)))] wS := by
           intro wS HS
           rw [hW]
           refine WH.all1 (i := 9) (by kernel_rfl) ?_
           ·
            refine WHS.op (i := 9) rfl (.inl rfl) rfl (op_load rfl ((HS.arrR (i := 0) rfl).at (get_map vN 0 (Arr.ltM (HS.arrR (i := 0) rfl) (by omega)))) Try.underlying3 rfl ?_)
            refine ⟨⟨[.row v 3 1 n (List.map vN l7)], HS⟩, ?_⟩
            refine WH.take (i := 14) (v := (.pointer (some (sp v k)))) rfl rfl (.inl rfl) rfl (by kernel_rfl) ⟨[.row v 3 1 n (List.map vN l7)], HS⟩ (fun wX hSX => hSX.elim fun LX HX => op_indexAddr1W Try.underlying64 Fa.I3 rfl (HS.arrR (i := 0) rfl) rfl (by omega) ⟨rfl, rfl⟩) ?_
            have hq := st23_3 wS HS
            rw [hW] at hq
            exact WH.cv hq
          have st23_0 : ∀ (wS : World), Owl.Own T w wS [.row v 3 1 n (List.map vN l7)] → W 6 #[tt, tt, tt, tt, tt, tt, tt, tt, tt, ff, tt, tt, tt, ff, ff, ff, ff, ff] [(0, v), (1, (vN a)), (2, (vN b)), (7, (vN i3)), (8, (vN c)), (10, (vN k)), (101, (vN k)), (102, (vN b)), (103, (.bool (decide (k < b)))), (106, v), (107, (vN k)), (108, (.pointer (some (sp v k)))), (109, (vN (l7.getD k 0))), (110, v), (111, (vN k)), (112, (vN (k - 1))), (113, (.pointer (some (sp v (k - 1))))), (114, (vN (l7.getD (k - 1) 0))), (115, (.bool (ltN (l7.getD k 0) (l7.getD (k - 1) 0)))), (116, (.bool (!(ltN (l7.getD k 0) (l7.getD (k - 1) 0))))), (117, v), (118, (vN k)), (119, v), (120, (vN k)), (121, (vN (k - 1))), (122, v), (123, (vN k)), (124, (vN (k - 1))), (125, (.pointer (some (sp v (k - 1))))), (127, v), (128, (vN k)), (129, (.pointer (some (sp v k))))] wS := by
           intro wS HS
           rw [hW]
           refine WH.all2 (i := 9) (j := 13) (by kernel_rfl) ?_ ?_
           ·
            refine WHS.op (i := 9) rfl (.inl rfl) rfl (op_load rfl ((HS.arrR (i := 0) rfl).at (get_map vN 0 (Arr.ltM (HS.arrR (i := 0) rfl) (by omega)))) Try.underlying3 rfl ?_)
            refine ⟨⟨[.row v 3 1 n (List.map vN l7)], HS⟩, ?_⟩
            have hq := st23_1 wS HS
            rw [hW] at hq
            exact WH.cv hq
           ·
            refine WHS.op (i := 13) rfl (.inl rfl) rfl (op_load rfl ((HS.arrR (i := 0) rfl).at (get_map vN 0 (Arr.ltM (HS.arrR (i := 0) rfl) (by omega)))) Try.underlying3 rfl ?_)
            refine ⟨⟨[.row v 3 1 n (List.map vN l7)], HS⟩, ?_⟩
            have hq := st23_2 wS HS
            rw [hW] at hq
            exact WH.cv hq
          have hq := st23_0 w30 H30
          rw [hW] at hq ⊢
          exact WH.cv hq
        ·
         have hc26 := of_decide_eq_false hb26
         refine WC.exit ?_
         refine WQ.thenExit ?_
         refine WQ.thenExit ?_
         refine WQ.inHere ?_
         refine WQ.inNormal ?_
         refine WQ.next ?_
         refine WC.region ?_
         refine wo (op_move rfl ?_)
         refine wo (op_addN (b := 1) rfl rfl (by omega) ?_)
         refine wo (op_assign rfl ?_)
         refine WL.nil ?_
         exact WQ.round (i3, c + 1, l7) ⟨⟨by omega, by omega, by omega, hs7, ho7, hp7⟩, H25⟩ ⟨rfl, rfl, rfl, rfl, rfl, trivial⟩ (by show 5 - (c + 1) < 5 - c; omega)
       ·
        have hc24 := of_decide_eq_false hb24
        refine WC.skip ?_
        refine WQ.inNormal ?_
        refine WQ.next ?_
        refine WC.region ?_
        refine wo (op_move rfl ?_)
        refine wo (op_addN (b := 1) rfl rfl (by omega) ?_)
        refine wo (op_assign rfl ?_)
        refine WL.nil ?_
        exact WQ.round (i3, c + 1, l4) ⟨⟨by omega, by omega, by omega, hs4, ho4, hp4⟩, H23⟩ ⟨rfl, rfl, rfl, rfl, rfl, trivial⟩ (by show 5 - (c + 1) < 5 - c; omega)
 ·
  have hc2 := of_decide_eq_false hb2
  refine WC.exit ?_
  refine WQ.thenExit ?_
  refine WQ.thenExit ?_
  refine WQ.inHere ?_
  refine WQ.next ?_
  refine ws ?_
  refine wo (op_assign rfl ?_)
  refine wn ?_
  refine WC.ret ?_
  refine WQ.out (.tmp rfl .nil) ?_
  exact ⟨_, _, rfl, ⟨hs1, fun h => by cases h⟩, H1⟩
set_option maxHeartbeats 4000000 in
set_option maxRecDepth 100000 in
theorem pdq_step (v : Value) (n : Nat) (l : List Nat) (a b : Nat) (m : Nat) (T : List Nat) (w : World) (H : Owl.Own T w w [.row v 3 1 n (List.map vN l)]) (hn : l.length = n) (hN : n < 2 ^ 61) (hab : a ≤ b) (hb : b ≤ n) (hm : m < 2 ^ 62) (hpre : PreS ltN 0 a b l) (IH : ∀ (l2 : List Nat) (a2 b2 m2 : Nat) (T2 : List Nat) (w2 : World), Owl.Own T2 w2 w2 [.row v 3 1 n (List.map vN l2)] → l2.length = n → b2 - a2 < b - a → a2 ≤ b2 → b2 ≤ n → m2 < 2 ^ 62 → PreS ltN 0 a2 b2 l2 → Calls Try.prog 125 #[v, vN a2, vN b2, vN m2] w2 (fun e w3 => ∃ l3 : List Nat, e = .returned undef ∧ (Sw 0 a2 b2 l2 l3 ∧ SortS ltN 0 a2 b2 l3) ∧ Owl.Own T2 w2 w3 [.row v 3 1 n (List.map vN l3)])) :
  Calls Try.prog 125 #[v, (vN a), (vN b), (vN m)] w (fun e w' => ∃ (l' : List Nat), e = .returned undef ∧ (Sw 0 a b l l' ∧ SortS ltN 0 a b l') ∧ Owl.Own T w w' [.row v 3 1 n (List.map vN l')]) := by
 refine enter (args := [v, (vN a), (vN b), (vN m)]) Try.func125 rfl rfl ?_
 refine ws ?_
 refine wo (op_assign rfl ?_)
 refine wn ?_
 refine ws ?_
 refine wo (op_assign rfl ?_)
 refine wn ?_
 refine WC.block ?_
 refine WC.loop (α := Nat × Nat × Nat × Bool × Bool × List Nat) (fun (a1, b1, m1, p1, q1, l1) => [(0, v), (1, (vN a1)), (2, (vN b1)), (3, (vN m1)), (8, (.bool p1)), (9, (.bool q1))]) (fun (a1, b1, m1, p1, q1, l1) w' => (a ≤ a1 ∧ a1 ≤ b1 ∧ b1 ≤ b ∧ m1 < 2 ^ 62 ∧ Sw 0 a b l l1 ∧ OutS ltN 0 a b a1 b1 l1 ∧ PreS ltN 0 a1 b1 l1) ∧ Owl.Own T w w' [.row v 3 1 n (List.map vN l1)]) (fun (a1, b1, m1, p1, q1, l1) => b1 - a1) (a, b, m, true, true, l) ⟨⟨Nat.le_refl _, hab, Nat.le_refl _, hm, .refl _, out_init, hpre⟩, H⟩ ⟨rfl, rfl, rfl, rfl, rfl, rfl, trivial⟩ ?_
 rintro ⟨a1, b1, m1, p1, q1, l1⟩ w1 ⟨⟨ha1, hab1, hb1, hm0, hs1, ho1, hpr1⟩, H1⟩
 show WC _ _ _ _ _ [(0, v), (1, (vN a1)), (2, (vN b1)), (3, (vN m1)), (8, (.bool p1)), (9, (.bool q1))] _
 have hL1 := hs1.len
 refine WC.block ?_
 refine ws ?_
 refine wo (op_move rfl ?_)
 refine wo (op_move rfl ?_)
 refine wo (op_subN rfl rfl (by omega) (by omega) ?_)
 refine wo (op_assign rfl ?_)
 refine wn ?_
 refine WC.seq ?_
 refine ws ?_
 refine wo (op_move rfl ?_)
 refine wo (op_leqN (b := 12) rfl rfl ?_)
 refine wn ?_
 refine WC.cond rfl (fun (hb2 : (decide ((b1 - a1) ≤ 12)) = true) => ?_) (fun (hb2 : (decide ((b1 - a1) ≤ 12)) = false) => ?_)
 ·
  have hc2 := of_decide_eq_true hb2
  refine ws ?_
  refine wo (op_move rfl ?_)
  refine wo (op_move rfl ?_)
  refine wo (op_move rfl ?_)
  refine wo (op_callF Fa.C143 rfl ((ins_ok v n l1 a1 b1 _ _ (H1.part [0] rfl rfl) (by omega) (by omega) (by omega) (by omega)).mono (fun e w3 hq => ?_)))
  obtain ⟨l3, rfl, hc3, hq3⟩ := hq
  refine ⟨_, rfl, ?_⟩
  have H3 : Owl.Own T w w3 [.row v 3 1 n (List.map vN l3)] := H1.splice [0] [.row v 3 1 n (List.map vN l3)] [] rfl rfl hq3 (Fits.solid True.intro Fits.nil)
  refine wn ?_
  refine WC.ret ?_
  refine WQ.thenRet ?_
  refine WQ.inRet ?_
  refine WQ.thenRet ?_
  refine WQ.inRet ?_
  refine WQ.out .nil ?_
  exact ⟨_, rfl, ⟨hs1.trans (hc3.1.mono (by omega) (by omega)), out_done (out_sw (by omega) (by omega) (by omega) ho1 hc3.1) hc3.2⟩, H3⟩
 ·
  have hc2 := of_decide_eq_false hb2
  refine WC.skip ?_
  refine WQ.next ?_
  refine WC.seq ?_
  refine ws ?_
  refine wo (op_move rfl ?_)
  refine wo (op_eqlN (b := 0) rfl rfl ?_)
  refine wn ?_
  refine WC.cond rfl (fun (hb4 : (decide (m1 = 0)) = true) => ?_) (fun (hb4 : (decide (m1 = 0)) = false) => ?_)
  ·
   have hc4 := of_decide_eq_true hb4
   refine ws ?_
   refine wo (op_move rfl ?_)
   refine wo (op_move rfl ?_)
   refine wo (op_move rfl ?_)
   refine wo (op_callF Fa.C144 rfl ((heap_ok v n l1 a1 b1 _ _ (H1.part [0] rfl rfl) (by omega) (by omega) (by omega) (by omega)).mono (fun e w5 hq => ?_)))
   obtain ⟨l5, rfl, hc5, hq5⟩ := hq
   refine ⟨_, rfl, ?_⟩
   have H5 : Owl.Own T w w5 [.row v 3 1 n (List.map vN l5)] := H1.splice [0] [.row v 3 1 n (List.map vN l5)] [] rfl rfl hq5 (Fits.solid True.intro Fits.nil)
   refine wn ?_
   refine WC.ret ?_
   refine WQ.thenRet ?_
   refine WQ.inRet ?_
   refine WQ.thenRet ?_
   refine WQ.inRet ?_
   refine WQ.out .nil ?_
   exact ⟨_, rfl, ⟨hs1.trans (hc5.1.mono (by omega) (by omega)), out_done (out_sw (by omega) (by omega) (by omega) ho1 hc5.1) hc5.2⟩, H5⟩
  ·
   have hc4 := of_decide_eq_false hb4
   refine WC.skip ?_
   refine WQ.next ?_
   refine WC.cut (α := Nat × List Nat) (fun (m2, l2) => [(0, v), (1, (vN a1)), (2, (vN b1)), (3, (vN m2)), (8, (.bool p1)), (9, (.bool q1)), (10, (vN (b1 - a1)))]) (fun (m2, l2) w' => (m2 < 2 ^ 62 ∧ Sw 0 a1 b1 l1 l2) ∧ Owl.Own T w w' [.row v 3 1 n (List.map vN l2)]) ?_ ?_
   ·
    refine ws ?_
    refine wo (op_move rfl ?_)
    refine wo (op_not rfl ?_)
    refine wn ?_
    refine WC.cond rfl (fun (hb6 : (!p1) = true) => ?_) (fun (hb6 : (!p1) = false) => ?_)
    ·
     have hn6 := (Bool.not_eq_true' _).mp hb6
     refine ws ?_
     refine wo (op_move rfl ?_)
     refine wo (op_move rfl ?_)
     refine wo (op_move rfl ?_)
     refine wo (op_callF Fa.C145 rfl ((brk_ok v n l1 a1 b1 _ _ (H1.part [0] rfl rfl) (by omega) (by omega) (by omega) (by omega)).mono (fun e w7 hq => ?_)))
     obtain ⟨l7, rfl, hc7, hq7⟩ := hq
     refine ⟨_, rfl, ?_⟩
     have H7 : Owl.Own T w w7 [.row v 3 1 n (List.map vN l7)] := H1.splice [0] [.row v 3 1 n (List.map vN l7)] [] rfl rfl hq7 (Fits.solid True.intro Fits.nil)
     refine wn ?_
     refine WC.region ?_
     refine wo (op_move rfl ?_)
     refine wo (op_subN (b := 1) rfl rfl (by omega) (by omega) ?_)
     refine wo (op_assign rfl ?_)
     refine WL.nil ?_
     exact WQ.here ((m1 - 1), l7) ⟨⟨by omega, hc7⟩, H7⟩ ⟨rfl, rfl, rfl, rfl, rfl, rfl, rfl, trivial⟩
    ·
     have hn6 := (Bool.not_eq_false' _).mp hb6
     refine WC.skip ?_
     exact WQ.here (m1, l1) ⟨⟨by omega, .refl _⟩, H1⟩ ⟨rfl, rfl, rfl, rfl, rfl, rfl, rfl, trivial⟩
   ·
    rintro ⟨m2, l2⟩ w8 ⟨⟨hm9, hs2⟩, H8⟩
    show WC _ _ _ _ _ [(0, v), (1, (vN a1)), (2, (vN b1)), (3, (vN m2)), (8, (.bool p1)), (9, (.bool q1)), (10, (vN (b1 - a1)))] _
    have hL2 := hs2.len
    refine ws ?_
    refine wo (op_move rfl ?_)
    refine wo (op_move rfl ?_)
    refine wo (op_move rfl ?_)
    refine wo (op_callF Fa.C146 rfl ((piv_ok v n l2 a1 b1 _ _ (H8.part [0] rfl rfl) (by omega) (by omega) (by omega) (by omega)).mono (fun e w9 hq => ?_)))
    obtain ⟨p9, h9, rfl, hc9, hq9⟩ := hq
    refine ⟨_, rfl, ?_⟩
    have H9 : Owl.Own T w w9 [.row v 3 1 n (List.map vN l2)] := H8.splice [0] [.row v 3 1 n (List.map vN l2)] [] rfl rfl hq9 (Fits.solid True.intro Fits.nil)
    refine wo (op_move rfl ?_)
    refine wo (op_extract rfl rfl ?_)
    refine wo (op_extract rfl rfl ?_)
    refine wo (op_assign rfl ?_)
    refine wo (op_assign rfl ?_)
    refine wn ?_
    refine WC.cut (α := Nat × Nat × List Nat) (fun (pv, h, l3) => [(0, v), (1, (vN a1)), (2, (vN b1)), (3, (vN m2)), (8, (.bool p1)), (9, (.bool q1)), (10, (vN (b1 - a1))), (11, (vN pv)), (12, (vN h))]) (fun (pv, h, l3) w' => (a1 ≤ pv ∧ pv < b1 ∧ Sw 0 a1 b1 l1 l3) ∧ Owl.Own T w w' [.row v 3 1 n (List.map vN l3)]) ?_ ?_
    ·
     refine ws ?_
     refine wo (op_move rfl ?_)
     refine wo (op_eqlN (b := 2) rfl rfl ?_)
     refine wn ?_
     refine WC.cond rfl (fun (hb10 : (decide (h9 = 2)) = true) => ?_) (fun (hb10 : (decide (h9 = 2)) = false) => ?_)
     ·
      have hc10 := of_decide_eq_true hb10
      refine ws ?_
      refine wo (op_move rfl ?_)
      refine wo (op_move rfl ?_)
      refine wo (op_move rfl ?_)
      refine wo (op_callF Fa.C147 rfl ((rev_ok v n l2 a1 b1 _ _ (H9.part [0] rfl rfl) (by omega) (by omega) (by omega) (by omega)).mono (fun e w11 hq => ?_)))
      obtain ⟨l11, rfl, hc11, hq11⟩ := hq
      refine ⟨_, rfl, ?_⟩
      have H11 : Owl.Own T w w11 [.row v 3 1 n (List.map vN l11)] := H9.splice [0] [.row v 3 1 n (List.map vN l11)] [] rfl rfl hq11 (Fits.solid True.intro Fits.nil)
      refine wn ?_
      refine ws ?_
      refine wo (op_move rfl ?_)
      refine wo (op_subN (b := 1) rfl rfl (by omega) (by omega) ?_)
      refine wo (op_move rfl ?_)
      refine wo (op_move rfl ?_)
      refine wo (op_subN rfl rfl (by omega) (by omega) ?_)
      refine wo (op_subN rfl rfl (by omega) (by omega) ?_)
      refine wo (op_assign rfl ?_)
      refine wn ?_
      refine WC.region ?_
      refine wo (op_assign rfl ?_)
      refine WL.nil ?_
      exact WQ.here (((b1 - 1) - (p9 - a1)), 1, l11) ⟨⟨by omega, by omega, hs2.trans hc11⟩, H11⟩ ⟨rfl, rfl, rfl, rfl, rfl, rfl, rfl, rfl, rfl, trivial⟩
     ·
      have hc10 := of_decide_eq_false hb10
      refine WC.skip ?_
      exact WQ.here (p9, h9, l2) ⟨⟨by omega, by omega, hs2⟩, H9⟩ ⟨rfl, rfl, rfl, rfl, rfl, rfl, rfl, rfl, rfl, trivial⟩
    ·
     rintro ⟨pv, h, l3⟩ w12 ⟨⟨hv1, hv2, hs3⟩, H12⟩
     show WC _ _ _ _ _ [(0, v), (1, (vN a1)), (2, (vN b1)), (3, (vN m2)), (8, (.bool p1)), (9, (.bool q1)), (10, (vN (b1 - a1))), (11, (vN pv)), (12, (vN h))] _
     have hL3 := hs3.len
     refine WC.cut (α := List Nat) (fun l4 => [(0, v), (1, (vN a1)), (2, (vN b1)), (3, (vN m2)), (8, (.bool p1)), (9, (.bool q1)), (10, (vN (b1 - a1))), (11, (vN pv))]) (fun l4 w' => (Sw 0 a1 b1 l1 l4) ∧ Owl.Own T w w' [.row v 3 1 n (List.map vN l4)]) ?_ ?_
     ·
      refine ws ?_
      refine wo (op_move rfl ?_)
      refine wo (op_move rfl ?_)
      refine WL.split (t := 62) rfl (fun (hb13 : p1 = true) => ?_) (fun (hb13 : p1 = false) => ?_)
      ·
       refine WL.yes rfl rfl rfl hb13 rfl (op_move rfl ?_)
       refine wo (op_pickT rfl hb13 rfl ?_)
       refine wo (op_move rfl ?_)
       refine WL.split (t := 65) rfl (fun (hb14 : q1 = true) => ?_) (fun (hb14 : q1 = false) => ?_)
       ·
        refine WL.yes rfl rfl rfl hb14 rfl (op_move rfl ?_)
        refine WL.yes rfl rfl rfl hb14 rfl (op_eqlN (b := 1) rfl rfl ?_)
        refine wo (op_pickT rfl hb14 rfl ?_)
        refine wn ?_
        refine WC.cond rfl (fun (hb15 : (decide (h = 1)) = true) => ?_) (fun (hb15 : (decide (h = 1)) = false) => ?_)
        ·
         have hc15 := of_decide_eq_true hb15
         refine ws ?_
         refine wo (op_move rfl ?_)
         refine wo (op_move rfl ?_)
         refine wo (op_move rfl ?_)
         refine wo (op_callF Fa.C148 rfl ((pins_ok v n l3 a1 b1 _ _ (H12.part [0] rfl rfl) (by omega) (by omega) (by omega) (by omega) (pre_sw (by omega) hpr1 hs3)).mono (fun e w16 hq => ?_)))
         obtain ⟨l16, r16, rfl, hc16, hq16⟩ := hq
         refine ⟨_, rfl, ?_⟩
         have H16 : Owl.Own T w w16 [.row v 3 1 n (List.map vN l16)] := H12.splice [0] [.row v 3 1 n (List.map vN l16)] [] rfl rfl hq16 (Fits.solid True.intro Fits.nil)
         refine wn ?_
         refine WC.cond rfl (fun (hb17 : r16 = true) => ?_) (fun (hb17 : r16 = false) => ?_)
         ·
          refine WC.ret ?_
          refine WQ.thenRet ?_
          refine WQ.inRet ?_
          refine WQ.thenRet ?_
          refine WQ.inRet ?_
          refine WQ.out .nil ?_
          exact ⟨_, rfl, ⟨hs1.trans ((hs3.trans hc16.1).mono (by omega) (by omega)), out_done (out_sw (by omega) (by omega) (by omega) ho1 (hs3.trans hc16.1)) (hc16.2 hb17)⟩, H16⟩
         ·
          refine WC.skip ?_
          exact WQ.here l16 ⟨(hs3.trans hc16.1), H16⟩ ⟨rfl, rfl, rfl, rfl, rfl, rfl, rfl, rfl, trivial⟩
        ·
         have hc15 := of_decide_eq_false hb15
         refine WC.skip ?_
         exact WQ.here l3 ⟨hs3, H12⟩ ⟨rfl, rfl, rfl, rfl, rfl, rfl, rfl, rfl, trivial⟩
       ·
        refine WL.no rfl rfl rfl hb14 rfl ?_
        refine WL.no rfl rfl rfl hb14 rfl ?_
        refine wo (op_pickF rfl hb14 rfl ?_)
        refine wn ?_
        refine WC.no rfl rfl ?_
        refine WC.skip ?_
        exact WQ.here l3 ⟨hs3, H12⟩ ⟨rfl, rfl, rfl, rfl, rfl, rfl, rfl, rfl, trivial⟩
      ·
       refine WL.no rfl rfl rfl hb13 rfl ?_
       refine wo (op_pickF rfl hb13 rfl ?_)
       refine wo (op_move rfl ?_)
       refine WL.no rfl rfl rfl rfl rfl ?_
       refine WL.no rfl rfl rfl rfl rfl ?_
       refine wo (op_pickF rfl rfl rfl ?_)
       refine wn ?_
       refine WC.no rfl rfl ?_
       refine WC.skip ?_
       exact WQ.here l3 ⟨hs3, H12⟩ ⟨rfl, rfl, rfl, rfl, rfl, rfl, rfl, rfl, trivial⟩
     ·
      rintro l4 w18 ⟨hs4, H18⟩
      show WC _ _ _ _ _ [(0, v), (1, (vN a1)), (2, (vN b1)), (3, (vN m2)), (8, (.bool p1)), (9, (.bool q1)), (10, (vN (b1 - a1))), (11, (vN pv))] _
      have hL4 := hs4.len
      have hO4 := out_sw (by omega) (by omega) (by omega) ho1 hs4
      have hP4 := pre_sw (by omega) hpr1 hs4
      refine WC.seq ?_
      refine WC.seq ?_
      refine bsplit (fun (hb19 : (decide (a1 > 0)) = true) => ?_) (fun (hb19 : (decide (a1 > 0)) = false) => ?_)
      ·
       have hc19 := of_decide_eq_true hb19
       refine WC.draw 15 Fa.M H18 (HW.op rfl (fun w1 H1 => op_move rfl ⟨rfl, Fr.refl _ _⟩) (HW.op rfl (fun w1 H1 => op_gtrN (b := 0) rfl rfl ⟨rfl, Fr.refl _ _⟩) (HW.op rfl (fun w1 H1 => op_move rfl ⟨rfl, Fr.refl _ _⟩) (HW.yes rfl rfl rfl hb19 (fun w1 H1 => op_move rfl ⟨rfl, Fr.refl _ _⟩) (HW.yes rfl rfl rfl hb19 (fun w1 H1 => op_move rfl ⟨rfl, Fr.refl _ _⟩) (HW.yes rfl rfl rfl hb19 (fun w1 H1 => op_subN (b := 1) rfl rfl (by omega) (by omega) ⟨rfl, Fr.refl _ _⟩) (HW.yes rfl rfl rfl hb19 (fun w1 H1 => op_indexAddr1 Try.underlying64 Fa.I3 rfl (H1.arrR (i := 0) rfl) rfl (by omega) ⟨rfl, Fr.refl _ _⟩) (HW.yes rfl rfl rfl hb19 (fun w1 H1 => op_load rfl ((H1.arrR (i := 0) rfl).at (get_map vN 0 (Arr.ltM (H1.arrR (i := 0) rfl) (by omega)))) Try.underlying3 rfl ⟨rfl, Fr.refl _ _⟩) (HW.yes rfl rfl rfl hb19 (fun w1 H1 => op_move rfl ⟨rfl, Fr.refl _ _⟩) (HW.yes rfl rfl rfl hb19 (fun w1 H1 => op_move rfl ⟨rfl, Fr.refl _ _⟩) (HW.yes rfl rfl rfl hb19 (fun w1 H1 => op_indexAddr1 Try.underlying64 Fa.I3 rfl (H1.arrR (i := 0) rfl) rfl (by omega) ⟨rfl, Fr.refl _ _⟩) (HW.yes rfl rfl rfl hb19 (fun w1 H1 => op_load rfl ((H1.arrR (i := 0) rfl).at (get_map vN 0 (Arr.ltM (H1.arrR (i := 0) rfl) (by omega)))) Try.underlying3 rfl ⟨rfl, Fr.refl _ _⟩) (HW.yes rfl rfl rfl hb19 (fun w1 H1 => op_callF Fa.C149 rfl ((less_ok (l4.getD (a1 - 1) 0) (l4.getD pv 0) _).mono (fun e w2 hq => ⟨_, hq.1, rfl, hq.2⟩))) (HW.yes rfl rfl rfl hb19 (fun w1 H1 => op_not rfl ⟨rfl, Fr.refl _ _⟩) (HW.op rfl (fun w1 H1 => op_pickT rfl hb19 rfl ⟨rfl, Fr.refl _ _⟩)  HW.nil))))))))))))))) (by kernel_rfl) ?_
       intro β21 w21 H21
       refine wn ?_
       refine WC.cond rfl (fun (hb22 : (!(ltN (l4.getD (a1 - 1) 0) (l4.getD pv 0))) = true) => ?_) (fun (hb22 : (!(ltN (l4.getD (a1 - 1) 0) (l4.getD pv 0))) = false) => ?_)
       ·
        have hn22 := (Bool.not_eq_true' _).mp hb22
        refine ws ?_
        refine wo (op_move rfl ?_)
        refine wo (op_move rfl ?_)
        refine wo (op_move rfl ?_)
        refine wo (op_move rfl ?_)
        refine wo (op_callF Fa.C150 rfl ((parteq_ok v n l4 a1 b1 pv _ _ (H21.part [0] rfl rfl) (by omega) (by omega) (by omega) (by omega) (by omega)).mono (fun e w23 hq => ?_)))
        obtain ⟨l23, m23, rfl, hc23, hq23⟩ := hq
        refine ⟨_, rfl, ?_⟩
        have H23 : Owl.Own T w w23 [.row v 3 1 n (List.map vN l23)] := H21.splice [0] [.row v 3 1 n (List.map vN l23)] [] rfl rfl hq23 (Fits.solid True.intro Fits.nil)
        refine wo (op_assign rfl ?_)
        refine wn ?_
        refine ws ?_
        refine wo (op_move rfl ?_)
        refine wo (op_assign rfl ?_)
        refine wn ?_
        refine WC.exit ?_
        refine WQ.thenExit ?_
        refine WQ.inHere ?_
        have hm1 := hc23.2.1
        have hm2 := hc23.2.2.1
        have hE := eq_left ltNOK (by omega) (by omega) hO4 (by omega) hP4 (by omega) hn22 hc23.1 hc23.2
        exact WQ.round (m23, b1, m2, p1, q1, l23) ⟨⟨by omega, by omega, by omega, by omega, hs1.trans ((hs4.trans hc23.1).mono (by omega) (by omega)), hE.1, hE.2⟩, H23⟩ ⟨rfl, rfl, rfl, rfl, rfl, rfl, trivial⟩ (by show b1 - m23 < b1 - a1; omega)
       ·
        have hn22 := (Bool.not_eq_false' _).mp hb22
        refine WC.skip ?_
        refine WQ.next ?_
        refine ws ?_
        refine wo (op_move rfl ?_)
        refine wo (op_move rfl ?_)
        refine wo (op_move rfl ?_)
        refine wo (op_move rfl ?_)
        refine wo (op_callF Fa.C151 rfl ((part_ok v n l4 a1 b1 pv _ _ (H21.part [0] rfl rfl) (by omega) (by omega) (by omega) (by omega) (by omega)).mono (fun e w24 hq => ?_)))
        obtain ⟨l24, m24, f24, rfl, hc24, hq24⟩ := hq
        refine ⟨_, rfl, ?_⟩
        have H24 : Owl.Own T w w24 [.row v 3 1 n (List.map vN l24)] := H21.splice [0] [.row v 3 1 n (List.map vN l24)] [] rfl rfl hq24 (Fits.solid True.intro Fits.nil)
        refine wo (op_move rfl ?_)
        refine wo (op_extract rfl rfl ?_)
        refine wo (op_extract rfl rfl ?_)
        refine wo (op_assign rfl ?_)
        refine wo (op_assign rfl ?_)
        refine wn ?_
        refine ws ?_
        have hLP := hc24.1.len
        have hm1 := hc24.2.1
        have hm2 := hc24.2.2.1
        have hO5 := out_sw (by omega) (by omega) (by omega) hO4 hc24.1
        have hP5 := pre_sw (by omega) hP4 hc24.1
        refine wo (op_move rfl ?_)
        refine wo (op_assign rfl ?_)
        refine wn ?_
        refine ws ?_
        refine wo (op_move rfl ?_)
        refine wo (op_move rfl ?_)
        refine wo (op_subN rfl rfl (by omega) (by omega) ?_)
        refine wo (op_move rfl ?_)
        refine wo (op_move rfl ?_)
        refine wo (op_subN rfl rfl (by omega) (by omega) ?_)
        refine wo (op_assign rfl ?_)
        refine wo (op_assign rfl ?_)
        refine wn ?_
        refine ws ?_
        refine wo (op_move rfl ?_)
        refine wo (op_quoN (b := 8) rfl rfl (by omega) (by omega) ?_)
        refine wo (op_assign rfl ?_)
        refine wn ?_
        refine ws ?_
        refine wo (op_move rfl ?_)
        refine wo (op_move rfl ?_)
        refine wo (op_lssN rfl rfl ?_)
        refine wn ?_
        refine WC.cond rfl (fun (hb25 : (decide ((m24 - a1) < (b1 - m24))) = true) => ?_) (fun (hb25 : (decide ((m24 - a1) < (b1 - m24))) = false) => ?_)
        ·
         have hc25 := of_decide_eq_true hb25
         refine ws ?_
         refine wo (op_move rfl ?_)
         refine wo (op_move rfl ?_)
         refine wo (op_geqN rfl rfl ?_)
         refine wo (op_assign rfl ?_)
         refine wn ?_
         refine ws ?_
         refine wo (op_move rfl ?_)
         refine wo (op_move rfl ?_)
         refine wo (op_move rfl ?_)
         refine wo (op_move rfl ?_)
         refine wo (op_callF Fa.C125 rfl ((IH l24 a1 m24 m2 _ _ (H24.part [0] rfl rfl) (by omega) (by omega) (by omega) (by omega) (by omega) (pre_left hP5 (by omega))).mono (fun e w26 hq => ?_)))
         obtain ⟨l26, rfl, hc26, hq26⟩ := hq
         refine ⟨_, rfl, ?_⟩
         have H26 : Owl.Own T w w26 [.row v 3 1 n (List.map vN l26)] := H24.splice [0] [.row v 3 1 n (List.map vN l26)] [] rfl rfl hq26 (Fits.solid True.intro Fits.nil)
         refine wn ?_
         refine WC.region ?_
         refine wo (op_move rfl ?_)
         refine wo (op_addN (b := 1) rfl rfl (by omega) ?_)
         refine wo (op_assign rfl ?_)
         refine WL.nil ?_
         refine WQ.inNormal ?_
         have hE := part_left ltNOK (by omega) (by omega) hO5 (by omega) hc24.2 hc26.1 hc26.2
         exact WQ.round ((m24 + 1), b1, m2, (decide ((m24 - a1) ≥ ((b1 - a1) / 8))), f24, l26) ⟨⟨by omega, by omega, by omega, by omega, hs1.trans (((hs4.trans hc24.1).trans (hc26.1.mono (by omega) (by omega))).mono (by omega) (by omega)), hE.1, hE.2⟩, H26⟩ ⟨rfl, rfl, rfl, rfl, rfl, rfl, trivial⟩ (by show b1 - (m24 + 1) < b1 - a1; omega)
        ·
         have hc25 := of_decide_eq_false hb25
         refine ws ?_
         refine wo (op_move rfl ?_)
         refine wo (op_move rfl ?_)
         refine wo (op_geqN rfl rfl ?_)
         refine wo (op_assign rfl ?_)
         refine wn ?_
         refine ws ?_
         refine wo (op_move rfl ?_)
         refine wo (op_move rfl ?_)
         refine wo (op_addN (b := 1) rfl rfl (by omega) ?_)
         refine wo (op_move rfl ?_)
         refine wo (op_move rfl ?_)
         refine wo (op_callF Fa.C125 rfl ((IH l24 (m24 + 1) b1 m2 _ _ (H24.part [0] rfl rfl) (by omega) (by omega) (by omega) (by omega) (by omega) (pre_right hc24.2)).mono (fun e w27 hq => ?_)))
         obtain ⟨l27, rfl, hc27, hq27⟩ := hq
         refine ⟨_, rfl, ?_⟩
         have H27 : Owl.Own T w w27 [.row v 3 1 n (List.map vN l27)] := H24.splice [0] [.row v 3 1 n (List.map vN l27)] [] rfl rfl hq27 (Fits.solid True.intro Fits.nil)
         refine wn ?_
         refine WC.region ?_
         refine wo (op_move rfl ?_)
         refine wo (op_assign rfl ?_)
         refine WL.nil ?_
         refine WQ.inNormal ?_
         have hE := part_right ltNOK (by omega) (by omega) hO5 (by omega) hc24.2 hc27.1 hc27.2
         exact WQ.round (a1, m24, m2, (decide ((b1 - m24) ≥ ((b1 - a1) / 8))), f24, l27) ⟨⟨by omega, by omega, by omega, by omega, hs1.trans (((hs4.trans hc24.1).trans (hc27.1.mono (by omega) (by omega))).mono (by omega) (by omega)), hE, pre_right_sw (by omega) hP5 (by omega) (by omega) hc27.1⟩, H27⟩ ⟨rfl, rfl, rfl, rfl, rfl, rfl, trivial⟩ (by show m24 - a1 < b1 - a1; omega)
      ·
       have hc19 := of_decide_eq_false hb19
       refine WC.draw 15 Fa.M H18 (HW.op rfl (fun w1 H1 => op_move rfl ⟨rfl, Fr.refl _ _⟩) (HW.op rfl (fun w1 H1 => op_gtrN (b := 0) rfl rfl ⟨rfl, Fr.refl _ _⟩) (HW.op rfl (fun w1 H1 => op_move rfl ⟨rfl, Fr.refl _ _⟩) (HW.no rfl rfl rfl hb19 (HW.no rfl rfl rfl hb19 (HW.no rfl rfl rfl hb19 (HW.no rfl rfl rfl hb19 (HW.no rfl rfl rfl hb19 (HW.no rfl rfl rfl hb19 (HW.no rfl rfl rfl hb19 (HW.no rfl rfl rfl hb19 (HW.no rfl rfl rfl hb19 (HW.no rfl rfl rfl hb19 (HW.no rfl rfl rfl hb19 (HW.op rfl (fun w1 H1 => op_pickF rfl hb19 rfl ⟨rfl, Fr.refl _ _⟩)  HW.nil))))))))))))))) (by kernel_rfl) ?_
       intro β28 w28 H28
       refine wn ?_
       refine WC.no rfl rfl ?_
       refine WC.skip ?_
       refine WQ.next ?_
       refine ws ?_
       refine wo (op_move rfl ?_)
       refine wo (op_move rfl ?_)
       refine wo (op_move rfl ?_)
       refine wo (op_move rfl ?_)
       refine wo (op_callF Fa.C151 rfl ((part_ok v n l4 a1 b1 pv _ _ (H28.part [0] rfl rfl) (by omega) (by omega) (by omega) (by omega) (by omega)).mono (fun e w29 hq => ?_)))
       obtain ⟨l29, m29, f29, rfl, hc29, hq29⟩ := hq
       refine ⟨_, rfl, ?_⟩
       have H29 : Owl.Own T w w29 [.row v 3 1 n (List.map vN l29)] := H28.splice [0] [.row v 3 1 n (List.map vN l29)] [] rfl rfl hq29 (Fits.solid True.intro Fits.nil)
       refine wo (op_move rfl ?_)
       refine wo (op_extract rfl rfl ?_)
       refine wo (op_extract rfl rfl ?_)
       refine wo (op_assign rfl ?_)
       refine wo (op_assign rfl ?_)
       refine wn ?_
       refine ws ?_
       have hLP := hc29.1.len
       have hm1 := hc29.2.1
       have hm2 := hc29.2.2.1
       have hO5 := out_sw (by omega) (by omega) (by omega) hO4 hc29.1
       have hP5 := pre_sw (by omega) hP4 hc29.1
       refine wo (op_move rfl ?_)
       refine wo (op_assign rfl ?_)
       refine wn ?_
       refine ws ?_
       refine wo (op_move rfl ?_)
       refine wo (op_move rfl ?_)
       refine wo (op_subN rfl rfl (by omega) (by omega) ?_)
       refine wo (op_move rfl ?_)
       refine wo (op_move rfl ?_)
       refine wo (op_subN rfl rfl (by omega) (by omega) ?_)
       refine wo (op_assign rfl ?_)
       refine wo (op_assign rfl ?_)
       refine wn ?_
       refine ws ?_
       refine wo (op_move rfl ?_)
       refine wo (op_quoN (b := 8) rfl rfl (by omega) (by omega) ?_)
       refine wo (op_assign rfl ?_)
       refine wn ?_
       refine ws ?_
       refine wo (op_move rfl ?_)
       refine wo (op_move rfl ?_)
       refine wo (op_lssN rfl rfl ?_)
       refine wn ?_
       refine WC.cond rfl (fun (hb30 : (decide ((m29 - a1) < (b1 - m29))) = true) => ?_) (fun (hb30 : (decide ((m29 - a1) < (b1 - m29))) = false) => ?_)
       ·
        have hc30 := of_decide_eq_true hb30
        refine ws ?_
        refine wo (op_move rfl ?_)
        refine wo (op_move rfl ?_)
        refine wo (op_geqN rfl rfl ?_)
        refine wo (op_assign rfl ?_)
        refine wn ?_
        refine ws ?_
        refine wo (op_move rfl ?_)
        refine wo (op_move rfl ?_)
        refine wo (op_move rfl ?_)
        refine wo (op_move rfl ?_)
        refine wo (op_callF Fa.C125 rfl ((IH l29 a1 m29 m2 _ _ (H29.part [0] rfl rfl) (by omega) (by omega) (by omega) (by omega) (by omega) (pre_left hP5 (by omega))).mono (fun e w31 hq => ?_)))
        obtain ⟨l31, rfl, hc31, hq31⟩ := hq
        refine ⟨_, rfl, ?_⟩
        have H31 : Owl.Own T w w31 [.row v 3 1 n (List.map vN l31)] := H29.splice [0] [.row v 3 1 n (List.map vN l31)] [] rfl rfl hq31 (Fits.solid True.intro Fits.nil)
        refine wn ?_
        refine WC.region ?_
        refine wo (op_move rfl ?_)
        refine wo (op_addN (b := 1) rfl rfl (by omega) ?_)
        refine wo (op_assign rfl ?_)
        refine WL.nil ?_
        refine WQ.inNormal ?_
        have hE := part_left ltNOK (by omega) (by omega) hO5 (by omega) hc29.2 hc31.1 hc31.2
        exact WQ.round ((m29 + 1), b1, m2, (decide ((m29 - a1) ≥ ((b1 - a1) / 8))), f29, l31) ⟨⟨by omega, by omega, by omega, by omega, hs1.trans (((hs4.trans hc29.1).trans (hc31.1.mono (by omega) (by omega))).mono (by omega) (by omega)), hE.1, hE.2⟩, H31⟩ ⟨rfl, rfl, rfl, rfl, rfl, rfl, trivial⟩ (by show b1 - (m29 + 1) < b1 - a1; omega)
       ·
        have hc30 := of_decide_eq_false hb30
        refine ws ?_
        refine wo (op_move rfl ?_)
        refine wo (op_move rfl ?_)
        refine wo (op_geqN rfl rfl ?_)
        refine wo (op_assign rfl ?_)
        refine wn ?_
        refine ws ?_
        refine wo (op_move rfl ?_)
        refine wo (op_move rfl ?_)
        refine wo (op_addN (b := 1) rfl rfl (by omega) ?_)
        refine wo (op_move rfl ?_)
        refine wo (op_move rfl ?_)
        refine wo (op_callF Fa.C125 rfl ((IH l29 (m29 + 1) b1 m2 _ _ (H29.part [0] rfl rfl) (by omega) (by omega) (by omega) (by omega) (by omega) (pre_right hc29.2)).mono (fun e w32 hq => ?_)))
        obtain ⟨l32, rfl, hc32, hq32⟩ := hq
        refine ⟨_, rfl, ?_⟩
        have H32 : Owl.Own T w w32 [.row v 3 1 n (List.map vN l32)] := H29.splice [0] [.row v 3 1 n (List.map vN l32)] [] rfl rfl hq32 (Fits.solid True.intro Fits.nil)
        refine wn ?_
        refine WC.region ?_
        refine wo (op_move rfl ?_)
        refine wo (op_assign rfl ?_)
        refine WL.nil ?_
        refine WQ.inNormal ?_
        have hE := part_right ltNOK (by omega) (by omega) hO5 (by omega) hc29.2 hc32.1 hc32.2
        exact WQ.round (a1, m29, m2, (decide ((b1 - m29) ≥ ((b1 - a1) / 8))), f29, l32) ⟨⟨by omega, by omega, by omega, by omega, hs1.trans (((hs4.trans hc29.1).trans (hc32.1.mono (by omega) (by omega))).mono (by omega) (by omega)), hE, pre_right_sw (by omega) hP5 (by omega) (by omega) hc32.1⟩, H32⟩ ⟨rfl, rfl, rfl, rfl, rfl, rfl, trivial⟩ (by show m29 - a1 < b1 - a1; omega)
theorem pdq_ok (v : Value) (n : Nat) (l : List Nat) (a b : Nat) (m : Nat) (T : List Nat) (w : World) (H : Owl.Own T w w [.row v 3 1 n (List.map vN l)]) (hn : l.length = n) (hN : n < 2 ^ 61) (hab : a ≤ b) (hb : b ≤ n) (hm : m < 2 ^ 62) (hpre : PreS ltN 0 a b l) :
  Calls Try.prog 125 #[v, vN a, vN b, vN m] w (fun e w' => ∃ (l' : List Nat), e = .returned undef ∧ (Sw 0 a b l l' ∧ SortS ltN 0 a b l') ∧ Owl.Own T w w' [.row v 3 1 n (List.map vN l')]) := by
 have key : ∀ (N : Nat) (l : List Nat) (a b m : Nat) (T : List Nat) (w : World), Owl.Own T w w [.row v 3 1 n (List.map vN l)] → l.length = n → b - a < N → a ≤ b → b ≤ n → m < 2 ^ 62 → PreS ltN 0 a b l → Calls Try.prog 125 #[v, vN a, vN b, vN m] w (fun e w' => ∃ (l' : List Nat), e = .returned undef ∧ (Sw 0 a b l l' ∧ SortS ltN 0 a b l') ∧ Owl.Own T w w' [.row v 3 1 n (List.map vN l')]) := by
  intro N
  induction N with
  | zero => intro l a b m T w H hn hlt; omega
  | succ N ih => intro l a b m T w H hn hlt hab hb hm hpre; exact pdq_step v n l a b m T w H hn hN hab hb hm hpre (fun l2 a2 b2 m2 T2 w2 H2 h1 h2 h3 h4 h5 h6 => ih l2 a2 b2 m2 T2 w2 H2 h1 (by omega) h3 h4 h5 h6)
 exact key (b - a + 1) l a b m T w H hn (by omega) hab hb hm hpre
set_option maxRecDepth 100000 in
theorem sort_ok (v : Value) (n : Nat) (l : List Nat) (T : List Nat) (w : World) (H : Owl.Own T w w [.row v 3 1 n (List.map vN l)]) (hn : l.length = n) (hN : n < 2 ^ 61) :
  Calls Try.prog 100 #[v] w (fun e w' => ∃ (l' : List Nat), e = .returned undef ∧ (Sw 0 0 n l l' ∧ SortS ltN 0 0 n l') ∧ Owl.Own T w w' [.row v 3 1 n (List.map vN l')]) := by
 refine enter (args := [v]) Try.func100 rfl rfl ?_
 refine ws ?_
 refine wo (op_move rfl ?_)
 refine wo (op_lenA Try.underlying64 rfl (H.arrR (i := 0) rfl) ?_)
 refine wo (op_assign rfl ?_)
 refine wn ?_
 refine WC.region ?_
 refine wo (op_move rfl ?_)
 refine wo (op_move rfl ?_)
 refine wo (op_move rfl ?_)
 refine wo (op_convNU64 (hs := Try.underlying3) (hd := Try.underlying186) rfl ?_)
 refine wo (op_callF Fa.C126 rfl ((blen_ok (UInt64.ofNat n) _).mono (fun e w1 hq => ?_)))
 obtain ⟨rfl, hf1⟩ := hq
 refine ⟨_, rfl, ?_⟩
 have H1 := H.fr' hf1
 refine wo (op_callF Fa.C125 rfl ((pdq_ok v n l 0 n (lenN (UInt64.ofNat n).toNat) _ _ (H1.part [0] rfl rfl) (by omega) (by omega) (by omega) (by omega) (Nat.lt_of_le_of_lt (lenN_le (k := 64) (UInt64.toNat_lt _)) (by decide)) (.inl rfl)).mono (fun e w2 hq => ?_)))
 obtain ⟨l2, rfl, hc2, hq2⟩ := hq
 refine ⟨_, rfl, ?_⟩
 have H2 : Owl.Own T w w2 [.row v 3 1 n (List.map vN l2)] := H1.splice [0] [.row v 3 1 n (List.map vN l2)] [] rfl rfl hq2 (Fits.solid True.intro Fits.nil)
 refine WL.nil ?_
 refine WQ.outEnd .nil ?_
 exact ⟨_, rfl, hc2, H2⟩
end Go.Proofs.Ytbjhccnffacbcaa
/-! from WSeq3 -/
namespace Go.Proofs.Ytbjhccnffacbcaa
open Go.Owl Go.Spec
set_option maxRecDepth 100000 in
theorem sorted_int (mb c Bm : Nat) (l : List ME) (w : World) (hl : MEok l c) (hn : l.length < 2 ^ 40) (hB : w.cell? ⟨Bm, 0, none⟩ = some (.map (some mb))) (hM : w.heap[mb]? = some (mP .i64 l c)) :
  Calls Try.prog 61 #[(.func (.func 101) #[] #[(ptr Bm 0)])] w (fun e w' => ∃ v ks, e = .returned v ∧ ((l.map ME.k).Perm ks ∧ ks.Pairwise (fun x y => ltN y x = false)) ∧ Owl.Own [] w w' [.row v 3 1 ks.length (List.map vN ks)]) := by
 refine enter (args := [(.func (.func 101) #[] #[(ptr Bm 0)])]) Try.func61 rfl rfl ?_
 have H0 : Owl.Own [] w w [] := Own.start w []
 refine ws ?_
 refine wo (op_assign rfl ?_)
 refine wn ?_
 refine ws ?_
 refine wo (op_move rfl ?_)
 refine wo (op_callF Fa.C99 rfl ((coll_int mb c Bm l _ hl hn hB hM).mono (fun e w1 hq => ?_)))
 obtain ⟨v1, ks1, rfl, hp1, hq1⟩ := hq
 refine ⟨_, rfl, ?_⟩
 have H1 : Owl.Own [] w w1 [.row v1 3 1 ks1.length (List.map vN ks1)] := H0.splice [] [] [.row v1 3 1 ks1.length (List.map vN ks1)] rfl rfl hq1 (Fits.solid True.intro Fits.nil)
 refine wo (op_assign rfl ?_)
 refine wn ?_
 refine ws ?_
 refine wo (op_move rfl ?_)
 refine wo (op_callF Fa.C100 rfl ((sort_ok v1 ks1.length ks1  _ _ (H1.part [0] rfl rfl) rfl (by have := hp1.length_eq; simp at this; omega)).mono (fun e w2 hq => ?_)))
 obtain ⟨l2, rfl, hc2, hq2⟩ := hq
 refine ⟨_, rfl, ?_⟩
 have H2 : Owl.Own [] w w2 [.row v1 3 1 ks1.length (List.map vN l2)] := H1.splice [0] [.row v1 3 1 ks1.length (List.map vN l2)] [] rfl rfl hq2 (Fits.solid True.intro Fits.nil)
 refine wn ?_
 refine ws ?_
 refine wo (op_move rfl ?_)
 refine wo (op_assign rfl ?_)
 refine wn ?_
 refine WC.ret ?_
 refine WQ.out (.tmp rfl .nil) ?_
 have hl9 := hc2.1.len
 have h9 := H2.sel [0] rfl rfl
 rw [show ks1.length = l2.length by omega] at h9
 exact ⟨_, _, rfl, ⟨hp1.trans (Sw.perm hc2.1 (Nat.le_refl _)).symm, SortS.pair (by rw [hl9]; exact hc2.2)⟩, h9⟩
set_option maxRecDepth 100000 in
theorem keys_int (mb : Nat) (w : World) :
  Calls Try.prog 62 #[(.map (some mb))] w (fun e w' => ∃ b, e = .returned (.func (.func 101) #[] #[ptr b 0]) ∧ Owl.Own [] w w' [.blk b [.map (some mb)] 110]) := by
 refine enter (args := [(.map (some mb))]) Try.func62 rfl rfl ?_
 have H0 : Owl.Own [] w w [] := Own.start w []
 refine ws ?_
 refine wo (op_box H0 rfl rfl (fun b1 w1 H1 => ?_))
 refine wo (op_assign rfl ?_)
 refine wn ?_
 refine ws ?_
 refine wo (op_makeFunc rfl rfl ?_)
 refine wo (op_assign rfl ?_)
 refine wn ?_
 refine WC.ret ?_
 refine WQ.out (.tmp rfl .nil) ?_
 exact ⟨_, rfl, H1.sel [0] rfl rfl⟩
end Go.Proofs.Ytbjhccnffacbcaa
/-! from WCap17 -/
namespace Go.Proofs.Ytbjhccnffacbcaa
open Go.Owl Go.Spec
set_option maxRecDepth 100000 in
theorem envs_ok (c : Nat) (pg : UInt32) (hv : Value) (he : List UInt32) (mb cn : Nat) (gs : List Gr) (l : List Gr) (w : World) (hC : cellsAt w c [(vU32 pg), hv, (.map (some mb))]) (hH : Arr w hv 1 he.length (List.map vU32 he)) (hM : w.heap[mb]? = some (mP .i64 (List.map Gr.me gs) cn)) (hG : BsOK 120 Gr.cells Gr.b gs w) (hS : grD.list.ok w gs) (hR : CapR gs cn l) (hgn : gs.length < 2 ^ 40) :
  Calls Try.prog 24 #[(ptr c 0)] w (fun e w' => ∃ v ks, e = .returned v ∧ ((l.map Gr.e).Perm ks ∧ ks.Pairwise (fun x y => ltN y x = false)) ∧ Owl.Own [] w w' [.row v 3 1 ks.length (List.map vN ks)]) := by
 refine enter (args := [(ptr c 0)]) Try.func24 rfl rfl ?_
 have H0 : Owl.Own [] w w [Ent.bo c [(vU32 pg), hv, (.map (some mb))], Ent.ar hv 1 he.length (List.map vU32 he), Ent.mo .i64 mb (List.map Gr.me gs) cn, Ent.bsO 120 Gr.cells Gr.b gs, Ent.dp grD.list gs] := ((((((Own.start w []).oldB hC).oldA hH).mpOld hM).bsOld hG).dpOld hS)
 refine ws ?_
 refine wo (op_assign rfl ?_)
 refine wn ?_
 refine WC.seq ?_
 refine ws ?_
 refine wo (op_move rfl ?_)
 refine wo (op_eqlPN Fa.PT52 rfl rfl ?_)
 refine wn ?_
 refine WC.no rfl rfl ?_
 refine WC.skip ?_
 refine WQ.next ?_
 refine ws ?_
 refine wo (op_move rfl ?_)
 refine wo (op_nilCheck rfl ?_)
 refine wo (op_fieldAddr rfl Fa.F112_1 ?_)
 refine wo (op_load rfl (H0.cellO (i := 0) rfl rfl) Try.underlying110 rfl ?_)
 refine wo (op_callF Fa.C62 rfl ((keys_int mb _).mono (fun e w1 hq => ?_)))
 obtain ⟨b1, rfl, hq1⟩ := hq
 refine ⟨_, rfl, ?_⟩
 have H1 : Owl.Own [] w w1 [Ent.bo c [(vU32 pg), hv, (.map (some mb))], Ent.ar hv 1 he.length (List.map vU32 he), Ent.mo .i64 mb (List.map Gr.me gs) cn, Ent.bsO 120 Gr.cells Gr.b gs, Ent.dp grD.list gs, .blk b1 [(.map (some mb))] 110] := H0.splice [] [] [.blk b1 [(.map (some mb))] 110] rfl rfl hq1 (Fits.solid True.intro Fits.nil)
 refine wo (op_callF Fa.C61 rfl ((sorted_int mb cn b1 (List.map Gr.me gs) _ hR.1.me (by rw [List.length_map]; exact hgn) (H1.cell (i := 5) rfl rfl) (H1.mpO (i := 2) rfl)).mono (fun e w2 hq => ?_)))
 obtain ⟨v2, ks2, rfl, hk2, hq2⟩ := hq
 refine ⟨_, rfl, ?_⟩
 have H2 : Owl.Own [] w w2 [Ent.bo c [(vU32 pg), hv, (.map (some mb))], Ent.ar hv 1 he.length (List.map vU32 he), Ent.mo .i64 mb (List.map Gr.me gs) cn, Ent.bsO 120 Gr.cells Gr.b gs, Ent.dp grD.list gs, .blk b1 [(.map (some mb))] 110, .row v2 3 1 ks2.length (List.map vN ks2)] := H1.splice [] [] [.row v2 3 1 ks2.length (List.map vN ks2)] rfl rfl hq2 (Fits.solid True.intro Fits.nil)
 refine wo (op_assign rfl ?_)
 refine wn ?_
 refine WC.ret ?_
 refine WQ.out (.tmp rfl .nil) ?_
 obtain ⟨hk1, hk2⟩ := hk2
 exact ⟨_, _, rfl, ⟨by rw [← hR.2, List.map_map]; rw [List.map_map] at hk1; exact hk1, hk2⟩, H2.sel [6] rfl rfl⟩
set_option maxRecDepth 100000 in
theorem heavy_ok (lv : Value) (l : List Sts) (w : World) (hA : Arr w lv 7 l.length (List.flatMap stc l)) (hI : StD.list.ok w l) (hl : l.length < 2 ^ 47) :
  Calls Try.prog 16 #[lv] w (fun e w' => e = .returned (.bool (heavyC l)) ∧ Fr [] w w') := by
 refine enter (args := [lv]) Try.func16 rfl rfl ?_
 have H0 : Owl.Own [] w w [] := Own.start w []
 refine ws ?_
 refine wo (op_assign rfl ?_)
 refine wn ?_
 refine WC.seq ?_
 refine ws ?_
 refine wo (op_assign rfl ?_)
 refine wn ?_
 refine WC.block ?_
 refine WC.loop (α := Nat) (fun k => [(0, lv), (3, (vN k))]) (fun k w' => (k ≤ l.length ∧ k ≤ 200 ∧ (∀ j, j < k → largeS (l.getD j Sts.zero) = false)) ∧ Owl.Own [] w w' []) (fun k => l.length - k) 0 ⟨⟨Nat.zero_le _, Nat.zero_le _, fun j h => by omega⟩, H0⟩ ⟨rfl, rfl, trivial⟩ ?_
 rintro k w1 ⟨⟨hk1, hk2, hok⟩, H1⟩
 show WC _ _ _ _ _ [(0, lv), (3, (vN k))] _
 refine WC.seq ?_
 refine ws ?_
 refine wo (op_move rfl ?_)
 refine wo (op_move rfl ?_)
 refine wo (op_lenA Try.underlying49 rfl (H1.arr hA) ?_)
 refine wo (op_lssN rfl rfl ?_)
 refine wo (op_move rfl ?_)
 refine WL.split (t := 8) rfl (fun (hb2 : (decide (k < l.length)) = true) => ?_) (fun (hb2 : (decide (k < l.length)) = false) => ?_)
 ·
  have hc2 := of_decide_eq_true hb2
  refine WL.yes rfl rfl rfl hb2 rfl (op_move rfl ?_)
  refine WL.yes rfl rfl rfl hb2 rfl (op_lssN (b := 200) rfl rfl ?_)
  refine wo (op_pickT rfl hb2 rfl ?_)
  refine wn ?_
  refine WC.cond rfl (fun (hb3 : (decide (k < 200)) = true) => ?_) (fun (hb3 : (decide (k < 200)) = false) => ?_)
  ·
   have hc3 := of_decide_eq_true hb3
   refine WC.skip ?_
   refine WQ.next ?_
   refine WC.seq ?_
   refine WC.block ?_
   refine ws ?_
   refine wo (op_move rfl ?_)
   refine wo (op_move rfl ?_)
   refine wo (op_indexAddr Try.underlying49 Fa.I61 rfl (H1.arr hA) rfl (by omega) ?_)
   refine wo (op_fieldAddrS rfl Fa.F61_2 ?_)
   refine wo (op_loadSP (vs := [(vU32 (l.getD k Sts.zero).pg), (l.getD k Sts.zero).ev, (l.getD k Sts.zero).pv, (.bool (l.getD k Sts.zero).con)]) rfl (Arr.atsP (off := 2) (H1.arr hA) (fun _ => rfl) (by decide) Sts.zero (by omega) rfl) Try.underlying59 rfl Fa.I59 rfl ?_)
   refine wo (op_callF Fa.C39 rfl ((clarge_ok ((l.getD k Sts.zero).pg) _ _ ((l.getD k Sts.zero).xs) ((l.getD k Sts.zero).ps) ((l.getD k Sts.zero).con) _ ((StD_xs (Deep.getD StD (StD.list.fr0 hI H1.fr) Sts.zero (StD_zero _) k))) ((StD_ps (Deep.getD StD (StD.list.fr0 hI H1.fr) Sts.zero (StD_zero _) k)))).mono (fun e w4 hq => ?_)))
   obtain ⟨rfl, hf4⟩ := hq
   refine ⟨_, rfl, ?_⟩
   have H4 := H1.fr' hf4
   refine wn ?_
   refine WC.cond rfl (fun (hb5 : (largeC ((l.getD k Sts.zero).xs) ((l.getD k Sts.zero).ps)) = true) => ?_) (fun (hb5 : (largeC ((l.getD k Sts.zero).xs) ((l.getD k Sts.zero).ps)) = false) => ?_)
   ·
    refine ws ?_
    refine wo (op_assign rfl ?_)
    refine wn ?_
    refine WC.ret ?_
    refine WQ.inRet ?_
    refine WQ.thenRet ?_
    refine WQ.thenRet ?_
    refine WQ.inRet ?_
    refine WQ.thenRet ?_
    refine WQ.out (.tmp rfl .nil) ?_
    exact ⟨by rw [heavyC_yes (k := k) (by omega) (by omega) hb5]; rfl, H4.fr⟩
   ·
    refine WC.skip ?_
    refine WQ.inNormal ?_
    refine WQ.next ?_
    refine WC.region ?_
    refine wo (op_move rfl ?_)
    refine wo (op_addN (b := 1) rfl rfl (by omega) ?_)
    refine wo (op_assign rfl ?_)
    refine WL.nil ?_
    exact WQ.round (k + 1) ⟨⟨by omega, by omega, allPrev hok hb5⟩, H4⟩ ⟨rfl, rfl, trivial⟩ (by omega)
  ·
   have hc3 := of_decide_eq_false hb3
   refine WC.exit ?_
   refine WQ.thenExit ?_
   refine WQ.thenExit ?_
   refine WQ.inHere ?_
   refine WQ.next ?_
   refine ws ?_
   refine wo (op_move rfl ?_)
   refine wo (op_lenA Try.underlying49 rfl (H1.arr hA) ?_)
   refine wo (op_gtrN (b := 100) rfl rfl ?_)
   refine wo (op_assign rfl ?_)
   refine wn ?_
   refine WC.ret ?_
   refine WQ.out (.tmp rfl .nil) ?_
   exact ⟨by rw [heavyC_end (fun j hj h2 => hok j (by omega))]; rfl, H1.fr⟩
 ·
  have hc2 := of_decide_eq_false hb2
  refine WL.no rfl rfl rfl hb2 rfl ?_
  refine WL.no rfl rfl rfl hb2 rfl ?_
  refine wo (op_pickF rfl hb2 rfl ?_)
  refine wn ?_
  refine WC.no rfl rfl ?_
  refine WC.exit ?_
  refine WQ.thenExit ?_
  refine WQ.thenExit ?_
  refine WQ.inHere ?_
  refine WQ.next ?_
  refine ws ?_
  refine wo (op_move rfl ?_)
  refine wo (op_lenA Try.underlying49 rfl (H1.arr hA) ?_)
  refine wo (op_gtrN (b := 100) rfl rfl ?_)
  refine wo (op_assign rfl ?_)
  refine wn ?_
  refine WC.ret ?_
  refine WQ.out (.tmp rfl .nil) ?_
  exact ⟨by rw [heavyC_end (fun j hj h2 => hok j (by omega))]; rfl, H1.fr⟩
end Go.Proofs.Ytbjhccnffacbcaa
/-! from WCap18 -/
namespace Go.Proofs.Ytbjhccnffacbcaa
open Go.Owl Go.Spec
set_option maxRecDepth 100000 in
theorem copy11_ok (mp : UInt32) (ev pv : Value) (xs : List Xt) (ps : List UInt16) (con : Bool) (w : World) (hE : Arr w ev 2 xs.length (List.flatMap xtc xs)) (hP : Arr w pv 1 ps.length (List.map vU16 ps)) (hn : xs.length < 2 ^ 40) (hm : ps.length < 2 ^ 40) :
  Calls Try.prog 20 #[(.agg #[(vU32 mp), ev, pv, (.bool con)])] w (fun e w' => ∃ v u, e = .returned (.agg #[vU32 mp, v, u, .bool con]) ∧ Owl.Own [] w w' [.row v 108 2 xs.length (List.flatMap xtc xs), .row u 50 1 ps.length (List.map vU16 ps)]) := by
 refine enter (args := [(.agg #[(vU32 mp), ev, pv, (.bool con)])]) Try.func20 rfl rfl ?_
 have H0 : Owl.Own [] w w [] := Own.start w []
 refine ws ?_
 refine wo (op_box H0 rfl rfl (fun b1 w1 H1 => ?_))
 refine wo (op_alloc H1 Fa.I59 (fun b2 w2 H2 => ?_))
 refine wn ?_
 refine ws ?_
 refine wo (op_fieldAddr rfl Fa.F59_1 ?_)
 refine wo (op_load rfl (H2.cell (i := 0) rfl rfl) Try.underlying56 rfl ?_)
 have H4 := H2.nilRow 108 2
 refine wo (op_appendF (f := xtc) (l := []) (l' := xs) (i := 2) H4 Try.underlying56 Fa.I108 rfl rfl rfl rfl (Src.ofArr Try.underlying56 (H4.arr hE)) (one_flat (fun _ => by simp [xtc, Value.oneCell'])) (by omega) (by omega) (fun v3 w3 H3 => ?_))
 refine wo (op_fieldAddr rfl Fa.F59_1 ?_)
 refine wo (op_storeB (i := 0) H3 rfl rfl rfl rfl (Arr.one (H3.arrR (i := 2) rfl)) Fa.I56 (fun w5 H5 => ?_))
 refine wn ?_
 refine ws ?_
 refine wo (op_fieldAddr rfl Fa.F59_2 ?_)
 refine wo (op_load rfl (H5.cell (i := 0) rfl rfl) Try.underlying57 rfl ?_)
 have H7 := H5.nilRow 50 1
 refine wo (op_appendM (f := vU16) (l := []) (l' := ps) (i := 3) H7 Try.underlying57 Fa.I50 rfl rfl rfl rfl (Src.ofArr Try.underlying57 (H7.arr hP)) (one_mapM (fun _ => rfl)) (by omega) (by omega) (fun v6 w6 H6 => ?_))
 refine wo (op_fieldAddr rfl Fa.F59_2 ?_)
 refine wo (op_storeB (i := 0) H6 rfl rfl rfl rfl (Arr.one (H6.arrR (i := 3) rfl)) Fa.I57 (fun w8 H8 => ?_))
 refine wn ?_
 refine ws ?_
 refine wo (op_loadS (vs := [_, _, _, _]) rfl (H8.cells (i := 0) rfl rfl) Try.underlying59 rfl Fa.I59 rfl ?_)
 refine wo (op_storeBW (i := 1) H8 rfl rfl rfl rfl (one_cons rfl (one_cons (Arr.one (H8.arrR (i := 2) rfl)) (one_cons (Arr.one (H8.arrR (i := 3) rfl)) (one_cons rfl one_nil)))) Fa.I59 (fun w9 H9 => ?_))
 refine wn ?_
 refine WC.ret ?_
 refine WQ.out (.cell rfl (run_loadVarS (vs := [_, _, _, _]) (H9.cells (i := 1) rfl rfl) Try.underlying59 rfl Fa.I59 rfl) .nil) ?_
 exact ⟨_, _, rfl, (by have h := (show Owl.Own [] w w9 [.blk b1 [(vU32 mp), v3, v6, (.bool con)] 59, .blk b2 [(vU32 mp), v3, v6, (.bool con)] 59, .row v3 108 2 (0 + xs.length) (List.flatMap xtc ([] ++ xs)), .row v6 50 1 (0 + ps.length) (List.map vU16 ([] ++ ps))] from H9); have h2 := Owl.Own.sel h [2, 3] rfl rfl; simp only [Nat.zero_add, List.nil_append] at h2; exact h2)⟩
end Go.Proofs.Ytbjhccnffacbcaa
/-! from WCap19 -/
namespace Go.Proofs.Ytbjhccnffacbcaa
open Go.Owl Go.Spec
set_option maxRecDepth 100000 in
theorem rport1_ok (mp : UInt32) (ev pv : Value) (xs : List Xt) (ps : List UInt16) (con : Bool) (y : UInt16) (w : World) (hE : Arr w ev 2 xs.length (List.flatMap xtc xs)) (hP : Arr w pv 1 ps.length (List.map vU16 ps)) (hm : ps.length < 2 ^ 40) :
  Calls Try.prog 107 #[(.agg #[(vU32 mp), ev, pv, (.bool con)]), (vU16 y)] w (fun e w' => e = .returned (.bool (ps.any (u16Is y))) ∧ Fr [] w w') := by
 refine enter (args := [(.agg #[(vU32 mp), ev, pv, (.bool con)]), (vU16 y)]) Try.func107 rfl rfl ?_
 have H0 : Owl.Own [] w w [] := Own.start w []
 refine ws ?_
 refine wo (op_box H0 rfl rfl (fun b1 w1 H1 => ?_))
 refine wo (op_assign rfl ?_)
 refine wn ?_
 refine WC.seq ?_
 refine ws ?_
 refine wo (op_assign rfl ?_)
 refine wn ?_
 refine WC.block ?_
 refine WC.loop (α := Nat) (fun k => [(1, (vU16 y)), (2, (ptr b1 0)), (5, (vN k))]) (fun k w' => (k ≤ ps.length ∧ (∀ j, j < k → u16Is y (ps.getD j 0) = false)) ∧ Owl.Own [] w w' [.blk b1 [(vU32 mp), ev, pv, (.bool con)] 59]) (fun k => ps.length - k) 0 ⟨⟨Nat.zero_le _, fun j h => by omega⟩, H1⟩ ⟨rfl, rfl, rfl, trivial⟩ ?_
 rintro k w2 ⟨⟨hk1, hok⟩, H2⟩
 show WC _ _ _ _ _ [(1, (vU16 y)), (2, (ptr b1 0)), (5, (vN k))] _
 refine WC.seq ?_
 refine ws ?_
 refine wo (op_move rfl ?_)
 refine wo (op_fieldAddr rfl Fa.F59_2 ?_)
 refine wo (op_load rfl (H2.cell (i := 0) rfl rfl) Try.underlying57 rfl ?_)
 refine wo (op_lenA Try.underlying57 rfl (H2.arr hP) ?_)
 refine wo (op_lssN rfl rfl ?_)
 refine wn ?_
 refine WC.cond rfl (fun (hb3 : (decide (k < ps.length)) = true) => ?_) (fun (hb3 : (decide (k < ps.length)) = false) => ?_)
 ·
  have hc3 := of_decide_eq_true hb3
  refine WC.skip ?_
  refine WQ.next ?_
  refine WC.seq ?_
  refine WC.block ?_
  refine ws ?_
  refine wo (op_fieldAddr rfl Fa.F59_2 ?_)
  refine wo (op_load rfl (H2.cell (i := 0) rfl rfl) Try.underlying57 rfl ?_)
  refine wo (op_move rfl ?_)
  refine wo (op_indexAddr1 Try.underlying57 Fa.I50 rfl (H2.arr hP) rfl (by omega) ?_)
  refine wo (op_load rfl ((H2.arr hP).at (get_map vU16 0 (Arr.ltM (H2.arr hP) (by omega)))) Try.underlying50 rfl ?_)
  refine wo (op_move rfl ?_)
  refine wo (op_eqlU16 rfl rfl ?_)
  refine wn ?_
  refine WC.cond rfl (fun (hb4 : (decide ((ps.getD k 0) = y)) = true) => ?_) (fun (hb4 : (decide ((ps.getD k 0) = y)) = false) => ?_)
  ·
   have hc4 := of_decide_eq_true hb4
   refine ws ?_
   refine wo (op_assign rfl ?_)
   refine wn ?_
   refine WC.ret ?_
   refine WQ.inRet ?_
   refine WQ.thenRet ?_
   refine WQ.thenRet ?_
   refine WQ.inRet ?_
   refine WQ.thenRet ?_
   refine WQ.out (.tmp rfl .nil) ?_
   exact ⟨by rw [any_yes (p := u16Is y) (d := 0) (k := k) (by omega) (by rw [u16Is]; simpa [eq_comm] using hb4)]; rfl, H2.fr⟩
  ·
   have hc4 := of_decide_eq_false hb4
   refine WC.skip ?_
   refine WQ.inNormal ?_
   refine WQ.next ?_
   refine WC.region ?_
   refine wo (op_move rfl ?_)
   refine wo (op_addN (b := 1) rfl rfl (by omega) ?_)
   refine wo (op_assign rfl ?_)
   refine WL.nil ?_
   exact WQ.round (k + 1) ⟨⟨by omega, allPrev hok (by rw [u16Is]; simpa [eq_comm] using hb4)⟩, H2⟩ ⟨rfl, rfl, rfl, trivial⟩ (by omega)
 ·
  have hc3 := of_decide_eq_false hb3
  refine WC.exit ?_
  refine WQ.thenExit ?_
  refine WQ.thenExit ?_
  refine WQ.inHere ?_
  refine WQ.next ?_
  refine ws ?_
  refine wo (op_assign rfl ?_)
  refine wn ?_
  refine WC.ret ?_
  refine WQ.out (.tmp rfl .nil) ?_
  exact ⟨by rw [any_no (p := u16Is y) (d := 0) (fun j hj => hok j (by omega))]; rfl, H2.fr⟩
set_option maxRecDepth 100000 in
theorem rblocks_ok (mp : UInt32) (ev pv : Value) (xs : List Xt) (ps : List UInt16) (con : Bool) (id : UInt32) (w : World) (hE : Arr w ev 2 xs.length (List.flatMap xtc xs)) (hP : Arr w pv 1 ps.length (List.map vU16 ps)) (hn : xs.length < 2 ^ 40) :
  Calls Try.prog 106 #[(.agg #[(vU32 mp), ev, pv, (.bool con)]), (vU32 id)] w (fun e w' => e = .returned (vU32 (extG xs id).bl) ∧ Fr [] w w') := by
 refine enter (args := [(.agg #[(vU32 mp), ev, pv, (.bool con)]), (vU32 id)]) Try.func106 rfl rfl ?_
 have H0 : Owl.Own [] w w [] := Own.start w []
 refine ws ?_
 refine wo (op_box H0 rfl rfl (fun b1 w1 H1 => ?_))
 refine wo (op_assign rfl ?_)
 refine wn ?_
 refine WC.seq ?_
 refine ws ?_
 refine wo (op_assign rfl ?_)
 refine wn ?_
 refine WC.block ?_
 refine WC.loop (α := Nat) (fun k => [(1, (vU32 id)), (2, (ptr b1 0)), (5, (vN k))]) (fun k w' => (k ≤ xs.length ∧ (∀ j, j < k → xtIs id (xs.getD j Xt.zero) = false)) ∧ Owl.Own [] w w' [.blk b1 [(vU32 mp), ev, pv, (.bool con)] 59]) (fun k => xs.length - k) 0 ⟨⟨Nat.zero_le _, fun j h => by omega⟩, H1⟩ ⟨rfl, rfl, rfl, trivial⟩ ?_
 rintro k w2 ⟨⟨hk1, hok⟩, H2⟩
 show WC _ _ _ _ _ [(1, (vU32 id)), (2, (ptr b1 0)), (5, (vN k))] _
 refine WC.seq ?_
 refine ws ?_
 refine wo (op_move rfl ?_)
 refine wo (op_fieldAddr rfl Fa.F59_1 ?_)
 refine wo (op_load rfl (H2.cell (i := 0) rfl rfl) Try.underlying56 rfl ?_)
 refine wo (op_lenA Try.underlying56 rfl (H2.arr hE) ?_)
 refine wo (op_lssN rfl rfl ?_)
 refine wn ?_
 refine WC.cond rfl (fun (hb3 : (decide (k < xs.length)) = true) => ?_) (fun (hb3 : (decide (k < xs.length)) = false) => ?_)
 ·
  have hc3 := of_decide_eq_true hb3
  refine WC.skip ?_
  refine WQ.next ?_
  refine WC.seq ?_
  refine WC.block ?_
  refine ws ?_
  refine wo (op_fieldAddr rfl Fa.F59_1 ?_)
  refine wo (op_load rfl (H2.cell (i := 0) rfl rfl) Try.underlying56 rfl ?_)
  refine wo (op_move rfl ?_)
  refine wo (op_indexAddr Try.underlying56 Fa.I108 rfl (H2.arr hE) rfl (by omega) ?_)
  refine wo (op_fieldAddrS rfl Fa.F108_0 ?_)
  refine wo (op_load rfl (Arr.atF (k := 0) (H2.arr hE) (fun _ => rfl) (by decide) Xt.zero (by omega) rfl) Try.underlying29 rfl ?_)
  refine wo (op_move rfl ?_)
  refine wo (op_eqlU32 rfl rfl ?_)
  refine wn ?_
  refine WC.cond rfl (fun (hb4 : (decide ((xs.getD k Xt.zero).id = id)) = true) => ?_) (fun (hb4 : (decide ((xs.getD k Xt.zero).id = id)) = false) => ?_)
  ·
   have hc4 := of_decide_eq_true hb4
   refine ws ?_
   refine wo (op_fieldAddr rfl Fa.F59_1 ?_)
   refine wo (op_load rfl (H2.cell (i := 0) rfl rfl) Try.underlying56 rfl ?_)
   refine wo (op_move rfl ?_)
   refine wo (op_indexAddr Try.underlying56 Fa.I108 rfl (H2.arr hE) rfl (by omega) ?_)
   refine wo (op_fieldAddrS rfl Fa.F108_1 ?_)
   refine wo (op_load rfl (Arr.atF (k := 1) (H2.arr hE) (fun _ => rfl) (by decide) Xt.zero (by omega) rfl) Try.underlying29 rfl ?_)
   refine wo (op_assign rfl ?_)
   refine wn ?_
   refine WC.ret ?_
   refine WQ.inRet ?_
   refine WQ.thenRet ?_
   refine WQ.thenRet ?_
   refine WQ.inRet ?_
   refine WQ.thenRet ?_
   refine WQ.out (.tmp rfl .nil) ?_
   exact ⟨by rw [(extG_yes (k := k) (by omega) hok hb4).1]; rfl, H2.fr⟩
  ·
   have hc4 := of_decide_eq_false hb4
   refine WC.skip ?_
   refine WQ.inNormal ?_
   refine WQ.next ?_
   refine WC.region ?_
   refine wo (op_move rfl ?_)
   refine wo (op_addN (b := 1) rfl rfl (by omega) ?_)
   refine wo (op_assign rfl ?_)
   refine WL.nil ?_
   exact WQ.round (k + 1) ⟨⟨by omega, allPrev hok hb4⟩, H2⟩ ⟨rfl, rfl, rfl, trivial⟩ (by omega)
 ·
  have hc3 := of_decide_eq_false hb3
  refine WC.exit ?_
  refine WQ.thenExit ?_
  refine WQ.thenExit ?_
  refine WQ.inHere ?_
  refine WQ.next ?_
  refine ws ?_
  refine wo (op_assign rfl ?_)
  refine wn ?_
  refine WC.ret ?_
  refine WQ.out (.tmp rfl .nil) ?_
  exact ⟨by rw [(extG_no (fun j hj => hok j (by omega))).1]; rfl, H2.fr⟩
set_option maxRecDepth 100000 in
theorem find_yes (r : Nat) (pg : UInt32) (hv rv : Value) (he : List UInt32) (rl : List Gr) (env : Int) (k : Nat) (w : World) (hR : cellsAt w r [(vU32 pg), hv, rv]) (hH : Arr w hv 1 he.length (List.map vU32 he)) (hV : Arr w rv 7 rl.length (List.flatMap rgc rl)) (hD : grD.list.ok w rl) (hl : rl.length < 2 ^ 40) (hk : k < rl.length) (hgk : grIs env (rl.getD k Gr.no) = true) (hnk : ∀ j, j < k → grIs env (rl.getD j Gr.no) = false) :
  Calls Try.prog 104 #[(ptr r 0), (vI env)] w (fun e w' => e = .returned (vN k) ∧ Fr [] w w') := by
 refine enter (args := [(ptr r 0), (vI env)]) Try.func104 rfl rfl ?_
 have H0 : Owl.Own [] w w [Ent.bo r [(vU32 pg), hv, rv], Ent.ar hv 1 he.length (List.map vU32 he), Ent.ar rv 7 rl.length (List.flatMap rgc rl), Ent.dp grD.list rl] := (((((Own.start w []).oldB hR).oldA hH).oldA hV).dpOld hD)
 refine ws ?_
 refine wo (op_assign rfl ?_)
 refine wn ?_
 refine WC.seq ?_
 refine ws ?_
 refine wo (op_assign rfl ?_)
 refine wn ?_
 refine WC.block ?_
 refine WC.loop (α := Nat) (fun j => [(0, (ptr r 0)), (1, (vI env)), (5, (vN j))]) (fun j w' => (j ≤ k) ∧ Owl.Own [] w w' [Ent.bo r [(vU32 pg), hv, rv], Ent.ar hv 1 he.length (List.map vU32 he), Ent.ar rv 7 rl.length (List.flatMap rgc rl), Ent.dp grD.list rl]) (fun j => rl.length - j) 0 ⟨(Nat.zero_le _), H0⟩ ⟨rfl, rfl, rfl, trivial⟩ ?_
 rintro j w1 ⟨hinv, H1⟩
 show WC _ _ _ _ _ [(0, (ptr r 0)), (1, (vI env)), (5, (vN j))] _
 refine WC.seq ?_
 refine ws ?_
 refine wo (op_move rfl ?_)
 refine wo (op_move rfl ?_)
 refine wo (op_nilCheck rfl ?_)
 refine wo (op_fieldAddr rfl Fa.F81_1 ?_)
 refine wo (op_load rfl (H1.cellO (i := 0) rfl rfl) Try.underlying79 rfl ?_)
 refine wo (op_lenA Try.underlying79 rfl (H1.arrO (i := 2) rfl) ?_)
 refine wo (op_lssN rfl rfl ?_)
 refine wn ?_
 refine WC.cond rfl (fun (hb2 : (decide (j < rl.length)) = true) => ?_) (fun (hb2 : (decide (j < rl.length)) = false) => ?_)
 ·
  have hc2 := of_decide_eq_true hb2
  refine WC.skip ?_
  refine WQ.next ?_
  refine WC.seq ?_
  refine WC.block ?_
  refine ws ?_
  refine wo (op_move rfl ?_)
  refine wo (op_nilCheck rfl ?_)
  refine wo (op_fieldAddr rfl Fa.F81_1 ?_)
  refine wo (op_load rfl (H1.cellO (i := 0) rfl rfl) Try.underlying79 rfl ?_)
  refine wo (op_move rfl ?_)
  refine wo (op_indexAddr Try.underlying79 Fa.I86 rfl (H1.arrO (i := 2) rfl) rfl (by omega) ?_)
  refine wo (op_fieldAddrS rfl Fa.F86_0 ?_)
  refine wo (op_load rfl (Arr.atF (k := 0) (H1.arrO (i := 2) rfl) (fun _ => rfl) (by decide) Gr.no (by omega) rfl) Try.underlying3 rfl ?_)
  refine wo (op_move rfl ?_)
  refine wo (op_eqlI rfl rfl ?_)
  refine wn ?_
  refine WC.cond rfl (fun (hb3 : (decide (((rl.getD j Gr.no).e : Int) = env)) = true) => ?_) (fun (hb3 : (decide (((rl.getD j Gr.no).e : Int) = env)) = false) => ?_)
  ·
   have hc3 := of_decide_eq_true hb3
   refine ws ?_
   refine wo (op_move rfl ?_)
   refine wo (op_assign rfl ?_)
   refine wn ?_
   refine WC.ret ?_
   refine WQ.inRet ?_
   refine WQ.thenRet ?_
   refine WQ.thenRet ?_
   refine WQ.inRet ?_
   refine WQ.thenRet ?_
   refine WQ.out (.tmp rfl .nil) ?_
   obtain rfl := find_at hinv hnk hb3
   exact ⟨rfl, H1.fr⟩
  ·
   have hc3 := of_decide_eq_false hb3
   refine WC.skip ?_
   refine WQ.inNormal ?_
   refine WQ.next ?_
   refine WC.region ?_
   refine wo (op_move rfl ?_)
   refine wo (op_addN (b := 1) rfl rfl (by omega) ?_)
   refine wo (op_assign rfl ?_)
   refine WL.nil ?_
   exact WQ.round (j + 1) ⟨(find_nx hinv hgk hb3), H1⟩ ⟨rfl, rfl, rfl, trivial⟩ (by omega)
 ·
  have hc2 := of_decide_eq_false hb2
  refine WC.exit ?_
  refine WQ.thenExit ?_
  refine WQ.thenExit ?_
  refine WQ.inHere ?_
  refine WQ.next ?_
  refine ws ?_
  refine wo (op_assign rfl ?_)
  refine wn ?_
  refine WC.ret ?_
  refine WQ.out (.tmp rfl .nil) ?_
  exact absurd hk (by omega)
set_option maxRecDepth 100000 in
theorem find_no (r : Nat) (pg : UInt32) (hv rv : Value) (he : List UInt32) (rl : List Gr) (env : Int) (w : World) (hR : cellsAt w r [(vU32 pg), hv, rv]) (hH : Arr w hv 1 he.length (List.map vU32 he)) (hV : Arr w rv 7 rl.length (List.flatMap rgc rl)) (hD : grD.list.ok w rl) (hl : rl.length < 2 ^ 40) (hno : hasE rl env = false) :
  Calls Try.prog 104 #[(ptr r 0), (vI env)] w (fun e w' => e = .returned (vI (-1)) ∧ Fr [] w w') := by
 refine enter (args := [(ptr r 0), (vI env)]) Try.func104 rfl rfl ?_
 have H0 : Owl.Own [] w w [Ent.bo r [(vU32 pg), hv, rv], Ent.ar hv 1 he.length (List.map vU32 he), Ent.ar rv 7 rl.length (List.flatMap rgc rl), Ent.dp grD.list rl] := (((((Own.start w []).oldB hR).oldA hH).oldA hV).dpOld hD)
 refine ws ?_
 refine wo (op_assign rfl ?_)
 refine wn ?_
 refine WC.seq ?_
 refine ws ?_
 refine wo (op_assign rfl ?_)
 refine wn ?_
 refine WC.block ?_
 refine WC.loop (α := Nat) (fun j => [(0, (ptr r 0)), (1, (vI env)), (5, (vN j))]) (fun j w' => (j ≤ rl.length) ∧ Owl.Own [] w w' [Ent.bo r [(vU32 pg), hv, rv], Ent.ar hv 1 he.length (List.map vU32 he), Ent.ar rv 7 rl.length (List.flatMap rgc rl), Ent.dp grD.list rl]) (fun j => rl.length - j) 0 ⟨(Nat.zero_le _), H0⟩ ⟨rfl, rfl, rfl, trivial⟩ ?_
 rintro j w1 ⟨hinv, H1⟩
 show WC _ _ _ _ _ [(0, (ptr r 0)), (1, (vI env)), (5, (vN j))] _
 refine WC.seq ?_
 refine ws ?_
 refine wo (op_move rfl ?_)
 refine wo (op_move rfl ?_)
 refine wo (op_nilCheck rfl ?_)
 refine wo (op_fieldAddr rfl Fa.F81_1 ?_)
 refine wo (op_load rfl (H1.cellO (i := 0) rfl rfl) Try.underlying79 rfl ?_)
 refine wo (op_lenA Try.underlying79 rfl (H1.arrO (i := 2) rfl) ?_)
 refine wo (op_lssN rfl rfl ?_)
 refine wn ?_
 refine WC.cond rfl (fun (hb2 : (decide (j < rl.length)) = true) => ?_) (fun (hb2 : (decide (j < rl.length)) = false) => ?_)
 ·
  have hc2 := of_decide_eq_true hb2
  refine WC.skip ?_
  refine WQ.next ?_
  refine WC.seq ?_
  refine WC.block ?_
  refine ws ?_
  refine wo (op_move rfl ?_)
  refine wo (op_nilCheck rfl ?_)
  refine wo (op_fieldAddr rfl Fa.F81_1 ?_)
  refine wo (op_load rfl (H1.cellO (i := 0) rfl rfl) Try.underlying79 rfl ?_)
  refine wo (op_move rfl ?_)
  refine wo (op_indexAddr Try.underlying79 Fa.I86 rfl (H1.arrO (i := 2) rfl) rfl (by omega) ?_)
  refine wo (op_fieldAddrS rfl Fa.F86_0 ?_)
  refine wo (op_load rfl (Arr.atF (k := 0) (H1.arrO (i := 2) rfl) (fun _ => rfl) (by decide) Gr.no (by omega) rfl) Try.underlying3 rfl ?_)
  refine wo (op_move rfl ?_)
  refine wo (op_eqlI rfl rfl ?_)
  refine wn ?_
  refine WC.cond rfl (fun (hb3 : (decide (((rl.getD j Gr.no).e : Int) = env)) = true) => ?_) (fun (hb3 : (decide (((rl.getD j Gr.no).e : Int) = env)) = false) => ?_)
  ·
   have hc3 := of_decide_eq_true hb3
   refine ws ?_
   refine wo (op_move rfl ?_)
   refine wo (op_assign rfl ?_)
   refine wn ?_
   refine WC.ret ?_
   refine WQ.inRet ?_
   refine WQ.thenRet ?_
   refine WQ.thenRet ?_
   refine WQ.inRet ?_
   refine WQ.thenRet ?_
   refine WQ.out (.tmp rfl .nil) ?_
   exact absurd (has_getD hno (by omega)) (by rw [show grIs env (rl.getD j Gr.no) = true from hb3]; decide)
  ·
   have hc3 := of_decide_eq_false hb3
   refine WC.skip ?_
   refine WQ.inNormal ?_
   refine WQ.next ?_
   refine WC.region ?_
   refine wo (op_move rfl ?_)
   refine wo (op_addN (b := 1) rfl rfl (by omega) ?_)
   refine wo (op_assign rfl ?_)
   refine WL.nil ?_
   exact WQ.round (j + 1) ⟨(by omega), H1⟩ ⟨rfl, rfl, rfl, trivial⟩ (by omega)
 ·
  have hc2 := of_decide_eq_false hb2
  refine WC.exit ?_
  refine WQ.thenExit ?_
  refine WQ.thenExit ?_
  refine WQ.inHere ?_
  refine WQ.next ?_
  refine ws ?_
  refine wo (op_assign rfl ?_)
  refine wn ?_
  refine WC.ret ?_
  refine WQ.out (.tmp rfl .nil) ?_
  exact ⟨rfl, H1.fr⟩
set_option maxRecDepth 100000 in
theorem rfree_ok (r : Nat) (pg : UInt32) (hv rv : Value) (he : List UInt32) (rl : List Gr) (w : World) (hR : cellsAt w r [(vU32 pg), hv, rv]) (hH : Arr w hv 1 he.length (List.map vU32 he)) (hV : Arr w rv 7 rl.length (List.flatMap rgc rl)) (hD : grD.list.ok w rl) (hl : rl.length < 2 ^ 40)  :
  Calls Try.prog 37 #[(ptr r 0)] w (fun e w' => e = .returned (vU32 (freeS pg rl)) ∧ Fr [] w w') := by
 refine enter (args := [(ptr r 0)]) Try.func37 rfl rfl ?_
 have H0 : Owl.Own [] w w [Ent.bo r [(vU32 pg), hv, rv], Ent.ar hv 1 he.length (List.map vU32 he), Ent.ar rv 7 rl.length (List.flatMap rgc rl), Ent.dp grD.list rl] := (((((Own.start w []).oldB hR).oldA hH).oldA hV).dpOld hD)
 refine ws ?_
 refine wo (op_assign rfl ?_)
 refine wn ?_
 refine ws ?_
 refine wo (op_move rfl ?_)
 refine wo (op_nilCheck rfl ?_)
 refine wo (op_fieldAddr rfl Fa.F81_0 ?_)
 refine wo (op_fieldAddr rfl Fa.F48_0 ?_)
 refine wo (op_load rfl (H0.cellO (i := 0) rfl rfl) Try.underlying29 rfl ?_)
 refine wo (op_assign rfl ?_)
 refine wn ?_
 refine WC.seq ?_
 refine ws ?_
 refine wo (op_assign rfl ?_)
 refine wn ?_
 refine WC.block ?_
 refine WC.loop (α := Nat) (fun k => [(0, (ptr r 0)), (3, (vU32 (freeS pg (rl.take k)))), (4, (vN k))]) (fun k w' => (k ≤ rl.length) ∧ Owl.Own [] w w' [Ent.bo r [(vU32 pg), hv, rv], Ent.ar hv 1 he.length (List.map vU32 he), Ent.ar rv 7 rl.length (List.flatMap rgc rl), Ent.dp grD.list rl]) (fun k => rl.length - k) 0 ⟨(Nat.zero_le _), H0⟩ ⟨rfl, (congrArg (fun q => some (vU32 q)) (freeS_nil pg).symm), rfl, trivial⟩ ?_
 rintro k w1 ⟨hinv, H1⟩
 show WC _ _ _ _ _ [(0, (ptr r 0)), (3, (vU32 (freeS pg (rl.take k)))), (4, (vN k))] _
 refine WC.seq ?_
 refine ws ?_
 refine wo (op_move rfl ?_)
 refine wo (op_move rfl ?_)
 refine wo (op_nilCheck rfl ?_)
 refine wo (op_fieldAddr rfl Fa.F81_1 ?_)
 refine wo (op_load rfl (H1.cellO (i := 0) rfl rfl) Try.underlying79 rfl ?_)
 refine wo (op_lenA Try.underlying79 rfl (H1.arrO (i := 2) rfl) ?_)
 refine wo (op_lssN rfl rfl ?_)
 refine wn ?_
 refine WC.cond rfl (fun (hb2 : (decide (k < rl.length)) = true) => ?_) (fun (hb2 : (decide (k < rl.length)) = false) => ?_)
 ·
  have hc2 := of_decide_eq_true hb2
  refine WC.skip ?_
  refine WQ.next ?_
  refine WC.seq ?_
  refine WC.block ?_
  refine WC.draw 21 Fa.M H1 (HW.op rfl (fun w1 H1 => op_move rfl ⟨rfl, Fr.refl _ _⟩) (HW.op rfl (fun w1 H1 => op_move rfl ⟨rfl, Fr.refl _ _⟩) (HW.op rfl (fun w1 H1 => op_nilCheck rfl ⟨rfl, Fr.refl _ _⟩) (HW.op rfl (fun w1 H1 => op_fieldAddr rfl Fa.F81_1 ⟨rfl, Fr.refl _ _⟩) (HW.op rfl (fun w1 H1 => op_load rfl (H1.cellO (i := 0) rfl rfl) Try.underlying79 rfl ⟨rfl, Fr.refl _ _⟩) (HW.op rfl (fun w1 H1 => op_move rfl ⟨rfl, Fr.refl _ _⟩) (HW.op rfl (fun w1 H1 => op_indexAddr Try.underlying79 Fa.I86 rfl (H1.arrO (i := 2) rfl) rfl (by omega) ⟨rfl, Fr.refl _ _⟩) (HW.op rfl (fun w1 H1 => op_fieldAddrS rfl Fa.F86_1 ⟨rfl, Fr.refl _ _⟩) (HW.op rfl (fun w1 H1 => op_fieldAddrS rfl Fa.F59_0 ⟨rfl, Fr.refl _ _⟩) (HW.op rfl (fun w1 H1 => op_load rfl (Arr.atF (k := 1) (H1.arrO (i := 2) rfl) (fun _ => rfl) (by decide) Gr.no (by omega) rfl) Try.underlying29 rfl ⟨rfl, Fr.refl _ _⟩) (HW.op rfl (fun w1 H1 => op_subU32 rfl rfl ⟨rfl, Fr.refl _ _⟩) (HW.op rfl (fun w1 H1 => op_move rfl ⟨rfl, Fr.refl _ _⟩) (HW.op rfl (fun w1 H1 => op_nilCheck rfl ⟨rfl, Fr.refl _ _⟩) (HW.op rfl (fun w1 H1 => op_fieldAddr rfl Fa.F81_1 ⟨rfl, Fr.refl _ _⟩) (HW.op rfl (fun w1 H1 => op_load rfl (H1.cellO (i := 0) rfl rfl) Try.underlying79 rfl ⟨rfl, Fr.refl _ _⟩) (HW.op rfl (fun w1 H1 => op_move rfl ⟨rfl, Fr.refl _ _⟩) (HW.op rfl (fun w1 H1 => op_indexAddr Try.underlying79 Fa.I86 rfl (H1.arrO (i := 2) rfl) rfl (by omega) ⟨rfl, Fr.refl _ _⟩) (HW.op rfl (fun w1 H1 => op_fieldAddrS rfl Fa.F86_2 ⟨rfl, Fr.refl _ _⟩) (HW.op rfl (fun w1 H1 => op_load rfl (Arr.atF (k := 5) (H1.arrO (i := 2) rfl) (fun _ => rfl) (by decide) Gr.no (by omega) rfl) Try.underlying29 rfl ⟨rfl, Fr.refl _ _⟩) (HW.op rfl (fun w1 H1 => op_subU32 rfl rfl ⟨rfl, Fr.refl _ _⟩) (HW.op rfl (fun w1 H1 => op_assign rfl ⟨rfl, Fr.refl _ _⟩)  HW.nil))))))))))))))))))))) (by kernel_rfl) ?_
  intro β3 w3 H3
  refine WL.nil ?_
  refine WQ.inNormal ?_
  refine WQ.next ?_
  refine WC.region ?_
  refine wo (op_move rfl ?_)
  refine wo (op_addN (b := 1) rfl rfl (by omega) ?_)
  refine wo (op_assign rfl ?_)
  refine WL.nil ?_
  exact WQ.round (k + 1) ⟨(by omega), H3⟩ ⟨rfl, (congrArg (fun q => some (vU32 q)) (freeS_step (by omega))), rfl, trivial⟩ (by omega)
 ·
  have hc2 := of_decide_eq_false hb2
  refine WC.exit ?_
  refine WQ.thenExit ?_
  refine WQ.thenExit ?_
  refine WQ.inHere ?_
  refine WQ.next ?_
  refine ws ?_
  refine wo (op_move rfl ?_)
  refine wo (op_assign rfl ?_)
  refine wn ?_
  refine WC.ret ?_
  refine WQ.out (.tmp rfl .nil) ?_
  exact ⟨by rw [List.take_of_length_le (by omega)]; rfl, H1.fr⟩
set_option maxRecDepth 100000 in
theorem rbusy_ok (r : Nat) (pg : UInt32) (hv rv : Value) (he : List UInt32) (rl : List Gr) (mp : UInt32) (ev pv : Value) (xs : List Xt) (ps : List UInt16) (con : Bool) (w : World) (hR : cellsAt w r [(vU32 pg), hv, rv]) (hH : Arr w hv 1 he.length (List.map vU32 he)) (hV : Arr w rv 7 rl.length (List.flatMap rgc rl)) (hD : grD.list.ok w rl) (hE : Arr w ev 2 xs.length (List.flatMap xtc xs)) (hP : Arr w pv 1 ps.length (List.map vU16 ps)) (hl : rl.length < 2 ^ 40) (hfit : ∀ g ∈ rl, g.ps.length < 2 ^ 40 ∧ g.xs.length < 2 ^ 40) (hn : xs.length < 2 ^ 40) (hm : ps.length < 2 ^ 40) :
  Calls Try.prog 105 #[(ptr r 0), (.agg #[(vU32 mp), ev, pv, (.bool con)])] w (fun e w' => e = .returned (.bool (busyR rl xs ps)) ∧ Fr [] w w') := by
 refine enter (args := [(ptr r 0), (.agg #[(vU32 mp), ev, pv, (.bool con)])]) Try.func105 rfl rfl ?_
 have H0 : Owl.Own [] w w [Ent.bo r [(vU32 pg), hv, rv], Ent.ar hv 1 he.length (List.map vU32 he), Ent.ar rv 7 rl.length (List.flatMap rgc rl), Ent.dp grD.list rl] := (((((Own.start w []).oldB hR).oldA hH).oldA hV).dpOld hD)
 refine ws ?_
 refine wo (op_box H0 rfl rfl (fun b1 w1 H1 => ?_))
 refine wo (op_assign rfl ?_)
 refine wn ?_
 refine WC.seq ?_
 refine ws ?_
 refine wo (op_assign rfl ?_)
 refine wn ?_
 refine WC.block ?_
 refine WC.loop (α := Nat) (fun i => [(0, (ptr r 0)), (3, (ptr b1 0)), (5, (vN i))]) (fun i w' => (i ≤ rl.length ∧ (∀ j, j < i → busyRg xs ps (rl.getD j Gr.no) = false)) ∧ Owl.Own [] w w' [Ent.bo r [(vU32 pg), hv, rv], Ent.ar hv 1 he.length (List.map vU32 he), Ent.ar rv 7 rl.length (List.flatMap rgc rl), Ent.dp grD.list rl, .blk b1 [(vU32 mp), ev, pv, (.bool con)] 59]) (fun i => rl.length - i) 0 ⟨⟨Nat.zero_le _, fun j h => by omega⟩, H1⟩ ⟨rfl, rfl, rfl, trivial⟩ ?_
 rintro i w2 ⟨⟨hi1, hok⟩, H2⟩
 show WC _ _ _ _ _ [(0, (ptr r 0)), (3, (ptr b1 0)), (5, (vN i))] _
 refine WC.seq ?_
 refine ws ?_
 refine wo (op_move rfl ?_)
 refine wo (op_move rfl ?_)
 refine wo (op_nilCheck rfl ?_)
 refine wo (op_fieldAddr rfl Fa.F81_1 ?_)
 refine wo (op_load rfl (H2.cellO (i := 0) rfl rfl) Try.underlying79 rfl ?_)
 refine wo (op_lenA Try.underlying79 rfl (H2.arrO (i := 2) rfl) ?_)
 refine wo (op_lssN rfl rfl ?_)
 refine wn ?_
 refine WC.cond rfl (fun (hb3 : (decide (i < rl.length)) = true) => ?_) (fun (hb3 : (decide (i < rl.length)) = false) => ?_)
 ·
  have hc3 := of_decide_eq_true hb3
  have hgf := hfit (rl.getD i Gr.no) (by rw [show rl.getD i Gr.no = rl[i] by simp [List.getD, show i < rl.length by omega]]; exact List.getElem_mem _)
  refine WC.skip ?_
  refine WQ.next ?_
  refine WC.seq ?_
  refine WC.block ?_
  refine WC.seq ?_
  refine ws ?_
  refine wo (op_assign rfl ?_)
  refine wn ?_
  refine WC.block ?_
  refine WC.loop (α := Nat) (fun k => [(0, (ptr r 0)), (3, (ptr b1 0)), (5, (vN i)), (6, (vN k))]) (fun k w' => (k ≤ xs.length ∧ (∀ j, j < k → (fun x : Xt => decide ((extG (rl.getD i Gr.no).xs x.id).bl > 0)) (xs.getD j Xt.zero) = false)) ∧ Owl.Own [] w w' [Ent.bo r [(vU32 pg), hv, rv], Ent.ar hv 1 he.length (List.map vU32 he), Ent.ar rv 7 rl.length (List.flatMap rgc rl), Ent.dp grD.list rl, .blk b1 [(vU32 mp), ev, pv, (.bool con)] 59]) (fun k => xs.length - k) 0 ⟨⟨Nat.zero_le _, fun j h => by omega⟩, H2⟩ ⟨rfl, rfl, rfl, rfl, trivial⟩ ?_
  rintro k w4 ⟨⟨hk1, hok2⟩, H4⟩
  show WC _ _ _ _ _ [(0, (ptr r 0)), (3, (ptr b1 0)), (5, (vN i)), (6, (vN k))] _
  refine WC.seq ?_
  refine ws ?_
  refine wo (op_move rfl ?_)
  refine wo (op_fieldAddr rfl Fa.F59_1 ?_)
  refine wo (op_load rfl (H4.cell (i := 4) rfl rfl) Try.underlying56 rfl ?_)
  refine wo (op_lenA Try.underlying56 rfl (H4.arr hE) ?_)
  refine wo (op_lssN rfl rfl ?_)
  refine wn ?_
  refine WC.cond rfl (fun (hb5 : (decide (k < xs.length)) = true) => ?_) (fun (hb5 : (decide (k < xs.length)) = false) => ?_)
  ·
   have hc5 := of_decide_eq_true hb5
   refine WC.skip ?_
   refine WQ.next ?_
   refine WC.seq ?_
   refine WC.block ?_
   refine WC.seq ?_
   refine WC.draw 16 Fa.M H4 (HW.op rfl (fun w1 H1 => op_move rfl ⟨rfl, Fr.refl _ _⟩) (HW.op rfl (fun w1 H1 => op_nilCheck rfl ⟨rfl, Fr.refl _ _⟩) (HW.op rfl (fun w1 H1 => op_fieldAddr rfl Fa.F81_1 ⟨rfl, Fr.refl _ _⟩) (HW.op rfl (fun w1 H1 => op_load rfl (H1.cellO (i := 0) rfl rfl) Try.underlying79 rfl ⟨rfl, Fr.refl _ _⟩) (HW.op rfl (fun w1 H1 => op_move rfl ⟨rfl, Fr.refl _ _⟩) (HW.op rfl (fun w1 H1 => op_indexAddr Try.underlying79 Fa.I86 rfl (H1.arrO (i := 2) rfl) rfl (by omega) ⟨rfl, Fr.refl _ _⟩) (HW.op rfl (fun w1 H1 => op_fieldAddrS rfl Fa.F86_1 ⟨rfl, Fr.refl _ _⟩) (HW.op rfl (fun w1 H1 => op_loadSP (vs := [(vU32 (rl.getD i Gr.no).pg), (rl.getD i Gr.no).ev, (rl.getD i Gr.no).pv, (.bool (rl.getD i Gr.no).con)]) rfl (Arr.atsP (off := 1) (H1.arrO (i := 2) rfl) (fun _ => rfl) (by decide) Gr.no (by omega) rfl) Try.underlying59 rfl Fa.I59 rfl ⟨rfl, Fr.refl _ _⟩) (HW.op rfl (fun w1 H1 => op_fieldAddr rfl Fa.F59_1 ⟨rfl, Fr.refl _ _⟩) (HW.op rfl (fun w1 H1 => op_load rfl (H1.cell (i := 4) rfl rfl) Try.underlying56 rfl ⟨rfl, Fr.refl _ _⟩) (HW.op rfl (fun w1 H1 => op_move rfl ⟨rfl, Fr.refl _ _⟩) (HW.op rfl (fun w1 H1 => op_indexAddr Try.underlying56 Fa.I108 rfl (H1.arr hE) rfl (by omega) ⟨rfl, Fr.refl _ _⟩) (HW.op rfl (fun w1 H1 => op_fieldAddrS rfl Fa.F108_0 ⟨rfl, Fr.refl _ _⟩) (HW.op rfl (fun w1 H1 => op_load rfl (Arr.atF (k := 0) (H1.arr hE) (fun _ => rfl) (by decide) Xt.zero (by omega) rfl) Try.underlying29 rfl ⟨rfl, Fr.refl _ _⟩) (HW.op rfl (fun w1 H1 => op_callF Fa.C106 rfl ((rblocks_ok ((rl.getD i Gr.no).pg) _ _ ((rl.getD i Gr.no).xs) ((rl.getD i Gr.no).ps) ((rl.getD i Gr.no).con) ((xs.getD k Xt.zero).id) _ ((GrD_xs (Deep.getD grD (H1.dpO (i := 3) rfl) Gr.no (GrD_zero _) i))) ((GrD_ps (Deep.getD grD (H1.dpO (i := 3) rfl) Gr.no (GrD_zero _) i))) hgf.2).mono (fun e w2 hq => ⟨_, hq.1, rfl, hq.2⟩))) (HW.op rfl (fun w1 H1 => op_gtrU32 (b := 0) rfl rfl ⟨rfl, Fr.refl _ _⟩)  HW.nil)))))))))))))))) (by kernel_rfl) ?_
   intro β7 w7 H7
   refine wn ?_
   refine WC.cond rfl (fun (hb8 : (decide ((extG ((rl.getD i Gr.no).xs) ((xs.getD k Xt.zero).id)).bl > (0 : UInt32))) = true) => ?_) (fun (hb8 : (decide ((extG ((rl.getD i Gr.no).xs) ((xs.getD k Xt.zero).id)).bl > (0 : UInt32))) = false) => ?_)
   ·
    have hc8 := of_decide_eq_true hb8
    refine ws ?_
    refine wo (op_assign rfl ?_)
    refine wn ?_
    refine WC.ret ?_
    refine WQ.inRet ?_
    refine WQ.thenRet ?_
    refine WQ.thenRet ?_
    refine WQ.inRet ?_
    refine WQ.thenRet ?_
    refine WQ.inRet ?_
    refine WQ.thenRet ?_
    refine WQ.thenRet ?_
    refine WQ.inRet ?_
    refine WQ.thenRet ?_
    refine WQ.out (.tmp rfl .nil) ?_
    exact ⟨by rw [busyR, any_yes (p := busyRg xs ps) (d := Gr.no) (k := i) (by omega) (by rw [busyRg, any_yes (p := (fun x : Xt => decide ((extG (rl.getD i Gr.no).xs x.id).bl > 0))) (d := Xt.zero) (k := k) (by omega) hb8, Bool.true_or])]; rfl, H7.fr⟩
   ·
    have hc8 := of_decide_eq_false hb8
    refine WC.skip ?_
    refine WQ.inNormal ?_
    refine WQ.next ?_
    refine WC.region ?_
    refine wo (op_move rfl ?_)
    refine wo (op_addN (b := 1) rfl rfl (by omega) ?_)
    refine wo (op_assign rfl ?_)
    refine WL.nil ?_
    exact WQ.round (k + 1) ⟨⟨by omega, allPrev hok2 hb8⟩, H7⟩ ⟨rfl, rfl, rfl, rfl, trivial⟩ (by omega)
  ·
   have hc5 := of_decide_eq_false hb5
   have hxa : xs.any (fun x : Xt => decide ((extG (rl.getD i Gr.no).xs x.id).bl > 0)) = false := any_no (d := Xt.zero) (fun j hj => hok2 j (by omega))
   refine WC.exit ?_
   refine WQ.thenExit ?_
   refine WQ.thenExit ?_
   refine WQ.inHere ?_
   refine WQ.next ?_
   refine ws ?_
   refine wo (op_assign rfl ?_)
   refine wn ?_
   refine WC.block ?_
   refine WC.loop (α := Nat) (fun q => [(0, (ptr r 0)), (3, (ptr b1 0)), (5, (vN i)), (7, (vN q))]) (fun q w' => (q ≤ ps.length ∧ (∀ j, j < q → busyQ (rl.getD i Gr.no) (ps.getD j 0) = false)) ∧ Owl.Own [] w w' [Ent.bo r [(vU32 pg), hv, rv], Ent.ar hv 1 he.length (List.map vU32 he), Ent.ar rv 7 rl.length (List.flatMap rgc rl), Ent.dp grD.list rl, .blk b1 [(vU32 mp), ev, pv, (.bool con)] 59]) (fun q => ps.length - q) 0 ⟨⟨Nat.zero_le _, fun j h => by omega⟩, H4⟩ ⟨rfl, rfl, rfl, rfl, trivial⟩ ?_
   rintro q w9 ⟨⟨hq1, hok3⟩, H9⟩
   show WC _ _ _ _ _ [(0, (ptr r 0)), (3, (ptr b1 0)), (5, (vN i)), (7, (vN q))] _
   refine WC.seq ?_
   refine ws ?_
   refine wo (op_move rfl ?_)
   refine wo (op_fieldAddr rfl Fa.F59_2 ?_)
   refine wo (op_load rfl (H9.cell (i := 4) rfl rfl) Try.underlying57 rfl ?_)
   refine wo (op_lenA Try.underlying57 rfl (H9.arr hP) ?_)
   refine wo (op_lssN rfl rfl ?_)
   refine wn ?_
   refine WC.cond rfl (fun (hb10 : (decide (q < ps.length)) = true) => ?_) (fun (hb10 : (decide (q < ps.length)) = false) => ?_)
   ·
    have hc10 := of_decide_eq_true hb10
    refine WC.skip ?_
    refine WQ.next ?_
    refine WC.seq ?_
    refine WC.block ?_
    refine WC.seq ?_
    refine WC.draw 14 Fa.M H9 (HW.op rfl (fun w1 H1 => op_move rfl ⟨rfl, Fr.refl _ _⟩) (HW.op rfl (fun w1 H1 => op_nilCheck rfl ⟨rfl, Fr.refl _ _⟩) (HW.op rfl (fun w1 H1 => op_fieldAddr rfl Fa.F81_1 ⟨rfl, Fr.refl _ _⟩) (HW.op rfl (fun w1 H1 => op_load rfl (H1.cellO (i := 0) rfl rfl) Try.underlying79 rfl ⟨rfl, Fr.refl _ _⟩) (HW.op rfl (fun w1 H1 => op_move rfl ⟨rfl, Fr.refl _ _⟩) (HW.op rfl (fun w1 H1 => op_indexAddr Try.underlying79 Fa.I86 rfl (H1.arrO (i := 2) rfl) rfl (by omega) ⟨rfl, Fr.refl _ _⟩) (HW.op rfl (fun w1 H1 => op_fieldAddrS rfl Fa.F86_1 ⟨rfl, Fr.refl _ _⟩) (HW.op rfl (fun w1 H1 => op_loadSP (vs := [(vU32 (rl.getD i Gr.no).pg), (rl.getD i Gr.no).ev, (rl.getD i Gr.no).pv, (.bool (rl.getD i Gr.no).con)]) rfl (Arr.atsP (off := 1) (H1.arrO (i := 2) rfl) (fun _ => rfl) (by decide) Gr.no (by omega) rfl) Try.underlying59 rfl Fa.I59 rfl ⟨rfl, Fr.refl _ _⟩) (HW.op rfl (fun w1 H1 => op_fieldAddr rfl Fa.F59_2 ⟨rfl, Fr.refl _ _⟩) (HW.op rfl (fun w1 H1 => op_load rfl (H1.cell (i := 4) rfl rfl) Try.underlying57 rfl ⟨rfl, Fr.refl _ _⟩) (HW.op rfl (fun w1 H1 => op_move rfl ⟨rfl, Fr.refl _ _⟩) (HW.op rfl (fun w1 H1 => op_indexAddr1 Try.underlying57 Fa.I50 rfl (H1.arr hP) rfl (by omega) ⟨rfl, Fr.refl _ _⟩) (HW.op rfl (fun w1 H1 => op_load rfl ((H1.arr hP).at (get_map vU16 0 (Arr.ltM (H1.arr hP) (by omega)))) Try.underlying50 rfl ⟨rfl, Fr.refl _ _⟩) (HW.op rfl (fun w1 H1 => op_callF Fa.C107 rfl ((rport1_ok ((rl.getD i Gr.no).pg) _ _ ((rl.getD i Gr.no).xs) ((rl.getD i Gr.no).ps) ((rl.getD i Gr.no).con) (ps.getD q 0) _ ((GrD_xs (Deep.getD grD (H1.dpO (i := 3) rfl) Gr.no (GrD_zero _) i))) ((GrD_ps (Deep.getD grD (H1.dpO (i := 3) rfl) Gr.no (GrD_zero _) i))) hgf.1).mono (fun e w2 hq => ⟨_, hq.1, rfl, hq.2⟩)))  HW.nil)))))))))))))) (by kernel_rfl) ?_
    intro β12 w12 H12
    refine wn ?_
    refine WC.cond rfl (fun (hb13 : (((rl.getD i Gr.no).ps).any (u16Is (ps.getD q 0))) = true) => ?_) (fun (hb13 : (((rl.getD i Gr.no).ps).any (u16Is (ps.getD q 0))) = false) => ?_)
    ·
     refine ws ?_
     refine wo (op_assign rfl ?_)
     refine wn ?_
     refine WC.ret ?_
     refine WQ.inRet ?_
     refine WQ.thenRet ?_
     refine WQ.thenRet ?_
     refine WQ.inRet ?_
     refine WQ.inRet ?_
     refine WQ.thenRet ?_
     refine WQ.thenRet ?_
     refine WQ.inRet ?_
     refine WQ.thenRet ?_
     refine WQ.out (.tmp rfl .nil) ?_
     exact ⟨by rw [busyR, any_yes (p := busyRg xs ps) (d := Gr.no) (k := i) (by omega) (by rw [busyRg, any_yes (p := busyQ (rl.getD i Gr.no)) (d := 0) (k := q) (by omega) hb13, Bool.or_true])]; rfl, H12.fr⟩
    ·
     refine WC.skip ?_
     refine WQ.inNormal ?_
     refine WQ.next ?_
     refine WC.region ?_
     refine wo (op_move rfl ?_)
     refine wo (op_addN (b := 1) rfl rfl (by omega) ?_)
     refine wo (op_assign rfl ?_)
     refine WL.nil ?_
     exact WQ.round (q + 1) ⟨⟨by omega, allPrev hok3 hb13⟩, H12⟩ ⟨rfl, rfl, rfl, rfl, trivial⟩ (by omega)
   ·
    have hc10 := of_decide_eq_false hb10
    refine WC.exit ?_
    refine WQ.thenExit ?_
    refine WQ.thenExit ?_
    refine WQ.inHere ?_
    refine WQ.inNormal ?_
    refine WQ.next ?_
    refine WC.region ?_
    refine wo (op_move rfl ?_)
    refine wo (op_addN (b := 1) rfl rfl (by omega) ?_)
    refine wo (op_assign rfl ?_)
    refine WL.nil ?_
    exact WQ.round (i + 1) ⟨⟨by omega, allPrev hok (by rw [busyRg, hxa, any_no (p := busyQ (rl.getD i Gr.no)) (d := 0) (fun j hj => hok3 j (by omega))]; rfl)⟩, H9⟩ ⟨rfl, rfl, rfl, trivial⟩ (by omega)
 ·
  have hc3 := of_decide_eq_false hb3
  refine WC.exit ?_
  refine WQ.thenExit ?_
  refine WQ.thenExit ?_
  refine WQ.inHere ?_
  refine WQ.next ?_
  refine ws ?_
  refine wo (op_assign rfl ?_)
  refine wn ?_
  refine WC.ret ?_
  refine WQ.out (.tmp rfl .nil) ?_
  exact ⟨by rw [busyR, any_no (p := busyRg xs ps) (d := Gr.no) (fun j hj => hok j (by omega))]; rfl, H2.fr⟩
set_option maxRecDepth 100000 in
theorem rleft_yes (r : Nat) (pg : UInt32) (hv rv : Value) (he : List UInt32) (rl : List Gr) (env : Int) (k : Nat) (w : World) (hR : cellsAt w r [(vU32 pg), hv, rv]) (hH : Arr w hv 1 he.length (List.map vU32 he)) (hV : Arr w rv 7 rl.length (List.flatMap rgc rl)) (hD : grD.list.ok w rl) (hl : rl.length < 2 ^ 40) (hk : k < rl.length) (hgk : grIs env (rl.getD k Gr.no) = true) (hnk : ∀ j, j < k → grIs env (rl.getD j Gr.no) = false) (hfit : ∀ g ∈ rl, g.ps.length < 2 ^ 40 ∧ g.xs.length < 2 ^ 40) :
  Calls Try.prog 74 #[(ptr r 0), (vI env)] w (fun e w' => e = .returned (vU32 ((rl.getD k Gr.no).pg - (rl.getD k Gr.no).tk)) ∧ Fr [] w w') := by
 refine enter (args := [(ptr r 0), (vI env)]) Try.func74 rfl rfl ?_
 have H0 : Owl.Own [] w w [Ent.bo r [(vU32 pg), hv, rv], Ent.ar hv 1 he.length (List.map vU32 he), Ent.ar rv 7 rl.length (List.flatMap rgc rl), Ent.dp grD.list rl] := (((((Own.start w []).oldB hR).oldA hH).oldA hV).dpOld hD)
 refine ws ?_
 refine wo (op_assign rfl ?_)
 refine wn ?_
 refine ws ?_
 refine wo (op_move rfl ?_)
 refine wo (op_move rfl ?_)
 refine wo (op_callF Fa.C104 rfl ((find_yes r pg hv rv he rl env k _ (H0.cellsAtO (i := 0) rfl) (H0.arrO (i := 1) rfl) (H0.arrO (i := 2) rfl) (H0.dpO (i := 3) rfl) hl hk hgk hnk).mono (fun e w1 hq => ?_)))
 obtain ⟨rfl, hf1⟩ := hq
 refine ⟨_, rfl, ?_⟩
 have H1 := H0.fr' hf1
 refine wo (op_assign rfl ?_)
 refine wn ?_
 refine WC.seq ?_
 refine ws ?_
 refine wo (op_move rfl ?_)
 refine wo (op_lssN (b := 0) rfl rfl ?_)
 refine wn ?_
 refine WC.no rfl (decide_eq_false (Nat.not_lt_zero _)) ?_
 refine WC.skip ?_
 refine WQ.next ?_
 refine WC.seq ?_
 refine WC.draw 19 Fa.M H1 (HW.op rfl (fun w1 H1 => op_move rfl ⟨rfl, Fr.refl _ _⟩) (HW.op rfl (fun w1 H1 => op_nilCheck rfl ⟨rfl, Fr.refl _ _⟩) (HW.op rfl (fun w1 H1 => op_fieldAddr rfl Fa.F81_1 ⟨rfl, Fr.refl _ _⟩) (HW.op rfl (fun w1 H1 => op_load rfl (H1.cellO (i := 0) rfl rfl) Try.underlying79 rfl ⟨rfl, Fr.refl _ _⟩) (HW.op rfl (fun w1 H1 => op_move rfl ⟨rfl, Fr.refl _ _⟩) (HW.op rfl (fun w1 H1 => op_indexAddr Try.underlying79 Fa.I86 rfl (H1.arrO (i := 2) rfl) rfl (by omega) ⟨rfl, Fr.refl _ _⟩) (HW.op rfl (fun w1 H1 => op_fieldAddrS rfl Fa.F86_1 ⟨rfl, Fr.refl _ _⟩) (HW.op rfl (fun w1 H1 => op_fieldAddrS rfl Fa.F59_0 ⟨rfl, Fr.refl _ _⟩) (HW.op rfl (fun w1 H1 => op_load rfl (Arr.atF (k := 1) (H1.arrO (i := 2) rfl) (fun _ => rfl) (by decide) Gr.no (by omega) rfl) Try.underlying29 rfl ⟨rfl, Fr.refl _ _⟩) (HW.op rfl (fun w1 H1 => op_move rfl ⟨rfl, Fr.refl _ _⟩) (HW.op rfl (fun w1 H1 => op_nilCheck rfl ⟨rfl, Fr.refl _ _⟩) (HW.op rfl (fun w1 H1 => op_fieldAddr rfl Fa.F81_1 ⟨rfl, Fr.refl _ _⟩) (HW.op rfl (fun w1 H1 => op_load rfl (H1.cellO (i := 0) rfl rfl) Try.underlying79 rfl ⟨rfl, Fr.refl _ _⟩) (HW.op rfl (fun w1 H1 => op_move rfl ⟨rfl, Fr.refl _ _⟩) (HW.op rfl (fun w1 H1 => op_indexAddr Try.underlying79 Fa.I86 rfl (H1.arrO (i := 2) rfl) rfl (by omega) ⟨rfl, Fr.refl _ _⟩) (HW.op rfl (fun w1 H1 => op_fieldAddrS rfl Fa.F86_3 ⟨rfl, Fr.refl _ _⟩) (HW.op rfl (fun w1 H1 => op_load rfl (Arr.atF (k := 6) (H1.arrO (i := 2) rfl) (fun _ => rfl) (by decide) Gr.no (by omega) rfl) Try.underlying29 rfl ⟨rfl, Fr.refl _ _⟩) (HW.op rfl (fun w1 H1 => op_subU32 rfl rfl ⟨rfl, Fr.refl _ _⟩) (HW.op rfl (fun w1 H1 => op_assign rfl ⟨rfl, Fr.refl _ _⟩)  HW.nil))))))))))))))))))) (by kernel_rfl) ?_
 intro β2 w2 H2
 refine wn ?_
 refine WC.ret ?_
 refine WQ.out (.tmp rfl .nil) ?_
 exact ⟨rfl, H2.fr⟩
set_option maxRecDepth 100000 in
theorem rman_yes (r : Nat) (pg : UInt32) (hv rv : Value) (he : List UInt32) (rl : List Gr) (env : Int) (k : Nat) (w : World) (hR : cellsAt w r [(vU32 pg), hv, rv]) (hH : Arr w hv 1 he.length (List.map vU32 he)) (hV : Arr w rv 7 rl.length (List.flatMap rgc rl)) (hD : grD.list.ok w rl) (hl : rl.length < 2 ^ 40) (hk : k < rl.length) (hgk : grIs env (rl.getD k Gr.no) = true) (hnk : ∀ j, j < k → grIs env (rl.getD j Gr.no) = false) (hfit : ∀ g ∈ rl, g.ps.length < 2 ^ 40 ∧ g.xs.length < 2 ^ 40) :
  Calls Try.prog 69 #[(ptr r 0), (vI env)] w (fun e w' => e = .returned (.tuple #[.agg #[vU32 (rl.getD k Gr.no).pg, (rl.getD k Gr.no).ev, (rl.getD k Gr.no).pv, .bool (rl.getD k Gr.no).con], .bool true]) ∧ Fr [] w w') := by
 refine enter (args := [(ptr r 0), (vI env)]) Try.func69 rfl rfl ?_
 have H0 : Owl.Own [] w w [Ent.bo r [(vU32 pg), hv, rv], Ent.ar hv 1 he.length (List.map vU32 he), Ent.ar rv 7 rl.length (List.flatMap rgc rl), Ent.dp grD.list rl] := (((((Own.start w []).oldB hR).oldA hH).oldA hV).dpOld hD)
 refine ws ?_
 refine wo (op_alloc H0 Fa.I59 (fun b1 w1 H1 => ?_))
 refine wo (op_assign rfl ?_)
 refine wn ?_
 refine ws ?_
 refine wo (op_move rfl ?_)
 refine wo (op_move rfl ?_)
 refine wo (op_callF Fa.C104 rfl ((find_yes r pg hv rv he rl env k _ (H1.cellsAtO (i := 0) rfl) (H1.arrO (i := 1) rfl) (H1.arrO (i := 2) rfl) (H1.dpO (i := 3) rfl) hl hk hgk hnk).mono (fun e w2 hq => ?_)))
 obtain ⟨rfl, hf2⟩ := hq
 refine ⟨_, rfl, ?_⟩
 have H2 := H1.fr' hf2
 refine wo (op_assign rfl ?_)
 refine wn ?_
 refine WC.seq ?_
 refine ws ?_
 refine wo (op_move rfl ?_)
 refine wo (op_lssN (b := 0) rfl rfl ?_)
 refine wn ?_
 refine WC.no rfl (decide_eq_false (Nat.not_lt_zero _)) ?_
 refine WC.skip ?_
 refine WQ.next ?_
 refine ws ?_
 refine wo (op_move rfl ?_)
 refine wo (op_nilCheck rfl ?_)
 refine wo (op_fieldAddr rfl Fa.F81_1 ?_)
 refine wo (op_load rfl (H2.cellO (i := 0) rfl rfl) Try.underlying79 rfl ?_)
 refine wo (op_move rfl ?_)
 refine wo (op_indexAddr Try.underlying79 Fa.I86 rfl (H2.arrO (i := 2) rfl) rfl (by omega) ?_)
 refine wo (op_fieldAddrS rfl Fa.F86_1 ?_)
 refine wo (op_loadSP (vs := [(vU32 (rl.getD k Gr.no).pg), (rl.getD k Gr.no).ev, (rl.getD k Gr.no).pv, (.bool (rl.getD k Gr.no).con)]) rfl (Arr.atsP (off := 1) (H2.arrO (i := 2) rfl) (fun _ => rfl) (by decide) Gr.no (by omega) rfl) Try.underlying59 rfl Fa.I59 rfl ?_)
 refine wo (op_storeBW (i := 4) H2 rfl rfl rfl rfl (one_cons rfl (one_cons (Arr.one ((GrD_xs (Deep.getD grD (H2.dpO (i := 3) rfl) Gr.no (GrD_zero _) k)))) (one_cons (Arr.one ((GrD_ps (Deep.getD grD (H2.dpO (i := 3) rfl) Gr.no (GrD_zero _) k)))) (one_cons rfl one_nil)))) Fa.I59 (fun w3 H3 => ?_))
 refine wo (op_assign rfl ?_)
 refine wn ?_
 refine WC.ret ?_
 refine WQ.out (.cell rfl (run_loadVarS (vs := [_, _, _, _]) (H3.cells (i := 4) rfl rfl) Try.underlying59 rfl Fa.I59 rfl) (.tmp rfl .nil)) ?_
 exact ⟨rfl, H3.fr⟩
set_option maxRecDepth 100000 in
theorem rleft_no (r : Nat) (pg : UInt32) (hv rv : Value) (he : List UInt32) (rl : List Gr) (env : Int) (w : World) (hR : cellsAt w r [(vU32 pg), hv, rv]) (hH : Arr w hv 1 he.length (List.map vU32 he)) (hV : Arr w rv 7 rl.length (List.flatMap rgc rl)) (hD : grD.list.ok w rl) (hl : rl.length < 2 ^ 40) (hno : hasE rl env = false) (hfit : ∀ g ∈ rl, g.ps.length < 2 ^ 40 ∧ g.xs.length < 2 ^ 40) :
  Calls Try.prog 74 #[(ptr r 0), (vI env)] w (fun e w' => e = .returned (vU32 (Gr.no.pg - Gr.no.tk)) ∧ Fr [] w w') := by
 refine enter (args := [(ptr r 0), (vI env)]) Try.func74 rfl rfl ?_
 have H0 : Owl.Own [] w w [Ent.bo r [(vU32 pg), hv, rv], Ent.ar hv 1 he.length (List.map vU32 he), Ent.ar rv 7 rl.length (List.flatMap rgc rl), Ent.dp grD.list rl] := (((((Own.start w []).oldB hR).oldA hH).oldA hV).dpOld hD)
 refine ws ?_
 refine wo (op_assign rfl ?_)
 refine wn ?_
 refine ws ?_
 refine wo (op_move rfl ?_)
 refine wo (op_move rfl ?_)
 refine wo (op_callF Fa.C104 rfl ((find_no r pg hv rv he rl env _ (H0.cellsAtO (i := 0) rfl) (H0.arrO (i := 1) rfl) (H0.arrO (i := 2) rfl) (H0.dpO (i := 3) rfl) hl hno).mono (fun e w1 hq => ?_)))
 obtain ⟨rfl, hf1⟩ := hq
 refine ⟨_, rfl, ?_⟩
 have H1 := H0.fr' hf1
 refine wo (op_assign rfl ?_)
 refine wn ?_
 refine WC.seq ?_
 refine ws ?_
 refine wo (op_move rfl ?_)
 refine wo (op_lssI (b := (0 : Int)) rfl rfl ?_)
 refine wn ?_
 refine WC.yes rfl (by decide) ?_
 refine ws ?_
 refine wo (op_assign rfl ?_)
 refine wn ?_
 refine WC.ret ?_
 refine WQ.thenRet ?_
 refine WQ.out (.tmp rfl .nil) ?_
 exact ⟨rfl, H1.fr⟩
set_option maxRecDepth 100000 in
theorem rman_no (r : Nat) (pg : UInt32) (hv rv : Value) (he : List UInt32) (rl : List Gr) (env : Int) (w : World) (hR : cellsAt w r [(vU32 pg), hv, rv]) (hH : Arr w hv 1 he.length (List.map vU32 he)) (hV : Arr w rv 7 rl.length (List.flatMap rgc rl)) (hD : grD.list.ok w rl) (hl : rl.length < 2 ^ 40) (hno : hasE rl env = false) (hfit : ∀ g ∈ rl, g.ps.length < 2 ^ 40 ∧ g.xs.length < 2 ^ 40) :
  Calls Try.prog 69 #[(ptr r 0), (vI env)] w (fun e w' => e = .returned (.tuple #[.agg #[vU32 Gr.no.pg, Gr.no.ev, Gr.no.pv, .bool Gr.no.con], .bool false]) ∧ Fr [] w w') := by
 refine enter (args := [(ptr r 0), (vI env)]) Try.func69 rfl rfl ?_
 have H0 : Owl.Own [] w w [Ent.bo r [(vU32 pg), hv, rv], Ent.ar hv 1 he.length (List.map vU32 he), Ent.ar rv 7 rl.length (List.flatMap rgc rl), Ent.dp grD.list rl] := (((((Own.start w []).oldB hR).oldA hH).oldA hV).dpOld hD)
 refine ws ?_
 refine wo (op_alloc H0 Fa.I59 (fun b1 w1 H1 => ?_))
 refine wo (op_assign rfl ?_)
 refine wn ?_
 refine ws ?_
 refine wo (op_move rfl ?_)
 refine wo (op_move rfl ?_)
 refine wo (op_callF Fa.C104 rfl ((find_no r pg hv rv he rl env _ (H1.cellsAtO (i := 0) rfl) (H1.arrO (i := 1) rfl) (H1.arrO (i := 2) rfl) (H1.dpO (i := 3) rfl) hl hno).mono (fun e w2 hq => ?_)))
 obtain ⟨rfl, hf2⟩ := hq
 refine ⟨_, rfl, ?_⟩
 have H2 := H1.fr' hf2
 refine wo (op_assign rfl ?_)
 refine wn ?_
 refine WC.seq ?_
 refine ws ?_
 refine wo (op_move rfl ?_)
 refine wo (op_lssI (b := (0 : Int)) rfl rfl ?_)
 refine wn ?_
 refine WC.yes rfl (by decide) ?_
 refine ws ?_
 refine wo (op_build (cs := [_, _, _, _]) Fa.I59 Fa.PL59 rfl rfl ?_)
 refine wo (op_storeBW (i := 4) H2 rfl rfl rfl rfl rfl Fa.I59 (fun w3 H3 => ?_))
 refine wo (op_assign rfl ?_)
 refine wn ?_
 refine WC.ret ?_
 refine WQ.thenRet ?_
 refine WQ.out (.cell rfl (run_loadVarS (vs := [_, _, _, _]) (H3.cells (i := 4) rfl rfl) Try.underlying59 rfl Fa.I59 rfl) (.tmp rfl .nil)) ?_
 exact ⟨rfl, H3.fr⟩
theorem rleft_ok (r : Nat) (pg : UInt32) (hv rv : Value) (he : List UInt32) (rl : List Gr) (env : Int) (w : World) (hR : cellsAt w r [(vU32 pg), hv, rv]) (hH : Arr w hv 1 he.length (List.map vU32 he)) (hV : Arr w rv 7 rl.length (List.flatMap rgc rl)) (hD : grD.list.ok w rl) (hl : rl.length < 2 ^ 40) (hfit : ∀ g ∈ rl, g.ps.length < 2 ^ 40 ∧ g.xs.length < 2 ^ 40) :
  Calls Try.prog 74 #[ptr r 0, vI env] w (fun e w' => e = .returned (vU32 ((obs rl env).pg - (obs rl env).tk)) ∧ Fr [] w w') := by
 cases h : hasE rl env with
 | false => rw [obs_no h]; exact rleft_no r pg hv rv he rl env w hR hH hV hD hl h hfit
 | true =>
  obtain ⟨k, hk, hgk, hnk, ho⟩ := has_at h
  rw [ho]; exact rleft_yes r pg hv rv he rl env k w hR hH hV hD hl hk hgk hnk hfit
theorem rman_ok (r : Nat) (pg : UInt32) (hv rv : Value) (he : List UInt32) (rl : List Gr) (env : Int) (w : World) (hR : cellsAt w r [(vU32 pg), hv, rv]) (hH : Arr w hv 1 he.length (List.map vU32 he)) (hV : Arr w rv 7 rl.length (List.flatMap rgc rl)) (hD : grD.list.ok w rl) (hl : rl.length < 2 ^ 40) (hfit : ∀ g ∈ rl, g.ps.length < 2 ^ 40 ∧ g.xs.length < 2 ^ 40) :
  Calls Try.prog 69 #[ptr r 0, vI env] w (fun e w' => e = .returned (.tuple #[.agg #[vU32 (obs rl env).pg, (obs rl env).ev, (obs rl env).pv, .bool (obs rl env).con], .bool (hasE rl env)]) ∧ Fr [] w w') := by
 cases h : hasE rl env with
 | false => rw [obs_no h]; exact rman_no r pg hv rv he rl env w hR hH hV hD hl h hfit
 | true =>
  obtain ⟨k, hk, hgk, hnk, ho⟩ := has_at h
  rw [ho]; exact rman_yes r pg hv rv he rl env k w hR hH hV hD hl hk hgk hnk hfit
end Go.Proofs.Ytbjhccnffacbcaa
/-! from WCap20 -/
namespace Go.Proofs.Ytbjhccnffacbcaa
open Go.Owl Go.Spec
set_option maxRecDepth 100000 in
theorem rconsole_ok (r : Nat) (pg : UInt32) (hv rv : Value) (he : List UInt32) (rl : List Gr) (env : Int) (w : World) (hR : cellsAt w r [(vU32 pg), hv, rv]) (hH : Arr w hv 1 he.length (List.map vU32 he)) (hV : Arr w rv 7 rl.length (List.flatMap rgc rl)) (hD : grD.list.ok w rl) (hl : rl.length < 2 ^ 40) (hfit : ∀ g ∈ rl, g.ps.length < 2 ^ 40 ∧ g.xs.length < 2 ^ 40)  :
  Calls Try.prog 73 #[(ptr r 0), (vI env)] w (fun e w' => e = .returned (.bool (obs rl env).con) ∧ Fr [] w w') := by
 refine enter (args := [(ptr r 0), (vI env)]) Try.func73 rfl rfl ?_
 have H0 : Owl.Own [] w w [Ent.bo r [(vU32 pg), hv, rv], Ent.ar hv 1 he.length (List.map vU32 he), Ent.ar rv 7 rl.length (List.flatMap rgc rl), Ent.dp grD.list rl] := (((((Own.start w []).oldB hR).oldA hH).oldA hV).dpOld hD)
 refine ws ?_
 refine wo (op_assign rfl ?_)
 refine wn ?_
 refine ws ?_
 refine wo (op_move rfl ?_)
 refine wo (op_move rfl ?_)
 refine wo (op_callF Fa.C69 rfl ((rman_ok r pg hv rv he rl env _ (H0.cellsAtO (i := 0) rfl) (H0.arrO (i := 1) rfl) (H0.arrO (i := 2) rfl) (H0.dpO (i := 3) rfl) hl hfit).mono (fun e w1 hq => ?_)))
 obtain ⟨rfl, hf1⟩ := hq
 refine ⟨_, rfl, ?_⟩
 have H1 := H0.fr' hf1
 refine wo (op_move rfl ?_)
 refine wo (op_extract rfl rfl ?_)
 refine wo (op_extract rfl rfl ?_)
 refine wo (op_alloc H1 Fa.I59 (fun b2 w2 H2 => ?_))
 refine wo (op_storeBW (i := 4) H2 rfl rfl rfl rfl (one_cons rfl (one_cons (Arr.one ((GrD_xs (GrD_obs (H2.dpO (i := 3) rfl) env)))) (one_cons (Arr.one ((GrD_ps (GrD_obs (H2.dpO (i := 3) rfl) env)))) (one_cons rfl one_nil)))) Fa.I59 (fun w3 H3 => ?_))
 refine wo (op_assign rfl ?_)
 refine wn ?_
 refine ws ?_
 refine wo (op_move rfl ?_)
 refine wo (op_move rfl ?_)
 refine WL.split (t := 14) rfl (fun (hb4 : (hasE rl env) = true) => ?_) (fun (hb4 : (hasE rl env) = false) => ?_)
 ·
  refine WL.yes rfl rfl rfl hb4 rfl (op_fieldAddr rfl Fa.F59_3 ?_)
  refine WL.yes rfl rfl rfl hb4 rfl (op_load rfl (H3.cell (i := 4) rfl rfl) Try.underlying4 rfl ?_)
  refine wo (op_pickT rfl hb4 rfl ?_)
  refine wo (op_assign rfl ?_)
  refine wn ?_
  refine WC.ret ?_
  refine WQ.out (.tmp rfl .nil) ?_
  exact ⟨rfl, H3.fr⟩
 ·
  refine WL.no rfl rfl rfl hb4 rfl ?_
  refine WL.no rfl rfl rfl hb4 rfl ?_
  refine wo (op_pickF rfl hb4 rfl ?_)
  refine wo (op_assign rfl ?_)
  refine wn ?_
  refine WC.ret ?_
  refine WQ.out (.tmp rfl .nil) ?_
  exact ⟨by rw [obs_no hb4]; rfl, H3.fr⟩
set_option maxRecDepth 100000 in
theorem rport_ok (r : Nat) (pg : UInt32) (hv rv : Value) (he : List UInt32) (rl : List Gr) (env : Int) (y : UInt16) (w : World) (hR : cellsAt w r [(vU32 pg), hv, rv]) (hH : Arr w hv 1 he.length (List.map vU32 he)) (hV : Arr w rv 7 rl.length (List.flatMap rgc rl)) (hD : grD.list.ok w rl) (hl : rl.length < 2 ^ 40) (hfit : ∀ g ∈ rl, g.ps.length < 2 ^ 40 ∧ g.xs.length < 2 ^ 40)  :
  Calls Try.prog 72 #[(ptr r 0), (vI env), (vU16 y)] w (fun e w' => e = .returned (.bool (busyQ (obs rl env) y)) ∧ Fr [] w w') := by
 refine enter (args := [(ptr r 0), (vI env), (vU16 y)]) Try.func72 rfl rfl ?_
 have H0 : Owl.Own [] w w [Ent.bo r [(vU32 pg), hv, rv], Ent.ar hv 1 he.length (List.map vU32 he), Ent.ar rv 7 rl.length (List.flatMap rgc rl), Ent.dp grD.list rl] := (((((Own.start w []).oldB hR).oldA hH).oldA hV).dpOld hD)
 refine ws ?_
 refine wo (op_assign rfl ?_)
 refine wn ?_
 refine ws ?_
 refine wo (op_move rfl ?_)
 refine wo (op_move rfl ?_)
 refine wo (op_callF Fa.C69 rfl ((rman_ok r pg hv rv he rl env _ (H0.cellsAtO (i := 0) rfl) (H0.arrO (i := 1) rfl) (H0.arrO (i := 2) rfl) (H0.dpO (i := 3) rfl) hl hfit).mono (fun e w1 hq => ?_)))
 obtain ⟨rfl, hf1⟩ := hq
 refine ⟨_, rfl, ?_⟩
 have H1 := H0.fr' hf1
 refine wo (op_move rfl ?_)
 refine wo (op_extract rfl rfl ?_)
 refine wo (op_extract rfl rfl ?_)
 refine wo (op_alloc H1 Fa.I59 (fun b2 w2 H2 => ?_))
 refine wo (op_storeBW (i := 4) H2 rfl rfl rfl rfl (one_cons rfl (one_cons (Arr.one ((GrD_xs (GrD_obs (H2.dpO (i := 3) rfl) env)))) (one_cons (Arr.one ((GrD_ps (GrD_obs (H2.dpO (i := 3) rfl) env)))) (one_cons rfl one_nil)))) Fa.I59 (fun w3 H3 => ?_))
 refine wo (op_assign rfl ?_)
 refine wn ?_
 refine ws ?_
 refine wo (op_move rfl ?_)
 refine wo (op_move rfl ?_)
 refine WL.split (t := 16) rfl (fun (hb4 : (hasE rl env) = true) => ?_) (fun (hb4 : (hasE rl env) = false) => ?_)
 ·
  refine WL.yes rfl rfl rfl hb4 rfl (op_loadS (vs := [_, _, _, _]) rfl (H3.cells (i := 4) rfl rfl) Try.underlying59 rfl Fa.I59 rfl ?_)
  refine WL.yes rfl rfl rfl hb4 rfl (op_move rfl ?_)
  refine WL.yes rfl rfl rfl hb4 rfl (op_callF Fa.C107 rfl ((rport1_ok ((obs rl env).pg) _ _ ((obs rl env).xs) ((obs rl env).ps) ((obs rl env).con) y _ ((GrD_xs (GrD_obs (H3.dpO (i := 3) rfl) env))) ((GrD_ps (GrD_obs (H3.dpO (i := 3) rfl) env))) (obs_fit hfit env).1).mono (fun e w5 hq => ?_)))
  obtain ⟨rfl, hf5⟩ := hq
  refine ⟨_, rfl, ?_⟩
  have H5 := H3.fr' hf5
  refine wo (op_pickT rfl hb4 rfl ?_)
  refine wo (op_assign rfl ?_)
  refine wn ?_
  refine WC.ret ?_
  refine WQ.out (.tmp rfl .nil) ?_
  exact ⟨rfl, H5.fr⟩
 ·
  refine WL.no rfl rfl rfl hb4 rfl ?_
  refine WL.no rfl rfl rfl hb4 rfl ?_
  refine WL.no rfl rfl rfl hb4 rfl ?_
  refine wo (op_pickF rfl hb4 rfl ?_)
  refine wo (op_assign rfl ?_)
  refine wn ?_
  refine WC.ret ?_
  refine WQ.out (.tmp rfl .nil) ?_
  exact ⟨by rw [obs_no hb4]; rfl, H3.fr⟩
set_option maxRecDepth 100000 in
theorem rcblk_ok (r : Nat) (pg : UInt32) (hv rv : Value) (he : List UInt32) (rl : List Gr) (env : Int) (id bk : UInt32) (w : World) (hR : cellsAt w r [(vU32 pg), hv, rv]) (hH : Arr w hv 1 he.length (List.map vU32 he)) (hV : Arr w rv 7 rl.length (List.flatMap rgc rl)) (hD : grD.list.ok w rl) (hl : rl.length < 2 ^ 40) (hfit : ∀ g ∈ rl, g.ps.length < 2 ^ 40 ∧ g.xs.length < 2 ^ 40)  :
  Calls Try.prog 71 #[(ptr r 0), (vI env), (vU32 id), (vU32 bk)] w (fun e w' => e = .returned (.bool (hasX (obs rl env).xs id && decide (bk < (extG (obs rl env).xs id).bl))) ∧ Fr [] w w') := by
 refine enter (args := [(ptr r 0), (vI env), (vU32 id), (vU32 bk)]) Try.func71 rfl rfl ?_
 have H0 : Owl.Own [] w w [Ent.bo r [(vU32 pg), hv, rv], Ent.ar hv 1 he.length (List.map vU32 he), Ent.ar rv 7 rl.length (List.flatMap rgc rl), Ent.dp grD.list rl] := (((((Own.start w []).oldB hR).oldA hH).oldA hV).dpOld hD)
 refine ws ?_
 refine wo (op_assign rfl ?_)
 refine wn ?_
 refine ws ?_
 refine wo (op_move rfl ?_)
 refine wo (op_move rfl ?_)
 refine wo (op_callF Fa.C69 rfl ((rman_ok r pg hv rv he rl env _ (H0.cellsAtO (i := 0) rfl) (H0.arrO (i := 1) rfl) (H0.arrO (i := 2) rfl) (H0.dpO (i := 3) rfl) hl hfit).mono (fun e w1 hq => ?_)))
 obtain ⟨rfl, hf1⟩ := hq
 refine ⟨_, rfl, ?_⟩
 have H1 := H0.fr' hf1
 refine wo (op_move rfl ?_)
 refine wo (op_extract rfl rfl ?_)
 refine wo (op_extract rfl rfl ?_)
 refine wo (op_alloc H1 Fa.I59 (fun b2 w2 H2 => ?_))
 refine wo (op_storeBW (i := 4) H2 rfl rfl rfl rfl (one_cons rfl (one_cons (Arr.one ((GrD_xs (GrD_obs (H2.dpO (i := 3) rfl) env)))) (one_cons (Arr.one ((GrD_ps (GrD_obs (H2.dpO (i := 3) rfl) env)))) (one_cons rfl one_nil)))) Fa.I59 (fun w3 H3 => ?_))
 refine wo (op_assign rfl ?_)
 refine wn ?_
 refine ws ?_
 refine wo (op_move rfl ?_)
 refine wo (op_move rfl ?_)
 refine WL.split (t := 18) rfl (fun (hb4 : (hasE rl env) = true) => ?_) (fun (hb4 : (hasE rl env) = false) => ?_)
 ·
  refine WL.yes rfl rfl rfl hb4 rfl (op_move rfl ?_)
  refine WL.yes rfl rfl rfl hb4 rfl (op_loadS (vs := [_, _, _, _]) rfl (H3.cells (i := 4) rfl rfl) Try.underlying59 rfl Fa.I59 rfl ?_)
  refine WL.yes rfl rfl rfl hb4 rfl (op_move rfl ?_)
  refine WL.yes rfl rfl rfl hb4 rfl (op_callF Fa.C106 rfl ((rblocks_ok ((obs rl env).pg) _ _ ((obs rl env).xs) ((obs rl env).ps) ((obs rl env).con) id _ ((GrD_xs (GrD_obs (H3.dpO (i := 3) rfl) env))) ((GrD_ps (GrD_obs (H3.dpO (i := 3) rfl) env))) (obs_fit hfit env).2).mono (fun e w5 hq => ?_)))
  obtain ⟨rfl, hf5⟩ := hq
  refine ⟨_, rfl, ?_⟩
  have H5 := H3.fr' hf5
  refine WL.yes rfl rfl rfl hb4 rfl (op_lssU32 rfl rfl ?_)
  refine wo (op_pickT rfl hb4 rfl ?_)
  refine wo (op_assign rfl ?_)
  refine wn ?_
  refine WC.ret ?_
  refine WQ.out (.tmp rfl .nil) ?_
  exact ⟨by rw [← blk_eq]; rfl, H5.fr⟩
 ·
  refine WL.no rfl rfl rfl hb4 rfl ?_
  refine WL.no rfl rfl rfl hb4 rfl ?_
  refine WL.no rfl rfl rfl hb4 rfl ?_
  refine WL.no rfl rfl rfl hb4 rfl ?_
  refine WL.no rfl rfl rfl hb4 rfl ?_
  refine wo (op_pickF rfl hb4 rfl ?_)
  refine wo (op_assign rfl ?_)
  refine wn ?_
  refine WC.ret ?_
  refine WQ.out (.tmp rfl .nil) ?_
  exact ⟨by rw [obs_no hb4]; rfl, H3.fr⟩
end Go.Proofs.Ytbjhccnffacbcaa
/-! from WCap21 -/
namespace Go.Proofs.Ytbjhccnffacbcaa
open Go.Owl Go.Spec
set_option maxRecDepth 100000 in
theorem rmsame_ok (pg : UInt32) (c : Bool) (ev pv : Value) (xs : List Xt) (ps : List UInt16) (pg' : UInt32) (c' : Bool) (ev' pv' : Value) (xs' : List Xt) (ps' : List UInt16) (w : World) (hE : Arr w ev 2 xs.length (List.flatMap xtc xs)) (hP : Arr w pv 1 ps.length (List.map vU16 ps)) (hF : Arr w ev' 2 xs'.length (List.flatMap xtc xs')) (hQ : Arr w pv' 1 ps'.length (List.map vU16 ps')) (hn : xs.length < 2 ^ 47) (hm : ps.length < 2 ^ 47) :
  Calls Try.prog 70 #[(.agg #[(vU32 pg), ev, pv, (.bool c)]), (.agg #[(vU32 pg'), ev', pv', (.bool c')])] w (fun e w' => e = .returned (.bool (sameM pg c xs ps pg' c' xs' ps')) ∧ Fr [] w w') := by
 refine enter (args := [(.agg #[(vU32 pg), ev, pv, (.bool c)]), (.agg #[(vU32 pg'), ev', pv', (.bool c')])]) Try.func70 rfl rfl ?_
 have H0 : Owl.Own [] w w [] := Own.start w []
 refine ws ?_
 refine wo (op_box H0 rfl rfl (fun b1 w1 H1 => ?_))
 refine wo (op_box H1 rfl rfl (fun b2 w2 H2 => ?_))
 refine wo (op_assign rfl ?_)
 refine wn ?_
 refine WC.seq ?_
 refine ws ?_
 refine wo (op_fieldAddr rfl Fa.F59_0 ?_)
 refine wo (op_load rfl (H2.cell (i := 0) rfl rfl) Try.underlying29 rfl ?_)
 refine wo (op_fieldAddr rfl Fa.F59_0 ?_)
 refine wo (op_load rfl (H2.cell (i := 1) rfl rfl) Try.underlying29 rfl ?_)
 refine wo (op_neqU32 rfl rfl ?_)
 refine wo (op_move rfl ?_)
 refine WL.split (t := 12) rfl (fun (hb3 : (decide (pg ≠ pg')) = true) => ?_) (fun (hb3 : (decide (pg ≠ pg')) = false) => ?_)
 ·
  have hc3 := of_decide_eq_true hb3
  refine WL.no rfl rfl rfl hb3 rfl ?_
  refine WL.no rfl rfl rfl hb3 rfl ?_
  refine WL.no rfl rfl rfl hb3 rfl ?_
  refine WL.no rfl rfl rfl hb3 rfl ?_
  refine WL.no rfl rfl rfl hb3 rfl ?_
  refine wo (op_pickT rfl hb3 rfl ?_)
  refine wo (op_move rfl ?_)
  refine WL.no rfl rfl rfl rfl rfl ?_
  refine WL.no rfl rfl rfl rfl rfl ?_
  refine WL.no rfl rfl rfl rfl rfl ?_
  refine WL.no rfl rfl rfl rfl rfl ?_
  refine WL.no rfl rfl rfl rfl rfl ?_
  refine WL.no rfl rfl rfl rfl rfl ?_
  refine WL.no rfl rfl rfl rfl rfl ?_
  refine wo (op_pickT rfl rfl rfl ?_)
  refine wo (op_move rfl ?_)
  refine WL.no rfl rfl rfl rfl rfl ?_
  refine WL.no rfl rfl rfl rfl rfl ?_
  refine WL.no rfl rfl rfl rfl rfl ?_
  refine WL.no rfl rfl rfl rfl rfl ?_
  refine WL.no rfl rfl rfl rfl rfl ?_
  refine WL.no rfl rfl rfl rfl rfl ?_
  refine WL.no rfl rfl rfl rfl rfl ?_
  refine wo (op_pickT rfl rfl rfl ?_)
  refine wn ?_
  refine WC.yes rfl rfl ?_
  refine ws ?_
  refine wo (op_assign rfl ?_)
  refine wn ?_
  refine WC.ret ?_
  refine WQ.thenRet ?_
  refine WQ.out (.tmp rfl .nil) ?_
  exact ⟨by rw [sameM_no (fun h => hc3 h.1)]; rfl, H2.fr⟩
 ·
  have hc3 := of_decide_eq_false hb3
  refine WL.yes rfl rfl rfl hb3 rfl (op_fieldAddr rfl Fa.F59_3 ?_)
  refine WL.yes rfl rfl rfl hb3 rfl (op_load rfl (H2.cell (i := 0) rfl rfl) Try.underlying4 rfl ?_)
  refine WL.yes rfl rfl rfl hb3 rfl (op_fieldAddr rfl Fa.F59_3 ?_)
  refine WL.yes rfl rfl rfl hb3 rfl (op_load rfl (H2.cell (i := 1) rfl rfl) Try.underlying4 rfl ?_)
  refine WL.yes rfl rfl rfl hb3 rfl (op_neqB Try.underlying4 rfl rfl ?_)
  refine wo (op_pickF rfl hb3 rfl ?_)
  refine wo (op_move rfl ?_)
  refine WL.split (t := 19) rfl (fun (hb4 : (!(c == c')) = true) => ?_) (fun (hb4 : (!(c == c')) = false) => ?_)
  ·
   have hn4 := (Bool.not_eq_true' _).mp hb4
   refine WL.no rfl rfl rfl hb4 rfl ?_
   refine WL.no rfl rfl rfl hb4 rfl ?_
   refine WL.no rfl rfl rfl hb4 rfl ?_
   refine WL.no rfl rfl rfl hb4 rfl ?_
   refine WL.no rfl rfl rfl hb4 rfl ?_
   refine WL.no rfl rfl rfl hb4 rfl ?_
   refine WL.no rfl rfl rfl hb4 rfl ?_
   refine wo (op_pickT rfl hb4 rfl ?_)
   refine wo (op_move rfl ?_)
   refine WL.no rfl rfl rfl rfl rfl ?_
   refine WL.no rfl rfl rfl rfl rfl ?_
   refine WL.no rfl rfl rfl rfl rfl ?_
   refine WL.no rfl rfl rfl rfl rfl ?_
   refine WL.no rfl rfl rfl rfl rfl ?_
   refine WL.no rfl rfl rfl rfl rfl ?_
   refine WL.no rfl rfl rfl rfl rfl ?_
   refine wo (op_pickT rfl rfl rfl ?_)
   refine wn ?_
   refine WC.yes rfl rfl ?_
   refine ws ?_
   refine wo (op_assign rfl ?_)
   refine wn ?_
   refine WC.ret ?_
   refine WQ.thenRet ?_
   refine WQ.out (.tmp rfl .nil) ?_
   exact ⟨by rw [sameM_no (fun h => by have h1 := hn4; rw [h.2.1] at h1; simp at h1)]; rfl, H2.fr⟩
  ·
   have hn4 := (Bool.not_eq_false' _).mp hb4
   refine WL.yes rfl rfl rfl hb4 rfl (op_fieldAddr rfl Fa.F59_1 ?_)
   refine WL.yes rfl rfl rfl hb4 rfl (op_load rfl (H2.cell (i := 0) rfl rfl) Try.underlying56 rfl ?_)
   refine WL.yes rfl rfl rfl hb4 rfl (op_lenA Try.underlying56 rfl (H2.arr hE) ?_)
   refine WL.yes rfl rfl rfl hb4 rfl (op_fieldAddr rfl Fa.F59_1 ?_)
   refine WL.yes rfl rfl rfl hb4 rfl (op_load rfl (H2.cell (i := 1) rfl rfl) Try.underlying56 rfl ?_)
   refine WL.yes rfl rfl rfl hb4 rfl (op_lenA Try.underlying56 rfl (H2.arr hF) ?_)
   refine WL.yes rfl rfl rfl hb4 rfl (op_neqN rfl rfl ?_)
   refine wo (op_pickF rfl hb4 rfl ?_)
   refine wo (op_move rfl ?_)
   refine WL.split (t := 28) rfl (fun (hb5 : (decide (xs.length ≠ xs'.length)) = true) => ?_) (fun (hb5 : (decide (xs.length ≠ xs'.length)) = false) => ?_)
   ·
    have hc5 := of_decide_eq_true hb5
    refine WL.no rfl rfl rfl hb5 rfl ?_
    refine WL.no rfl rfl rfl hb5 rfl ?_
    refine WL.no rfl rfl rfl hb5 rfl ?_
    refine WL.no rfl rfl rfl hb5 rfl ?_
    refine WL.no rfl rfl rfl hb5 rfl ?_
    refine WL.no rfl rfl rfl hb5 rfl ?_
    refine WL.no rfl rfl rfl hb5 rfl ?_
    refine wo (op_pickT rfl hb5 rfl ?_)
    refine wn ?_
    refine WC.yes rfl rfl ?_
    refine ws ?_
    refine wo (op_assign rfl ?_)
    refine wn ?_
    refine WC.ret ?_
    refine WQ.thenRet ?_
    refine WQ.out (.tmp rfl .nil) ?_
    exact ⟨by rw [sameM_no (fun h => hc5 (by rw [h.2.2.1]))]; rfl, H2.fr⟩
   ·
    have hc5 := of_decide_eq_false hb5
    refine WL.yes rfl rfl rfl hb5 rfl (op_fieldAddr rfl Fa.F59_2 ?_)
    refine WL.yes rfl rfl rfl hb5 rfl (op_load rfl (H2.cell (i := 0) rfl rfl) Try.underlying57 rfl ?_)
    refine WL.yes rfl rfl rfl hb5 rfl (op_lenA Try.underlying57 rfl (H2.arr hP) ?_)
    refine WL.yes rfl rfl rfl hb5 rfl (op_fieldAddr rfl Fa.F59_2 ?_)
    refine WL.yes rfl rfl rfl hb5 rfl (op_load rfl (H2.cell (i := 1) rfl rfl) Try.underlying57 rfl ?_)
    refine WL.yes rfl rfl rfl hb5 rfl (op_lenA Try.underlying57 rfl (H2.arr hQ) ?_)
    refine WL.yes rfl rfl rfl hb5 rfl (op_neqN rfl rfl ?_)
    refine wo (op_pickF rfl hb5 rfl ?_)
    refine wn ?_
    refine WC.cond rfl (fun (hb6 : (decide (ps.length ≠ ps'.length)) = true) => ?_) (fun (hb6 : (decide (ps.length ≠ ps'.length)) = false) => ?_)
    ·
     have hc6 := of_decide_eq_true hb6
     refine ws ?_
     refine wo (op_assign rfl ?_)
     refine wn ?_
     refine WC.ret ?_
     refine WQ.thenRet ?_
     refine WQ.out (.tmp rfl .nil) ?_
     exact ⟨by rw [sameM_no (fun h => hc6 (by rw [h.2.2.2]))]; rfl, H2.fr⟩
    ·
     have hc6 := of_decide_eq_false hb6
     refine WC.skip ?_
     refine WQ.next ?_
     refine WC.seq ?_
     refine ws ?_
     refine wo (op_assign rfl ?_)
     refine wn ?_
     refine WC.block ?_
     refine WC.loop (α := Nat) (fun k => [(2, (ptr b1 0)), (3, (ptr b2 0)), (5, (vN k))]) (fun k w' => (k ≤ xs.length ∧ (∀ j, j < k → xs.getD j Xt.zero = xs'.getD j Xt.zero)) ∧ Owl.Own [] w w' [.blk b1 [(vU32 pg), ev, pv, (.bool c)] 59, .blk b2 [(vU32 pg'), ev', pv', (.bool c')] 59]) (fun k => xs.length - k) 0 ⟨⟨Nat.zero_le _, fun j h => by omega⟩, H2⟩ ⟨rfl, rfl, rfl, trivial⟩ ?_
     rintro k w7 ⟨⟨hk1, hok⟩, H7⟩
     show WC _ _ _ _ _ [(2, (ptr b1 0)), (3, (ptr b2 0)), (5, (vN k))] _
     refine WC.seq ?_
     refine ws ?_
     refine wo (op_move rfl ?_)
     refine wo (op_fieldAddr rfl Fa.F59_1 ?_)
     refine wo (op_load rfl (H7.cell (i := 0) rfl rfl) Try.underlying56 rfl ?_)
     refine wo (op_lenA Try.underlying56 rfl (H7.arr hE) ?_)
     refine wo (op_lssN rfl rfl ?_)
     refine wn ?_
     refine WC.cond rfl (fun (hb8 : (decide (k < xs.length)) = true) => ?_) (fun (hb8 : (decide (k < xs.length)) = false) => ?_)
     ·
      have hc8 := of_decide_eq_true hb8
      refine WC.skip ?_
      refine WQ.next ?_
      refine WC.seq ?_
      refine WC.block ?_
      refine WC.seq ?_
      refine WC.draw 11 Fa.M H7 (HW.op rfl (fun w1 H1 => op_fieldAddr rfl Fa.F59_1 ⟨rfl, Fr.refl _ _⟩) (HW.op rfl (fun w1 H1 => op_load rfl (H1.cell (i := 0) rfl rfl) Try.underlying56 rfl ⟨rfl, Fr.refl _ _⟩) (HW.op rfl (fun w1 H1 => op_move rfl ⟨rfl, Fr.refl _ _⟩) (HW.op rfl (fun w1 H1 => op_indexAddr Try.underlying56 Fa.I108 rfl (H1.arr hE) rfl (by omega) ⟨rfl, Fr.refl _ _⟩) (HW.op rfl (fun w1 H1 => op_loadSP (vs := xtc (xs.getD k Xt.zero)) rfl (Arr.atsF (H1.arr hE) (fun _ => rfl) (by decide) Xt.zero (by omega)) Try.underlying108 rfl Fa.I108 rfl ⟨rfl, Fr.refl _ _⟩) (HW.op rfl (fun w1 H1 => op_fieldAddr rfl Fa.F59_1 ⟨rfl, Fr.refl _ _⟩) (HW.op rfl (fun w1 H1 => op_load rfl (H1.cell (i := 1) rfl rfl) Try.underlying56 rfl ⟨rfl, Fr.refl _ _⟩) (HW.op rfl (fun w1 H1 => op_move rfl ⟨rfl, Fr.refl _ _⟩) (HW.op rfl (fun w1 H1 => op_indexAddr Try.underlying56 Fa.I108 rfl (H1.arr hF) rfl (by omega) ⟨rfl, Fr.refl _ _⟩) (HW.op rfl (fun w1 H1 => op_loadSP (vs := xtc (xs'.getD k Xt.zero)) rfl (Arr.atsF (H1.arr hF) (fun _ => rfl) (by decide) Xt.zero (by omega)) Try.underlying108 rfl Fa.I108 rfl ⟨rfl, Fr.refl _ _⟩) (HW.op rfl (fun w1 H1 => op_neqS (xs := [_, _]) (ys := [_, _]) (b := (!((decide ((xs.getD k Xt.zero).id = (xs'.getD k Xt.zero).id)) && (decide ((xs.getD k Xt.zero).bl = (xs'.getD k Xt.zero).bl))))) Fa.FL108 rfl rfl rfl (by simp [eqAll, veqU32]) ⟨rfl, Fr.refl _ _⟩)  HW.nil))))))))))) (by kernel_rfl) ?_
      intro β9 w9 H9
      refine wn ?_
      refine WC.cond rfl (fun (hb10 : (!((decide ((xs.getD k Xt.zero).id = (xs'.getD k Xt.zero).id)) && (decide ((xs.getD k Xt.zero).bl = (xs'.getD k Xt.zero).bl)))) = true) => ?_) (fun (hb10 : (!((decide ((xs.getD k Xt.zero).id = (xs'.getD k Xt.zero).id)) && (decide ((xs.getD k Xt.zero).bl = (xs'.getD k Xt.zero).bl)))) = false) => ?_)
      ·
       have hn10 := (Bool.not_eq_true' _).mp hb10
       refine ws ?_
       refine wo (op_assign rfl ?_)
       refine wn ?_
       refine WC.ret ?_
       refine WQ.inRet ?_
       refine WQ.thenRet ?_
       refine WQ.thenRet ?_
       refine WQ.inRet ?_
       refine WQ.thenRet ?_
       refine WQ.out (.tmp rfl .nil) ?_
       exact ⟨by rw [sameM_no (fun h => xt_ne hn10 (by rw [h.2.2.1]))]; rfl, H9.fr⟩
      ·
       have hn10 := (Bool.not_eq_false' _).mp hb10
       refine WC.skip ?_
       refine WQ.inNormal ?_
       refine WQ.next ?_
       refine WC.region ?_
       refine wo (op_move rfl ?_)
       refine wo (op_addN (b := 1) rfl rfl (by omega) ?_)
       refine wo (op_assign rfl ?_)
       refine WL.nil ?_
       exact WQ.round (k + 1) ⟨⟨by omega, allPrev hok (xt_eq hn10)⟩, H9⟩ ⟨rfl, rfl, rfl, trivial⟩ (by omega)
     ·
      have hc8 := of_decide_eq_false hb8
      refine WC.exit ?_
      refine WQ.thenExit ?_
      refine WQ.thenExit ?_
      refine WQ.inHere ?_
      refine WQ.next ?_
      refine WC.seq ?_
      refine ws ?_
      refine wo (op_assign rfl ?_)
      refine wn ?_
      refine WC.block ?_
      refine WC.loop (α := Nat) (fun i => [(2, (ptr b1 0)), (3, (ptr b2 0)), (6, (vN i))]) (fun i w' => (i ≤ ps.length ∧ (∀ j, j < i → ps.getD j 0 = ps'.getD j 0)) ∧ Owl.Own [] w w' [.blk b1 [(vU32 pg), ev, pv, (.bool c)] 59, .blk b2 [(vU32 pg'), ev', pv', (.bool c')] 59]) (fun i => ps.length - i) 0 ⟨⟨Nat.zero_le _, fun j h => by omega⟩, H7⟩ ⟨rfl, rfl, rfl, trivial⟩ ?_
      rintro i w11 ⟨⟨hi1, hoi⟩, H11⟩
      show WC _ _ _ _ _ [(2, (ptr b1 0)), (3, (ptr b2 0)), (6, (vN i))] _
      refine WC.seq ?_
      refine ws ?_
      refine wo (op_move rfl ?_)
      refine wo (op_fieldAddr rfl Fa.F59_2 ?_)
      refine wo (op_load rfl (H11.cell (i := 0) rfl rfl) Try.underlying57 rfl ?_)
      refine wo (op_lenA Try.underlying57 rfl (H11.arr hP) ?_)
      refine wo (op_lssN rfl rfl ?_)
      refine wn ?_
      refine WC.cond rfl (fun (hb12 : (decide (i < ps.length)) = true) => ?_) (fun (hb12 : (decide (i < ps.length)) = false) => ?_)
      ·
       have hc12 := of_decide_eq_true hb12
       refine WC.skip ?_
       refine WQ.next ?_
       refine WC.seq ?_
       refine WC.block ?_
       refine WC.seq ?_
       refine WC.draw 11 Fa.M H11 (HW.op rfl (fun w1 H1 => op_fieldAddr rfl Fa.F59_2 ⟨rfl, Fr.refl _ _⟩) (HW.op rfl (fun w1 H1 => op_load rfl (H1.cell (i := 0) rfl rfl) Try.underlying57 rfl ⟨rfl, Fr.refl _ _⟩) (HW.op rfl (fun w1 H1 => op_move rfl ⟨rfl, Fr.refl _ _⟩) (HW.op rfl (fun w1 H1 => op_indexAddr1 Try.underlying57 Fa.I50 rfl (H1.arr hP) rfl (by omega) ⟨rfl, Fr.refl _ _⟩) (HW.op rfl (fun w1 H1 => op_load rfl ((H1.arr hP).at (get_map vU16 0 (Arr.ltM (H1.arr hP) (by omega)))) Try.underlying50 rfl ⟨rfl, Fr.refl _ _⟩) (HW.op rfl (fun w1 H1 => op_fieldAddr rfl Fa.F59_2 ⟨rfl, Fr.refl _ _⟩) (HW.op rfl (fun w1 H1 => op_load rfl (H1.cell (i := 1) rfl rfl) Try.underlying57 rfl ⟨rfl, Fr.refl _ _⟩) (HW.op rfl (fun w1 H1 => op_move rfl ⟨rfl, Fr.refl _ _⟩) (HW.op rfl (fun w1 H1 => op_indexAddr1 Try.underlying57 Fa.I50 rfl (H1.arr hQ) rfl (by omega) ⟨rfl, Fr.refl _ _⟩) (HW.op rfl (fun w1 H1 => op_load rfl ((H1.arr hQ).at (get_map vU16 0 (Arr.ltM (H1.arr hQ) (by omega)))) Try.underlying50 rfl ⟨rfl, Fr.refl _ _⟩) (HW.op rfl (fun w1 H1 => op_neqU16 rfl rfl ⟨rfl, Fr.refl _ _⟩)  HW.nil))))))))))) (by kernel_rfl) ?_
       intro β13 w13 H13
       refine wn ?_
       refine WC.cond rfl (fun (hb14 : (decide ((ps.getD i 0) ≠ (ps'.getD i 0))) = true) => ?_) (fun (hb14 : (decide ((ps.getD i 0) ≠ (ps'.getD i 0))) = false) => ?_)
       ·
        have hc14 := of_decide_eq_true hb14
        refine ws ?_
        refine wo (op_assign rfl ?_)
        refine wn ?_
        refine WC.ret ?_
        refine WQ.inRet ?_
        refine WQ.thenRet ?_
        refine WQ.thenRet ?_
        refine WQ.inRet ?_
        refine WQ.thenRet ?_
        refine WQ.out (.tmp rfl .nil) ?_
        exact ⟨by rw [sameM_no (fun h => hc14 (by rw [h.2.2.2]))]; rfl, H13.fr⟩
       ·
        have hc14 := of_decide_eq_false hb14
        refine WC.skip ?_
        refine WQ.inNormal ?_
        refine WQ.next ?_
        refine WC.region ?_
        refine wo (op_move rfl ?_)
        refine wo (op_addN (b := 1) rfl rfl (by omega) ?_)
        refine wo (op_assign rfl ?_)
        refine WL.nil ?_
        exact WQ.round (i + 1) ⟨⟨by omega, allPrev hoi (Decidable.not_not.mp hc14)⟩, H13⟩ ⟨rfl, rfl, rfl, trivial⟩ (by omega)
      ·
       have hc12 := of_decide_eq_false hb12
       refine WC.exit ?_
       refine WQ.thenExit ?_
       refine WQ.thenExit ?_
       refine WQ.inHere ?_
       refine WQ.next ?_
       refine ws ?_
       refine wo (op_assign rfl ?_)
       refine wn ?_
       refine WC.ret ?_
       refine WQ.out (.tmp rfl .nil) ?_
       exact ⟨by rw [sameM_iff.2 ⟨Decidable.not_not.mp hc3, by simpa using hn4, list_eqD (by omega) (fun j hj => hok j (by omega)), list_eqD (by omega) (fun j hj => hoi j (by omega))⟩]; rfl, H11.fr⟩
set_option maxRecDepth 100000 in
theorem rmay11_ok (pg : UInt32) (ev pv : Value) (xs : List Xt) (ps : List UInt16) (con : Bool) (w : World) (hE : Arr w ev 2 xs.length (List.flatMap xtc xs)) (hP : Arr w pv 1 ps.length (List.map vU16 ps)) (hn : xs.length < 2 ^ 47) (hm : ps.length < 2 ^ 47) :
  Calls Try.prog 103 #[(.agg #[(vU32 pg), ev, pv, (.bool con)])] w (fun e w' => e = .returned (.bool (mfMay pg xs ps)) ∧ Fr [] w w') := by
 refine enter (args := [(.agg #[(vU32 pg), ev, pv, (.bool con)])]) Try.func103 rfl rfl ?_
 have H0 : Owl.Own [] w w [] := Own.start w []
 refine ws ?_
 refine wo (op_box H0 rfl rfl (fun b1 w1 H1 => ?_))
 refine wo (op_assign rfl ?_)
 refine wn ?_
 refine WC.seq ?_
 refine ws ?_
 refine wo (op_assign rfl ?_)
 refine wn ?_
 refine WC.block ?_
 refine WC.loop (α := Nat) (fun k => [(1, (ptr b1 0)), (3, (vN k))]) (fun k w' => (k ≤ xs.length ∧ (∀ j, j < k → xtBad (xs.getD j Xt.zero) = false ∧ (0 < j → ¬ (xs.getD (j - 1) Xt.zero).id ≥ (xs.getD j Xt.zero).id))) ∧ Owl.Own [] w w' [.blk b1 [(vU32 pg), ev, pv, (.bool con)] 59]) (fun k => xs.length - k) 0 ⟨⟨Nat.zero_le _, fun j h => by omega⟩, H1⟩ ⟨rfl, rfl, trivial⟩ ?_
 rintro k w2 ⟨⟨hk1, hok⟩, H2⟩
 show WC _ _ _ _ _ [(1, (ptr b1 0)), (3, (vN k))] _
 refine WC.seq ?_
 refine ws ?_
 refine wo (op_move rfl ?_)
 refine wo (op_fieldAddr rfl Fa.F59_1 ?_)
 refine wo (op_load rfl (H2.cell (i := 0) rfl rfl) Try.underlying56 rfl ?_)
 refine wo (op_lenA Try.underlying56 rfl (H2.arr hE) ?_)
 refine wo (op_lssN rfl rfl ?_)
 refine wn ?_
 refine WC.cond rfl (fun (hb3 : (decide (k < xs.length)) = true) => ?_) (fun (hb3 : (decide (k < xs.length)) = false) => ?_)
 ·
  have hc3 := of_decide_eq_true hb3
  refine WC.skip ?_
  refine WQ.next ?_
  refine WC.seq ?_
  refine WC.block ?_
  refine ws ?_
  refine wo (op_fieldAddr rfl Fa.F59_1 ?_)
  refine wo (op_load rfl (H2.cell (i := 0) rfl rfl) Try.underlying56 rfl ?_)
  refine wo (op_move rfl ?_)
  refine wo (op_indexAddr Try.underlying56 Fa.I108 rfl (H2.arr hE) rfl (by omega) ?_)
  refine wo (op_loadSP (vs := xtc (xs.getD k Xt.zero)) rfl (Arr.atsF (H2.arr hE) (fun _ => rfl) (by decide) Xt.zero (by omega)) Try.underlying108 rfl Fa.I108 rfl ?_)
  refine wo (op_alloc H2 Fa.I108 (fun b4 w4 H4 => ?_))
  refine wo (op_storeBW (i := 1) H4 rfl rfl rfl rfl rfl Fa.I108 (fun w5 H5 => ?_))
  refine wn ?_
  refine WC.seq ?_
  refine bsplit (fun (hb6 : (decide ((xs.getD k Xt.zero).id ≥ (16 : UInt32))) = true) => ?_) (fun (hb6 : (decide ((xs.getD k Xt.zero).id ≥ (16 : UInt32))) = false) => ?_)
  ·
   have hc6 := of_decide_eq_true hb6
   refine WC.draw 29 Fa.M H5 (HW.op rfl (fun w1 H1 => op_fieldAddr rfl Fa.F108_0 ⟨rfl, Fr.refl _ _⟩) (HW.op rfl (fun w1 H1 => op_load rfl (H1.cell (i := 1) rfl rfl) Try.underlying29 rfl ⟨rfl, Fr.refl _ _⟩) (HW.op rfl (fun w1 H1 => op_geqU32 (b := 16) rfl rfl ⟨rfl, Fr.refl _ _⟩) (HW.op rfl (fun w1 H1 => op_move rfl ⟨rfl, Fr.refl _ _⟩) (HW.no rfl rfl rfl hb6 (HW.no rfl rfl rfl hb6 (HW.no rfl rfl rfl hb6 (HW.op rfl (fun w1 H1 => op_pickT rfl hb6 rfl ⟨rfl, Fr.refl _ _⟩) (HW.op rfl (fun w1 H1 => op_move rfl ⟨rfl, Fr.refl _ _⟩) (HW.no rfl rfl rfl rfl (HW.no rfl rfl rfl rfl (HW.no rfl rfl rfl rfl (HW.op rfl (fun w1 H1 => op_pickT rfl rfl rfl ⟨rfl, Fr.refl _ _⟩) (HW.op rfl (fun w1 H1 => op_move rfl ⟨rfl, Fr.refl _ _⟩) (HW.no rfl rfl rfl rfl (HW.no rfl rfl rfl rfl (HW.no rfl rfl rfl rfl (HW.non rfl rfl rfl (HW.non rfl rfl rfl (HW.non rfl rfl rfl (HW.non rfl rfl rfl (HW.non rfl rfl rfl (HW.non rfl rfl rfl (HW.non rfl rfl rfl (HW.non rfl rfl rfl (HW.non rfl rfl rfl (HW.non rfl rfl rfl (HW.no rfl rfl rfl rfl (HW.op rfl (fun w1 H1 => op_pickT rfl rfl rfl ⟨rfl, Fr.refl _ _⟩)  HW.nil))))))))))))))))))))))))))))) (by kernel_rfl) ?_
   intro β7 w7 H7
   refine wn ?_
   refine WC.yes rfl rfl ?_
   refine ws ?_
   refine wo (op_assign rfl ?_)
   refine wn ?_
   refine WC.ret ?_
   refine WQ.inRet ?_
   refine WQ.thenRet ?_
   refine WQ.thenRet ?_
   refine WQ.inRet ?_
   refine WQ.thenRet ?_
   refine WQ.out (.tmp rfl .nil) ?_
   exact ⟨by rw [mfMay_x (k := k) (by omega) (by (rw [xtBad, hb6]) <;> rfl)]; rfl, H7.fr⟩
  ·
   have hc6 := of_decide_eq_false hb6
   refine bsplit (fun (hb8 : (decide ((xs.getD k Xt.zero).bl < (1 : UInt32))) = true) => ?_) (fun (hb8 : (decide ((xs.getD k Xt.zero).bl < (1 : UInt32))) = false) => ?_)
   ·
    have hc8 := of_decide_eq_true hb8
    refine WC.draw 29 Fa.M H5 (HW.op rfl (fun w1 H1 => op_fieldAddr rfl Fa.F108_0 ⟨rfl, Fr.refl _ _⟩) (HW.op rfl (fun w1 H1 => op_load rfl (H1.cell (i := 1) rfl rfl) Try.underlying29 rfl ⟨rfl, Fr.refl _ _⟩) (HW.op rfl (fun w1 H1 => op_geqU32 (b := 16) rfl rfl ⟨rfl, Fr.refl _ _⟩) (HW.op rfl (fun w1 H1 => op_move rfl ⟨rfl, Fr.refl _ _⟩) (HW.yes rfl rfl rfl hb6 (fun w1 H1 => op_fieldAddr rfl Fa.F108_1 ⟨rfl, Fr.refl _ _⟩) (HW.yes rfl rfl rfl hb6 (fun w1 H1 => op_load rfl (H1.cell (i := 1) rfl rfl) Try.underlying29 rfl ⟨rfl, Fr.refl _ _⟩) (HW.yes rfl rfl rfl hb6 (fun w1 H1 => op_lssU32 (b := 1) rfl rfl ⟨rfl, Fr.refl _ _⟩) (HW.op rfl (fun w1 H1 => op_pickF rfl hb6 rfl ⟨rfl, Fr.refl _ _⟩) (HW.op rfl (fun w1 H1 => op_move rfl ⟨rfl, Fr.refl _ _⟩) (HW.no rfl rfl rfl hb8 (HW.no rfl rfl rfl hb8 (HW.no rfl rfl rfl hb8 (HW.op rfl (fun w1 H1 => op_pickT rfl hb8 rfl ⟨rfl, Fr.refl _ _⟩) (HW.op rfl (fun w1 H1 => op_move rfl ⟨rfl, Fr.refl _ _⟩) (HW.no rfl rfl rfl rfl (HW.no rfl rfl rfl rfl (HW.no rfl rfl rfl rfl (HW.non rfl rfl rfl (HW.non rfl rfl rfl (HW.non rfl rfl rfl (HW.non rfl rfl rfl (HW.non rfl rfl rfl (HW.non rfl rfl rfl (HW.non rfl rfl rfl (HW.non rfl rfl rfl (HW.non rfl rfl rfl (HW.non rfl rfl rfl (HW.no rfl rfl rfl rfl (HW.op rfl (fun w1 H1 => op_pickT rfl rfl rfl ⟨rfl, Fr.refl _ _⟩)  HW.nil))))))))))))))))))))))))))))) (by kernel_rfl) ?_
    intro β9 w9 H9
    refine wn ?_
    refine WC.yes rfl rfl ?_
    refine ws ?_
    refine wo (op_assign rfl ?_)
    refine wn ?_
    refine WC.ret ?_
    refine WQ.inRet ?_
    refine WQ.thenRet ?_
    refine WQ.thenRet ?_
    refine WQ.inRet ?_
    refine WQ.thenRet ?_
    refine WQ.out (.tmp rfl .nil) ?_
    exact ⟨by rw [mfMay_x (k := k) (by omega) (by (rw [xtBad, hb6, hb8]) <;> rfl)]; rfl, H9.fr⟩
   ·
    have hc8 := of_decide_eq_false hb8
    refine bsplit (fun (hb10 : (decide ((xs.getD k Xt.zero).bl > (1024 : UInt32))) = true) => ?_) (fun (hb10 : (decide ((xs.getD k Xt.zero).bl > (1024 : UInt32))) = false) => ?_)
    ·
     have hc10 := of_decide_eq_true hb10
     refine WC.draw 29 Fa.M H5 (HW.op rfl (fun w1 H1 => op_fieldAddr rfl Fa.F108_0 ⟨rfl, Fr.refl _ _⟩) (HW.op rfl (fun w1 H1 => op_load rfl (H1.cell (i := 1) rfl rfl) Try.underlying29 rfl ⟨rfl, Fr.refl _ _⟩) (HW.op rfl (fun w1 H1 => op_geqU32 (b := 16) rfl rfl ⟨rfl, Fr.refl _ _⟩) (HW.op rfl (fun w1 H1 => op_move rfl ⟨rfl, Fr.refl _ _⟩) (HW.yes rfl rfl rfl hb6 (fun w1 H1 => op_fieldAddr rfl Fa.F108_1 ⟨rfl, Fr.refl _ _⟩) (HW.yes rfl rfl rfl hb6 (fun w1 H1 => op_load rfl (H1.cell (i := 1) rfl rfl) Try.underlying29 rfl ⟨rfl, Fr.refl _ _⟩) (HW.yes rfl rfl rfl hb6 (fun w1 H1 => op_lssU32 (b := 1) rfl rfl ⟨rfl, Fr.refl _ _⟩) (HW.op rfl (fun w1 H1 => op_pickF rfl hb6 rfl ⟨rfl, Fr.refl _ _⟩) (HW.op rfl (fun w1 H1 => op_move rfl ⟨rfl, Fr.refl _ _⟩) (HW.yes rfl rfl rfl hb8 (fun w1 H1 => op_fieldAddr rfl Fa.F108_1 ⟨rfl, Fr.refl _ _⟩) (HW.yes rfl rfl rfl hb8 (fun w1 H1 => op_load rfl (H1.cell (i := 1) rfl rfl) Try.underlying29 rfl ⟨rfl, Fr.refl _ _⟩) (HW.yes rfl rfl rfl hb8 (fun w1 H1 => op_gtrU32 (b := 1024) rfl rfl ⟨rfl, Fr.refl _ _⟩) (HW.op rfl (fun w1 H1 => op_pickF rfl hb8 rfl ⟨rfl, Fr.refl _ _⟩) (HW.op rfl (fun w1 H1 => op_move rfl ⟨rfl, Fr.refl _ _⟩) (HW.no rfl rfl rfl hb10 (HW.no rfl rfl rfl hb10 (HW.no rfl rfl rfl hb10 (HW.non rfl rfl rfl (HW.non rfl rfl rfl (HW.non rfl rfl rfl (HW.non rfl rfl rfl (HW.non rfl rfl rfl (HW.non rfl rfl rfl (HW.non rfl rfl rfl (HW.non rfl rfl rfl (HW.non rfl rfl rfl (HW.non rfl rfl rfl (HW.no rfl rfl rfl hb10 (HW.op rfl (fun w1 H1 => op_pickT rfl hb10 rfl ⟨rfl, Fr.refl _ _⟩)  HW.nil))))))))))))))))))))))))))))) (by kernel_rfl) ?_
     intro β11 w11 H11
     refine wn ?_
     refine WC.yes rfl rfl ?_
     refine ws ?_
     refine wo (op_assign rfl ?_)
     refine wn ?_
     refine WC.ret ?_
     refine WQ.inRet ?_
     refine WQ.thenRet ?_
     refine WQ.thenRet ?_
     refine WQ.inRet ?_
     refine WQ.thenRet ?_
     refine WQ.out (.tmp rfl .nil) ?_
     exact ⟨by rw [mfMay_x (k := k) (by omega) (by (rw [xtBad, hb6, hb8, hb10]) <;> rfl)]; rfl, H11.fr⟩
    ·
     have hc10 := of_decide_eq_false hb10
     refine bsplit (fun (hb12 : (decide (k > 0)) = true) => ?_) (fun (hb12 : (decide (k > 0)) = false) => ?_)
     ·
      have hc12 := of_decide_eq_true hb12
      refine WC.draw 29 Fa.M H5 (HW.op rfl (fun w1 H1 => op_fieldAddr rfl Fa.F108_0 ⟨rfl, Fr.refl _ _⟩) (HW.op rfl (fun w1 H1 => op_load rfl (H1.cell (i := 1) rfl rfl) Try.underlying29 rfl ⟨rfl, Fr.refl _ _⟩) (HW.op rfl (fun w1 H1 => op_geqU32 (b := 16) rfl rfl ⟨rfl, Fr.refl _ _⟩) (HW.op rfl (fun w1 H1 => op_move rfl ⟨rfl, Fr.refl _ _⟩) (HW.yes rfl rfl rfl hb6 (fun w1 H1 => op_fieldAddr rfl Fa.F108_1 ⟨rfl, Fr.refl _ _⟩) (HW.yes rfl rfl rfl hb6 (fun w1 H1 => op_load rfl (H1.cell (i := 1) rfl rfl) Try.underlying29 rfl ⟨rfl, Fr.refl _ _⟩) (HW.yes rfl rfl rfl hb6 (fun w1 H1 => op_lssU32 (b := 1) rfl rfl ⟨rfl, Fr.refl _ _⟩) (HW.op rfl (fun w1 H1 => op_pickF rfl hb6 rfl ⟨rfl, Fr.refl _ _⟩) (HW.op rfl (fun w1 H1 => op_move rfl ⟨rfl, Fr.refl _ _⟩) (HW.yes rfl rfl rfl hb8 (fun w1 H1 => op_fieldAddr rfl Fa.F108_1 ⟨rfl, Fr.refl _ _⟩) (HW.yes rfl rfl rfl hb8 (fun w1 H1 => op_load rfl (H1.cell (i := 1) rfl rfl) Try.underlying29 rfl ⟨rfl, Fr.refl _ _⟩) (HW.yes rfl rfl rfl hb8 (fun w1 H1 => op_gtrU32 (b := 1024) rfl rfl ⟨rfl, Fr.refl _ _⟩) (HW.op rfl (fun w1 H1 => op_pickF rfl hb8 rfl ⟨rfl, Fr.refl _ _⟩) (HW.op rfl (fun w1 H1 => op_move rfl ⟨rfl, Fr.refl _ _⟩) (HW.yes rfl rfl rfl hb10 (fun w1 H1 => op_move rfl ⟨rfl, Fr.refl _ _⟩) (HW.yes rfl rfl rfl hb10 (fun w1 H1 => op_gtrN (b := 0) rfl rfl ⟨rfl, Fr.refl _ _⟩) (HW.yes rfl rfl rfl hb10 (fun w1 H1 => op_move rfl ⟨rfl, Fr.refl _ _⟩) (HW.yes rfl rfl rfl hb12 (fun w1 H1 => op_fieldAddr rfl Fa.F59_1 ⟨rfl, Fr.refl _ _⟩) (HW.yes rfl rfl rfl hb12 (fun w1 H1 => op_load rfl (H1.cell (i := 0) rfl rfl) Try.underlying56 rfl ⟨rfl, Fr.refl _ _⟩) (HW.yes rfl rfl rfl hb12 (fun w1 H1 => op_move rfl ⟨rfl, Fr.refl _ _⟩) (HW.yes rfl rfl rfl hb12 (fun w1 H1 => op_subN (b := 1) rfl rfl (by omega) (by omega) ⟨rfl, Fr.refl _ _⟩) (HW.yes rfl rfl rfl hb12 (fun w1 H1 => op_indexAddr Try.underlying56 Fa.I108 rfl (H1.arr hE) rfl (by omega) ⟨rfl, Fr.refl _ _⟩) (HW.yes rfl rfl rfl hb12 (fun w1 H1 => op_fieldAddrS rfl Fa.F108_0 ⟨rfl, Fr.refl _ _⟩) (HW.yes rfl rfl rfl hb12 (fun w1 H1 => op_load rfl (Arr.atF (k := 0) (H1.arr hE) (fun _ => rfl) (by decide) Xt.zero (by omega) rfl) Try.underlying29 rfl ⟨rfl, Fr.refl _ _⟩) (HW.yes rfl rfl rfl hb12 (fun w1 H1 => op_fieldAddr rfl Fa.F108_0 ⟨rfl, Fr.refl _ _⟩) (HW.yes rfl rfl rfl hb12 (fun w1 H1 => op_load rfl (H1.cell (i := 1) rfl rfl) Try.underlying29 rfl ⟨rfl, Fr.refl _ _⟩) (HW.yes rfl rfl rfl hb12 (fun w1 H1 => op_geqU32 rfl rfl ⟨rfl, Fr.refl _ _⟩) (HW.yes rfl rfl rfl hb10 (fun w1 H1 => op_pickT rfl hb12 rfl ⟨rfl, Fr.refl _ _⟩) (HW.op rfl (fun w1 H1 => op_pickF rfl hb10 rfl ⟨rfl, Fr.refl _ _⟩)  HW.nil))))))))))))))))))))))))))))) (by kernel_rfl) ?_
      intro β13 w13 H13
      refine wn ?_
      refine WC.cond rfl (fun (hb14 : (decide ((xs.getD (k - 1) Xt.zero).id ≥ (xs.getD k Xt.zero).id)) = true) => ?_) (fun (hb14 : (decide ((xs.getD (k - 1) Xt.zero).id ≥ (xs.getD k Xt.zero).id)) = false) => ?_)
      ·
       have hc14 := of_decide_eq_true hb14
       refine ws ?_
       refine wo (op_assign rfl ?_)
       refine wn ?_
       refine WC.ret ?_
       refine WQ.inRet ?_
       refine WQ.thenRet ?_
       refine WQ.thenRet ?_
       refine WQ.inRet ?_
       refine WQ.thenRet ?_
       refine WQ.out (.tmp rfl .nil) ?_
       exact ⟨by rw [mfMay_r (k := k) (by omega) (by omega) hc14]; rfl, H13.fr⟩
      ·
       have hc14 := of_decide_eq_false hb14
       refine WC.skip ?_
       refine WQ.inNormal ?_
       refine WQ.next ?_
       refine WC.region ?_
       refine wo (op_move rfl ?_)
       refine wo (op_addN (b := 1) rfl rfl (by omega) ?_)
       refine wo (op_assign rfl ?_)
       refine WL.nil ?_
       exact WQ.round (k + 1) ⟨⟨by omega, allPrev hok ⟨by (rw [xtBad, hb6, hb8, hb10]) <;> rfl, fun h0 => by first | exact hc14 | (exact absurd h0 hc14)⟩⟩, (H13.take 1)⟩ ⟨rfl, rfl, trivial⟩ (by omega)
     ·
      have hc12 := of_decide_eq_false hb12
      refine WC.draw 29 Fa.M H5 (HW.op rfl (fun w1 H1 => op_fieldAddr rfl Fa.F108_0 ⟨rfl, Fr.refl _ _⟩) (HW.op rfl (fun w1 H1 => op_load rfl (H1.cell (i := 1) rfl rfl) Try.underlying29 rfl ⟨rfl, Fr.refl _ _⟩) (HW.op rfl (fun w1 H1 => op_geqU32 (b := 16) rfl rfl ⟨rfl, Fr.refl _ _⟩) (HW.op rfl (fun w1 H1 => op_move rfl ⟨rfl, Fr.refl _ _⟩) (HW.yes rfl rfl rfl hb6 (fun w1 H1 => op_fieldAddr rfl Fa.F108_1 ⟨rfl, Fr.refl _ _⟩) (HW.yes rfl rfl rfl hb6 (fun w1 H1 => op_load rfl (H1.cell (i := 1) rfl rfl) Try.underlying29 rfl ⟨rfl, Fr.refl _ _⟩) (HW.yes rfl rfl rfl hb6 (fun w1 H1 => op_lssU32 (b := 1) rfl rfl ⟨rfl, Fr.refl _ _⟩) (HW.op rfl (fun w1 H1 => op_pickF rfl hb6 rfl ⟨rfl, Fr.refl _ _⟩) (HW.op rfl (fun w1 H1 => op_move rfl ⟨rfl, Fr.refl _ _⟩) (HW.yes rfl rfl rfl hb8 (fun w1 H1 => op_fieldAddr rfl Fa.F108_1 ⟨rfl, Fr.refl _ _⟩) (HW.yes rfl rfl rfl hb8 (fun w1 H1 => op_load rfl (H1.cell (i := 1) rfl rfl) Try.underlying29 rfl ⟨rfl, Fr.refl _ _⟩) (HW.yes rfl rfl rfl hb8 (fun w1 H1 => op_gtrU32 (b := 1024) rfl rfl ⟨rfl, Fr.refl _ _⟩) (HW.op rfl (fun w1 H1 => op_pickF rfl hb8 rfl ⟨rfl, Fr.refl _ _⟩) (HW.op rfl (fun w1 H1 => op_move rfl ⟨rfl, Fr.refl _ _⟩) (HW.yes rfl rfl rfl hb10 (fun w1 H1 => op_move rfl ⟨rfl, Fr.refl _ _⟩) (HW.yes rfl rfl rfl hb10 (fun w1 H1 => op_gtrN (b := 0) rfl rfl ⟨rfl, Fr.refl _ _⟩) (HW.yes rfl rfl rfl hb10 (fun w1 H1 => op_move rfl ⟨rfl, Fr.refl _ _⟩) (HW.no rfl rfl rfl hb12 (HW.no rfl rfl rfl hb12 (HW.no rfl rfl rfl hb12 (HW.no rfl rfl rfl hb12 (HW.no rfl rfl rfl hb12 (HW.no rfl rfl rfl hb12 (HW.no rfl rfl rfl hb12 (HW.no rfl rfl rfl hb12 (HW.no rfl rfl rfl hb12 (HW.no rfl rfl rfl hb12 (HW.yes rfl rfl rfl hb10 (fun w1 H1 => op_pickF rfl hb12 rfl ⟨rfl, Fr.refl _ _⟩) (HW.op rfl (fun w1 H1 => op_pickF rfl hb10 rfl ⟨rfl, Fr.refl _ _⟩)  HW.nil))))))))))))))))))))))))))))) (by kernel_rfl) ?_
      intro β15 w15 H15
      refine wn ?_
      refine WC.no rfl rfl ?_
      refine WC.skip ?_
      refine WQ.inNormal ?_
      refine WQ.next ?_
      refine WC.region ?_
      refine wo (op_move rfl ?_)
      refine wo (op_addN (b := 1) rfl rfl (by omega) ?_)
      refine wo (op_assign rfl ?_)
      refine WL.nil ?_
      exact WQ.round (k + 1) ⟨⟨by omega, allPrev hok ⟨by (rw [xtBad, hb6, hb8, hb10]) <;> rfl, fun h0 => by first | exact hc12 | (exact absurd h0 hc12)⟩⟩, (H15.take 1)⟩ ⟨rfl, rfl, trivial⟩ (by omega)
 ·
  have hc3 := of_decide_eq_false hb3
  refine WC.exit ?_
  refine WQ.thenExit ?_
  refine WQ.thenExit ?_
  refine WQ.inHere ?_
  refine WQ.next ?_
  refine WC.seq ?_
  refine ws ?_
  refine wo (op_assign rfl ?_)
  refine wn ?_
  refine WC.block ?_
  refine WC.loop (α := Nat) (fun i => [(1, (ptr b1 0)), (5, (vN i))]) (fun i w' => (i ≤ ps.length ∧ (∀ j, j < i → ps.getD j 0 ≠ 0 ∧ (0 < j → ¬ ps.getD (j - 1) 0 ≥ ps.getD j 0))) ∧ Owl.Own [] w w' [.blk b1 [(vU32 pg), ev, pv, (.bool con)] 59]) (fun i => ps.length - i) 0 ⟨⟨Nat.zero_le _, fun j h => by omega⟩, H2⟩ ⟨rfl, rfl, trivial⟩ ?_
  rintro i w16 ⟨⟨hi1, hoi⟩, H16⟩
  show WC _ _ _ _ _ [(1, (ptr b1 0)), (5, (vN i))] _
  refine WC.seq ?_
  refine ws ?_
  refine wo (op_move rfl ?_)
  refine wo (op_fieldAddr rfl Fa.F59_2 ?_)
  refine wo (op_load rfl (H16.cell (i := 0) rfl rfl) Try.underlying57 rfl ?_)
  refine wo (op_lenA Try.underlying57 rfl (H16.arr hP) ?_)
  refine wo (op_lssN rfl rfl ?_)
  refine wn ?_
  refine WC.cond rfl (fun (hb17 : (decide (i < ps.length)) = true) => ?_) (fun (hb17 : (decide (i < ps.length)) = false) => ?_)
  ·
   have hc17 := of_decide_eq_true hb17
   refine WC.skip ?_
   refine WQ.next ?_
   refine WC.seq ?_
   refine WC.block ?_
   refine WC.seq ?_
   refine bsplit (fun (hb18 : (decide ((ps.getD i 0) = (0 : UInt16))) = true) => ?_) (fun (hb18 : (decide ((ps.getD i 0) = (0 : UInt16))) = false) => ?_)
   ·
    have hc18 := of_decide_eq_true hb18
    refine WC.draw 24 Fa.M H16 (HW.op rfl (fun w1 H1 => op_fieldAddr rfl Fa.F59_2 ⟨rfl, Fr.refl _ _⟩) (HW.op rfl (fun w1 H1 => op_load rfl (H1.cell (i := 0) rfl rfl) Try.underlying57 rfl ⟨rfl, Fr.refl _ _⟩) (HW.op rfl (fun w1 H1 => op_move rfl ⟨rfl, Fr.refl _ _⟩) (HW.op rfl (fun w1 H1 => op_indexAddr1 Try.underlying57 Fa.I50 rfl (H1.arr hP) rfl (by omega) ⟨rfl, Fr.refl _ _⟩) (HW.op rfl (fun w1 H1 => op_load rfl ((H1.arr hP).at (get_map vU16 0 (Arr.ltM (H1.arr hP) (by omega)))) Try.underlying50 rfl ⟨rfl, Fr.refl _ _⟩) (HW.op rfl (fun w1 H1 => op_eqlU16 (b := 0) rfl rfl ⟨rfl, Fr.refl _ _⟩) (HW.op rfl (fun w1 H1 => op_move rfl ⟨rfl, Fr.refl _ _⟩) (HW.no rfl rfl rfl hb18 (HW.no rfl rfl rfl hb18 (HW.no rfl rfl rfl hb18 (HW.non rfl rfl rfl (HW.non rfl rfl rfl (HW.non rfl rfl rfl (HW.non rfl rfl rfl (HW.non rfl rfl rfl (HW.non rfl rfl rfl (HW.non rfl rfl rfl (HW.non rfl rfl rfl (HW.non rfl rfl rfl (HW.non rfl rfl rfl (HW.non rfl rfl rfl (HW.non rfl rfl rfl (HW.no rfl rfl rfl hb18 (HW.op rfl (fun w1 H1 => op_pickT rfl hb18 rfl ⟨rfl, Fr.refl _ _⟩)  HW.nil)))))))))))))))))))))))) (by kernel_rfl) ?_
    intro β19 w19 H19
    refine wn ?_
    refine WC.yes rfl rfl ?_
    refine ws ?_
    refine wo (op_assign rfl ?_)
    refine wn ?_
    refine WC.ret ?_
    refine WQ.inRet ?_
    refine WQ.thenRet ?_
    refine WQ.thenRet ?_
    refine WQ.inRet ?_
    refine WQ.thenRet ?_
    refine WQ.out (.tmp rfl .nil) ?_
    exact ⟨by rw [mfMay_p (k := i) (by omega) hc18]; rfl, H19.fr⟩
   ·
    have hc18 := of_decide_eq_false hb18
    refine bsplit (fun (hb20 : (decide (i > 0)) = true) => ?_) (fun (hb20 : (decide (i > 0)) = false) => ?_)
    ·
     have hc20 := of_decide_eq_true hb20
     refine WC.draw 24 Fa.M H16 (HW.op rfl (fun w1 H1 => op_fieldAddr rfl Fa.F59_2 ⟨rfl, Fr.refl _ _⟩) (HW.op rfl (fun w1 H1 => op_load rfl (H1.cell (i := 0) rfl rfl) Try.underlying57 rfl ⟨rfl, Fr.refl _ _⟩) (HW.op rfl (fun w1 H1 => op_move rfl ⟨rfl, Fr.refl _ _⟩) (HW.op rfl (fun w1 H1 => op_indexAddr1 Try.underlying57 Fa.I50 rfl (H1.arr hP) rfl (by omega) ⟨rfl, Fr.refl _ _⟩) (HW.op rfl (fun w1 H1 => op_load rfl ((H1.arr hP).at (get_map vU16 0 (Arr.ltM (H1.arr hP) (by omega)))) Try.underlying50 rfl ⟨rfl, Fr.refl _ _⟩) (HW.op rfl (fun w1 H1 => op_eqlU16 (b := 0) rfl rfl ⟨rfl, Fr.refl _ _⟩) (HW.op rfl (fun w1 H1 => op_move rfl ⟨rfl, Fr.refl _ _⟩) (HW.yes rfl rfl rfl hb18 (fun w1 H1 => op_move rfl ⟨rfl, Fr.refl _ _⟩) (HW.yes rfl rfl rfl hb18 (fun w1 H1 => op_gtrN (b := 0) rfl rfl ⟨rfl, Fr.refl _ _⟩) (HW.yes rfl rfl rfl hb18 (fun w1 H1 => op_move rfl ⟨rfl, Fr.refl _ _⟩) (HW.yes rfl rfl rfl hb20 (fun w1 H1 => op_fieldAddr rfl Fa.F59_2 ⟨rfl, Fr.refl _ _⟩) (HW.yes rfl rfl rfl hb20 (fun w1 H1 => op_load rfl (H1.cell (i := 0) rfl rfl) Try.underlying57 rfl ⟨rfl, Fr.refl _ _⟩) (HW.yes rfl rfl rfl hb20 (fun w1 H1 => op_move rfl ⟨rfl, Fr.refl _ _⟩) (HW.yes rfl rfl rfl hb20 (fun w1 H1 => op_subN (b := 1) rfl rfl (by omega) (by omega) ⟨rfl, Fr.refl _ _⟩) (HW.yes rfl rfl rfl hb20 (fun w1 H1 => op_indexAddr1 Try.underlying57 Fa.I50 rfl (H1.arr hP) rfl (by omega) ⟨rfl, Fr.refl _ _⟩) (HW.yes rfl rfl rfl hb20 (fun w1 H1 => op_load rfl ((H1.arr hP).at (get_map vU16 0 (Arr.ltM (H1.arr hP) (by omega)))) Try.underlying50 rfl ⟨rfl, Fr.refl _ _⟩) (HW.yes rfl rfl rfl hb20 (fun w1 H1 => op_fieldAddr rfl Fa.F59_2 ⟨rfl, Fr.refl _ _⟩) (HW.yes rfl rfl rfl hb20 (fun w1 H1 => op_load rfl (H1.cell (i := 0) rfl rfl) Try.underlying57 rfl ⟨rfl, Fr.refl _ _⟩) (HW.yes rfl rfl rfl hb20 (fun w1 H1 => op_move rfl ⟨rfl, Fr.refl _ _⟩) (HW.yes rfl rfl rfl hb20 (fun w1 H1 => op_indexAddr1 Try.underlying57 Fa.I50 rfl (H1.arr hP) rfl (by omega) ⟨rfl, Fr.refl _ _⟩) (HW.yes rfl rfl rfl hb20 (fun w1 H1 => op_load rfl ((H1.arr hP).at (get_map vU16 0 (Arr.ltM (H1.arr hP) (by omega)))) Try.underlying50 rfl ⟨rfl, Fr.refl _ _⟩) (HW.yes rfl rfl rfl hb20 (fun w1 H1 => op_geqU16 rfl rfl ⟨rfl, Fr.refl _ _⟩) (HW.yes rfl rfl rfl hb18 (fun w1 H1 => op_pickT rfl hb20 rfl ⟨rfl, Fr.refl _ _⟩) (HW.op rfl (fun w1 H1 => op_pickF rfl hb18 rfl ⟨rfl, Fr.refl _ _⟩)  HW.nil)))))))))))))))))))))))) (by kernel_rfl) ?_
     intro β21 w21 H21
     refine wn ?_
     refine WC.cond rfl (fun (hb22 : (decide ((ps.getD (i - 1) 0) ≥ (ps.getD i 0))) = true) => ?_) (fun (hb22 : (decide ((ps.getD (i - 1) 0) ≥ (ps.getD i 0))) = false) => ?_)
     ·
      have hc22 := of_decide_eq_true hb22
      refine ws ?_
      refine wo (op_assign rfl ?_)
      refine wn ?_
      refine WC.ret ?_
      refine WQ.inRet ?_
      refine WQ.thenRet ?_
      refine WQ.thenRet ?_
      refine WQ.inRet ?_
      refine WQ.thenRet ?_
      refine WQ.out (.tmp rfl .nil) ?_
      exact ⟨by rw [mfMay_q (k := i) (by omega) (by omega) hc22]; rfl, H21.fr⟩
     ·
      have hc22 := of_decide_eq_false hb22
      refine WC.skip ?_
      refine WQ.inNormal ?_
      refine WQ.next ?_
      refine WC.region ?_
      refine wo (op_move rfl ?_)
      refine wo (op_addN (b := 1) rfl rfl (by omega) ?_)
      refine wo (op_assign rfl ?_)
      refine WL.nil ?_
      exact WQ.round (i + 1) ⟨⟨by omega, allPrev hoi ⟨of_decide_eq_false hb18, fun h0 => by first | exact hc22 | (exact absurd h0 hc22)⟩⟩, H21⟩ ⟨rfl, rfl, trivial⟩ (by omega)
    ·
     have hc20 := of_decide_eq_false hb20
     refine WC.draw 24 Fa.M H16 (HW.op rfl (fun w1 H1 => op_fieldAddr rfl Fa.F59_2 ⟨rfl, Fr.refl _ _⟩) (HW.op rfl (fun w1 H1 => op_load rfl (H1.cell (i := 0) rfl rfl) Try.underlying57 rfl ⟨rfl, Fr.refl _ _⟩) (HW.op rfl (fun w1 H1 => op_move rfl ⟨rfl, Fr.refl _ _⟩) (HW.op rfl (fun w1 H1 => op_indexAddr1 Try.underlying57 Fa.I50 rfl (H1.arr hP) rfl (by omega) ⟨rfl, Fr.refl _ _⟩) (HW.op rfl (fun w1 H1 => op_load rfl ((H1.arr hP).at (get_map vU16 0 (Arr.ltM (H1.arr hP) (by omega)))) Try.underlying50 rfl ⟨rfl, Fr.refl _ _⟩) (HW.op rfl (fun w1 H1 => op_eqlU16 (b := 0) rfl rfl ⟨rfl, Fr.refl _ _⟩) (HW.op rfl (fun w1 H1 => op_move rfl ⟨rfl, Fr.refl _ _⟩) (HW.yes rfl rfl rfl hb18 (fun w1 H1 => op_move rfl ⟨rfl, Fr.refl _ _⟩) (HW.yes rfl rfl rfl hb18 (fun w1 H1 => op_gtrN (b := 0) rfl rfl ⟨rfl, Fr.refl _ _⟩) (HW.yes rfl rfl rfl hb18 (fun w1 H1 => op_move rfl ⟨rfl, Fr.refl _ _⟩) (HW.no rfl rfl rfl hb20 (HW.no rfl rfl rfl hb20 (HW.no rfl rfl rfl hb20 (HW.no rfl rfl rfl hb20 (HW.no rfl rfl rfl hb20 (HW.no rfl rfl rfl hb20 (HW.no rfl rfl rfl hb20 (HW.no rfl rfl rfl hb20 (HW.no rfl rfl rfl hb20 (HW.no rfl rfl rfl hb20 (HW.no rfl rfl rfl hb20 (HW.no rfl rfl rfl hb20 (HW.yes rfl rfl rfl hb18 (fun w1 H1 => op_pickF rfl hb20 rfl ⟨rfl, Fr.refl _ _⟩) (HW.op rfl (fun w1 H1 => op_pickF rfl hb18 rfl ⟨rfl, Fr.refl _ _⟩)  HW.nil)))))))))))))))))))))))) (by kernel_rfl) ?_
     intro β23 w23 H23
     refine wn ?_
     refine WC.no rfl rfl ?_
     refine WC.skip ?_
     refine WQ.inNormal ?_
     refine WQ.next ?_
     refine WC.region ?_
     refine wo (op_move rfl ?_)
     refine wo (op_addN (b := 1) rfl rfl (by omega) ?_)
     refine wo (op_assign rfl ?_)
     refine WL.nil ?_
     exact WQ.round (i + 1) ⟨⟨by omega, allPrev hoi ⟨of_decide_eq_false hb18, fun h0 => by first | exact hc20 | (exact absurd h0 hc20)⟩⟩, H23⟩ ⟨rfl, rfl, trivial⟩ (by omega)
  ·
   have hc17 := of_decide_eq_false hb17
   refine WC.exit ?_
   refine WQ.thenExit ?_
   refine WQ.thenExit ?_
   refine WQ.inHere ?_
   refine WQ.next ?_
   refine ws ?_
   refine wo (op_fieldAddr rfl Fa.F59_0 ?_)
   refine wo (op_load rfl (H16.cell (i := 0) rfl rfl) Try.underlying29 rfl ?_)
   refine wo (op_leqU32 (b := 1024) rfl rfl ?_)
   refine wo (op_move rfl ?_)
   refine WL.split (t := 81) rfl (fun (hb24 : (decide (pg ≤ (1024 : UInt32))) = true) => ?_) (fun (hb24 : (decide (pg ≤ (1024 : UInt32))) = false) => ?_)
   ·
    have hc24 := of_decide_eq_true hb24
    refine WL.yes rfl rfl rfl hb24 rfl (op_fieldAddr rfl Fa.F59_2 ?_)
    refine WL.yes rfl rfl rfl hb24 rfl (op_load rfl (H16.cell (i := 0) rfl rfl) Try.underlying57 rfl ?_)
    refine WL.yes rfl rfl rfl hb24 rfl (op_lenA Try.underlying57 rfl (H16.arr hP) ?_)
    refine WL.yes rfl rfl rfl hb24 rfl (op_leqN (b := 16) rfl rfl ?_)
    refine wo (op_pickT rfl hb24 rfl ?_)
    refine wo (op_assign rfl ?_)
    refine wn ?_
    refine WC.ret ?_
    refine WQ.out (.tmp rfl .nil) ?_
    exact ⟨by (rw [mfMay_end (fun j hj => hok j (by omega)) (fun j hj => hoi j (by omega)), hb24]) <;> rfl, H16.fr⟩
   ·
    have hc24 := of_decide_eq_false hb24
    refine WL.no rfl rfl rfl hb24 rfl ?_
    refine WL.no rfl rfl rfl hb24 rfl ?_
    refine WL.no rfl rfl rfl hb24 rfl ?_
    refine WL.no rfl rfl rfl hb24 rfl ?_
    refine wo (op_pickF rfl hb24 rfl ?_)
    refine wo (op_assign rfl ?_)
    refine wn ?_
    refine WC.ret ?_
    refine WQ.out (.tmp rfl .nil) ?_
    exact ⟨by (rw [mfMay_end (fun j hj => hok j (by omega)) (fun j hj => hoi j (by omega)), hb24]) <;> rfl, H16.fr⟩
end Go.Proofs.Ytbjhccnffacbcaa
