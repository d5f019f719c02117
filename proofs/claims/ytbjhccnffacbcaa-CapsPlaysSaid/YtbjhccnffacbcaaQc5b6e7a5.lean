/- General lemmas and walks: NSort2. No condition but what each theorem names. -/
import Derived.Test.YtbjhccnffacbcaaQ87ceff81
import Derived.Test.YtbjhccnffacbcaaQ88a55cf8
import Derived.Test.YtbjhccnffacbcaaQ9c6e21d5
/-! from NSort2 -/
namespace Go.Proofs.Ytbjhccnffacbcaa
open Go.Owl Go.Spec
set_option maxHeartbeats 1000000 in
set_option maxRecDepth 100000 in
theorem sift_ok (v : Value) (n : Nat) (l : List Nat) (lo hi f : Nat) (T : List Nat) (w : World) (H : Owl.Own T w w [.row v 3 1 n (List.map vN l)]) (hn : l.length = n) (hN : n < 2 ^ 61) (hf : f + hi ≤ n) (hlo : lo ≤ n) (hh : HeapA ltN 0 (lo + 1) hi f l) :
  Calls Try.prog 163 #[v, (vN lo), (vN hi), (vN f)] w (fun e w' => ∃ (l' : List Nat), e = .returned undef ∧ (Sw 0 f (f + hi) l l' ∧ HeapA ltN 0 lo hi f l') ∧ Owl.Own T w w' [.row v 3 1 n (List.map vN l')]) := by
 refine enter (args := [v, (vN lo), (vN hi), (vN f)]) Try.func163 rfl rfl ?_
 refine ws ?_
 refine wo (op_move rfl ?_)
 refine wo (op_assign rfl ?_)
 refine wn ?_
 refine WC.block ?_
 refine WC.loop (α := Nat × List Nat) (fun (x, l1) => [(0, v), (1, (vN lo)), (2, (vN hi)), (3, (vN f)), (8, (vN x))]) (fun (x, l1) w' => (lo ≤ x ∧ (x < hi ∨ x = lo) ∧ Sw 0 f (f + hi) l l1 ∧ HeapX ltN 0 lo hi f x l1 ∧ HeapG ltN 0 lo hi f x l1) ∧ Owl.Own T w w' [.row v 3 1 n (List.map vN l1)]) (fun (x, l1) => hi - x) (lo, l) ⟨⟨Nat.le_refl _, .inr rfl, .refl _, (sift_init hh).1, (sift_init hh).2⟩, H⟩ ⟨rfl, rfl, rfl, rfl, rfl, trivial⟩ ?_
 rintro ⟨x, l1⟩ w1 ⟨⟨hi1, hi2, hs1, hx1, hg1⟩, H1⟩
 show WC _ _ _ _ _ [(0, v), (1, (vN lo)), (2, (vN hi)), (3, (vN f)), (8, (vN x))] _
 have hL1 := hs1.len
 refine WC.block ?_
 refine ws ?_
 refine wo (op_move rfl ?_)
 refine wo (op_mulN (a := 2) rfl rfl (by omega) ?_)
 refine wo (op_addN (b := 1) rfl rfl (by omega) ?_)
 refine wo (op_assign rfl ?_)
 refine wn ?_
 refine WC.seq ?_
 refine ws ?_
 refine wo (op_move rfl ?_)
 refine wo (op_move rfl ?_)
 refine wo (op_geqN rfl rfl ?_)
 refine wn ?_
 refine WC.cond rfl (fun (hb2 : (decide (((2 * x) + 1) ≥ hi)) = true) => ?_) (fun (hb2 : (decide (((2 * x) + 1) ≥ hi)) = false) => ?_)
 ·
  have hc2 := of_decide_eq_true hb2
  refine WC.exit ?_
  refine WQ.thenExit ?_
  refine WQ.inPass rfl ?_
  refine WQ.thenExit ?_
  refine WQ.inHere ?_
  refine WQ.outEnd .nil ?_
  exact ⟨_, rfl, ⟨hs1, sift_leaf hx1 (by omega)⟩, H1⟩
 ·
  have hc2 := of_decide_eq_false hb2
  refine WC.skip ?_
  refine WQ.next ?_
  refine WC.seq ?_
  refine WC.seq ?_
  refine bsplit (fun (hb3 : (decide ((((2 * x) + 1) + 1) < hi)) = true) => ?_) (fun (hb3 : (decide ((((2 * x) + 1) + 1) < hi)) = false) => ?_)
  ·
   have hc3 := of_decide_eq_true hb3
   refine WC.draw 20 Fa.M H1 (HW.op rfl (fun w1 H1 => op_move rfl ⟨rfl, Fr.refl _ _⟩) (HW.op rfl (fun w1 H1 => op_addN (b := 1) rfl rfl (by omega) ⟨rfl, Fr.refl _ _⟩) (HW.op rfl (fun w1 H1 => op_move rfl ⟨rfl, Fr.refl _ _⟩) (HW.op rfl (fun w1 H1 => op_lssN rfl rfl ⟨rfl, Fr.refl _ _⟩) (HW.op rfl (fun w1 H1 => op_move rfl ⟨rfl, Fr.refl _ _⟩) (HW.yes rfl rfl rfl hb3 (fun w1 H1 => op_move rfl ⟨rfl, Fr.refl _ _⟩) (HW.yes rfl rfl rfl hb3 (fun w1 H1 => op_move rfl ⟨rfl, Fr.refl _ _⟩) (HW.yes rfl rfl rfl hb3 (fun w1 H1 => op_move rfl ⟨rfl, Fr.refl _ _⟩) (HW.yes rfl rfl rfl hb3 (fun w1 H1 => op_addN rfl rfl (by omega) ⟨rfl, Fr.refl _ _⟩) (HW.yes rfl rfl rfl hb3 (fun w1 H1 => op_indexAddr1 Try.underlying64 Fa.I3 rfl (H1.arrR (i := 0) rfl) rfl (by omega) ⟨rfl, Fr.refl _ _⟩) (HW.yes rfl rfl rfl hb3 (fun w1 H1 => op_load rfl ((H1.arrR (i := 0) rfl).at (get_map vN 0 (Arr.ltM (H1.arrR (i := 0) rfl) (by omega)))) Try.underlying3 rfl ⟨rfl, Fr.refl _ _⟩) (HW.yes rfl rfl rfl hb3 (fun w1 H1 => op_move rfl ⟨rfl, Fr.refl _ _⟩) (HW.yes rfl rfl rfl hb3 (fun w1 H1 => op_move rfl ⟨rfl, Fr.refl _ _⟩) (HW.yes rfl rfl rfl hb3 (fun w1 H1 => op_move rfl ⟨rfl, Fr.refl _ _⟩) (HW.yes rfl rfl rfl hb3 (fun w1 H1 => op_addN rfl rfl (by omega) ⟨rfl, Fr.refl _ _⟩) (HW.yes rfl rfl rfl hb3 (fun w1 H1 => op_addN (b := 1) rfl rfl (by omega) ⟨rfl, Fr.refl _ _⟩) (HW.yes rfl rfl rfl hb3 (fun w1 H1 => op_indexAddr1 Try.underlying64 Fa.I3 rfl (H1.arrR (i := 0) rfl) rfl (by omega) ⟨rfl, Fr.refl _ _⟩) (HW.yes rfl rfl rfl hb3 (fun w1 H1 => op_load rfl ((H1.arrR (i := 0) rfl).at (get_map vN 0 (Arr.ltM (H1.arrR (i := 0) rfl) (by omega)))) Try.underlying3 rfl ⟨rfl, Fr.refl _ _⟩) (HW.yes rfl rfl rfl hb3 (fun w1 H1 => op_callF Fa.C149 rfl ((less_ok (l1.getD (f + ((2 * x) + 1)) 0) (l1.getD ((f + ((2 * x) + 1)) + 1) 0) _).mono (fun e w2 hq => ⟨_, hq.1, rfl, hq.2⟩))) (HW.op rfl (fun w1 H1 => op_pickT rfl hb3 rfl ⟨rfl, Fr.refl _ _⟩)  HW.nil)))))))))))))))))))) (by kernel_rfl) ?_
   intro β5 w5 H5
   refine wn ?_
   refine WC.cond rfl (fun (hb6 : (ltN (l1.getD (f + ((2 * x) + 1)) 0) (l1.getD ((f + ((2 * x) + 1)) + 1) 0)) = true) => ?_) (fun (hb6 : (ltN (l1.getD (f + ((2 * x) + 1)) 0) (l1.getD ((f + ((2 * x) + 1)) + 1) 0)) = false) => ?_)
   ·
    refine WC.region ?_
    refine wo (op_move rfl ?_)
    refine wo (op_addN (b := 1) rfl rfl (by omega) ?_)
    refine wo (op_assign rfl ?_)
    refine wn ?_
    refine WC.seq ?_
    refine WC.seq ?_
    refine WC.draw 14 Fa.M H5 (HW.op rfl (fun w1 H1 => op_move rfl ⟨rfl, Fr.refl _ _⟩) (HW.op rfl (fun w1 H1 => op_move rfl ⟨rfl, Fr.refl _ _⟩) (HW.op rfl (fun w1 H1 => op_move rfl ⟨rfl, Fr.refl _ _⟩) (HW.op rfl (fun w1 H1 => op_addN rfl rfl (by omega) ⟨rfl, Fr.refl _ _⟩) (HW.op rfl (fun w1 H1 => op_indexAddr1 Try.underlying64 Fa.I3 rfl (H1.arrR (i := 0) rfl) rfl (by omega) ⟨rfl, Fr.refl _ _⟩) (HW.op rfl (fun w1 H1 => op_load rfl ((H1.arrR (i := 0) rfl).at (get_map vN 0 (Arr.ltM (H1.arrR (i := 0) rfl) (by omega)))) Try.underlying3 rfl ⟨rfl, Fr.refl _ _⟩) (HW.op rfl (fun w1 H1 => op_move rfl ⟨rfl, Fr.refl _ _⟩) (HW.op rfl (fun w1 H1 => op_move rfl ⟨rfl, Fr.refl _ _⟩) (HW.op rfl (fun w1 H1 => op_move rfl ⟨rfl, Fr.refl _ _⟩) (HW.op rfl (fun w1 H1 => op_addN rfl rfl (by omega) ⟨rfl, Fr.refl _ _⟩) (HW.op rfl (fun w1 H1 => op_indexAddr1 Try.underlying64 Fa.I3 rfl (H1.arrR (i := 0) rfl) rfl (by omega) ⟨rfl, Fr.refl _ _⟩) (HW.op rfl (fun w1 H1 => op_load rfl ((H1.arrR (i := 0) rfl).at (get_map vN 0 (Arr.ltM (H1.arrR (i := 0) rfl) (by omega)))) Try.underlying3 rfl ⟨rfl, Fr.refl _ _⟩) (HW.op rfl (fun w1 H1 => op_callF Fa.C149 rfl ((less_ok (l1.getD (f + x) 0) (l1.getD (f + (((2 * x) + 1) + 1)) 0) _).mono (fun e w2 hq => ⟨_, hq.1, rfl, hq.2⟩))) (HW.op rfl (fun w1 H1 => op_not rfl ⟨rfl, Fr.refl _ _⟩)  HW.nil)))))))))))))) (by kernel_rfl) ?_
    intro β8 w8 H8
    refine wn ?_
    refine WC.cond rfl (fun (hb9 : (!(ltN (l1.getD (f + x) 0) (l1.getD (f + (((2 * x) + 1) + 1)) 0))) = true) => ?_) (fun (hb9 : (!(ltN (l1.getD (f + x) 0) (l1.getD (f + (((2 * x) + 1) + 1)) 0))) = false) => ?_)
    ·
     have hn9 := (Bool.not_eq_true' _).mp hb9
     refine WC.ret ?_
     refine WQ.thenRet ?_
     refine WQ.inRet ?_
     refine WQ.thenRet ?_
     refine WQ.inRet ?_
     refine WQ.out .nil ?_
     exact ⟨_, rfl, ⟨hs1, sift_stop ltNOK hx1 (och_2 ltNOK (by omega) hb6) hn9⟩, H8⟩
    ·
     have hn9 := (Bool.not_eq_false' _).mp hb9
     refine WC.skip ?_
     refine WQ.next ?_
     refine WC.seq ?_
     refine WC.held 24 rfl Fa.M H8 (fun w' => ∃ L', Owl.Own T w w' ([] ++ L')) ?_
     intro w10 H10
     refine WH.take (i := 0) (v := v) rfl rfl (.inl rfl) rfl (by kernel_rfl) ⟨[.row v 3 1 n (List.map vN l1)], H10⟩ (fun wX hSX => hSX.elim fun LX HX => op_move rfl ⟨rfl, rfl⟩) ?_
     refine WH.take (i := 1) (v := (vN f)) rfl rfl (.inl rfl) rfl (by kernel_rfl) ⟨[.row v 3 1 n (List.map vN l1)], H10⟩ (fun wX hSX => hSX.elim fun LX HX => op_move rfl ⟨rfl, rfl⟩) ?_
     refine WH.take (i := 2) (v := (vN x)) rfl rfl (.inl rfl) rfl (by kernel_rfl) ⟨[.row v 3 1 n (List.map vN l1)], H10⟩ (fun wX hSX => hSX.elim fun LX HX => op_move rfl ⟨rfl, rfl⟩) ?_
     refine WH.take (i := 3) (v := (vN (f + x))) rfl rfl (.inl rfl) rfl (by kernel_rfl) ⟨[.row v 3 1 n (List.map vN l1)], H10⟩ (fun wX hSX => hSX.elim fun LX HX => op_addN rfl rfl (by omega) ⟨rfl, rfl⟩) ?_
     refine WH.take (i := 4) (v := v) rfl rfl (.inl rfl) rfl (by kernel_rfl) ⟨[.row v 3 1 n (List.map vN l1)], H10⟩ (fun wX hSX => hSX.elim fun LX HX => op_move rfl ⟨rfl, rfl⟩) ?_
     refine WH.take (i := 5) (v := (vN f)) rfl rfl (.inl rfl) rfl (by kernel_rfl) ⟨[.row v 3 1 n (List.map vN l1)], H10⟩ (fun wX hSX => hSX.elim fun LX HX => op_move rfl ⟨rfl, rfl⟩) ?_
     refine WH.take (i := 6) (v := (vN (((2 * x) + 1) + 1))) rfl rfl (.inl rfl) rfl (by kernel_rfl) ⟨[.row v 3 1 n (List.map vN l1)], H10⟩ (fun wX hSX => hSX.elim fun LX HX => op_move rfl ⟨rfl, rfl⟩) ?_
     refine WH.take (i := 7) (v := (vN (f + (((2 * x) + 1) + 1)))) rfl rfl (.inl rfl) rfl (by kernel_rfl) ⟨[.row v 3 1 n (List.map vN l1)], H10⟩ (fun wX hSX => hSX.elim fun LX HX => op_addN rfl rfl (by omega) ⟨rfl, rfl⟩) ?_
     refine WH.take (i := 8) (v := v) rfl rfl (.inl rfl) rfl (by kernel_rfl) ⟨[.row v 3 1 n (List.map vN l1)], H10⟩ (fun wX hSX => hSX.elim fun LX HX => op_move rfl ⟨rfl, rfl⟩) ?_
     refine WH.take (i := 9) (v := (vN f)) rfl rfl (.inl rfl) rfl (by kernel_rfl) ⟨[.row v 3 1 n (List.map vN l1)], H10⟩ (fun wX hSX => hSX.elim fun LX HX => op_move rfl ⟨rfl, rfl⟩) ?_
     refine WH.take (i := 10) (v := (vN (((2 * x) + 1) + 1))) rfl rfl (.inl rfl) rfl (by kernel_rfl) ⟨[.row v 3 1 n (List.map vN l1)], H10⟩ (fun wX hSX => hSX.elim fun LX HX => op_move rfl ⟨rfl, rfl⟩) ?_
     refine WH.take (i := 11) (v := (vN (f + (((2 * x) + 1) + 1)))) rfl rfl (.inl rfl) rfl (by kernel_rfl) ⟨[.row v 3 1 n (List.map vN l1)], H10⟩ (fun wX hSX => hSX.elim fun LX HX => op_addN rfl rfl (by omega) ⟨rfl, rfl⟩) ?_
     refine WH.take (i := 12) (v := (.pointer (some (sp v (f + (((2 * x) + 1) + 1)))))) rfl rfl (.inl rfl) rfl (by kernel_rfl) ⟨[.row v 3 1 n (List.map vN l1)], H10⟩ (fun wX hSX => hSX.elim fun LX HX => op_indexAddr1W Try.underlying64 Fa.I3 rfl (H10.arrR (i := 0) rfl) rfl (by omega) ⟨rfl, rfl⟩) ?_
     refine WH.take (i := 14) (v := v) rfl rfl (.inl rfl) rfl (by kernel_rfl) ⟨[.row v 3 1 n (List.map vN l1)], H10⟩ (fun wX hSX => hSX.elim fun LX HX => op_move rfl ⟨rfl, rfl⟩) ?_
     refine WH.take (i := 15) (v := (vN f)) rfl rfl (.inl rfl) rfl (by kernel_rfl) ⟨[.row v 3 1 n (List.map vN l1)], H10⟩ (fun wX hSX => hSX.elim fun LX HX => op_move rfl ⟨rfl, rfl⟩) ?_
     refine WH.take (i := 16) (v := (vN x)) rfl rfl (.inl rfl) rfl (by kernel_rfl) ⟨[.row v 3 1 n (List.map vN l1)], H10⟩ (fun wX hSX => hSX.elim fun LX HX => op_move rfl ⟨rfl, rfl⟩) ?_
     refine WH.take (i := 17) (v := (vN (f + x))) rfl rfl (.inl rfl) rfl (by kernel_rfl) ⟨[.row v 3 1 n (List.map vN l1)], H10⟩ (fun wX hSX => hSX.elim fun LX HX => op_addN rfl rfl (by omega) ⟨rfl, rfl⟩) ?_
     refine WH.take (i := 18) (v := (.pointer (some (sp v (f + x))))) rfl rfl (.inl rfl) rfl (by kernel_rfl) ⟨[.row v 3 1 n (List.map vN l1)], H10⟩ (fun wX hSX => hSX.elim fun LX HX => op_indexAddr1W Try.underlying64 Fa.I3 rfl (H10.arrR (i := 0) rfl) rfl (by omega) ⟨rfl, rfl⟩) ?_
     refine WH.named (fun W hW => ?_)
     have st6_5 : ∀ (wS : World), Owl.Own T w wS [.row v 3 1 n (List.map vN ((l1.set (f + x) (l1.getD (f + (((2 * x) + 1) + 1)) 0)).set (f + (((2 * x) + 1) + 1)) (l1.getD (f + x) 0)))] → W 0 #[tt, tt, tt, tt, tt, tt, tt, tt, tt, tt, tt, tt, tt, tt, tt, tt, tt, tt, tt, tt, tt, tt, tt, tt] [(0, v), (1, (vN lo)), (2, (vN hi)), (3, (vN f)), (8, (vN x)), (9, (vN (((2 * x) + 1) + 1))), (11, (vN x)), (12, (vN (2 * x))), (13, (vN ((2 * x) + 1))), (14, (vN ((2 * x) + 1))), (15, (vN hi)), (16, (.bool (decide (((2 * x) + 1) ≥ hi)))), (17, (vN ((2 * x) + 1))), (18, (vN (((2 * x) + 1) + 1))), (19, (vN hi)), (20, (.bool (decide ((((2 * x) + 1) + 1) < hi)))), (21, (.bool (decide ((((2 * x) + 1) + 1) < hi)))), (22, v), (23, (vN f)), (24, (vN ((2 * x) + 1))), (25, (vN (f + ((2 * x) + 1)))), (26, (.pointer (some (sp v (f + ((2 * x) + 1)))))), (27, (vN (l1.getD (f + ((2 * x) + 1)) 0))), (28, v), (29, (vN f)), (30, (vN ((2 * x) + 1))), (31, (vN (f + ((2 * x) + 1)))), (32, (vN ((f + ((2 * x) + 1)) + 1))), (33, (.pointer (some (sp v ((f + ((2 * x) + 1)) + 1))))), (34, (vN (l1.getD ((f + ((2 * x) + 1)) + 1) 0))), (35, (.bool (ltN (l1.getD (f + ((2 * x) + 1)) 0) (l1.getD ((f + ((2 * x) + 1)) + 1) 0)))), (36, (.bool (ltN (l1.getD (f + ((2 * x) + 1)) 0) (l1.getD ((f + ((2 * x) + 1)) + 1) 0)))), (37, (vN ((2 * x) + 1))), (38, (vN (((2 * x) + 1) + 1))), (39, v), (40, (vN f)), (41, (vN x)), (42, (vN (f + x))), (43, (.pointer (some (sp v (f + x))))), (44, (vN (l1.getD (f + x) 0))), (45, v), (46, (vN f)), (47, (vN (((2 * x) + 1) + 1))), (48, (vN (f + (((2 * x) + 1) + 1)))), (49, (.pointer (some (sp v (f + (((2 * x) + 1) + 1)))))), (50, (vN (l1.getD (f + (((2 * x) + 1) + 1)) 0))), (51, (.bool (ltN (l1.getD (f + x) 0) (l1.getD (f + (((2 * x) + 1) + 1)) 0)))), (52, (.bool (!(ltN (l1.getD (f + x) 0) (l1.getD (f + (((2 * x) + 1) + 1)) 0))))), (53, v), (54, (vN f)), (55, (vN x)), (56, (vN (f + x))), (57, v), (58, (vN f)), (59, (vN (((2 * x) + 1) + 1))), (60, (vN (f + (((2 * x) + 1) + 1)))), (61, v), (62, (vN f)), (63, (vN (((2 * x) + 1) + 1))), (64, (vN (f + (((2 * x) + 1) + 1)))), (65, (.pointer (some (sp v (f + (((2 * x) + 1) + 1)))))), (66, (vN (l1.getD (f + (((2 * x) + 1) + 1)) 0))), (67, v), (68, (vN f)), (69, (vN x)), (70, (vN (f + x))), (71, (.pointer (some (sp v (f + x))))), (72, (vN (l1.getD (f + x) 0))), (73, (.pointer (some (sp v (f + x))))), (74, (.pointer (some (sp v (f + (((2 * x) + 1) + 1))))))] wS := by
      intro wS HS
      rw [hW]
      refine WH.done (by kernel_rfl) ?_
      refine WQ.next ?_
      refine WC.region ?_
      refine wo (op_move rfl ?_)
      refine wo (op_assign rfl ?_)
      refine WL.nil ?_
      refine WQ.inNormal ?_
      have hst := sift_step ltNOK (by omega) hx1 hg1 (och_2 ltNOK (by omega) hb6) (by omega) hn9
      exact WQ.round ((2 * x + 1 + 1), swapL 0 l1 (f + x) (f + (2 * x + 1 + 1))) ⟨⟨by omega, .inl (by omega), hs1.step (by omega) (by omega) (by omega) (by omega), hst.1, hst.2⟩, HS⟩ ⟨rfl, rfl, rfl, rfl, rfl, trivial⟩ (by show hi - (2 * x + 1 + 1) < hi - x; omega)
     have st6_4 : ∀ (wS : World), Owl.Own T w wS [.row v 3 1 n (List.map vN (l1.set (f + x) (l1.getD (f + (((2 * x) + 1) + 1)) 0)))] → W 1 #[tt, tt, tt, tt, tt, tt, tt, tt, tt, tt, tt, tt, tt, tt, tt, tt, tt, tt, tt, tt, tt, tt, tt, ff] [(0, v), (1, (vN lo)), (2, (vN hi)), (3, (vN f)), (8, (vN x)), (9, (vN (((2 * x) + 1) + 1))), (11, (vN x)), (12, (vN (2 * x))), (13, (vN ((2 * x) + 1))), (14, (vN ((2 * x) + 1))), (15, (vN hi)), (16, (.bool (decide (((2 * x) + 1) ≥ hi)))), (17, (vN ((2 * x) + 1))), (18, (vN (((2 * x) + 1) + 1))), (19, (vN hi)), (20, (.bool (decide ((((2 * x) + 1) + 1) < hi)))), (21, (.bool (decide ((((2 * x) + 1) + 1) < hi)))), (22, v), (23, (vN f)), (24, (vN ((2 * x) + 1))), (25, (vN (f + ((2 * x) + 1)))), (26, (.pointer (some (sp v (f + ((2 * x) + 1)))))), (27, (vN (l1.getD (f + ((2 * x) + 1)) 0))), (28, v), (29, (vN f)), (30, (vN ((2 * x) + 1))), (31, (vN (f + ((2 * x) + 1)))), (32, (vN ((f + ((2 * x) + 1)) + 1))), (33, (.pointer (some (sp v ((f + ((2 * x) + 1)) + 1))))), (34, (vN (l1.getD ((f + ((2 * x) + 1)) + 1) 0))), (35, (.bool (ltN (l1.getD (f + ((2 * x) + 1)) 0) (l1.getD ((f + ((2 * x) + 1)) + 1) 0)))), (36, (.bool (ltN (l1.getD (f + ((2 * x) + 1)) 0) (l1.getD ((f + ((2 * x) + 1)) + 1) 0)))), (37, (vN ((2 * x) + 1))), (38, (vN (((2 * x) + 1) + 1))), (39, v), (40, (vN f)), (41, (vN x)), (42, (vN (f + x))), (43, (.pointer (some (sp v (f + x))))), (44, (vN (l1.getD (f + x) 0))), (45, v), (46, (vN f)), (47, (vN (((2 * x) + 1) + 1))), (48, (vN (f + (((2 * x) + 1) + 1)))), (49, (.pointer (some (sp v (f + (((2 * x) + 1) + 1)))))), (50, (vN (l1.getD (f + (((2 * x) + 1) + 1)) 0))), (51, (.bool (ltN (l1.getD (f + x) 0) (l1.getD (f + (((2 * x) + 1) + 1)) 0)))), (52, (.bool (!(ltN (l1.getD (f + x) 0) (l1.getD (f + (((2 * x) + 1) + 1)) 0))))), (53, v), (54, (vN f)), (55, (vN x)), (56, (vN (f + x))), (57, v), (58, (vN f)), (59, (vN (((2 * x) + 1) + 1))), (60, (vN (f + (((2 * x) + 1) + 1)))), (61, v), (62, (vN f)), (63, (vN (((2 * x) + 1) + 1))), (64, (vN (f + (((2 * x) + 1) + 1)))), (65, (.pointer (some (sp v (f + (((2 * x) + 1) + 1)))))), (66, (vN (l1.getD (f + (((2 * x) + 1) + 1)) 0))), (67, v), (68, (vN f)), (69, (vN x)), (70, (vN (f + x))), (71, (.pointer (some (sp v (f + x))))), (72, (vN (l1.getD (f + x) 0))), (73, (.pointer (some (sp v (f + x))))), (74, (.pointer (some (sp v (f + (((2 * x) + 1) + 1))))))] wS := by
      intro wS HS
      rw [hW]
      refine WH.all1 (i := 23) (by kernel_rfl) ?_
      ·
       refine WHS.op (i := 23) rfl (.inl rfl) rfl (op_storeRM (i := 0) (f := vN) (l := (l1.set (f + x) (l1.getD (f + (((2 * x) + 1) + 1)) 0))) (c := (l1.getD (f + x) 0)) HS rfl rfl rfl (by omega) rfl Fa.I3 (fun w21461 H21461 => ?_))
       refine ⟨⟨[.row v 3 1 n (List.map vN ((l1.set (f + x) (l1.getD (f + (((2 * x) + 1) + 1)) 0)).set (f + (((2 * x) + 1) + 1)) (l1.getD (f + x) 0)))], H21461⟩, ?_⟩
       have hq := st6_5 w21461 H21461
       rw [hW] at hq
       exact WH.cv hq
     have st6_3 : ∀ (wS : World), Owl.Own T w wS [.row v 3 1 n (List.map vN l1)] → W 3 #[tt, tt, tt, tt, tt, tt, tt, tt, tt, tt, tt, tt, tt, tt, tt, tt, tt, tt, tt, tt, tt, ff, ff, ff] [(0, v), (1, (vN lo)), (2, (vN hi)), (3, (vN f)), (8, (vN x)), (9, (vN (((2 * x) + 1) + 1))), (11, (vN x)), (12, (vN (2 * x))), (13, (vN ((2 * x) + 1))), (14, (vN ((2 * x) + 1))), (15, (vN hi)), (16, (.bool (decide (((2 * x) + 1) ≥ hi)))), (17, (vN ((2 * x) + 1))), (18, (vN (((2 * x) + 1) + 1))), (19, (vN hi)), (20, (.bool (decide ((((2 * x) + 1) + 1) < hi)))), (21, (.bool (decide ((((2 * x) + 1) + 1) < hi)))), (22, v), (23, (vN f)), (24, (vN ((2 * x) + 1))), (25, (vN (f + ((2 * x) + 1)))), (26, (.pointer (some (sp v (f + ((2 * x) + 1)))))), (27, (vN (l1.getD (f + ((2 * x) + 1)) 0))), (28, v), (29, (vN f)), (30, (vN ((2 * x) + 1))), (31, (vN (f + ((2 * x) + 1)))), (32, (vN ((f + ((2 * x) + 1)) + 1))), (33, (.pointer (some (sp v ((f + ((2 * x) + 1)) + 1))))), (34, (vN (l1.getD ((f + ((2 * x) + 1)) + 1) 0))), (35, (.bool (ltN (l1.getD (f + ((2 * x) + 1)) 0) (l1.getD ((f + ((2 * x) + 1)) + 1) 0)))), (36, (.bool (ltN (l1.getD (f + ((2 * x) + 1)) 0) (l1.getD ((f + ((2 * x) + 1)) + 1) 0)))), (37, (vN ((2 * x) + 1))), (38, (vN (((2 * x) + 1) + 1))), (39, v), (40, (vN f)), (41, (vN x)), (42, (vN (f + x))), (43, (.pointer (some (sp v (f + x))))), (44, (vN (l1.getD (f + x) 0))), (45, v), (46, (vN f)), (47, (vN (((2 * x) + 1) + 1))), (48, (vN (f + (((2 * x) + 1) + 1)))), (49, (.pointer (some (sp v (f + (((2 * x) + 1) + 1)))))), (50, (vN (l1.getD (f + (((2 * x) + 1) + 1)) 0))), (51, (.bool (ltN (l1.getD (f + x) 0) (l1.getD (f + (((2 * x) + 1) + 1)) 0)))), (52, (.bool (!(ltN (l1.getD (f + x) 0) (l1.getD (f + (((2 * x) + 1) + 1)) 0))))), (53, v), (54, (vN f)), (55, (vN x)), (56, (vN (f + x))), (57, v), (58, (vN f)), (59, (vN (((2 * x) + 1) + 1))), (60, (vN (f + (((2 * x) + 1) + 1)))), (61, v), (62, (vN f)), (63, (vN (((2 * x) + 1) + 1))), (64, (vN (f + (((2 * x) + 1) + 1)))), (65, (.pointer (some (sp v (f + (((2 * x) + 1) + 1)))))), (66, (vN (l1.getD (f + (((2 * x) + 1) + 1)) 0))), (67, v), (68, (vN f)), (69, (vN x)), (70, (vN (f + x))), (71, (.pointer (some (sp v (f + x))))), (72, (vN (l1.getD (f + x) 0))), (73, (.pointer (some (sp v (f + x)))))] wS := by
      intro wS HS
      rw [hW]
      refine WH.all1 (i := 21) (by kernel_rfl) ?_
      ·
       refine WHS.op (i := 21) rfl (.inl rfl) rfl (op_storeRM (i := 0) (f := vN) (l := l1) (c := (l1.getD (f + (((2 * x) + 1) + 1)) 0)) HS rfl rfl rfl (by omega) rfl Fa.I3 (fun w21421 H21421 => ?_))
       refine ⟨⟨[.row v 3 1 n (List.map vN (l1.set (f + x) (l1.getD (f + (((2 * x) + 1) + 1)) 0)))], H21421⟩, ?_⟩
       refine WH.take (i := 22) (v := (.pointer (some (sp v (f + (((2 * x) + 1) + 1)))))) rfl rfl (.inl rfl) rfl (by kernel_rfl) ⟨[.row v 3 1 n (List.map vN (l1.set (f + x) (l1.getD (f + (((2 * x) + 1) + 1)) 0)))], H21421⟩ (fun wX hSX => hSX.elim fun LX HX => op_indexAddr1W Try.underlying64 Fa.I3 rfl (H21421.arrR (i := 0) rfl) rfl (by omega) ⟨rfl, rfl⟩) ?_
       have hq := st6_4 w21421 H21421
       rw [hW] at hq
       exact WH.cv hq
     have st6_1 : ∀ (wS : World), Owl.Own T w wS [.row v 3 1 n (List.map vN l1)] → W 5 #[tt, tt, tt, tt, tt, tt, tt, tt, tt, tt, tt, tt, tt, tt, tt, tt, tt, tt, tt, ff, ff, ff, ff, ff] [(0, v), (1, (vN lo)), (2, (vN hi)), (3, (vN f)), (8, (vN x)), (9, (vN (((2 * x) + 1) + 1))), (11, (vN x)), (12, (vN (2 * x))), (13, (vN ((2 * x) + 1))), (14, (vN ((2 * x) + 1))), (15, (vN hi)), (16, (.bool (decide (((2 * x) + 1) ≥ hi)))), (17, (vN ((2 * x) + 1))), (18, (vN (((2 * x) + 1) + 1))), (19, (vN hi)), (20, (.bool (decide ((((2 * x) + 1) + 1) < hi)))), (21, (.bool (decide ((((2 * x) + 1) + 1) < hi)))), (22, v), (23, (vN f)), (24, (vN ((2 * x) + 1))), (25, (vN (f + ((2 * x) + 1)))), (26, (.pointer (some (sp v (f + ((2 * x) + 1)))))), (27, (vN (l1.getD (f + ((2 * x) + 1)) 0))), (28, v), (29, (vN f)), (30, (vN ((2 * x) + 1))), (31, (vN (f + ((2 * x) + 1)))), (32, (vN ((f + ((2 * x) + 1)) + 1))), (33, (.pointer (some (sp v ((f + ((2 * x) + 1)) + 1))))), (34, (vN (l1.getD ((f + ((2 * x) + 1)) + 1) 0))), (35, (.bool (ltN (l1.getD (f + ((2 * x) + 1)) 0) (l1.getD ((f + ((2 * x) + 1)) + 1) 0)))), (36, (.bool (ltN (l1.getD (f + ((2 * x) + 1)) 0) (l1.getD ((f + ((2 * x) + 1)) + 1) 0)))), (37, (vN ((2 * x) + 1))), (38, (vN (((2 * x) + 1) + 1))), (39, v), (40, (vN f)), (41, (vN x)), (42, (vN (f + x))), (43, (.pointer (some (sp v (f + x))))), (44, (vN (l1.getD (f + x) 0))), (45, v), (46, (vN f)), (47, (vN (((2 * x) + 1) + 1))), (48, (vN (f + (((2 * x) + 1) + 1)))), (49, (.pointer (some (sp v (f + (((2 * x) + 1) + 1)))))), (50, (vN (l1.getD (f + (((2 * x) + 1) + 1)) 0))), (51, (.bool (ltN (l1.getD (f + x) 0) (l1.getD (f + (((2 * x) + 1) + 1)) 0)))), (52, (.bool (!(ltN (l1.getD (f + x) 0) (l1.getD (f + (((2 * x) + 1) + 1)) 0))))), (53, v), (54, (vN f)), (55, (vN x)), (56, (vN (f + x))), (57, v), (58, (vN f)), (59, (vN (((2 * x) + 1) + 1))), (60, (vN (f + (((2 * x) + 1) + 1)))), (61, v), (62, (vN f)), (63, (vN (((2 * x) + 1) + 1))), (64, (vN (f + (((2 * x) + 1) + 1)))), (65, (.pointer (some (sp v (f + (((2 * x) + 1) + 1)))))), (66, (vN (l1.getD (f + (((2 * x) + 1) + 1)) 0))), (67, v), (68, (vN f)), (69, (vN x)), (70, (vN (f + x))), (71, (.pointer (some (sp v (f + x)))))] wS := by
      intro wS HS
      rw [hW]
      refine WH.all1 (i := 19) (by kernel_rfl) ?_
      ·
       refine WHS.op (i := 19) rfl (.inl rfl) rfl (op_load rfl ((HS.arrR (i := 0) rfl).at (get_map vN 0 (Arr.ltM (HS.arrR (i := 0) rfl) (by omega)))) Try.underlying3 rfl ?_)
       refine ⟨⟨[.row v 3 1 n (List.map vN l1)], HS⟩, ?_⟩
       refine WH.take (i := 20) (v := (.pointer (some (sp v (f + x))))) rfl rfl (.inl rfl) rfl (by kernel_rfl) ⟨[.row v 3 1 n (List.map vN l1)], HS⟩ (fun wX hSX => hSX.elim fun LX HX => op_indexAddr1W Try.underlying64 Fa.I3 rfl (HS.arrR (i := 0) rfl) rfl (by omega) ⟨rfl, rfl⟩) ?_
       have hq := st6_3 wS HS
       rw [hW] at hq
       exact WH.cv hq
     have st6_2 : ∀ (wS : World), Owl.Own T w wS [.row v 3 1 n (List.map vN l1)] → W 5 #[tt, tt, tt, tt, tt, tt, tt, tt, tt, tt, tt, tt, tt, ff, tt, tt, tt, tt, tt, tt, ff, ff, ff, ff] [(0, v), (1, (vN lo)), (2, (vN hi)), (3, (vN f)), (8, (vN x)), (9, (vN (((2 * x) + 1) + 1))), (11, (vN x)), (12, (vN (2 * x))), (13, (vN ((2 * x) + 1))), (14, (vN ((2 * x) + 1))), (15, (vN hi)), (16, (.bool (decide (((2 * x) + 1) ≥ hi)))), (17, (vN ((2 * x) + 1))), (18, (vN (((2 * x) + 1) + 1))), (19, (vN hi)), (20, (.bool (decide ((((2 * x) + 1) + 1) < hi)))), (21, (.bool (decide ((((2 * x) + 1) + 1) < hi)))), (22, v), (23, (vN f)), (24, (vN ((2 * x) + 1))), (25, (vN (f + ((2 * x) + 1)))), (26, (.pointer (some (sp v (f + ((2 * x) + 1)))))), (27, (vN (l1.getD (f + ((2 * x) + 1)) 0))), (28, v), (29, (vN f)), (30, (vN ((2 * x) + 1))), (31, (vN (f + ((2 * x) + 1)))), (32, (vN ((f + ((2 * x) + 1)) + 1))), (33, (.pointer (some (sp v ((f + ((2 * x) + 1)) + 1))))), (34, (vN (l1.getD ((f + ((2 * x) + 1)) + 1) 0))), (35, (.bool (ltN (l1.getD (f + ((2 * x) + 1)) 0) (l1.getD ((f + ((2 * x) + 1)) + 1) 0)))), (36, (.bool (ltN (l1.getD (f + ((2 * x) + 1)) 0) (l1.getD ((f + ((2 * x) + 1)) + 1) 0)))), (37, (vN ((2 * x) + 1))), (38, (vN (((2 * x) + 1) + 1))), (39, v), (40, (vN f)), (41, (vN x)), (42, (vN (f + x))), (43, (.pointer (some (sp v (f + x))))), (44, (vN (l1.getD (f + x) 0))), (45, v), (46, (vN f)), (47, (vN (((2 * x) + 1) + 1))), (48, (vN (f + (((2 * x) + 1) + 1)))), (49, (.pointer (some (sp v (f + (((2 * x) + 1) + 1)))))), (50, (vN (l1.getD (f + (((2 * x) + 1) + 1)) 0))), (51, (.bool (ltN (l1.getD (f + x) 0) (l1.getD (f + (((2 * x) + 1) + 1)) 0)))), (52, (.bool (!(ltN (l1.getD (f + x) 0) (l1.getD (f + (((2 * x) + 1) + 1)) 0))))), (53, v), (54, (vN f)), (55, (vN x)), (56, (vN (f + x))), (57, v), (58, (vN f)), (59, (vN (((2 * x) + 1) + 1))), (60, (vN (f + (((2 * x) + 1) + 1)))), (61, v), (62, (vN f)), (63, (vN (((2 * x) + 1) + 1))), (64, (vN (f + (((2 * x) + 1) + 1)))), (65, (.pointer (some (sp v (f + (((2 * x) + 1) + 1)))))), (67, v), (68, (vN f)), (69, (vN x)), (70, (vN (f + x))), (71, (.pointer (some (sp v (f + x))))), (72, (vN (l1.getD (f + x) 0)))] wS := by
      intro wS HS
      rw [hW]
      refine WH.all1 (i := 13) (by kernel_rfl) ?_
      ·
       refine WHS.op (i := 13) rfl (.inl rfl) rfl (op_load rfl ((HS.arrR (i := 0) rfl).at (get_map vN 0 (Arr.ltM (HS.arrR (i := 0) rfl) (by omega)))) Try.underlying3 rfl ?_)
       refine ⟨⟨[.row v 3 1 n (List.map vN l1)], HS⟩, ?_⟩
       refine WH.take (i := 20) (v := (.pointer (some (sp v (f + x))))) rfl rfl (.inl rfl) rfl (by kernel_rfl) ⟨[.row v 3 1 n (List.map vN l1)], HS⟩ (fun wX hSX => hSX.elim fun LX HX => op_indexAddr1W Try.underlying64 Fa.I3 rfl (HS.arrR (i := 0) rfl) rfl (by omega) ⟨rfl, rfl⟩) ?_
       have hq := st6_3 wS HS
       rw [hW] at hq
       exact WH.cv hq
     have st6_0 : ∀ (wS : World), Owl.Own T w wS [.row v 3 1 n (List.map vN l1)] → W 6 #[tt, tt, tt, tt, tt, tt, tt, tt, tt, tt, tt, tt, tt, ff, tt, tt, tt, tt, tt, ff, ff, ff, ff, ff] [(0, v), (1, (vN lo)), (2, (vN hi)), (3, (vN f)), (8, (vN x)), (9, (vN (((2 * x) + 1) + 1))), (11, (vN x)), (12, (vN (2 * x))), (13, (vN ((2 * x) + 1))), (14, (vN ((2 * x) + 1))), (15, (vN hi)), (16, (.bool (decide (((2 * x) + 1) ≥ hi)))), (17, (vN ((2 * x) + 1))), (18, (vN (((2 * x) + 1) + 1))), (19, (vN hi)), (20, (.bool (decide ((((2 * x) + 1) + 1) < hi)))), (21, (.bool (decide ((((2 * x) + 1) + 1) < hi)))), (22, v), (23, (vN f)), (24, (vN ((2 * x) + 1))), (25, (vN (f + ((2 * x) + 1)))), (26, (.pointer (some (sp v (f + ((2 * x) + 1)))))), (27, (vN (l1.getD (f + ((2 * x) + 1)) 0))), (28, v), (29, (vN f)), (30, (vN ((2 * x) + 1))), (31, (vN (f + ((2 * x) + 1)))), (32, (vN ((f + ((2 * x) + 1)) + 1))), (33, (.pointer (some (sp v ((f + ((2 * x) + 1)) + 1))))), (34, (vN (l1.getD ((f + ((2 * x) + 1)) + 1) 0))), (35, (.bool (ltN (l1.getD (f + ((2 * x) + 1)) 0) (l1.getD ((f + ((2 * x) + 1)) + 1) 0)))), (36, (.bool (ltN (l1.getD (f + ((2 * x) + 1)) 0) (l1.getD ((f + ((2 * x) + 1)) + 1) 0)))), (37, (vN ((2 * x) + 1))), (38, (vN (((2 * x) + 1) + 1))), (39, v), (40, (vN f)), (41, (vN x)), (42, (vN (f + x))), (43, (.pointer (some (sp v (f + x))))), (44, (vN (l1.getD (f + x) 0))), (45, v), (46, (vN f)), (47, (vN (((2 * x) + 1) + 1))), (48, (vN (f + (((2 * x) + 1) + 1)))), (49, (.pointer (some (sp v (f + (((2 * x) + 1) + 1)))))), (50, (vN (l1.getD (f + (((2 * x) + 1) + 1)) 0))), (51, (.bool (ltN (l1.getD (f + x) 0) (l1.getD (f + (((2 * x) + 1) + 1)) 0)))), (52, (.bool (!(ltN (l1.getD (f + x) 0) (l1.getD (f + (((2 * x) + 1) + 1)) 0))))), (53, v), (54, (vN f)), (55, (vN x)), (56, (vN (f + x))), (57, v), (58, (vN f)), (59, (vN (((2 * x) + 1) + 1))), (60, (vN (f + (((2 * x) + 1) + 1)))), (61, v), (62, (vN f)), (63, (vN (((2 * x) + 1) + 1))), (64, (vN (f + (((2 * x) + 1) + 1)))), (65, (.pointer (some (sp v (f + (((2 * x) + 1) + 1)))))), (67, v), (68, (vN f)), (69, (vN x)), (70, (vN (f + x))), (71, (.pointer (some (sp v (f + x)))))] wS := by
      intro wS HS
      rw [hW]
      refine WH.all2 (i := 13) (j := 19) (by kernel_rfl) ?_ ?_
      ·
       refine WHS.op (i := 13) rfl (.inl rfl) rfl (op_load rfl ((HS.arrR (i := 0) rfl).at (get_map vN 0 (Arr.ltM (HS.arrR (i := 0) rfl) (by omega)))) Try.underlying3 rfl ?_)
       refine ⟨⟨[.row v 3 1 n (List.map vN l1)], HS⟩, ?_⟩
       have hq := st6_1 wS HS
       rw [hW] at hq
       exact WH.cv hq
      ·
       refine WHS.op (i := 19) rfl (.inl rfl) rfl (op_load rfl ((HS.arrR (i := 0) rfl).at (get_map vN 0 (Arr.ltM (HS.arrR (i := 0) rfl) (by omega)))) Try.underlying3 rfl ?_)
       refine ⟨⟨[.row v 3 1 n (List.map vN l1)], HS⟩, ?_⟩
       have hq := st6_2 wS HS
       rw [hW] at hq
       exact WH.cv hq
     have hq := st6_0 w10 H10
     rw [hW] at hq ⊢
     exact WH.cv hq
   ·
    refine WC.skip ?_
    refine WQ.next ?_
    refine WC.seq ?_
    refine WC.seq ?_
    refine WC.draw 14 Fa.M H5 (HW.op rfl (fun w1 H1 => op_move rfl ⟨rfl, Fr.refl _ _⟩) (HW.op rfl (fun w1 H1 => op_move rfl ⟨rfl, Fr.refl _ _⟩) (HW.op rfl (fun w1 H1 => op_move rfl ⟨rfl, Fr.refl _ _⟩) (HW.op rfl (fun w1 H1 => op_addN rfl rfl (by omega) ⟨rfl, Fr.refl _ _⟩) (HW.op rfl (fun w1 H1 => op_indexAddr1 Try.underlying64 Fa.I3 rfl (H1.arrR (i := 0) rfl) rfl (by omega) ⟨rfl, Fr.refl _ _⟩) (HW.op rfl (fun w1 H1 => op_load rfl ((H1.arrR (i := 0) rfl).at (get_map vN 0 (Arr.ltM (H1.arrR (i := 0) rfl) (by omega)))) Try.underlying3 rfl ⟨rfl, Fr.refl _ _⟩) (HW.op rfl (fun w1 H1 => op_move rfl ⟨rfl, Fr.refl _ _⟩) (HW.op rfl (fun w1 H1 => op_move rfl ⟨rfl, Fr.refl _ _⟩) (HW.op rfl (fun w1 H1 => op_move rfl ⟨rfl, Fr.refl _ _⟩) (HW.op rfl (fun w1 H1 => op_addN rfl rfl (by omega) ⟨rfl, Fr.refl _ _⟩) (HW.op rfl (fun w1 H1 => op_indexAddr1 Try.underlying64 Fa.I3 rfl (H1.arrR (i := 0) rfl) rfl (by omega) ⟨rfl, Fr.refl _ _⟩) (HW.op rfl (fun w1 H1 => op_load rfl ((H1.arrR (i := 0) rfl).at (get_map vN 0 (Arr.ltM (H1.arrR (i := 0) rfl) (by omega)))) Try.underlying3 rfl ⟨rfl, Fr.refl _ _⟩) (HW.op rfl (fun w1 H1 => op_callF Fa.C149 rfl ((less_ok (l1.getD (f + x) 0) (l1.getD (f + ((2 * x) + 1)) 0) _).mono (fun e w2 hq => ⟨_, hq.1, rfl, hq.2⟩))) (HW.op rfl (fun w1 H1 => op_not rfl ⟨rfl, Fr.refl _ _⟩)  HW.nil)))))))))))))) (by kernel_rfl) ?_
    intro β13 w13 H13
    refine wn ?_
    refine WC.cond rfl (fun (hb14 : (!(ltN (l1.getD (f + x) 0) (l1.getD (f + ((2 * x) + 1)) 0))) = true) => ?_) (fun (hb14 : (!(ltN (l1.getD (f + x) 0) (l1.getD (f + ((2 * x) + 1)) 0))) = false) => ?_)
    ·
     have hn14 := (Bool.not_eq_true' _).mp hb14
     refine WC.ret ?_
     refine WQ.thenRet ?_
     refine WQ.inRet ?_
     refine WQ.thenRet ?_
     refine WQ.inRet ?_
     refine WQ.out .nil ?_
     exact ⟨_, rfl, ⟨hs1, sift_stop ltNOK hx1 (och_1 ltNOK (by omega) (.inr hb6)) hn14⟩, H13⟩
    ·
     have hn14 := (Bool.not_eq_false' _).mp hb14
     refine WC.skip ?_
     refine WQ.next ?_
     refine WC.seq ?_
     refine WC.held 24 rfl Fa.M H13 (fun w' => ∃ L', Owl.Own T w w' ([] ++ L')) ?_
     intro w15 H15
     refine WH.take (i := 0) (v := v) rfl rfl (.inl rfl) rfl (by kernel_rfl) ⟨[.row v 3 1 n (List.map vN l1)], H15⟩ (fun wX hSX => hSX.elim fun LX HX => op_move rfl ⟨rfl, rfl⟩) ?_
     refine WH.take (i := 1) (v := (vN f)) rfl rfl (.inl rfl) rfl (by kernel_rfl) ⟨[.row v 3 1 n (List.map vN l1)], H15⟩ (fun wX hSX => hSX.elim fun LX HX => op_move rfl ⟨rfl, rfl⟩) ?_
     refine WH.take (i := 2) (v := (vN x)) rfl rfl (.inl rfl) rfl (by kernel_rfl) ⟨[.row v 3 1 n (List.map vN l1)], H15⟩ (fun wX hSX => hSX.elim fun LX HX => op_move rfl ⟨rfl, rfl⟩) ?_
     refine WH.take (i := 3) (v := (vN (f + x))) rfl rfl (.inl rfl) rfl (by kernel_rfl) ⟨[.row v 3 1 n (List.map vN l1)], H15⟩ (fun wX hSX => hSX.elim fun LX HX => op_addN rfl rfl (by omega) ⟨rfl, rfl⟩) ?_
     refine WH.take (i := 4) (v := v) rfl rfl (.inl rfl) rfl (by kernel_rfl) ⟨[.row v 3 1 n (List.map vN l1)], H15⟩ (fun wX hSX => hSX.elim fun LX HX => op_move rfl ⟨rfl, rfl⟩) ?_
     refine WH.take (i := 5) (v := (vN f)) rfl rfl (.inl rfl) rfl (by kernel_rfl) ⟨[.row v 3 1 n (List.map vN l1)], H15⟩ (fun wX hSX => hSX.elim fun LX HX => op_move rfl ⟨rfl, rfl⟩) ?_
     refine WH.take (i := 6) (v := (vN ((2 * x) + 1))) rfl rfl (.inl rfl) rfl (by kernel_rfl) ⟨[.row v 3 1 n (List.map vN l1)], H15⟩ (fun wX hSX => hSX.elim fun LX HX => op_move rfl ⟨rfl, rfl⟩) ?_
     refine WH.take (i := 7) (v := (vN (f + ((2 * x) + 1)))) rfl rfl (.inl rfl) rfl (by kernel_rfl) ⟨[.row v 3 1 n (List.map vN l1)], H15⟩ (fun wX hSX => hSX.elim fun LX HX => op_addN rfl rfl (by omega) ⟨rfl, rfl⟩) ?_
     refine WH.take (i := 8) (v := v) rfl rfl (.inl rfl) rfl (by kernel_rfl) ⟨[.row v 3 1 n (List.map vN l1)], H15⟩ (fun wX hSX => hSX.elim fun LX HX => op_move rfl ⟨rfl, rfl⟩) ?_
     refine WH.take (i := 9) (v := (vN f)) rfl rfl (.inl rfl) rfl (by kernel_rfl) ⟨[.row v 3 1 n (List.map vN l1)], H15⟩ (fun wX hSX => hSX.elim fun LX HX => op_move rfl ⟨rfl, rfl⟩) ?_
     refine WH.take (i := 10) (v := (vN ((2 * x) + 1))) rfl rfl (.inl rfl) rfl (by kernel_rfl) ⟨[.row v 3 1 n (List.map vN l1)], H15⟩ (fun wX hSX => hSX.elim fun LX HX => op_move rfl ⟨rfl, rfl⟩) ?_
     refine WH.take (i := 11) (v := (vN (f + ((2 * x) + 1)))) rfl rfl (.inl rfl) rfl (by kernel_rfl) ⟨[.row v 3 1 n (List.map vN l1)], H15⟩ (fun wX hSX => hSX.elim fun LX HX => op_addN rfl rfl (by omega) ⟨rfl, rfl⟩) ?_
     refine WH.take (i := 12) (v := (.pointer (some (sp v (f + ((2 * x) + 1)))))) rfl rfl (.inl rfl) rfl (by kernel_rfl) ⟨[.row v 3 1 n (List.map vN l1)], H15⟩ (fun wX hSX => hSX.elim fun LX HX => op_indexAddr1W Try.underlying64 Fa.I3 rfl (H15.arrR (i := 0) rfl) rfl (by omega) ⟨rfl, rfl⟩) ?_
     refine WH.take (i := 14) (v := v) rfl rfl (.inl rfl) rfl (by kernel_rfl) ⟨[.row v 3 1 n (List.map vN l1)], H15⟩ (fun wX hSX => hSX.elim fun LX HX => op_move rfl ⟨rfl, rfl⟩) ?_
     refine WH.take (i := 15) (v := (vN f)) rfl rfl (.inl rfl) rfl (by kernel_rfl) ⟨[.row v 3 1 n (List.map vN l1)], H15⟩ (fun wX hSX => hSX.elim fun LX HX => op_move rfl ⟨rfl, rfl⟩) ?_
     refine WH.take (i := 16) (v := (vN x)) rfl rfl (.inl rfl) rfl (by kernel_rfl) ⟨[.row v 3 1 n (List.map vN l1)], H15⟩ (fun wX hSX => hSX.elim fun LX HX => op_move rfl ⟨rfl, rfl⟩) ?_
     refine WH.take (i := 17) (v := (vN (f + x))) rfl rfl (.inl rfl) rfl (by kernel_rfl) ⟨[.row v 3 1 n (List.map vN l1)], H15⟩ (fun wX hSX => hSX.elim fun LX HX => op_addN rfl rfl (by omega) ⟨rfl, rfl⟩) ?_
     refine WH.take (i := 18) (v := (.pointer (some (sp v (f + x))))) rfl rfl (.inl rfl) rfl (by kernel_rfl) ⟨[.row v 3 1 n (List.map vN l1)], H15⟩ (fun wX hSX => hSX.elim fun LX HX => op_indexAddr1W Try.underlying64 Fa.I3 rfl (H15.arrR (i := 0) rfl) rfl (by omega) ⟨rfl, rfl⟩) ?_
     refine WH.named (fun W hW => ?_)
     have st6_5 : ∀ (wS : World), Owl.Own T w wS [.row v 3 1 n (List.map vN ((l1.set (f + x) (l1.getD (f + ((2 * x) + 1)) 0)).set (f + ((2 * x) + 1)) (l1.getD (f + x) 0)))] → W 0 #[tt, tt, tt, tt, tt, tt, tt, tt, tt, tt, tt, tt, tt, tt, tt, tt, tt, tt, tt, tt, tt, tt, tt, tt] [(0, v), (1, (vN lo)), (2, (vN hi)), (3, (vN f)), (8, (vN x)), (9, (vN ((2 * x) + 1))), (11, (vN x)), (12, (vN (2 * x))), (13, (vN ((2 * x) + 1))), (14, (vN ((2 * x) + 1))), (15, (vN hi)), (16, (.bool (decide (((2 * x) + 1) ≥ hi)))), (17, (vN ((2 * x) + 1))), (18, (vN (((2 * x) + 1) + 1))), (19, (vN hi)), (20, (.bool (decide ((((2 * x) + 1) + 1) < hi)))), (21, (.bool (decide ((((2 * x) + 1) + 1) < hi)))), (22, v), (23, (vN f)), (24, (vN ((2 * x) + 1))), (25, (vN (f + ((2 * x) + 1)))), (26, (.pointer (some (sp v (f + ((2 * x) + 1)))))), (27, (vN (l1.getD (f + ((2 * x) + 1)) 0))), (28, v), (29, (vN f)), (30, (vN ((2 * x) + 1))), (31, (vN (f + ((2 * x) + 1)))), (32, (vN ((f + ((2 * x) + 1)) + 1))), (33, (.pointer (some (sp v ((f + ((2 * x) + 1)) + 1))))), (34, (vN (l1.getD ((f + ((2 * x) + 1)) + 1) 0))), (35, (.bool (ltN (l1.getD (f + ((2 * x) + 1)) 0) (l1.getD ((f + ((2 * x) + 1)) + 1) 0)))), (36, (.bool (ltN (l1.getD (f + ((2 * x) + 1)) 0) (l1.getD ((f + ((2 * x) + 1)) + 1) 0)))), (39, v), (40, (vN f)), (41, (vN x)), (42, (vN (f + x))), (43, (.pointer (some (sp v (f + x))))), (44, (vN (l1.getD (f + x) 0))), (45, v), (46, (vN f)), (47, (vN ((2 * x) + 1))), (48, (vN (f + ((2 * x) + 1)))), (49, (.pointer (some (sp v (f + ((2 * x) + 1)))))), (50, (vN (l1.getD (f + ((2 * x) + 1)) 0))), (51, (.bool (ltN (l1.getD (f + x) 0) (l1.getD (f + ((2 * x) + 1)) 0)))), (52, (.bool (!(ltN (l1.getD (f + x) 0) (l1.getD (f + ((2 * x) + 1)) 0))))), (53, v), (54, (vN f)), (55, (vN x)), (56, (vN (f + x))), (57, v), (58, (vN f)), (59, (vN ((2 * x) + 1))), (60, (vN (f + ((2 * x) + 1)))), (61, v), (62, (vN f)), (63, (vN ((2 * x) + 1))), (64, (vN (f + ((2 * x) + 1)))), (65, (.pointer (some (sp v (f + ((2 * x) + 1)))))), (66, (vN (l1.getD (f + ((2 * x) + 1)) 0))), (67, v), (68, (vN f)), (69, (vN x)), (70, (vN (f + x))), (71, (.pointer (some (sp v (f + x))))), (72, (vN (l1.getD (f + x) 0))), (73, (.pointer (some (sp v (f + x))))), (74, (.pointer (some (sp v (f + ((2 * x) + 1))))))] wS := by
      intro wS HS
      rw [hW]
      refine WH.done (by kernel_rfl) ?_
      refine WQ.next ?_
      refine WC.region ?_
      refine wo (op_move rfl ?_)
      refine wo (op_assign rfl ?_)
      refine WL.nil ?_
      refine WQ.inNormal ?_
      have hst := sift_step ltNOK (by omega) hx1 hg1 (och_1 ltNOK (by omega) (.inr hb6)) (by omega) hn14
      exact WQ.round ((2 * x + 1), swapL 0 l1 (f + x) (f + (2 * x + 1))) ⟨⟨by omega, .inl (by omega), hs1.step (by omega) (by omega) (by omega) (by omega), hst.1, hst.2⟩, HS⟩ ⟨rfl, rfl, rfl, rfl, rfl, trivial⟩ (by show hi - (2 * x + 1) < hi - x; omega)
     have st6_4 : ∀ (wS : World), Owl.Own T w wS [.row v 3 1 n (List.map vN (l1.set (f + x) (l1.getD (f + ((2 * x) + 1)) 0)))] → W 1 #[tt, tt, tt, tt, tt, tt, tt, tt, tt, tt, tt, tt, tt, tt, tt, tt, tt, tt, tt, tt, tt, tt, tt, ff] [(0, v), (1, (vN lo)), (2, (vN hi)), (3, (vN f)), (8, (vN x)), (9, (vN ((2 * x) + 1))), (11, (vN x)), (12, (vN (2 * x))), (13, (vN ((2 * x) + 1))), (14, (vN ((2 * x) + 1))), (15, (vN hi)), (16, (.bool (decide (((2 * x) + 1) ≥ hi)))), (17, (vN ((2 * x) + 1))), (18, (vN (((2 * x) + 1) + 1))), (19, (vN hi)), (20, (.bool (decide ((((2 * x) + 1) + 1) < hi)))), (21, (.bool (decide ((((2 * x) + 1) + 1) < hi)))), (22, v), (23, (vN f)), (24, (vN ((2 * x) + 1))), (25, (vN (f + ((2 * x) + 1)))), (26, (.pointer (some (sp v (f + ((2 * x) + 1)))))), (27, (vN (l1.getD (f + ((2 * x) + 1)) 0))), (28, v), (29, (vN f)), (30, (vN ((2 * x) + 1))), (31, (vN (f + ((2 * x) + 1)))), (32, (vN ((f + ((2 * x) + 1)) + 1))), (33, (.pointer (some (sp v ((f + ((2 * x) + 1)) + 1))))), (34, (vN (l1.getD ((f + ((2 * x) + 1)) + 1) 0))), (35, (.bool (ltN (l1.getD (f + ((2 * x) + 1)) 0) (l1.getD ((f + ((2 * x) + 1)) + 1) 0)))), (36, (.bool (ltN (l1.getD (f + ((2 * x) + 1)) 0) (l1.getD ((f + ((2 * x) + 1)) + 1) 0)))), (39, v), (40, (vN f)), (41, (vN x)), (42, (vN (f + x))), (43, (.pointer (some (sp v (f + x))))), (44, (vN (l1.getD (f + x) 0))), (45, v), (46, (vN f)), (47, (vN ((2 * x) + 1))), (48, (vN (f + ((2 * x) + 1)))), (49, (.pointer (some (sp v (f + ((2 * x) + 1)))))), (50, (vN (l1.getD (f + ((2 * x) + 1)) 0))), (51, (.bool (ltN (l1.getD (f + x) 0) (l1.getD (f + ((2 * x) + 1)) 0)))), (52, (.bool (!(ltN (l1.getD (f + x) 0) (l1.getD (f + ((2 * x) + 1)) 0))))), (53, v), (54, (vN f)), (55, (vN x)), (56, (vN (f + x))), (57, v), (58, (vN f)), (59, (vN ((2 * x) + 1))), (60, (vN (f + ((2 * x) + 1)))), (61, v), (62, (vN f)), (63, (vN ((2 * x) + 1))), (64, (vN (f + ((2 * x) + 1)))), (65, (.pointer (some (sp v (f + ((2 * x) + 1)))))), (66, (vN (l1.getD (f + ((2 * x) + 1)) 0))), (67, v), (68, (vN f)), (69, (vN x)), (70, (vN (f + x))), (71, (.pointer (some (sp v (f + x))))), (72, (vN (l1.getD (f + x) 0))), (73, (.pointer (some (sp v (f + x))))), (74, (.pointer (some (sp v (f + ((2 * x) + 1))))))] wS := by
      intro wS HS
      rw [hW]
      refine WH.all1 (i := 23) (by kernel_rfl) ?_
      ·
       refine WHS.op (i := 23) rfl (.inl rfl) rfl (op_storeRM (i := 0) (f := vN) (l := (l1.set (f + x) (l1.getD (f + ((2 * x) + 1)) 0))) (c := (l1.getD (f + x) 0)) HS rfl rfl rfl (by omega) rfl Fa.I3 (fun w26461 H26461 => ?_))
       refine ⟨⟨[.row v 3 1 n (List.map vN ((l1.set (f + x) (l1.getD (f + ((2 * x) + 1)) 0)).set (f + ((2 * x) + 1)) (l1.getD (f + x) 0)))], H26461⟩, ?_⟩
       have hq := st6_5 w26461 H26461
       rw [hW] at hq
       exact WH.cv hq
     have st6_3 : ∀ (wS : World), Owl.Own T w wS [.row v 3 1 n (List.map vN l1)] → W 3 #[tt, tt, tt, tt, tt, tt, tt, tt, tt, tt, tt, tt, tt, tt, tt, tt, tt, tt, tt, tt, tt, ff, ff, ff] [(0, v), (1, (vN lo)), (2, (vN hi)), (3, (vN f)), (8, (vN x)), (9, (vN ((2 * x) + 1))), (11, (vN x)), (12, (vN (2 * x))), (13, (vN ((2 * x) + 1))), (14, (vN ((2 * x) + 1))), (15, (vN hi)), (16, (.bool (decide (((2 * x) + 1) ≥ hi)))), (17, (vN ((2 * x) + 1))), (18, (vN (((2 * x) + 1) + 1))), (19, (vN hi)), (20, (.bool (decide ((((2 * x) + 1) + 1) < hi)))), (21, (.bool (decide ((((2 * x) + 1) + 1) < hi)))), (22, v), (23, (vN f)), (24, (vN ((2 * x) + 1))), (25, (vN (f + ((2 * x) + 1)))), (26, (.pointer (some (sp v (f + ((2 * x) + 1)))))), (27, (vN (l1.getD (f + ((2 * x) + 1)) 0))), (28, v), (29, (vN f)), (30, (vN ((2 * x) + 1))), (31, (vN (f + ((2 * x) + 1)))), (32, (vN ((f + ((2 * x) + 1)) + 1))), (33, (.pointer (some (sp v ((f + ((2 * x) + 1)) + 1))))), (34, (vN (l1.getD ((f + ((2 * x) + 1)) + 1) 0))), (35, (.bool (ltN (l1.getD (f + ((2 * x) + 1)) 0) (l1.getD ((f + ((2 * x) + 1)) + 1) 0)))), (36, (.bool (ltN (l1.getD (f + ((2 * x) + 1)) 0) (l1.getD ((f + ((2 * x) + 1)) + 1) 0)))), (39, v), (40, (vN f)), (41, (vN x)), (42, (vN (f + x))), (43, (.pointer (some (sp v (f + x))))), (44, (vN (l1.getD (f + x) 0))), (45, v), (46, (vN f)), (47, (vN ((2 * x) + 1))), (48, (vN (f + ((2 * x) + 1)))), (49, (.pointer (some (sp v (f + ((2 * x) + 1)))))), (50, (vN (l1.getD (f + ((2 * x) + 1)) 0))), (51, (.bool (ltN (l1.getD (f + x) 0) (l1.getD (f + ((2 * x) + 1)) 0)))), (52, (.bool (!(ltN (l1.getD (f + x) 0) (l1.getD (f + ((2 * x) + 1)) 0))))), (53, v), (54, (vN f)), (55, (vN x)), (56, (vN (f + x))), (57, v), (58, (vN f)), (59, (vN ((2 * x) + 1))), (60, (vN (f + ((2 * x) + 1)))), (61, v), (62, (vN f)), (63, (vN ((2 * x) + 1))), (64, (vN (f + ((2 * x) + 1)))), (65, (.pointer (some (sp v (f + ((2 * x) + 1)))))), (66, (vN (l1.getD (f + ((2 * x) + 1)) 0))), (67, v), (68, (vN f)), (69, (vN x)), (70, (vN (f + x))), (71, (.pointer (some (sp v (f + x))))), (72, (vN (l1.getD (f + x) 0))), (73, (.pointer (some (sp v (f + x)))))] wS := by
      intro wS HS
      rw [hW]
      refine WH.all1 (i := 21) (by kernel_rfl) ?_
      ·
       refine WHS.op (i := 21) rfl (.inl rfl) rfl (op_storeRM (i := 0) (f := vN) (l := l1) (c := (l1.getD (f + ((2 * x) + 1)) 0)) HS rfl rfl rfl (by omega) rfl Fa.I3 (fun w26421 H26421 => ?_))
       refine ⟨⟨[.row v 3 1 n (List.map vN (l1.set (f + x) (l1.getD (f + ((2 * x) + 1)) 0)))], H26421⟩, ?_⟩
       refine WH.take (i := 22) (v := (.pointer (some (sp v (f + ((2 * x) + 1)))))) rfl rfl (.inl rfl) rfl (by kernel_rfl) ⟨[.row v 3 1 n (List.map vN (l1.set (f + x) (l1.getD (f + ((2 * x) + 1)) 0)))], H26421⟩ (fun wX hSX => hSX.elim fun LX HX => op_indexAddr1W Try.underlying64 Fa.I3 rfl (H26421.arrR (i := 0) rfl) rfl (by omega) ⟨rfl, rfl⟩) ?_
       have hq := st6_4 w26421 H26421
       rw [hW] at hq
       exact WH.cv hq
     have st6_1 : ∀ (wS : World), Owl.Own T w wS [.row v 3 1 n (List.map vN l1)] → W 5 #[tt, tt, tt, tt, tt, tt, tt, tt, tt, tt, tt, tt, tt, tt, tt, tt, tt, tt, tt, ff, ff, ff, ff, ff] [(0, v), (1, (vN lo)), (2, (vN hi)), (3, (vN f)), (8, (vN x)), (9, (vN ((2 * x) + 1))), (11, (vN x)), (12, (vN (2 * x))), (13, (vN ((2 * x) + 1))), (14, (vN ((2 * x) + 1))), (15, (vN hi)), (16, (.bool (decide (((2 * x) + 1) ≥ hi)))), (17, (vN ((2 * x) + 1))), (18, (vN (((2 * x) + 1) + 1))), (19, (vN hi)), (20, (.bool (decide ((((2 * x) + 1) + 1) < hi)))), (21, (.bool (decide ((((2 * x) + 1) + 1) < hi)))), (22, v), (23, (vN f)), (24, (vN ((2 * x) + 1))), (25, (vN (f + ((2 * x) + 1)))), (26, (.pointer (some (sp v (f + ((2 * x) + 1)))))), (27, (vN (l1.getD (f + ((2 * x) + 1)) 0))), (28, v), (29, (vN f)), (30, (vN ((2 * x) + 1))), (31, (vN (f + ((2 * x) + 1)))), (32, (vN ((f + ((2 * x) + 1)) + 1))), (33, (.pointer (some (sp v ((f + ((2 * x) + 1)) + 1))))), (34, (vN (l1.getD ((f + ((2 * x) + 1)) + 1) 0))), (35, (.bool (ltN (l1.getD (f + ((2 * x) + 1)) 0) (l1.getD ((f + ((2 * x) + 1)) + 1) 0)))), (36, (.bool (ltN (l1.getD (f + ((2 * x) + 1)) 0) (l1.getD ((f + ((2 * x) + 1)) + 1) 0)))), (39, v), (40, (vN f)), (41, (vN x)), (42, (vN (f + x))), (43, (.pointer (some (sp v (f + x))))), (44, (vN (l1.getD (f + x) 0))), (45, v), (46, (vN f)), (47, (vN ((2 * x) + 1))), (48, (vN (f + ((2 * x) + 1)))), (49, (.pointer (some (sp v (f + ((2 * x) + 1)))))), (50, (vN (l1.getD (f + ((2 * x) + 1)) 0))), (51, (.bool (ltN (l1.getD (f + x) 0) (l1.getD (f + ((2 * x) + 1)) 0)))), (52, (.bool (!(ltN (l1.getD (f + x) 0) (l1.getD (f + ((2 * x) + 1)) 0))))), (53, v), (54, (vN f)), (55, (vN x)), (56, (vN (f + x))), (57, v), (58, (vN f)), (59, (vN ((2 * x) + 1))), (60, (vN (f + ((2 * x) + 1)))), (61, v), (62, (vN f)), (63, (vN ((2 * x) + 1))), (64, (vN (f + ((2 * x) + 1)))), (65, (.pointer (some (sp v (f + ((2 * x) + 1)))))), (66, (vN (l1.getD (f + ((2 * x) + 1)) 0))), (67, v), (68, (vN f)), (69, (vN x)), (70, (vN (f + x))), (71, (.pointer (some (sp v (f + x)))))] wS := by
      intro wS HS
      rw [hW]
      refine WH.all1 (i := 19) (by kernel_rfl) ?_
      ·
       refine WHS.op (i := 19) rfl (.inl rfl) rfl (op_load rfl ((HS.arrR (i := 0) rfl).at (get_map vN 0 (Arr.ltM (HS.arrR (i := 0) rfl) (by omega)))) Try.underlying3 rfl ?_)
       refine ⟨⟨[.row v 3 1 n (List.map vN l1)], HS⟩, ?_⟩
       refine WH.take (i := 20) (v := (.pointer (some (sp v (f + x))))) rfl rfl (.inl rfl) rfl (by kernel_rfl) ⟨[.row v 3 1 n (List.map vN l1)], HS⟩ (fun wX hSX => hSX.elim fun LX HX => op_indexAddr1W Try.underlying64 Fa.I3 rfl (HS.arrR (i := 0) rfl) rfl (by omega) ⟨rfl, rfl⟩) ?_
       have hq := st6_3 wS HS
       rw [hW] at hq
       exact WH.cv hq
     have st6_2 : ∀ (wS : World), Owl.Own T w wS [.row v 3 1 n (List.map vN l1)] → W 5 #[tt, tt, tt, tt, tt, tt, tt, tt, tt, tt, tt, tt, tt, ff, tt, tt, tt, tt, tt, tt, ff, ff, ff, ff] [(0, v), (1, (vN lo)), (2, (vN hi)), (3, (vN f)), (8, (vN x)), (9, (vN ((2 * x) + 1))), (11, (vN x)), (12, (vN (2 * x))), (13, (vN ((2 * x) + 1))), (14, (vN ((2 * x) + 1))), (15, (vN hi)), (16, (.bool (decide (((2 * x) + 1) ≥ hi)))), (17, (vN ((2 * x) + 1))), (18, (vN (((2 * x) + 1) + 1))), (19, (vN hi)), (20, (.bool (decide ((((2 * x) + 1) + 1) < hi)))), (21, (.bool (decide ((((2 * x) + 1) + 1) < hi)))), (22, v), (23, (vN f)), (24, (vN ((2 * x) + 1))), (25, (vN (f + ((2 * x) + 1)))), (26, (.pointer (some (sp v (f + ((2 * x) + 1)))))), (27, (vN (l1.getD (f + ((2 * x) + 1)) 0))), (28, v), (29, (vN f)), (30, (vN ((2 * x) + 1))), (31, (vN (f + ((2 * x) + 1)))), (32, (vN ((f + ((2 * x) + 1)) + 1))), (33, (.pointer (some (sp v ((f + ((2 * x) + 1)) + 1))))), (34, (vN (l1.getD ((f + ((2 * x) + 1)) + 1) 0))), (35, (.bool (ltN (l1.getD (f + ((2 * x) + 1)) 0) (l1.getD ((f + ((2 * x) + 1)) + 1) 0)))), (36, (.bool (ltN (l1.getD (f + ((2 * x) + 1)) 0) (l1.getD ((f + ((2 * x) + 1)) + 1) 0)))), (39, v), (40, (vN f)), (41, (vN x)), (42, (vN (f + x))), (43, (.pointer (some (sp v (f + x))))), (44, (vN (l1.getD (f + x) 0))), (45, v), (46, (vN f)), (47, (vN ((2 * x) + 1))), (48, (vN (f + ((2 * x) + 1)))), (49, (.pointer (some (sp v (f + ((2 * x) + 1)))))), (50, (vN (l1.getD (f + ((2 * x) + 1)) 0))), (51, (.bool (ltN (l1.getD (f + x) 0) (l1.getD (f + ((2 * x) + 1)) 0)))), (52, (.bool (!(ltN (l1.getD (f + x) 0) (l1.getD (f + ((2 * x) + 1)) 0))))), (53, v), (54, (vN f)), (55, (vN x)), (56, (vN (f + x))), (57, v), (58, (vN f)), (59, (vN ((2 * x) + 1))), (60, (vN (f + ((2 * x) + 1)))), (61, v), (62, (vN f)), (63, (vN ((2 * x) + 1))), (64, (vN (f + ((2 * x) + 1)))), (65, (.pointer (some (sp v (f + ((2 * x) + 1)))))), (67, v), (68, (vN f)), (69, (vN x)), (70, (vN (f + x))), (71, (.pointer (some (sp v (f + x))))), (72, (vN (l1.getD (f + x) 0)))] wS := by
      intro wS HS
      rw [hW]
      refine WH.all1 (i := 13) (by kernel_rfl) ?_
      ·
       refine WHS.op (i := 13) rfl (.inl rfl) rfl (op_load rfl ((HS.arrR (i := 0) rfl).at (get_map vN 0 (Arr.ltM (HS.arrR (i := 0) rfl) (by omega)))) Try.underlying3 rfl ?_)
       refine ⟨⟨[.row v 3 1 n (List.map vN l1)], HS⟩, ?_⟩
       refine WH.take (i := 20) (v := (.pointer (some (sp v (f + x))))) rfl rfl (.inl rfl) rfl (by kernel_rfl) ⟨[.row v 3 1 n (List.map vN l1)], HS⟩ (fun wX hSX => hSX.elim fun LX HX => op_indexAddr1W Try.underlying64 Fa.I3 rfl (HS.arrR (i := 0) rfl) rfl (by omega) ⟨rfl, rfl⟩) ?_
       have hq := st6_3 wS HS
       rw [hW] at hq
       exact WH.cv hq
     have st6_0 : ∀ (wS : World), Owl.Own T w wS [.row v 3 1 n (List.map vN l1)] → W 6 #[tt, tt, tt, tt, tt, tt, tt, tt, tt, tt, tt, tt, tt, ff, tt, tt, tt, tt, tt, ff, ff, ff, ff, ff] [(0, v), (1, (vN lo)), (2, (vN hi)), (3, (vN f)), (8, (vN x)), (9, (vN ((2 * x) + 1))), (11, (vN x)), (12, (vN (2 * x))), (13, (vN ((2 * x) + 1))), (14, (vN ((2 * x) + 1))), (15, (vN hi)), (16, (.bool (decide (((2 * x) + 1) ≥ hi)))), (17, (vN ((2 * x) + 1))), (18, (vN (((2 * x) + 1) + 1))), (19, (vN hi)), (20, (.bool (decide ((((2 * x) + 1) + 1) < hi)))), (21, (.bool (decide ((((2 * x) + 1) + 1) < hi)))), (22, v), (23, (vN f)), (24, (vN ((2 * x) + 1))), (25, (vN (f + ((2 * x) + 1)))), (26, (.pointer (some (sp v (f + ((2 * x) + 1)))))), (27, (vN (l1.getD (f + ((2 * x) + 1)) 0))), (28, v), (29, (vN f)), (30, (vN ((2 * x) + 1))), (31, (vN (f + ((2 * x) + 1)))), (32, (vN ((f + ((2 * x) + 1)) + 1))), (33, (.pointer (some (sp v ((f + ((2 * x) + 1)) + 1))))), (34, (vN (l1.getD ((f + ((2 * x) + 1)) + 1) 0))), (35, (.bool (ltN (l1.getD (f + ((2 * x) + 1)) 0) (l1.getD ((f + ((2 * x) + 1)) + 1) 0)))), (36, (.bool (ltN (l1.getD (f + ((2 * x) + 1)) 0) (l1.getD ((f + ((2 * x) + 1)) + 1) 0)))), (39, v), (40, (vN f)), (41, (vN x)), (42, (vN (f + x))), (43, (.pointer (some (sp v (f + x))))), (44, (vN (l1.getD (f + x) 0))), (45, v), (46, (vN f)), (47, (vN ((2 * x) + 1))), (48, (vN (f + ((2 * x) + 1)))), (49, (.pointer (some (sp v (f + ((2 * x) + 1)))))), (50, (vN (l1.getD (f + ((2 * x) + 1)) 0))), (51, (.bool (ltN (l1.getD (f + x) 0) (l1.getD (f + ((2 * x) + 1)) 0)))), (52, (.bool (!(ltN (l1.getD (f + x) 0) (l1.getD (f + ((2 * x) + 1)) 0))))), (53, v), (54, (vN f)), (55, (vN x)), (56, (vN (f + x))), (57, v), (58, (vN f)), (59, (vN ((2 * x) + 1))), (60, (vN (f + ((2 * x) + 1)))), (61, v), (62, (vN f)), (63, (vN ((2 * x) + 1))), (64, (vN (f + ((2 * x) + 1)))), (65, (.pointer (some (sp v (f + ((2 * x) + 1)))))), (67, v), (68, (vN f)), (69, (vN x)), (70, (vN (f + x))), (71, (.pointer (some (sp v (f + x)))))] wS := by
      intro wS HS
      rw [hW]
      refine WH.all2 (i := 13) (j := 19) (by kernel_rfl) ?_ ?_
      ·
       refine WHS.op (i := 13) rfl (.inl rfl) rfl (op_load rfl ((HS.arrR (i := 0) rfl).at (get_map vN 0 (Arr.ltM (HS.arrR (i := 0) rfl) (by omega)))) Try.underlying3 rfl ?_)
       refine ⟨⟨[.row v 3 1 n (List.map vN l1)], HS⟩, ?_⟩
       have hq := st6_1 wS HS
       rw [hW] at hq
       exact WH.cv hq
      ·
       refine WHS.op (i := 19) rfl (.inl rfl) rfl (op_load rfl ((HS.arrR (i := 0) rfl).at (get_map vN 0 (Arr.ltM (HS.arrR (i := 0) rfl) (by omega)))) Try.underlying3 rfl ?_)
       refine ⟨⟨[.row v 3 1 n (List.map vN l1)], HS⟩, ?_⟩
       have hq := st6_2 wS HS
       rw [hW] at hq
       exact WH.cv hq
     have hq := st6_0 w15 H15
     rw [hW] at hq ⊢
     exact WH.cv hq
  ·
   have hc3 := of_decide_eq_false hb3
   refine WC.draw 20 Fa.M H1 (HW.op rfl (fun w1 H1 => op_move rfl ⟨rfl, Fr.refl _ _⟩) (HW.op rfl (fun w1 H1 => op_addN (b := 1) rfl rfl (by omega) ⟨rfl, Fr.refl _ _⟩) (HW.op rfl (fun w1 H1 => op_move rfl ⟨rfl, Fr.refl _ _⟩) (HW.op rfl (fun w1 H1 => op_lssN rfl rfl ⟨rfl, Fr.refl _ _⟩) (HW.op rfl (fun w1 H1 => op_move rfl ⟨rfl, Fr.refl _ _⟩) (HW.no rfl rfl rfl hb3 (HW.no rfl rfl rfl hb3 (HW.no rfl rfl rfl hb3 (HW.no rfl rfl rfl hb3 (HW.no rfl rfl rfl hb3 (HW.no rfl rfl rfl hb3 (HW.no rfl rfl rfl hb3 (HW.no rfl rfl rfl hb3 (HW.no rfl rfl rfl hb3 (HW.no rfl rfl rfl hb3 (HW.no rfl rfl rfl hb3 (HW.no rfl rfl rfl hb3 (HW.no rfl rfl rfl hb3 (HW.no rfl rfl rfl hb3 (HW.op rfl (fun w1 H1 => op_pickF rfl hb3 rfl ⟨rfl, Fr.refl _ _⟩)  HW.nil)))))))))))))))))))) (by kernel_rfl) ?_
   intro β17 w17 H17
   refine wn ?_
   refine WC.no rfl rfl ?_
   refine WC.skip ?_
   refine WQ.next ?_
   refine WC.seq ?_
   refine WC.seq ?_
   refine WC.draw 14 Fa.M H17 (HW.op rfl (fun w1 H1 => op_move rfl ⟨rfl, Fr.refl _ _⟩) (HW.op rfl (fun w1 H1 => op_move rfl ⟨rfl, Fr.refl _ _⟩) (HW.op rfl (fun w1 H1 => op_move rfl ⟨rfl, Fr.refl _ _⟩) (HW.op rfl (fun w1 H1 => op_addN rfl rfl (by omega) ⟨rfl, Fr.refl _ _⟩) (HW.op rfl (fun w1 H1 => op_indexAddr1 Try.underlying64 Fa.I3 rfl (H1.arrR (i := 0) rfl) rfl (by omega) ⟨rfl, Fr.refl _ _⟩) (HW.op rfl (fun w1 H1 => op_load rfl ((H1.arrR (i := 0) rfl).at (get_map vN 0 (Arr.ltM (H1.arrR (i := 0) rfl) (by omega)))) Try.underlying3 rfl ⟨rfl, Fr.refl _ _⟩) (HW.op rfl (fun w1 H1 => op_move rfl ⟨rfl, Fr.refl _ _⟩) (HW.op rfl (fun w1 H1 => op_move rfl ⟨rfl, Fr.refl _ _⟩) (HW.op rfl (fun w1 H1 => op_move rfl ⟨rfl, Fr.refl _ _⟩) (HW.op rfl (fun w1 H1 => op_addN rfl rfl (by omega) ⟨rfl, Fr.refl _ _⟩) (HW.op rfl (fun w1 H1 => op_indexAddr1 Try.underlying64 Fa.I3 rfl (H1.arrR (i := 0) rfl) rfl (by omega) ⟨rfl, Fr.refl _ _⟩) (HW.op rfl (fun w1 H1 => op_load rfl ((H1.arrR (i := 0) rfl).at (get_map vN 0 (Arr.ltM (H1.arrR (i := 0) rfl) (by omega)))) Try.underlying3 rfl ⟨rfl, Fr.refl _ _⟩) (HW.op rfl (fun w1 H1 => op_callF Fa.C149 rfl ((less_ok (l1.getD (f + x) 0) (l1.getD (f + ((2 * x) + 1)) 0) _).mono (fun e w2 hq => ⟨_, hq.1, rfl, hq.2⟩))) (HW.op rfl (fun w1 H1 => op_not rfl ⟨rfl, Fr.refl _ _⟩)  HW.nil)))))))))))))) (by kernel_rfl) ?_
   intro β19 w19 H19
   refine wn ?_
   refine WC.cond rfl (fun (hb20 : (!(ltN (l1.getD (f + x) 0) (l1.getD (f + ((2 * x) + 1)) 0))) = true) => ?_) (fun (hb20 : (!(ltN (l1.getD (f + x) 0) (l1.getD (f + ((2 * x) + 1)) 0))) = false) => ?_)
   ·
    have hn20 := (Bool.not_eq_true' _).mp hb20
    refine WC.ret ?_
    refine WQ.thenRet ?_
    refine WQ.inRet ?_
    refine WQ.thenRet ?_
    refine WQ.inRet ?_
    refine WQ.out .nil ?_
    exact ⟨_, rfl, ⟨hs1, sift_stop ltNOK hx1 (och_1 ltNOK (by omega) (.inl (by omega))) hn20⟩, H19⟩
   ·
    have hn20 := (Bool.not_eq_false' _).mp hb20
    refine WC.skip ?_
    refine WQ.next ?_
    refine WC.seq ?_
    refine WC.held 24 rfl Fa.M H19 (fun w' => ∃ L', Owl.Own T w w' ([] ++ L')) ?_
    intro w21 H21
    refine WH.take (i := 0) (v := v) rfl rfl (.inl rfl) rfl (by kernel_rfl) ⟨[.row v 3 1 n (List.map vN l1)], H21⟩ (fun wX hSX => hSX.elim fun LX HX => op_move rfl ⟨rfl, rfl⟩) ?_
    refine WH.take (i := 1) (v := (vN f)) rfl rfl (.inl rfl) rfl (by kernel_rfl) ⟨[.row v 3 1 n (List.map vN l1)], H21⟩ (fun wX hSX => hSX.elim fun LX HX => op_move rfl ⟨rfl, rfl⟩) ?_
    refine WH.take (i := 2) (v := (vN x)) rfl rfl (.inl rfl) rfl (by kernel_rfl) ⟨[.row v 3 1 n (List.map vN l1)], H21⟩ (fun wX hSX => hSX.elim fun LX HX => op_move rfl ⟨rfl, rfl⟩) ?_
    refine WH.take (i := 3) (v := (vN (f + x))) rfl rfl (.inl rfl) rfl (by kernel_rfl) ⟨[.row v 3 1 n (List.map vN l1)], H21⟩ (fun wX hSX => hSX.elim fun LX HX => op_addN rfl rfl (by omega) ⟨rfl, rfl⟩) ?_
    refine WH.take (i := 4) (v := v) rfl rfl (.inl rfl) rfl (by kernel_rfl) ⟨[.row v 3 1 n (List.map vN l1)], H21⟩ (fun wX hSX => hSX.elim fun LX HX => op_move rfl ⟨rfl, rfl⟩) ?_
    refine WH.take (i := 5) (v := (vN f)) rfl rfl (.inl rfl) rfl (by kernel_rfl) ⟨[.row v 3 1 n (List.map vN l1)], H21⟩ (fun wX hSX => hSX.elim fun LX HX => op_move rfl ⟨rfl, rfl⟩) ?_
    refine WH.take (i := 6) (v := (vN ((2 * x) + 1))) rfl rfl (.inl rfl) rfl (by kernel_rfl) ⟨[.row v 3 1 n (List.map vN l1)], H21⟩ (fun wX hSX => hSX.elim fun LX HX => op_move rfl ⟨rfl, rfl⟩) ?_
    refine WH.take (i := 7) (v := (vN (f + ((2 * x) + 1)))) rfl rfl (.inl rfl) rfl (by kernel_rfl) ⟨[.row v 3 1 n (List.map vN l1)], H21⟩ (fun wX hSX => hSX.elim fun LX HX => op_addN rfl rfl (by omega) ⟨rfl, rfl⟩) ?_
    refine WH.take (i := 8) (v := v) rfl rfl (.inl rfl) rfl (by kernel_rfl) ⟨[.row v 3 1 n (List.map vN l1)], H21⟩ (fun wX hSX => hSX.elim fun LX HX => op_move rfl ⟨rfl, rfl⟩) ?_
    refine WH.take (i := 9) (v := (vN f)) rfl rfl (.inl rfl) rfl (by kernel_rfl) ⟨[.row v 3 1 n (List.map vN l1)], H21⟩ (fun wX hSX => hSX.elim fun LX HX => op_move rfl ⟨rfl, rfl⟩) ?_
    refine WH.take (i := 10) (v := (vN ((2 * x) + 1))) rfl rfl (.inl rfl) rfl (by kernel_rfl) ⟨[.row v 3 1 n (List.map vN l1)], H21⟩ (fun wX hSX => hSX.elim fun LX HX => op_move rfl ⟨rfl, rfl⟩) ?_
    refine WH.take (i := 11) (v := (vN (f + ((2 * x) + 1)))) rfl rfl (.inl rfl) rfl (by kernel_rfl) ⟨[.row v 3 1 n (List.map vN l1)], H21⟩ (fun wX hSX => hSX.elim fun LX HX => op_addN rfl rfl (by omega) ⟨rfl, rfl⟩) ?_
    refine WH.take (i := 12) (v := (.pointer (some (sp v (f + ((2 * x) + 1)))))) rfl rfl (.inl rfl) rfl (by kernel_rfl) ⟨[.row v 3 1 n (List.map vN l1)], H21⟩ (fun wX hSX => hSX.elim fun LX HX => op_indexAddr1W Try.underlying64 Fa.I3 rfl (H21.arrR (i := 0) rfl) rfl (by omega) ⟨rfl, rfl⟩) ?_
    refine WH.take (i := 14) (v := v) rfl rfl (.inl rfl) rfl (by kernel_rfl) ⟨[.row v 3 1 n (List.map vN l1)], H21⟩ (fun wX hSX => hSX.elim fun LX HX => op_move rfl ⟨rfl, rfl⟩) ?_
    refine WH.take (i := 15) (v := (vN f)) rfl rfl (.inl rfl) rfl (by kernel_rfl) ⟨[.row v 3 1 n (List.map vN l1)], H21⟩ (fun wX hSX => hSX.elim fun LX HX => op_move rfl ⟨rfl, rfl⟩) ?_
    refine WH.take (i := 16) (v := (vN x)) rfl rfl (.inl rfl) rfl (by kernel_rfl) ⟨[.row v 3 1 n (List.map vN l1)], H21⟩ (fun wX hSX => hSX.elim fun LX HX => op_move rfl ⟨rfl, rfl⟩) ?_
    refine WH.take (i := 17) (v := (vN (f + x))) rfl rfl (.inl rfl) rfl (by kernel_rfl) ⟨[.row v 3 1 n (List.map vN l1)], H21⟩ (fun wX hSX => hSX.elim fun LX HX => op_addN rfl rfl (by omega) ⟨rfl, rfl⟩) ?_
    refine WH.take (i := 18) (v := (.pointer (some (sp v (f + x))))) rfl rfl (.inl rfl) rfl (by kernel_rfl) ⟨[.row v 3 1 n (List.map vN l1)], H21⟩ (fun wX hSX => hSX.elim fun LX HX => op_indexAddr1W Try.underlying64 Fa.I3 rfl (H21.arrR (i := 0) rfl) rfl (by omega) ⟨rfl, rfl⟩) ?_
    refine WH.named (fun W hW => ?_)
    have st6_5 : ∀ (wS : World), Owl.Own T w wS [.row v 3 1 n (List.map vN ((l1.set (f + x) (l1.getD (f + ((2 * x) + 1)) 0)).set (f + ((2 * x) + 1)) (l1.getD (f + x) 0)))] → W 0 #[tt, tt, tt, tt, tt, tt, tt, tt, tt, tt, tt, tt, tt, tt, tt, tt, tt, tt, tt, tt, tt, tt, tt, tt] [(0, v), (1, (vN lo)), (2, (vN hi)), (3, (vN f)), (8, (vN x)), (9, (vN ((2 * x) + 1))), (11, (vN x)), (12, (vN (2 * x))), (13, (vN ((2 * x) + 1))), (14, (vN ((2 * x) + 1))), (15, (vN hi)), (16, (.bool (decide (((2 * x) + 1) ≥ hi)))), (17, (vN ((2 * x) + 1))), (18, (vN (((2 * x) + 1) + 1))), (19, (vN hi)), (20, (.bool (decide ((((2 * x) + 1) + 1) < hi)))), (21, (.bool (decide ((((2 * x) + 1) + 1) < hi)))), (22, undef), (23, undef), (24, undef), (25, undef), (26, undef), (27, undef), (28, undef), (29, undef), (30, undef), (31, undef), (32, undef), (33, undef), (34, undef), (35, undef), (36, (.bool false)), (39, v), (40, (vN f)), (41, (vN x)), (42, (vN (f + x))), (43, (.pointer (some (sp v (f + x))))), (44, (vN (l1.getD (f + x) 0))), (45, v), (46, (vN f)), (47, (vN ((2 * x) + 1))), (48, (vN (f + ((2 * x) + 1)))), (49, (.pointer (some (sp v (f + ((2 * x) + 1)))))), (50, (vN (l1.getD (f + ((2 * x) + 1)) 0))), (51, (.bool (ltN (l1.getD (f + x) 0) (l1.getD (f + ((2 * x) + 1)) 0)))), (52, (.bool (!(ltN (l1.getD (f + x) 0) (l1.getD (f + ((2 * x) + 1)) 0))))), (53, v), (54, (vN f)), (55, (vN x)), (56, (vN (f + x))), (57, v), (58, (vN f)), (59, (vN ((2 * x) + 1))), (60, (vN (f + ((2 * x) + 1)))), (61, v), (62, (vN f)), (63, (vN ((2 * x) + 1))), (64, (vN (f + ((2 * x) + 1)))), (65, (.pointer (some (sp v (f + ((2 * x) + 1)))))), (66, (vN (l1.getD (f + ((2 * x) + 1)) 0))), (67, v), (68, (vN f)), (69, (vN x)), (70, (vN (f + x))), (71, (.pointer (some (sp v (f + x))))), (72, (vN (l1.getD (f + x) 0))), (73, (.pointer (some (sp v (f + x))))), (74, (.pointer (some (sp v (f + ((2 * x) + 1))))))] wS := by
     intro wS HS
     rw [hW]
     refine WH.done (by kernel_rfl) ?_
     refine WQ.next ?_
     refine WC.region ?_
     refine wo (op_move rfl ?_)
     refine wo (op_assign rfl ?_)
     refine WL.nil ?_
     refine WQ.inNormal ?_
     have hst := sift_step ltNOK (by omega) hx1 hg1 (och_1 ltNOK (by omega) (.inl (by omega))) (by omega) hn20
     exact WQ.round ((2 * x + 1), swapL 0 l1 (f + x) (f + (2 * x + 1))) ⟨⟨by omega, .inl (by omega), hs1.step (by omega) (by omega) (by omega) (by omega), hst.1, hst.2⟩, HS⟩ ⟨rfl, rfl, rfl, rfl, rfl, trivial⟩ (by show hi - (2 * x + 1) < hi - x; omega)
    have st6_4 : ∀ (wS : World), Owl.Own T w wS [.row v 3 1 n (List.map vN (l1.set (f + x) (l1.getD (f + ((2 * x) + 1)) 0)))] → W 1 #[tt, tt, tt, tt, tt, tt, tt, tt, tt, tt, tt, tt, tt, tt, tt, tt, tt, tt, tt, tt, tt, tt, tt, ff] [(0, v), (1, (vN lo)), (2, (vN hi)), (3, (vN f)), (8, (vN x)), (9, (vN ((2 * x) + 1))), (11, (vN x)), (12, (vN (2 * x))), (13, (vN ((2 * x) + 1))), (14, (vN ((2 * x) + 1))), (15, (vN hi)), (16, (.bool (decide (((2 * x) + 1) ≥ hi)))), (17, (vN ((2 * x) + 1))), (18, (vN (((2 * x) + 1) + 1))), (19, (vN hi)), (20, (.bool (decide ((((2 * x) + 1) + 1) < hi)))), (21, (.bool (decide ((((2 * x) + 1) + 1) < hi)))), (22, undef), (23, undef), (24, undef), (25, undef), (26, undef), (27, undef), (28, undef), (29, undef), (30, undef), (31, undef), (32, undef), (33, undef), (34, undef), (35, undef), (36, (.bool false)), (39, v), (40, (vN f)), (41, (vN x)), (42, (vN (f + x))), (43, (.pointer (some (sp v (f + x))))), (44, (vN (l1.getD (f + x) 0))), (45, v), (46, (vN f)), (47, (vN ((2 * x) + 1))), (48, (vN (f + ((2 * x) + 1)))), (49, (.pointer (some (sp v (f + ((2 * x) + 1)))))), (50, (vN (l1.getD (f + ((2 * x) + 1)) 0))), (51, (.bool (ltN (l1.getD (f + x) 0) (l1.getD (f + ((2 * x) + 1)) 0)))), (52, (.bool (!(ltN (l1.getD (f + x) 0) (l1.getD (f + ((2 * x) + 1)) 0))))), (53, v), (54, (vN f)), (55, (vN x)), (56, (vN (f + x))), (57, v), (58, (vN f)), (59, (vN ((2 * x) + 1))), (60, (vN (f + ((2 * x) + 1)))), (61, v), (62, (vN f)), (63, (vN ((2 * x) + 1))), (64, (vN (f + ((2 * x) + 1)))), (65, (.pointer (some (sp v (f + ((2 * x) + 1)))))), (66, (vN (l1.getD (f + ((2 * x) + 1)) 0))), (67, v), (68, (vN f)), (69, (vN x)), (70, (vN (f + x))), (71, (.pointer (some (sp v (f + x))))), (72, (vN (l1.getD (f + x) 0))), (73, (.pointer (some (sp v (f + x))))), (74, (.pointer (some (sp v (f + ((2 * x) + 1))))))] wS := by
     intro wS HS
     rw [hW]
     refine WH.all1 (i := 23) (by kernel_rfl) ?_
     ·
      refine WHS.op (i := 23) rfl (.inl rfl) rfl (op_storeRM (i := 0) (f := vN) (l := (l1.set (f + x) (l1.getD (f + ((2 * x) + 1)) 0))) (c := (l1.getD (f + x) 0)) HS rfl rfl rfl (by omega) rfl Fa.I3 (fun w32461 H32461 => ?_))
      refine ⟨⟨[.row v 3 1 n (List.map vN ((l1.set (f + x) (l1.getD (f + ((2 * x) + 1)) 0)).set (f + ((2 * x) + 1)) (l1.getD (f + x) 0)))], H32461⟩, ?_⟩
      have hq := st6_5 w32461 H32461
      rw [hW] at hq
      exact WH.cv hq
    have st6_3 : ∀ (wS : World), Owl.Own T w wS [.row v 3 1 n (List.map vN l1)] → W 3 #[tt, tt, tt, tt, tt, tt, tt, tt, tt, tt, tt, tt, tt, tt, tt, tt, tt, tt, tt, tt, tt, ff, ff, ff] [(0, v), (1, (vN lo)), (2, (vN hi)), (3, (vN f)), (8, (vN x)), (9, (vN ((2 * x) + 1))), (11, (vN x)), (12, (vN (2 * x))), (13, (vN ((2 * x) + 1))), (14, (vN ((2 * x) + 1))), (15, (vN hi)), (16, (.bool (decide (((2 * x) + 1) ≥ hi)))), (17, (vN ((2 * x) + 1))), (18, (vN (((2 * x) + 1) + 1))), (19, (vN hi)), (20, (.bool (decide ((((2 * x) + 1) + 1) < hi)))), (21, (.bool (decide ((((2 * x) + 1) + 1) < hi)))), (22, undef), (23, undef), (24, undef), (25, undef), (26, undef), (27, undef), (28, undef), (29, undef), (30, undef), (31, undef), (32, undef), (33, undef), (34, undef), (35, undef), (36, (.bool false)), (39, v), (40, (vN f)), (41, (vN x)), (42, (vN (f + x))), (43, (.pointer (some (sp v (f + x))))), (44, (vN (l1.getD (f + x) 0))), (45, v), (46, (vN f)), (47, (vN ((2 * x) + 1))), (48, (vN (f + ((2 * x) + 1)))), (49, (.pointer (some (sp v (f + ((2 * x) + 1)))))), (50, (vN (l1.getD (f + ((2 * x) + 1)) 0))), (51, (.bool (ltN (l1.getD (f + x) 0) (l1.getD (f + ((2 * x) + 1)) 0)))), (52, (.bool (!(ltN (l1.getD (f + x) 0) (l1.getD (f + ((2 * x) + 1)) 0))))), (53, v), (54, (vN f)), (55, (vN x)), (56, (vN (f + x))), (57, v), (58, (vN f)), (59, (vN ((2 * x) + 1))), (60, (vN (f + ((2 * x) + 1)))), (61, v), (62, (vN f)), (63, (vN ((2 * x) + 1))), (64, (vN (f + ((2 * x) + 1)))), (65, (.pointer (some (sp v (f + ((2 * x) + 1)))))), (66, (vN (l1.getD (f + ((2 * x) + 1)) 0))), (67, v), (68, (vN f)), (69, (vN x)), (70, (vN (f + x))), (71, (.pointer (some (sp v (f + x))))), (72, (vN (l1.getD (f + x) 0))), (73, (.pointer (some (sp v (f + x)))))] wS := by
     intro wS HS
     rw [hW]
     refine WH.all1 (i := 21) (by kernel_rfl) ?_
     ·
      refine WHS.op (i := 21) rfl (.inl rfl) rfl (op_storeRM (i := 0) (f := vN) (l := l1) (c := (l1.getD (f + ((2 * x) + 1)) 0)) HS rfl rfl rfl (by omega) rfl Fa.I3 (fun w32421 H32421 => ?_))
      refine ⟨⟨[.row v 3 1 n (List.map vN (l1.set (f + x) (l1.getD (f + ((2 * x) + 1)) 0)))], H32421⟩, ?_⟩
      refine WH.take (i := 22) (v := (.pointer (some (sp v (f + ((2 * x) + 1)))))) rfl rfl (.inl rfl) rfl (by kernel_rfl) ⟨[.row v 3 1 n (List.map vN (l1.set (f + x) (l1.getD (f + ((2 * x) + 1)) 0)))], H32421⟩ (fun wX hSX => hSX.elim fun LX HX => op_indexAddr1W Try.underlying64 Fa.I3 rfl (H32421.arrR (i := 0) rfl) rfl (by omega) ⟨rfl, rfl⟩) ?_
      have hq := st6_4 w32421 H32421
      rw [hW] at hq
      exact WH.cv hq
    have st6_1 : ∀ (wS : World), Owl.Own T w wS [.row v 3 1 n (List.map vN l1)] → W 5 #[tt, tt, tt, tt, tt, tt, tt, tt, tt, tt, tt, tt, tt, tt, tt, tt, tt, tt, tt, ff, ff, ff, ff, ff] [(0, v), (1, (vN lo)), (2, (vN hi)), (3, (vN f)), (8, (vN x)), (9, (vN ((2 * x) + 1))), (11, (vN x)), (12, (vN (2 * x))), (13, (vN ((2 * x) + 1))), (14, (vN ((2 * x) + 1))), (15, (vN hi)), (16, (.bool (decide (((2 * x) + 1) ≥ hi)))), (17, (vN ((2 * x) + 1))), (18, (vN (((2 * x) + 1) + 1))), (19, (vN hi)), (20, (.bool (decide ((((2 * x) + 1) + 1) < hi)))), (21, (.bool (decide ((((2 * x) + 1) + 1) < hi)))), (22, undef), (23, undef), (24, undef), (25, undef), (26, undef), (27, undef), (28, undef), (29, undef), (30, undef), (31, undef), (32, undef), (33, undef), (34, undef), (35, undef), (36, (.bool false)), (39, v), (40, (vN f)), (41, (vN x)), (42, (vN (f + x))), (43, (.pointer (some (sp v (f + x))))), (44, (vN (l1.getD (f + x) 0))), (45, v), (46, (vN f)), (47, (vN ((2 * x) + 1))), (48, (vN (f + ((2 * x) + 1)))), (49, (.pointer (some (sp v (f + ((2 * x) + 1)))))), (50, (vN (l1.getD (f + ((2 * x) + 1)) 0))), (51, (.bool (ltN (l1.getD (f + x) 0) (l1.getD (f + ((2 * x) + 1)) 0)))), (52, (.bool (!(ltN (l1.getD (f + x) 0) (l1.getD (f + ((2 * x) + 1)) 0))))), (53, v), (54, (vN f)), (55, (vN x)), (56, (vN (f + x))), (57, v), (58, (vN f)), (59, (vN ((2 * x) + 1))), (60, (vN (f + ((2 * x) + 1)))), (61, v), (62, (vN f)), (63, (vN ((2 * x) + 1))), (64, (vN (f + ((2 * x) + 1)))), (65, (.pointer (some (sp v (f + ((2 * x) + 1)))))), (66, (vN (l1.getD (f + ((2 * x) + 1)) 0))), (67, v), (68, (vN f)), (69, (vN x)), (70, (vN (f + x))), (71, (.pointer (some (sp v (f + x)))))] wS := by
     intro wS HS
     rw [hW]
     refine WH.all1 (i := 19) (by kernel_rfl) ?_
     ·
      refine WHS.op (i := 19) rfl (.inl rfl) rfl (op_load rfl ((HS.arrR (i := 0) rfl).at (get_map vN 0 (Arr.ltM (HS.arrR (i := 0) rfl) (by omega)))) Try.underlying3 rfl ?_)
      refine ⟨⟨[.row v 3 1 n (List.map vN l1)], HS⟩, ?_⟩
      refine WH.take (i := 20) (v := (.pointer (some (sp v (f + x))))) rfl rfl (.inl rfl) rfl (by kernel_rfl) ⟨[.row v 3 1 n (List.map vN l1)], HS⟩ (fun wX hSX => hSX.elim fun LX HX => op_indexAddr1W Try.underlying64 Fa.I3 rfl (HS.arrR (i := 0) rfl) rfl (by omega) ⟨rfl, rfl⟩) ?_
      have hq := st6_3 wS HS
      rw [hW] at hq
      exact WH.cv hq
    have st6_2 : ∀ (wS : World), Owl.Own T w wS [.row v 3 1 n (List.map vN l1)] → W 5 #[tt, tt, tt, tt, tt, tt, tt, tt, tt, tt, tt, tt, tt, ff, tt, tt, tt, tt, tt, tt, ff, ff, ff, ff] [(0, v), (1, (vN lo)), (2, (vN hi)), (3, (vN f)), (8, (vN x)), (9, (vN ((2 * x) + 1))), (11, (vN x)), (12, (vN (2 * x))), (13, (vN ((2 * x) + 1))), (14, (vN ((2 * x) + 1))), (15, (vN hi)), (16, (.bool (decide (((2 * x) + 1) ≥ hi)))), (17, (vN ((2 * x) + 1))), (18, (vN (((2 * x) + 1) + 1))), (19, (vN hi)), (20, (.bool (decide ((((2 * x) + 1) + 1) < hi)))), (21, (.bool (decide ((((2 * x) + 1) + 1) < hi)))), (22, undef), (23, undef), (24, undef), (25, undef), (26, undef), (27, undef), (28, undef), (29, undef), (30, undef), (31, undef), (32, undef), (33, undef), (34, undef), (35, undef), (36, (.bool false)), (39, v), (40, (vN f)), (41, (vN x)), (42, (vN (f + x))), (43, (.pointer (some (sp v (f + x))))), (44, (vN (l1.getD (f + x) 0))), (45, v), (46, (vN f)), (47, (vN ((2 * x) + 1))), (48, (vN (f + ((2 * x) + 1)))), (49, (.pointer (some (sp v (f + ((2 * x) + 1)))))), (50, (vN (l1.getD (f + ((2 * x) + 1)) 0))), (51, (.bool (ltN (l1.getD (f + x) 0) (l1.getD (f + ((2 * x) + 1)) 0)))), (52, (.bool (!(ltN (l1.getD (f + x) 0) (l1.getD (f + ((2 * x) + 1)) 0))))), (53, v), (54, (vN f)), (55, (vN x)), (56, (vN (f + x))), (57, v), (58, (vN f)), (59, (vN ((2 * x) + 1))), (60, (vN (f + ((2 * x) + 1)))), (61, v), (62, (vN f)), (63, (vN ((2 * x) + 1))), (64, (vN (f + ((2 * x) + 1)))), (65, (.pointer (some (sp v (f + ((2 * x) + 1)))))), (67, v), (68, (vN f)), (69, (vN x)), (70, (vN (f + x))), (71, (.pointer (some (sp v (f + x))))), (72, (vN (l1.getD (f + x) 0)))] wS := by
     intro wS HS
     rw [hW]
     refine WH.all1 (i := 13) (by kernel_rfl) ?_
     ·
      refine WHS.op (i := 13) rfl (.inl rfl) rfl (op_load rfl ((HS.arrR (i := 0) rfl).at (get_map vN 0 (Arr.ltM (HS.arrR (i := 0) rfl) (by omega)))) Try.underlying3 rfl ?_)
      refine ⟨⟨[.row v 3 1 n (List.map vN l1)], HS⟩, ?_⟩
      refine WH.take (i := 20) (v := (.pointer (some (sp v (f + x))))) rfl rfl (.inl rfl) rfl (by kernel_rfl) ⟨[.row v 3 1 n (List.map vN l1)], HS⟩ (fun wX hSX => hSX.elim fun LX HX => op_indexAddr1W Try.underlying64 Fa.I3 rfl (HS.arrR (i := 0) rfl) rfl (by omega) ⟨rfl, rfl⟩) ?_
      have hq := st6_3 wS HS
      rw [hW] at hq
      exact WH.cv hq
    have st6_0 : ∀ (wS : World), Owl.Own T w wS [.row v 3 1 n (List.map vN l1)] → W 6 #[tt, tt, tt, tt, tt, tt, tt, tt, tt, tt, tt, tt, tt, ff, tt, tt, tt, tt, tt, ff, ff, ff, ff, ff] [(0, v), (1, (vN lo)), (2, (vN hi)), (3, (vN f)), (8, (vN x)), (9, (vN ((2 * x) + 1))), (11, (vN x)), (12, (vN (2 * x))), (13, (vN ((2 * x) + 1))), (14, (vN ((2 * x) + 1))), (15, (vN hi)), (16, (.bool (decide (((2 * x) + 1) ≥ hi)))), (17, (vN ((2 * x) + 1))), (18, (vN (((2 * x) + 1) + 1))), (19, (vN hi)), (20, (.bool (decide ((((2 * x) + 1) + 1) < hi)))), (21, (.bool (decide ((((2 * x) + 1) + 1) < hi)))), (22, undef), (23, undef), (24, undef), (25, undef), (26, undef), (27, undef), (28, undef), (29, undef), (30, undef), (31, undef), (32, undef), (33, undef), (34, undef), (35, undef), (36, (.bool false)), (39, v), (40, (vN f)), (41, (vN x)), (42, (vN (f + x))), (43, (.pointer (some (sp v (f + x))))), (44, (vN (l1.getD (f + x) 0))), (45, v), (46, (vN f)), (47, (vN ((2 * x) + 1))), (48, (vN (f + ((2 * x) + 1)))), (49, (.pointer (some (sp v (f + ((2 * x) + 1)))))), (50, (vN (l1.getD (f + ((2 * x) + 1)) 0))), (51, (.bool (ltN (l1.getD (f + x) 0) (l1.getD (f + ((2 * x) + 1)) 0)))), (52, (.bool (!(ltN (l1.getD (f + x) 0) (l1.getD (f + ((2 * x) + 1)) 0))))), (53, v), (54, (vN f)), (55, (vN x)), (56, (vN (f + x))), (57, v), (58, (vN f)), (59, (vN ((2 * x) + 1))), (60, (vN (f + ((2 * x) + 1)))), (61, v), (62, (vN f)), (63, (vN ((2 * x) + 1))), (64, (vN (f + ((2 * x) + 1)))), (65, (.pointer (some (sp v (f + ((2 * x) + 1)))))), (67, v), (68, (vN f)), (69, (vN x)), (70, (vN (f + x))), (71, (.pointer (some (sp v (f + x)))))] wS := by
     intro wS HS
     rw [hW]
     refine WH.all2 (i := 13) (j := 19) (by kernel_rfl) ?_ ?_
     ·
      refine WHS.op (i := 13) rfl (.inl rfl) rfl (op_load rfl ((HS.arrR (i := 0) rfl).at (get_map vN 0 (Arr.ltM (HS.arrR (i := 0) rfl) (by omega)))) Try.underlying3 rfl ?_)
      refine ⟨⟨[.row v 3 1 n (List.map vN l1)], HS⟩, ?_⟩
      have hq := st6_1 wS HS
      rw [hW] at hq
      exact WH.cv hq
     ·
      refine WHS.op (i := 19) rfl (.inl rfl) rfl (op_load rfl ((HS.arrR (i := 0) rfl).at (get_map vN 0 (Arr.ltM (HS.arrR (i := 0) rfl) (by omega)))) Try.underlying3 rfl ?_)
      refine ⟨⟨[.row v 3 1 n (List.map vN l1)], HS⟩, ?_⟩
      have hq := st6_2 wS HS
      rw [hW] at hq
      exact WH.cv hq
    have hq := st6_0 w21 H21
    rw [hW] at hq ⊢
    exact WH.cv hq
set_option maxHeartbeats 1000000 in
set_option maxRecDepth 100000 in
theorem heap_ok (v : Value) (n : Nat) (l : List Nat) (a b : Nat) (T : List Nat) (w : World) (H : Owl.Own T w w [.row v 3 1 n (List.map vN l)]) (hn : l.length = n) (hN : n < 2 ^ 61) (hab : a < b) (hb : b ≤ n) :
  Calls Try.prog 144 #[v, (vN a), (vN b)] w (fun e w' => ∃ (l' : List Nat), e = .returned undef ∧ (Sw 0 a b l l' ∧ SortS ltN 0 a b l') ∧ Owl.Own T w w' [.row v 3 1 n (List.map vN l')]) := by
 refine enter (args := [v, (vN a), (vN b)]) Try.func144 rfl rfl ?_
 refine ws ?_
 refine wo (op_move rfl ?_)
 refine wo (op_assign rfl ?_)
 refine wn ?_
 refine ws ?_
 refine wo (op_assign rfl ?_)
 refine wn ?_
 refine ws ?_
 refine wo (op_move rfl ?_)
 refine wo (op_move rfl ?_)
 refine wo (op_subN rfl rfl (by omega) (by omega) ?_)
 refine wo (op_assign rfl ?_)
 refine wn ?_
 refine WC.seq ?_
 refine ws ?_
 refine wo (op_move rfl ?_)
 refine wo (op_subN (b := 1) rfl rfl (by omega) (by omega) ?_)
 refine wo (op_quoN (b := 2) rfl rfl (by omega) (by omega) ?_)
 refine wo (op_assign rfl ?_)
 refine wn ?_
 refine WC.block ?_
 refine WC.loop (α := Nat × List Nat) (fun (k, l1) => [(0, v), (1, (vN a)), (2, (vN b)), (6, (vN a)), (7, (vN 0)), (8, (vN (b - a))), (9, (vI ((k : Int) - (1 : Int))))]) (fun (k, l1) w' => (k ≤ (b - a - 1) / 2 + 1 ∧ Sw 0 a b l l1 ∧ HeapA ltN 0 k (b - a) a l1) ∧ Owl.Own T w w' [.row v 3 1 n (List.map vN l1)]) (fun (k, l1) => k) ((b - a - 1) / 2 + 1, l) ⟨⟨Nat.le_refl _, .refl _, fun r c q1 q2 q3 => by omega⟩, H⟩ ⟨rfl, rfl, rfl, rfl, rfl, rfl, (congrArg some (vN_I (by omega))), trivial⟩ ?_
 rintro ⟨k, l1⟩ w1 ⟨⟨hk1, hs1, hh1⟩, H1⟩
 show WC _ _ _ _ _ [(0, v), (1, (vN a)), (2, (vN b)), (6, (vN a)), (7, (vN 0)), (8, (vN (b - a))), (9, (vI ((k : Int) - (1 : Int))))] _
 have hL1 := hs1.len
 refine WC.cut (α := Nat) (fun q => [(0, v), (1, (vN a)), (2, (vN b)), (6, (vN a)), (7, (vN 0)), (8, (vN (b - a))), (9, (vN q))]) (fun q w' => (q + 1 = k) ∧ Owl.Own T w w' [.row v 3 1 n (List.map vN l1)]) ?_ ?_
 ·
  refine ws ?_
  refine wo (op_move rfl ?_)
  refine wo (op_geqI (b := (0 : Int)) rfl rfl ?_)
  refine wn ?_
  refine WC.cond rfl (fun (hb2 : (decide (((k : Int) - (1 : Int)) ≥ (0 : Int))) = true) => ?_) (fun (hb2 : (decide (((k : Int) - (1 : Int)) ≥ (0 : Int))) = false) => ?_)
  ·
   have hc2 := of_decide_eq_true hb2
   refine WC.skip ?_
   exact WQ.here (k - 1) ⟨(by omega), H1⟩ ⟨rfl, rfl, rfl, rfl, rfl, rfl, (congrArg some (vI_N (by omega))), trivial⟩
  ·
   have hc2 := of_decide_eq_false hb2
   refine WC.exit ?_
   refine WQ.thenExit ?_
   refine WQ.thenExit ?_
   refine WQ.inHere ?_
   refine WQ.next ?_
   refine ws ?_
   refine wo (op_move rfl ?_)
   refine wo (op_subN (b := 1) rfl rfl (by omega) (by omega) ?_)
   refine wo (op_assign rfl ?_)
   refine wn ?_
   refine WC.block ?_
   refine WC.loop (α := Nat × List Nat) (fun (k2, l2) => [(0, v), (1, (vN a)), (2, (vN b)), (6, (vN a)), (7, (vN 0)), (8, (vN (b - a))), (10, (vI ((k2 : Int) - (1 : Int))))]) (fun (k2, l2) w' => (k2 ≤ b - a ∧ Sw 0 a b l l2 ∧ HeapT ltN 0 a (b - a) k2 l2) ∧ Owl.Own T w w' [.row v 3 1 n (List.map vN l2)]) (fun (k2, l2) => k2) (b - a, l1) ⟨⟨Nat.le_refl _, hs1, heapT_init (by rw [show k = 0 by omega] at hh1; exact hh1)⟩, H1⟩ ⟨rfl, rfl, rfl, rfl, rfl, rfl, (congrArg some (vN_I (by omega))), trivial⟩ ?_
   rintro ⟨k2, l2⟩ w3 ⟨⟨hk2, hs2, hh2⟩, H3⟩
   show WC _ _ _ _ _ [(0, v), (1, (vN a)), (2, (vN b)), (6, (vN a)), (7, (vN 0)), (8, (vN (b - a))), (10, (vI ((k2 : Int) - (1 : Int))))] _
   have hL2 := hs2.len
   refine WC.cut (α := Nat) (fun q2 => [(0, v), (1, (vN a)), (2, (vN b)), (6, (vN a)), (7, (vN 0)), (8, (vN (b - a))), (10, (vN q2))]) (fun q2 w' => (q2 + 1 = k2) ∧ Owl.Own T w w' [.row v 3 1 n (List.map vN l2)]) ?_ ?_
   ·
    refine ws ?_
    refine wo (op_move rfl ?_)
    refine wo (op_geqI (b := (0 : Int)) rfl rfl ?_)
    refine wn ?_
    refine WC.cond rfl (fun (hb4 : (decide (((k2 : Int) - (1 : Int)) ≥ (0 : Int))) = true) => ?_) (fun (hb4 : (decide (((k2 : Int) - (1 : Int)) ≥ (0 : Int))) = false) => ?_)
    ·
     have hc4 := of_decide_eq_true hb4
     refine WC.skip ?_
     exact WQ.here (k2 - 1) ⟨(by omega), H3⟩ ⟨rfl, rfl, rfl, rfl, rfl, rfl, (congrArg some (vI_N (by omega))), trivial⟩
    ·
     have hc4 := of_decide_eq_false hb4
     refine WC.exit ?_
     refine WQ.thenExit ?_
     refine WQ.thenExit ?_
     refine WQ.inHere ?_
     refine WQ.outEnd .nil ?_
     exact ⟨_, rfl, ⟨hs2, heapT_end (by rw [show k2 = 0 by omega] at hh2; exact hh2) (by omega)⟩, H3⟩
   ·
    rintro q2 w5 ⟨hq2, H5⟩
    show WC _ _ _ _ _ [(0, v), (1, (vN a)), (2, (vN b)), (6, (vN a)), (7, (vN 0)), (8, (vN (b - a))), (10, (vN q2))] _
    subst hq2
    have hSL : (swapL 0 l2 a (a + q2)).length = n := by rw [swapL_len]; omega
    refine WC.seq ?_
    refine WC.block ?_
    refine WC.seq ?_
    refine WC.held 20 rfl Fa.M H5 (fun w' => ∃ L', Owl.Own T w w' ([] ++ L')) ?_
    intro w6 H6
    refine WH.take (i := 0) (v := v) rfl rfl (.inl rfl) rfl (by kernel_rfl) ⟨[.row v 3 1 n (List.map vN l2)], H6⟩ (fun wX hSX => hSX.elim fun LX HX => op_move rfl ⟨rfl, rfl⟩) ?_
    refine WH.take (i := 1) (v := (vN a)) rfl rfl (.inl rfl) rfl (by kernel_rfl) ⟨[.row v 3 1 n (List.map vN l2)], H6⟩ (fun wX hSX => hSX.elim fun LX HX => op_move rfl ⟨rfl, rfl⟩) ?_
    refine WH.take (i := 2) (v := v) rfl rfl (.inl rfl) rfl (by kernel_rfl) ⟨[.row v 3 1 n (List.map vN l2)], H6⟩ (fun wX hSX => hSX.elim fun LX HX => op_move rfl ⟨rfl, rfl⟩) ?_
    refine WH.take (i := 3) (v := (vN a)) rfl rfl (.inl rfl) rfl (by kernel_rfl) ⟨[.row v 3 1 n (List.map vN l2)], H6⟩ (fun wX hSX => hSX.elim fun LX HX => op_move rfl ⟨rfl, rfl⟩) ?_
    refine WH.take (i := 4) (v := (vN q2)) rfl rfl (.inl rfl) rfl (by kernel_rfl) ⟨[.row v 3 1 n (List.map vN l2)], H6⟩ (fun wX hSX => hSX.elim fun LX HX => op_move rfl ⟨rfl, rfl⟩) ?_
    refine WH.take (i := 5) (v := (vN (a + q2))) rfl rfl (.inl rfl) rfl (by kernel_rfl) ⟨[.row v 3 1 n (List.map vN l2)], H6⟩ (fun wX hSX => hSX.elim fun LX HX => op_addN rfl rfl (by omega) ⟨rfl, rfl⟩) ?_
    refine WH.take (i := 6) (v := v) rfl rfl (.inl rfl) rfl (by kernel_rfl) ⟨[.row v 3 1 n (List.map vN l2)], H6⟩ (fun wX hSX => hSX.elim fun LX HX => op_move rfl ⟨rfl, rfl⟩) ?_
    refine WH.take (i := 7) (v := (vN a)) rfl rfl (.inl rfl) rfl (by kernel_rfl) ⟨[.row v 3 1 n (List.map vN l2)], H6⟩ (fun wX hSX => hSX.elim fun LX HX => op_move rfl ⟨rfl, rfl⟩) ?_
    refine WH.take (i := 8) (v := (vN q2)) rfl rfl (.inl rfl) rfl (by kernel_rfl) ⟨[.row v 3 1 n (List.map vN l2)], H6⟩ (fun wX hSX => hSX.elim fun LX HX => op_move rfl ⟨rfl, rfl⟩) ?_
    refine WH.take (i := 9) (v := (vN (a + q2))) rfl rfl (.inl rfl) rfl (by kernel_rfl) ⟨[.row v 3 1 n (List.map vN l2)], H6⟩ (fun wX hSX => hSX.elim fun LX HX => op_addN rfl rfl (by omega) ⟨rfl, rfl⟩) ?_
    refine WH.take (i := 10) (v := (.pointer (some (sp v (a + q2))))) rfl rfl (.inl rfl) rfl (by kernel_rfl) ⟨[.row v 3 1 n (List.map vN l2)], H6⟩ (fun wX hSX => hSX.elim fun LX HX => op_indexAddr1W Try.underlying64 Fa.I3 rfl (H6.arrR (i := 0) rfl) rfl (by omega) ⟨rfl, rfl⟩) ?_
    refine WH.take (i := 12) (v := v) rfl rfl (.inl rfl) rfl (by kernel_rfl) ⟨[.row v 3 1 n (List.map vN l2)], H6⟩ (fun wX hSX => hSX.elim fun LX HX => op_move rfl ⟨rfl, rfl⟩) ?_
    refine WH.take (i := 13) (v := (vN a)) rfl rfl (.inl rfl) rfl (by kernel_rfl) ⟨[.row v 3 1 n (List.map vN l2)], H6⟩ (fun wX hSX => hSX.elim fun LX HX => op_move rfl ⟨rfl, rfl⟩) ?_
    refine WH.take (i := 14) (v := (.pointer (some (sp v a)))) rfl rfl (.inl rfl) rfl (by kernel_rfl) ⟨[.row v 3 1 n (List.map vN l2)], H6⟩ (fun wX hSX => hSX.elim fun LX HX => op_indexAddr1W Try.underlying64 Fa.I3 rfl (H6.arrR (i := 0) rfl) rfl (by omega) ⟨rfl, rfl⟩) ?_
    refine WH.named (fun W hW => ?_)
    have st10_5 : ∀ (wS : World), Owl.Own T w wS [.row v 3 1 n (List.map vN ((l2.set a (l2.getD (a + q2) 0)).set (a + q2) (l2.getD a 0)))] → W 0 #[tt, tt, tt, tt, tt, tt, tt, tt, tt, tt, tt, tt, tt, tt, tt, tt, tt, tt, tt, tt] [(0, v), (1, (vN a)), (2, (vN b)), (6, (vN a)), (7, (vN 0)), (8, (vN (b - a))), (10, (vN q2)), (33, v), (34, (vN a)), (35, v), (36, (vN a)), (37, (vN q2)), (38, (vN (a + q2))), (39, v), (40, (vN a)), (41, (vN q2)), (42, (vN (a + q2))), (43, (.pointer (some (sp v (a + q2))))), (44, (vN (l2.getD (a + q2) 0))), (45, v), (46, (vN a)), (47, (.pointer (some (sp v a)))), (48, (vN (l2.getD a 0))), (49, (.pointer (some (sp v a)))), (50, (.pointer (some (sp v (a + q2)))))] wS := by
     intro wS HS
     rw [hW]
     refine WH.done (by kernel_rfl) ?_
     refine WQ.next ?_
     refine WC.region ?_
     refine wo (op_move rfl ?_)
     refine wo (op_move rfl ?_)
     refine wo (op_move rfl ?_)
     refine wo (op_move rfl ?_)
     refine wo (op_callF Fa.C163 rfl ((sift_ok v n ((l2.set a (l2.getD (a + q2) 0)).set (a + q2) (l2.getD a 0)) 0 q2 a _ _ (HS.part [0] rfl rfl) hSL (by omega) (by omega) (by omega) (heapT_pre (by omega) (by omega) hh2)).mono (fun e w8 hq => ?_)))
     obtain ⟨l8, rfl, hc8, hq8⟩ := hq
     refine ⟨_, rfl, ?_⟩
     have H8 : Owl.Own T w w8 [.row v 3 1 n (List.map vN l8)] := HS.splice [0] [.row v 3 1 n (List.map vN l8)] [] rfl rfl hq8 (Fits.solid True.intro Fits.nil)
     refine WL.nil ?_
     refine WQ.inNormal ?_
     refine WQ.next ?_
     refine WC.region ?_
     refine wo (op_move rfl ?_)
     refine wo (op_subI (a := ((q2 : Nat) : Int)) (b := ((1 : Nat) : Int)) rfl rfl (by omega) ?_)
     refine wo (op_assign rfl ?_)
     refine WL.nil ?_
     exact WQ.round (q2, l8) ⟨⟨by omega, (hs2.step (by omega) (by omega) (by omega) (by omega)).trans (hc8.1.mono (by omega) (by omega)), heapT_step ltNOK (by omega) (by omega) hh2 hc8.1 hc8.2⟩, H8⟩ ⟨rfl, rfl, rfl, rfl, rfl, rfl, rfl, trivial⟩ (by show q2 < q2 + 1; omega)
    have st10_4 : ∀ (wS : World), Owl.Own T w wS [.row v 3 1 n (List.map vN (l2.set a (l2.getD (a + q2) 0)))] → W 1 #[tt, tt, tt, tt, tt, tt, tt, tt, tt, tt, tt, tt, tt, tt, tt, tt, tt, tt, tt, ff] [(0, v), (1, (vN a)), (2, (vN b)), (6, (vN a)), (7, (vN 0)), (8, (vN (b - a))), (10, (vN q2)), (33, v), (34, (vN a)), (35, v), (36, (vN a)), (37, (vN q2)), (38, (vN (a + q2))), (39, v), (40, (vN a)), (41, (vN q2)), (42, (vN (a + q2))), (43, (.pointer (some (sp v (a + q2))))), (44, (vN (l2.getD (a + q2) 0))), (45, v), (46, (vN a)), (47, (.pointer (some (sp v a)))), (48, (vN (l2.getD a 0))), (49, (.pointer (some (sp v a)))), (50, (.pointer (some (sp v (a + q2)))))] wS := by
     intro wS HS
     rw [hW]
     refine WH.all1 (i := 19) (by kernel_rfl) ?_
     ·
      refine WHS.op (i := 19) rfl (.inl rfl) rfl (op_storeRM (i := 0) (f := vN) (l := (l2.set a (l2.getD (a + q2) 0))) (c := (l2.getD a 0)) HS rfl rfl rfl (by omega) rfl Fa.I3 (fun w17381 H17381 => ?_))
      refine ⟨⟨[.row v 3 1 n (List.map vN ((l2.set a (l2.getD (a + q2) 0)).set (a + q2) (l2.getD a 0)))], H17381⟩, ?_⟩
      have hq := st10_5 w17381 H17381
      rw [hW] at hq
      exact WH.cv hq
    have st10_3 : ∀ (wS : World), Owl.Own T w wS [.row v 3 1 n (List.map vN l2)] → W 3 #[tt, tt, tt, tt, tt, tt, tt, tt, tt, tt, tt, tt, tt, tt, tt, tt, tt, ff, ff, ff] [(0, v), (1, (vN a)), (2, (vN b)), (6, (vN a)), (7, (vN 0)), (8, (vN (b - a))), (10, (vN q2)), (33, v), (34, (vN a)), (35, v), (36, (vN a)), (37, (vN q2)), (38, (vN (a + q2))), (39, v), (40, (vN a)), (41, (vN q2)), (42, (vN (a + q2))), (43, (.pointer (some (sp v (a + q2))))), (44, (vN (l2.getD (a + q2) 0))), (45, v), (46, (vN a)), (47, (.pointer (some (sp v a)))), (48, (vN (l2.getD a 0))), (49, (.pointer (some (sp v a))))] wS := by
     intro wS HS
     rw [hW]
     refine WH.all1 (i := 17) (by kernel_rfl) ?_
     ·
      refine WHS.op (i := 17) rfl (.inl rfl) rfl (op_storeRM (i := 0) (f := vN) (l := l2) (c := (l2.getD (a + q2) 0)) HS rfl rfl rfl (by omega) rfl Fa.I3 (fun w17341 H17341 => ?_))
      refine ⟨⟨[.row v 3 1 n (List.map vN (l2.set a (l2.getD (a + q2) 0)))], H17341⟩, ?_⟩
      refine WH.take (i := 18) (v := (.pointer (some (sp v (a + q2))))) rfl rfl (.inl rfl) rfl (by kernel_rfl) ⟨[.row v 3 1 n (List.map vN (l2.set a (l2.getD (a + q2) 0)))], H17341⟩ (fun wX hSX => hSX.elim fun LX HX => op_indexAddr1W Try.underlying64 Fa.I3 rfl (H17341.arrR (i := 0) rfl) rfl (by omega) ⟨rfl, rfl⟩) ?_
      have hq := st10_4 w17341 H17341
      rw [hW] at hq
      exact WH.cv hq
    have st10_1 : ∀ (wS : World), Owl.Own T w wS [.row v 3 1 n (List.map vN l2)] → W 5 #[tt, tt, tt, tt, tt, tt, tt, tt, tt, tt, tt, tt, tt, tt, tt, ff, ff, ff, ff, ff] [(0, v), (1, (vN a)), (2, (vN b)), (6, (vN a)), (7, (vN 0)), (8, (vN (b - a))), (10, (vN q2)), (33, v), (34, (vN a)), (35, v), (36, (vN a)), (37, (vN q2)), (38, (vN (a + q2))), (39, v), (40, (vN a)), (41, (vN q2)), (42, (vN (a + q2))), (43, (.pointer (some (sp v (a + q2))))), (44, (vN (l2.getD (a + q2) 0))), (45, v), (46, (vN a)), (47, (.pointer (some (sp v a))))] wS := by
     intro wS HS
     rw [hW]
     refine WH.all1 (i := 15) (by kernel_rfl) ?_
     ·
      refine WHS.op (i := 15) rfl (.inl rfl) rfl (op_load rfl ((HS.arrR (i := 0) rfl).at (get_map vN 0 (Arr.ltM (HS.arrR (i := 0) rfl) (by omega)))) Try.underlying3 rfl ?_)
      refine ⟨⟨[.row v 3 1 n (List.map vN l2)], HS⟩, ?_⟩
      refine WH.take (i := 16) (v := (.pointer (some (sp v a)))) rfl rfl (.inl rfl) rfl (by kernel_rfl) ⟨[.row v 3 1 n (List.map vN l2)], HS⟩ (fun wX hSX => hSX.elim fun LX HX => op_indexAddr1W Try.underlying64 Fa.I3 rfl (HS.arrR (i := 0) rfl) rfl (by omega) ⟨rfl, rfl⟩) ?_
      have hq := st10_3 wS HS
      rw [hW] at hq
      exact WH.cv hq
    have st10_2 : ∀ (wS : World), Owl.Own T w wS [.row v 3 1 n (List.map vN l2)] → W 5 #[tt, tt, tt, tt, tt, tt, tt, tt, tt, tt, tt, ff, tt, tt, tt, tt, ff, ff, ff, ff] [(0, v), (1, (vN a)), (2, (vN b)), (6, (vN a)), (7, (vN 0)), (8, (vN (b - a))), (10, (vN q2)), (33, v), (34, (vN a)), (35, v), (36, (vN a)), (37, (vN q2)), (38, (vN (a + q2))), (39, v), (40, (vN a)), (41, (vN q2)), (42, (vN (a + q2))), (43, (.pointer (some (sp v (a + q2))))), (45, v), (46, (vN a)), (47, (.pointer (some (sp v a)))), (48, (vN (l2.getD a 0)))] wS := by
     intro wS HS
     rw [hW]
     refine WH.all1 (i := 11) (by kernel_rfl) ?_
     ·
      refine WHS.op (i := 11) rfl (.inl rfl) rfl (op_load rfl ((HS.arrR (i := 0) rfl).at (get_map vN 0 (Arr.ltM (HS.arrR (i := 0) rfl) (by omega)))) Try.underlying3 rfl ?_)
      refine ⟨⟨[.row v 3 1 n (List.map vN l2)], HS⟩, ?_⟩
      refine WH.take (i := 16) (v := (.pointer (some (sp v a)))) rfl rfl (.inl rfl) rfl (by kernel_rfl) ⟨[.row v 3 1 n (List.map vN l2)], HS⟩ (fun wX hSX => hSX.elim fun LX HX => op_indexAddr1W Try.underlying64 Fa.I3 rfl (HS.arrR (i := 0) rfl) rfl (by omega) ⟨rfl, rfl⟩) ?_
      have hq := st10_3 wS HS
      rw [hW] at hq
      exact WH.cv hq
    have st10_0 : ∀ (wS : World), Owl.Own T w wS [.row v 3 1 n (List.map vN l2)] → W 6 #[tt, tt, tt, tt, tt, tt, tt, tt, tt, tt, tt, ff, tt, tt, tt, ff, ff, ff, ff, ff] [(0, v), (1, (vN a)), (2, (vN b)), (6, (vN a)), (7, (vN 0)), (8, (vN (b - a))), (10, (vN q2)), (33, v), (34, (vN a)), (35, v), (36, (vN a)), (37, (vN q2)), (38, (vN (a + q2))), (39, v), (40, (vN a)), (41, (vN q2)), (42, (vN (a + q2))), (43, (.pointer (some (sp v (a + q2))))), (45, v), (46, (vN a)), (47, (.pointer (some (sp v a))))] wS := by
     intro wS HS
     rw [hW]
     refine WH.all2 (i := 11) (j := 15) (by kernel_rfl) ?_ ?_
     ·
      refine WHS.op (i := 11) rfl (.inl rfl) rfl (op_load rfl ((HS.arrR (i := 0) rfl).at (get_map vN 0 (Arr.ltM (HS.arrR (i := 0) rfl) (by omega)))) Try.underlying3 rfl ?_)
      refine ⟨⟨[.row v 3 1 n (List.map vN l2)], HS⟩, ?_⟩
      have hq := st10_1 wS HS
      rw [hW] at hq
      exact WH.cv hq
     ·
      refine WHS.op (i := 15) rfl (.inl rfl) rfl (op_load rfl ((HS.arrR (i := 0) rfl).at (get_map vN 0 (Arr.ltM (HS.arrR (i := 0) rfl) (by omega)))) Try.underlying3 rfl ?_)
      refine ⟨⟨[.row v 3 1 n (List.map vN l2)], HS⟩, ?_⟩
      have hq := st10_2 wS HS
      rw [hW] at hq
      exact WH.cv hq
    have hq := st10_0 w6 H6
    rw [hW] at hq ⊢
    exact WH.cv hq
 ·
  rintro q w9 ⟨hq, H9⟩
  show WC _ _ _ _ _ [(0, v), (1, (vN a)), (2, (vN b)), (6, (vN a)), (7, (vN 0)), (8, (vN (b - a))), (9, (vN q))] _
  subst hq
  refine WC.seq ?_
  refine WC.block ?_
  refine WC.region ?_
  refine wo (op_move rfl ?_)
  refine wo (op_move rfl ?_)
  refine wo (op_move rfl ?_)
  refine wo (op_move rfl ?_)
  refine wo (op_callF Fa.C163 rfl ((sift_ok v n l1 q (b - a) a _ _ (H9.part [0] rfl rfl) (by omega) (by omega) (by omega) (by omega) hh1).mono (fun e w10 hq => ?_)))
  obtain ⟨l10, rfl, hc10, hq10⟩ := hq
  refine ⟨_, rfl, ?_⟩
  have H10 : Owl.Own T w w10 [.row v 3 1 n (List.map vN l10)] := H9.splice [0] [.row v 3 1 n (List.map vN l10)] [] rfl rfl hq10 (Fits.solid True.intro Fits.nil)
  refine WL.nil ?_
  refine WQ.inNormal ?_
  refine WQ.next ?_
  refine WC.region ?_
  refine wo (op_move rfl ?_)
  refine wo (op_subI (a := ((q : Nat) : Int)) (b := ((1 : Nat) : Int)) rfl rfl (by omega) ?_)
  refine wo (op_assign rfl ?_)
  refine WL.nil ?_
  exact WQ.round (q, l10) ⟨⟨by omega, hs1.trans (hc10.1.mono (by omega) (by omega)), hc10.2⟩, H10⟩ ⟨rfl, rfl, rfl, rfl, rfl, rfl, rfl, trivial⟩ (by show q < q + 1; omega)
set_option maxRecDepth 100000 in
theorem rev_ok (v : Value) (n : Nat) (l : List Nat) (a b : Nat) (T : List Nat) (w : World) (H : Owl.Own T w w [.row v 3 1 n (List.map vN l)]) (hn : l.length = n) (hN : n < 2 ^ 61) (hab : a < b) (hb : b ≤ n) :
  Calls Try.prog 147 #[v, (vN a), (vN b)] w (fun e w' => ∃ (l' : List Nat), e = .returned undef ∧ (Sw 0 a b l l') ∧ Owl.Own T w w' [.row v 3 1 n (List.map vN l')]) := by
 refine enter (args := [v, (vN a), (vN b)]) Try.func147 rfl rfl ?_
 refine ws ?_
 refine wo (op_move rfl ?_)
 refine wo (op_assign rfl ?_)
 refine wn ?_
 refine ws ?_
 refine wo (op_move rfl ?_)
 refine wo (op_subN (b := 1) rfl rfl (by omega) (by omega) ?_)
 refine wo (op_assign rfl ?_)
 refine wn ?_
 refine WC.block ?_
 refine WC.loop (α := Nat × Nat × List Nat) (fun (i, j, l1) => [(0, v), (1, (vN a)), (2, (vN b)), (6, (vN i)), (7, (vN j))]) (fun (i, j, l1) w' => (a ≤ i ∧ j < b ∧ Sw 0 a b l l1) ∧ Owl.Own T w w' [.row v 3 1 n (List.map vN l1)]) (fun (i, j, l1) => j - i) (a, b - 1, l) ⟨⟨Nat.le_refl _, by omega, .refl _⟩, H⟩ ⟨rfl, rfl, rfl, rfl, rfl, trivial⟩ ?_
 rintro ⟨i, j, l1⟩ w1 ⟨⟨hi1, hj1, hs1⟩, H1⟩
 show WC _ _ _ _ _ [(0, v), (1, (vN a)), (2, (vN b)), (6, (vN i)), (7, (vN j))] _
 have hL1 := hs1.len
 refine WC.seq ?_
 refine ws ?_
 refine wo (op_move rfl ?_)
 refine wo (op_move rfl ?_)
 refine wo (op_lssN rfl rfl ?_)
 refine wn ?_
 refine WC.cond rfl (fun (hb2 : (decide (i < j)) = true) => ?_) (fun (hb2 : (decide (i < j)) = false) => ?_)
 ·
  have hc2 := of_decide_eq_true hb2
  refine WC.skip ?_
  refine WQ.next ?_
  refine WC.block ?_
  refine WC.seq ?_
  refine WC.held 16 rfl Fa.M H1 (fun w' => ∃ L', Owl.Own T w w' ([] ++ L')) ?_
  intro w3 H3
  refine WH.take (i := 0) (v := v) rfl rfl (.inl rfl) rfl (by kernel_rfl) ⟨[.row v 3 1 n (List.map vN l1)], H3⟩ (fun wX hSX => hSX.elim fun LX HX => op_move rfl ⟨rfl, rfl⟩) ?_
  refine WH.take (i := 1) (v := (vN i)) rfl rfl (.inl rfl) rfl (by kernel_rfl) ⟨[.row v 3 1 n (List.map vN l1)], H3⟩ (fun wX hSX => hSX.elim fun LX HX => op_move rfl ⟨rfl, rfl⟩) ?_
  refine WH.take (i := 2) (v := v) rfl rfl (.inl rfl) rfl (by kernel_rfl) ⟨[.row v 3 1 n (List.map vN l1)], H3⟩ (fun wX hSX => hSX.elim fun LX HX => op_move rfl ⟨rfl, rfl⟩) ?_
  refine WH.take (i := 3) (v := (vN j)) rfl rfl (.inl rfl) rfl (by kernel_rfl) ⟨[.row v 3 1 n (List.map vN l1)], H3⟩ (fun wX hSX => hSX.elim fun LX HX => op_move rfl ⟨rfl, rfl⟩) ?_
  refine WH.take (i := 4) (v := v) rfl rfl (.inl rfl) rfl (by kernel_rfl) ⟨[.row v 3 1 n (List.map vN l1)], H3⟩ (fun wX hSX => hSX.elim fun LX HX => op_move rfl ⟨rfl, rfl⟩) ?_
  refine WH.take (i := 5) (v := (vN j)) rfl rfl (.inl rfl) rfl (by kernel_rfl) ⟨[.row v 3 1 n (List.map vN l1)], H3⟩ (fun wX hSX => hSX.elim fun LX HX => op_move rfl ⟨rfl, rfl⟩) ?_
  refine WH.take (i := 6) (v := (.pointer (some (sp v j)))) rfl rfl (.inl rfl) rfl (by kernel_rfl) ⟨[.row v 3 1 n (List.map vN l1)], H3⟩ (fun wX hSX => hSX.elim fun LX HX => op_indexAddr1W Try.underlying64 Fa.I3 rfl (H3.arrR (i := 0) rfl) rfl (by omega) ⟨rfl, rfl⟩) ?_
  refine WH.take (i := 8) (v := v) rfl rfl (.inl rfl) rfl (by kernel_rfl) ⟨[.row v 3 1 n (List.map vN l1)], H3⟩ (fun wX hSX => hSX.elim fun LX HX => op_move rfl ⟨rfl, rfl⟩) ?_
  refine WH.take (i := 9) (v := (vN i)) rfl rfl (.inl rfl) rfl (by kernel_rfl) ⟨[.row v 3 1 n (List.map vN l1)], H3⟩ (fun wX hSX => hSX.elim fun LX HX => op_move rfl ⟨rfl, rfl⟩) ?_
  refine WH.take (i := 10) (v := (.pointer (some (sp v i)))) rfl rfl (.inl rfl) rfl (by kernel_rfl) ⟨[.row v 3 1 n (List.map vN l1)], H3⟩ (fun wX hSX => hSX.elim fun LX HX => op_indexAddr1W Try.underlying64 Fa.I3 rfl (H3.arrR (i := 0) rfl) rfl (by omega) ⟨rfl, rfl⟩) ?_
  refine WH.named (fun W hW => ?_)
  have st3_5 : ∀ (wS : World), Owl.Own T w wS [.row v 3 1 n (List.map vN ((l1.set i (l1.getD j 0)).set j (l1.getD i 0)))] → W 0 #[tt, tt, tt, tt, tt, tt, tt, tt, tt, tt, tt, tt, tt, tt, tt, tt] [(0, v), (1, (vN a)), (2, (vN b)), (6, (vN i)), (7, (vN j)), (11, (vN i)), (12, (vN j)), (13, (.bool (decide (i < j)))), (14, v), (15, (vN i)), (16, v), (17, (vN j)), (18, v), (19, (vN j)), (20, (.pointer (some (sp v j)))), (21, (vN (l1.getD j 0))), (22, v), (23, (vN i)), (24, (.pointer (some (sp v i)))), (25, (vN (l1.getD i 0))), (26, (.pointer (some (sp v i)))), (27, (.pointer (some (sp v j))))] wS := by
   intro wS HS
   rw [hW]
   refine WH.done (by kernel_rfl) ?_
   refine WQ.next ?_
   refine ws ?_
   refine wo (op_move rfl ?_)
   refine wo (op_addN (b := 1) rfl rfl (by omega) ?_)
   refine wo (op_assign rfl ?_)
   refine wn ?_
   refine WC.region ?_
   refine wo (op_move rfl ?_)
   refine wo (op_subN (b := 1) rfl rfl (by omega) (by omega) ?_)
   refine wo (op_assign rfl ?_)
   refine WL.nil ?_
   refine WQ.inNormal ?_
   exact WQ.round (i + 1, j - 1, swapL 0 l1 i j) ⟨⟨by omega, by omega, hs1.step (by omega) (by omega) (by omega) (by omega)⟩, HS⟩ ⟨rfl, rfl, rfl, rfl, rfl, trivial⟩ (by show j - 1 - (i + 1) < j - i; omega)
  have st3_4 : ∀ (wS : World), Owl.Own T w wS [.row v 3 1 n (List.map vN (l1.set i (l1.getD j 0)))] → W 1 #[tt, tt, tt, tt, tt, tt, tt, tt, tt, tt, tt, tt, tt, tt, tt, ff] [(0, v), (1, (vN a)), (2, (vN b)), (6, (vN i)), (7, (vN j)), (11, (vN i)), (12, (vN j)), (13, (.bool (decide (i < j)))), (14, v), (15, (vN i)), (16, v), (17, (vN j)), (18, v), (19, (vN j)), (20, (.pointer (some (sp v j)))), (21, (vN (l1.getD j 0))), (22, v), (23, (vN i)), (24, (.pointer (some (sp v i)))), (25, (vN (l1.getD i 0))), (26, (.pointer (some (sp v i)))), (27, (.pointer (some (sp v j))))] wS := by
   intro wS HS
   rw [hW]
   refine WH.all1 (i := 15) (by kernel_rfl) ?_
   ·
    refine WHS.op (i := 15) rfl (.inl rfl) rfl (op_storeRM (i := 0) (f := vN) (l := (l1.set i (l1.getD j 0))) (c := (l1.getD i 0)) HS rfl rfl rfl (by omega) rfl Fa.I3 (fun w14301 H14301 => ?_))
    refine ⟨⟨[.row v 3 1 n (List.map vN ((l1.set i (l1.getD j 0)).set j (l1.getD i 0)))], H14301⟩, ?_⟩
    have hq := st3_5 w14301 H14301
    rw [hW] at hq
    exact WH.cv hq
  have st3_3 : ∀ (wS : World), Owl.Own T w wS [.row v 3 1 n (List.map vN l1)] → W 3 #[tt, tt, tt, tt, tt, tt, tt, tt, tt, tt, tt, tt, tt, ff, ff, ff] [(0, v), (1, (vN a)), (2, (vN b)), (6, (vN i)), (7, (vN j)), (11, (vN i)), (12, (vN j)), (13, (.bool (decide (i < j)))), (14, v), (15, (vN i)), (16, v), (17, (vN j)), (18, v), (19, (vN j)), (20, (.pointer (some (sp v j)))), (21, (vN (l1.getD j 0))), (22, v), (23, (vN i)), (24, (.pointer (some (sp v i)))), (25, (vN (l1.getD i 0))), (26, (.pointer (some (sp v i))))] wS := by
   intro wS HS
   rw [hW]
   refine WH.all1 (i := 13) (by kernel_rfl) ?_
   ·
    refine WHS.op (i := 13) rfl (.inl rfl) rfl (op_storeRM (i := 0) (f := vN) (l := l1) (c := (l1.getD j 0)) HS rfl rfl rfl (by omega) rfl Fa.I3 (fun w14261 H14261 => ?_))
    refine ⟨⟨[.row v 3 1 n (List.map vN (l1.set i (l1.getD j 0)))], H14261⟩, ?_⟩
    refine WH.take (i := 14) (v := (.pointer (some (sp v j)))) rfl rfl (.inl rfl) rfl (by kernel_rfl) ⟨[.row v 3 1 n (List.map vN (l1.set i (l1.getD j 0)))], H14261⟩ (fun wX hSX => hSX.elim fun LX HX => op_indexAddr1W Try.underlying64 Fa.I3 rfl (H14261.arrR (i := 0) rfl) rfl (by omega) ⟨rfl, rfl⟩) ?_
    have hq := st3_4 w14261 H14261
    rw [hW] at hq
    exact WH.cv hq
  have st3_1 : ∀ (wS : World), Owl.Own T w wS [.row v 3 1 n (List.map vN l1)] → W 5 #[tt, tt, tt, tt, tt, tt, tt, tt, tt, tt, tt, ff, ff, ff, ff, ff] [(0, v), (1, (vN a)), (2, (vN b)), (6, (vN i)), (7, (vN j)), (11, (vN i)), (12, (vN j)), (13, (.bool (decide (i < j)))), (14, v), (15, (vN i)), (16, v), (17, (vN j)), (18, v), (19, (vN j)), (20, (.pointer (some (sp v j)))), (21, (vN (l1.getD j 0))), (22, v), (23, (vN i)), (24, (.pointer (some (sp v i))))] wS := by
   intro wS HS
   rw [hW]
   refine WH.all1 (i := 11) (by kernel_rfl) ?_
   ·
    refine WHS.op (i := 11) rfl (.inl rfl) rfl (op_load rfl ((HS.arrR (i := 0) rfl).at (get_map vN 0 (Arr.ltM (HS.arrR (i := 0) rfl) (by omega)))) Try.underlying3 rfl ?_)
    refine ⟨⟨[.row v 3 1 n (List.map vN l1)], HS⟩, ?_⟩
    refine WH.take (i := 12) (v := (.pointer (some (sp v i)))) rfl rfl (.inl rfl) rfl (by kernel_rfl) ⟨[.row v 3 1 n (List.map vN l1)], HS⟩ (fun wX hSX => hSX.elim fun LX HX => op_indexAddr1W Try.underlying64 Fa.I3 rfl (HS.arrR (i := 0) rfl) rfl (by omega) ⟨rfl, rfl⟩) ?_
    have hq := st3_3 wS HS
    rw [hW] at hq
    exact WH.cv hq
  have st3_2 : ∀ (wS : World), Owl.Own T w wS [.row v 3 1 n (List.map vN l1)] → W 5 #[tt, tt, tt, tt, tt, tt, tt, ff, tt, tt, tt, tt, ff, ff, ff, ff] [(0, v), (1, (vN a)), (2, (vN b)), (6, (vN i)), (7, (vN j)), (11, (vN i)), (12, (vN j)), (13, (.bool (decide (i < j)))), (14, v), (15, (vN i)), (16, v), (17, (vN j)), (18, v), (19, (vN j)), (20, (.pointer (some (sp v j)))), (22, v), (23, (vN i)), (24, (.pointer (some (sp v i)))), (25, (vN (l1.getD i 0)))] wS := by
   intro wS HS
   rw [hW]
   refine WH.all1 (i := 7) (by kernel_rfl) ?_
   ·
    refine WHS.op (i := 7) rfl (.inl rfl) rfl (op_load rfl ((HS.arrR (i := 0) rfl).at (get_map vN 0 (Arr.ltM (HS.arrR (i := 0) rfl) (by omega)))) Try.underlying3 rfl ?_)
    refine ⟨⟨[.row v 3 1 n (List.map vN l1)], HS⟩, ?_⟩
    refine WH.take (i := 12) (v := (.pointer (some (sp v i)))) rfl rfl (.inl rfl) rfl (by kernel_rfl) ⟨[.row v 3 1 n (List.map vN l1)], HS⟩ (fun wX hSX => hSX.elim fun LX HX => op_indexAddr1W Try.underlying64 Fa.I3 rfl (HS.arrR (i := 0) rfl) rfl (by omega) ⟨rfl, rfl⟩) ?_
    have hq := st3_3 wS HS
    rw [hW] at hq
    exact WH.cv hq
  have st3_0 : ∀ (wS : World), Owl.Own T w wS [.row v 3 1 n (List.map vN l1)] → W 6 #[tt, tt, tt, tt, tt, tt, tt, ff, tt, tt, tt, ff, ff, ff, ff, ff] [(0, v), (1, (vN a)), (2, (vN b)), (6, (vN i)), (7, (vN j)), (11, (vN i)), (12, (vN j)), (13, (.bool (decide (i < j)))), (14, v), (15, (vN i)), (16, v), (17, (vN j)), (18, v), (19, (vN j)), (20, (.pointer (some (sp v j)))), (22, v), (23, (vN i)), (24, (.pointer (some (sp v i))))] wS := by
   intro wS HS
   rw [hW]
   refine WH.all2 (i := 7) (j := 11) (by kernel_rfl) ?_ ?_
   ·
    refine WHS.op (i := 7) rfl (.inl rfl) rfl (op_load rfl ((HS.arrR (i := 0) rfl).at (get_map vN 0 (Arr.ltM (HS.arrR (i := 0) rfl) (by omega)))) Try.underlying3 rfl ?_)
    refine ⟨⟨[.row v 3 1 n (List.map vN l1)], HS⟩, ?_⟩
    have hq := st3_1 wS HS
    rw [hW] at hq
    exact WH.cv hq
   ·
    refine WHS.op (i := 11) rfl (.inl rfl) rfl (op_load rfl ((HS.arrR (i := 0) rfl).at (get_map vN 0 (Arr.ltM (HS.arrR (i := 0) rfl) (by omega)))) Try.underlying3 rfl ?_)
    refine ⟨⟨[.row v 3 1 n (List.map vN l1)], HS⟩, ?_⟩
    have hq := st3_2 wS HS
    rw [hW] at hq
    exact WH.cv hq
  have hq := st3_0 w3 H3
  rw [hW] at hq ⊢
  exact WH.cv hq
 ·
  have hc2 := of_decide_eq_false hb2
  refine WC.exit ?_
  refine WQ.thenExit ?_
  refine WQ.thenExit ?_
  refine WQ.inHere ?_
  refine WQ.outEnd .nil ?_
  exact ⟨_, rfl, hs1, H1⟩
set_option maxRecDepth 100000 in
theorem ord2_ok (v : Value) (n : Nat) (l : List Nat) (a b q s : Nat) (T : List Nat) (w : World) (H : Owl.Own T w w [.row v 3 1 n (List.map vN l), .blk q [(vN s)] 3]) (hn : l.length = n) (hN : n < 2 ^ 61) (ha : a < n) (hb : b < n) (hs : s < 2 ^ 60) :
  Calls Try.prog 173 #[v, (vN a), (vN b), (ptr q 0)] w (fun e w' => ∃ (s' : Nat) (x y : Nat), e = .returned (.tuple #[vN x, vN y]) ∧ (s ≤ s' ∧ s' ≤ s + 1 ∧ (x = a ∧ y = b ∨ x = b ∧ y = a)) ∧ Owl.Own T w w' [.row v 3 1 n (List.map vN l), .blk q [vN s'] 3]) := by
 refine enter (args := [v, (vN a), (vN b), (ptr q 0)]) Try.func173 rfl rfl ?_
 refine ws ?_
 refine wo (op_assign rfl ?_)
 refine wo (op_assign rfl ?_)
 refine wn ?_
 refine WC.seq ?_
 refine WC.seq ?_
 refine WC.draw 9 Fa.M H (HW.op rfl (fun w1 H1 => op_move rfl ⟨rfl, Fr.refl _ _⟩) (HW.op rfl (fun w1 H1 => op_move rfl ⟨rfl, Fr.refl _ _⟩) (HW.op rfl (fun w1 H1 => op_indexAddr1 Try.underlying64 Fa.I3 rfl (H1.arrR (i := 0) rfl) rfl (by omega) ⟨rfl, Fr.refl _ _⟩) (HW.op rfl (fun w1 H1 => op_load rfl ((H1.arrR (i := 0) rfl).at (get_map vN 0 (Arr.ltM (H1.arrR (i := 0) rfl) (by omega)))) Try.underlying3 rfl ⟨rfl, Fr.refl _ _⟩) (HW.op rfl (fun w1 H1 => op_move rfl ⟨rfl, Fr.refl _ _⟩) (HW.op rfl (fun w1 H1 => op_move rfl ⟨rfl, Fr.refl _ _⟩) (HW.op rfl (fun w1 H1 => op_indexAddr1 Try.underlying64 Fa.I3 rfl (H1.arrR (i := 0) rfl) rfl (by omega) ⟨rfl, Fr.refl _ _⟩) (HW.op rfl (fun w1 H1 => op_load rfl ((H1.arrR (i := 0) rfl).at (get_map vN 0 (Arr.ltM (H1.arrR (i := 0) rfl) (by omega)))) Try.underlying3 rfl ⟨rfl, Fr.refl _ _⟩) (HW.op rfl (fun w1 H1 => op_callF Fa.C149 rfl ((less_ok (l.getD b 0) (l.getD a 0) _).mono (fun e w2 hq => ⟨_, hq.1, rfl, hq.2⟩)))  HW.nil))))))))) (by kernel_rfl) ?_
 intro β2 w2 H2
 refine wn ?_
 refine WC.cond rfl (fun (hb3 : (ltN (l.getD b 0) (l.getD a 0)) = true) => ?_) (fun (hb3 : (ltN (l.getD b 0) (l.getD a 0)) = false) => ?_)
 ·
  refine ws ?_
  refine wo (op_move rfl ?_)
  refine wo (op_nilCheck rfl ?_)
  refine wo (op_load rfl (H2.cell (i := 1) rfl rfl) Try.underlying3 rfl ?_)
  refine wo (op_addN (b := 1) rfl rfl (by omega) ?_)
  refine wo (op_nilCheck rfl ?_)
  refine wo (op_storeB (i := 1) H2 rfl rfl rfl rfl rfl Fa.I3 (fun w4 H4 => ?_))
  refine wn ?_
  refine ws ?_
  refine wo (op_move rfl ?_)
  refine wo (op_move rfl ?_)
  refine wo (op_assign rfl ?_)
  refine wo (op_assign rfl ?_)
  refine wn ?_
  refine WC.ret ?_
  refine WQ.thenRet ?_
  refine WQ.out (.tmp rfl (.tmp rfl .nil)) ?_
  exact ⟨_, _, _, rfl, ⟨by omega, by omega, .inr ⟨rfl, rfl⟩⟩, H4⟩
 ·
  refine WC.skip ?_
  refine WQ.next ?_
  refine ws ?_
  refine wo (op_move rfl ?_)
  refine wo (op_move rfl ?_)
  refine wo (op_assign rfl ?_)
  refine wo (op_assign rfl ?_)
  refine wn ?_
  refine WC.ret ?_
  refine WQ.out (.tmp rfl (.tmp rfl .nil)) ?_
  exact ⟨_, _, _, rfl, ⟨by omega, by omega, .inl ⟨rfl, rfl⟩⟩, H2⟩
set_option maxRecDepth 100000 in
theorem med_ok (v : Value) (n : Nat) (l : List Nat) (a b c q s : Nat) (T : List Nat) (w : World) (H : Owl.Own T w w [.row v 3 1 n (List.map vN l), .blk q [(vN s)] 3]) (hn : l.length = n) (hN : n < 2 ^ 61) (ha : a < n) (hb : b < n) (hc : c < n) (hs : s < 2 ^ 59) :
  Calls Try.prog 167 #[v, (vN a), (vN b), (vN c), (ptr q 0)] w (fun e w' => ∃ (s' : Nat) (x : Nat), e = .returned (vN x) ∧ (s ≤ s' ∧ s' ≤ s + 3 ∧ (x = a ∨ x = b ∨ x = c)) ∧ Owl.Own T w w' [.row v 3 1 n (List.map vN l), .blk q [vN s'] 3]) := by
 refine enter (args := [v, (vN a), (vN b), (vN c), (ptr q 0)]) Try.func167 rfl rfl ?_
 refine ws ?_
 refine wo (op_assign rfl ?_)
 refine wn ?_
 refine ws ?_
 refine wo (op_move rfl ?_)
 refine wo (op_move rfl ?_)
 refine wo (op_move rfl ?_)
 refine wo (op_move rfl ?_)
 refine wo (op_callF Fa.C173 rfl ((ord2_ok v n l a b q s _ _ (H.part [0, 1] rfl rfl) (by omega) (by omega) (by omega) (by omega) (by omega)).mono (fun e w1 hq => ?_)))
 obtain ⟨s1, x1, y1, rfl, hc1, hq1⟩ := hq
 refine ⟨_, rfl, ?_⟩
 have H1 : Owl.Own T w w1 [.row v 3 1 n (List.map vN l), .blk q [(vN s1)] 3] := H.splice [0, 1] [.row v 3 1 n (List.map vN l), .blk q [(vN s1)] 3] [] rfl rfl hq1 (Fits.solid True.intro (Fits.solid True.intro Fits.nil))
 refine wo (op_move rfl ?_)
 refine wo (op_extract rfl rfl ?_)
 refine wo (op_extract rfl rfl ?_)
 refine wo (op_assign rfl ?_)
 refine wo (op_assign rfl ?_)
 refine wn ?_
 refine ws ?_
 refine wo (op_move rfl ?_)
 refine wo (op_move rfl ?_)
 refine wo (op_move rfl ?_)
 refine wo (op_move rfl ?_)
 refine wo (op_callF Fa.C173 rfl ((ord2_ok v n l y1 c q s1 _ _ (H1.part [0, 1] rfl rfl) (by omega) (by omega) (by omega) (by omega) (by omega)).mono (fun e w2 hq => ?_)))
 obtain ⟨s2, x2, y2, rfl, hc2, hq2⟩ := hq
 refine ⟨_, rfl, ?_⟩
 have H2 : Owl.Own T w w2 [.row v 3 1 n (List.map vN l), .blk q [(vN s2)] 3] := H1.splice [0, 1] [.row v 3 1 n (List.map vN l), .blk q [(vN s2)] 3] [] rfl rfl hq2 (Fits.solid True.intro (Fits.solid True.intro Fits.nil))
 refine wo (op_move rfl ?_)
 refine wo (op_extract rfl rfl ?_)
 refine wo (op_extract rfl rfl ?_)
 refine wo (op_assign rfl ?_)
 refine wo (op_assign rfl ?_)
 refine wn ?_
 refine ws ?_
 refine wo (op_move rfl ?_)
 refine wo (op_move rfl ?_)
 refine wo (op_move rfl ?_)
 refine wo (op_move rfl ?_)
 refine wo (op_callF Fa.C173 rfl ((ord2_ok v n l x1 x2 q s2 _ _ (H2.part [0, 1] rfl rfl) (by omega) (by omega) (by omega) (by omega) (by omega)).mono (fun e w3 hq => ?_)))
 obtain ⟨s3, x3, y3, rfl, hc3, hq3⟩ := hq
 refine ⟨_, rfl, ?_⟩
 have H3 : Owl.Own T w w3 [.row v 3 1 n (List.map vN l), .blk q [(vN s3)] 3] := H2.splice [0, 1] [.row v 3 1 n (List.map vN l), .blk q [(vN s3)] 3] [] rfl rfl hq3 (Fits.solid True.intro (Fits.solid True.intro Fits.nil))
 refine wo (op_move rfl ?_)
 refine wo (op_extract rfl rfl ?_)
 refine wo (op_extract rfl rfl ?_)
 refine wo (op_assign rfl ?_)
 refine wo (op_assign rfl ?_)
 refine wn ?_
 refine ws ?_
 refine wo (op_move rfl ?_)
 refine wo (op_assign rfl ?_)
 refine wn ?_
 refine WC.ret ?_
 refine WQ.out (.tmp rfl .nil) ?_
 exact ⟨_, _, rfl, ⟨by omega, by omega, by omega⟩, H3⟩
set_option maxRecDepth 100000 in
theorem medadj_ok (v : Value) (n : Nat) (l : List Nat) (a q s : Nat) (T : List Nat) (w : World) (H : Owl.Own T w w [.row v 3 1 n (List.map vN l), .blk q [(vN s)] 3]) (hn : l.length = n) (hN : n < 2 ^ 61) (ha : a + 1 < n) (ha1 : 1 ≤ a) (hs : s < 2 ^ 58) :
  Calls Try.prog 166 #[v, (vN a), (ptr q 0)] w (fun e w' => ∃ (s' : Nat) (x : Nat), e = .returned (vN x) ∧ (s ≤ s' ∧ s' ≤ s + 3 ∧ (x = a - 1 ∨ x = a ∨ x = a + 1)) ∧ Owl.Own T w w' [.row v 3 1 n (List.map vN l), .blk q [vN s'] 3]) := by
 refine enter (args := [v, (vN a), (ptr q 0)]) Try.func166 rfl rfl ?_
 refine ws ?_
 refine wo (op_assign rfl ?_)
 refine wn ?_
 refine ws ?_
 refine wo (op_move rfl ?_)
 refine wo (op_move rfl ?_)
 refine wo (op_subN (b := 1) rfl rfl (by omega) (by omega) ?_)
 refine wo (op_move rfl ?_)
 refine wo (op_move rfl ?_)
 refine wo (op_addN (b := 1) rfl rfl (by omega) ?_)
 refine wo (op_move rfl ?_)
 refine wo (op_callF Fa.C167 rfl ((med_ok v n l (a - 1) a (a + 1) q s _ _ (H.part [0, 1] rfl rfl) (by omega) (by omega) (by omega) (by omega) (by omega) (by omega)).mono (fun e w1 hq => ?_)))
 obtain ⟨s1, x1, rfl, hc1, hq1⟩ := hq
 refine ⟨_, rfl, ?_⟩
 have H1 : Owl.Own T w w1 [.row v 3 1 n (List.map vN l), .blk q [(vN s1)] 3] := H.splice [0, 1] [.row v 3 1 n (List.map vN l), .blk q [(vN s1)] 3] [] rfl rfl hq1 (Fits.solid True.intro (Fits.solid True.intro Fits.nil))
 refine wo (op_assign rfl ?_)
 refine wn ?_
 refine WC.ret ?_
 refine WQ.out (.tmp rfl .nil) ?_
 exact ⟨_, _, rfl, ⟨by omega, by omega, by omega⟩, H1⟩
set_option maxHeartbeats 1000000 in
set_option maxRecDepth 100000 in
theorem piv_ok (v : Value) (n : Nat) (l : List Nat) (a b : Nat) (T : List Nat) (w : World) (H : Owl.Own T w w [.row v 3 1 n (List.map vN l)]) (hn : l.length = n) (hN : n < 2 ^ 61) (hab : 12 < b - a) (hb : b ≤ n) :
  Calls Try.prog 146 #[v, (vN a), (vN b)] w (fun e w' => ∃ (p h : Nat), e = .returned (.tuple #[vN p, vN h]) ∧ (a ≤ p ∧ p < b) ∧ Owl.Own T w w' [.row v 3 1 n (List.map vN l)]) := by
 refine enter (args := [v, (vN a), (vN b)]) Try.func146 rfl rfl ?_
 refine ws ?_
 refine wo (op_assign rfl ?_)
 refine wo (op_assign rfl ?_)
 refine wn ?_
 refine ws ?_
 refine wo (op_move rfl ?_)
 refine wo (op_move rfl ?_)
 refine wo (op_subN rfl rfl (by omega) (by omega) ?_)
 refine wo (op_assign rfl ?_)
 refine wn ?_
 refine ws ?_
 refine wo (op_alloc H Fa.I3 (fun b1 w1 H1 => ?_))
 refine wn ?_
 refine ws ?_
 refine wo (op_move rfl ?_)
 refine wo (op_move rfl ?_)
 refine wo (op_quoN (b := 4) rfl rfl (by omega) (by omega) ?_)
 refine wo (op_mulN (b := 1) rfl rfl (by omega) ?_)
 refine wo (op_addN rfl rfl (by omega) ?_)
 refine wo (op_assign rfl ?_)
 refine wn ?_
 refine ws ?_
 refine wo (op_move rfl ?_)
 refine wo (op_move rfl ?_)
 refine wo (op_quoN (b := 4) rfl rfl (by omega) (by omega) ?_)
 refine wo (op_mulN (b := 2) rfl rfl (by omega) ?_)
 refine wo (op_addN rfl rfl (by omega) ?_)
 refine wo (op_assign rfl ?_)
 refine wn ?_
 refine ws ?_
 refine wo (op_move rfl ?_)
 refine wo (op_move rfl ?_)
 refine wo (op_quoN (b := 4) rfl rfl (by omega) (by omega) ?_)
 refine wo (op_mulN (b := 3) rfl rfl (by omega) ?_)
 refine wo (op_addN rfl rfl (by omega) ?_)
 refine wo (op_assign rfl ?_)
 refine wn ?_
 refine WC.seq ?_
 refine ws ?_
 refine wo (op_move rfl ?_)
 refine wo (op_geqN (b := 8) rfl rfl ?_)
 refine wn ?_
 refine WC.cond rfl (fun (hb2 : (decide ((b - a) ≥ 8)) = true) => ?_) (fun (hb2 : (decide ((b - a) ≥ 8)) = false) => ?_)
 ·
  have hc2 := of_decide_eq_true hb2
  refine WC.seq ?_
  refine ws ?_
  refine wo (op_move rfl ?_)
  refine wo (op_geqN (b := 50) rfl rfl ?_)
  refine wn ?_
  refine WC.cond rfl (fun (hb3 : (decide ((b - a) ≥ 50)) = true) => ?_) (fun (hb3 : (decide ((b - a) ≥ 50)) = false) => ?_)
  ·
   have hc3 := of_decide_eq_true hb3
   refine ws ?_
   refine wo (op_move rfl ?_)
   refine wo (op_move rfl ?_)
   refine wo (op_callF Fa.C166 rfl ((medadj_ok v n l (a + (((b - a) / 4) * 1)) b1 0 _ _ (H1.part [0, 1] rfl rfl) (by omega) (by omega) (by omega) (by omega) (by omega)).mono (fun e w4 hq => ?_)))
   obtain ⟨s4, x4, rfl, hc4, hq4⟩ := hq
   refine ⟨_, rfl, ?_⟩
   have H4 : Owl.Own T w w4 [.row v 3 1 n (List.map vN l), .blk b1 [(vN s4)] 3] := H1.splice [0, 1] [.row v 3 1 n (List.map vN l), .blk b1 [(vN s4)] 3] [] rfl rfl hq4 (Fits.solid True.intro (Fits.solid True.intro Fits.nil))
   refine wo (op_assign rfl ?_)
   refine wn ?_
   refine ws ?_
   refine wo (op_move rfl ?_)
   refine wo (op_move rfl ?_)
   refine wo (op_callF Fa.C166 rfl ((medadj_ok v n l (a + (((b - a) / 4) * 2)) b1 s4 _ _ (H4.part [0, 1] rfl rfl) (by omega) (by omega) (by omega) (by omega) (by omega)).mono (fun e w5 hq => ?_)))
   obtain ⟨s5, x5, rfl, hc5, hq5⟩ := hq
   refine ⟨_, rfl, ?_⟩
   have H5 : Owl.Own T w w5 [.row v 3 1 n (List.map vN l), .blk b1 [(vN s5)] 3] := H4.splice [0, 1] [.row v 3 1 n (List.map vN l), .blk b1 [(vN s5)] 3] [] rfl rfl hq5 (Fits.solid True.intro (Fits.solid True.intro Fits.nil))
   refine wo (op_assign rfl ?_)
   refine wn ?_
   refine WC.region ?_
   refine wo (op_move rfl ?_)
   refine wo (op_move rfl ?_)
   refine wo (op_callF Fa.C166 rfl ((medadj_ok v n l (a + (((b - a) / 4) * 3)) b1 s5 _ _ (H5.part [0, 1] rfl rfl) (by omega) (by omega) (by omega) (by omega) (by omega)).mono (fun e w6 hq => ?_)))
   obtain ⟨s6, x6, rfl, hc6, hq6⟩ := hq
   refine ⟨_, rfl, ?_⟩
   have H6 : Owl.Own T w w6 [.row v 3 1 n (List.map vN l), .blk b1 [(vN s6)] 3] := H5.splice [0, 1] [.row v 3 1 n (List.map vN l), .blk b1 [(vN s6)] 3] [] rfl rfl hq6 (Fits.solid True.intro (Fits.solid True.intro Fits.nil))
   refine wo (op_assign rfl ?_)
   refine wn ?_
   refine WC.region ?_
   refine wo (op_move rfl ?_)
   refine wo (op_move rfl ?_)
   refine wo (op_move rfl ?_)
   refine wo (op_move rfl ?_)
   refine wo (op_callF Fa.C167 rfl ((med_ok v n l x4 x5 x6 b1 s6 _ _ (H6.part [0, 1] rfl rfl) (by omega) (by omega) (by omega) (by omega) (by omega) (by omega)).mono (fun e w7 hq => ?_)))
   obtain ⟨s7, x7, rfl, hc7, hq7⟩ := hq
   refine ⟨_, rfl, ?_⟩
   have H7 : Owl.Own T w w7 [.row v 3 1 n (List.map vN l), .blk b1 [(vN s7)] 3] := H6.splice [0, 1] [.row v 3 1 n (List.map vN l), .blk b1 [(vN s7)] 3] [] rfl rfl hq7 (Fits.solid True.intro (Fits.solid True.intro Fits.nil))
   refine wo (op_assign rfl ?_)
   refine wn ?_
   refine ws ?_
   refine wo (op_load rfl (H7.cell (i := 1) rfl rfl) Try.underlying3 rfl ?_)
   refine wn ?_
   refine WC.block ?_
   refine ws ?_
   refine wo (op_eqlN (b := 0) rfl rfl ?_)
   refine wo (op_assign rfl ?_)
   refine wn ?_
   refine WC.cond rfl (fun (hb8 : (decide (s7 = 0)) = true) => ?_) (fun (hb8 : (decide (s7 = 0)) = false) => ?_)
   ·
    have hc8 := of_decide_eq_true hb8
    refine ws ?_
    refine wo (op_move rfl ?_)
    refine wo (op_assign rfl ?_)
    refine wo (op_assign rfl ?_)
    refine wn ?_
    refine WC.ret ?_
    refine WQ.inRet ?_
    refine WQ.out (.tmp rfl (.tmp rfl .nil)) ?_
    exact ⟨_, _, rfl, ⟨by omega, by omega⟩, H7.sel [0] rfl rfl⟩
   ·
    have hc8 := of_decide_eq_false hb8
    refine ws ?_
    refine wo (op_eqlN (b := 12) rfl rfl ?_)
    refine wo (op_assign rfl ?_)
    refine wn ?_
    refine WC.cond rfl (fun (hb9 : (decide (s7 = 12)) = true) => ?_) (fun (hb9 : (decide (s7 = 12)) = false) => ?_)
    ·
     have hc9 := of_decide_eq_true hb9
     refine ws ?_
     refine wo (op_move rfl ?_)
     refine wo (op_assign rfl ?_)
     refine wo (op_assign rfl ?_)
     refine wn ?_
     refine WC.ret ?_
     refine WQ.inRet ?_
     refine WQ.out (.tmp rfl (.tmp rfl .nil)) ?_
     exact ⟨_, _, rfl, ⟨by omega, by omega⟩, H7.sel [0] rfl rfl⟩
    ·
     have hc9 := of_decide_eq_false hb9
     refine ws ?_
     refine wo (op_move rfl ?_)
     refine wo (op_assign rfl ?_)
     refine wo (op_assign rfl ?_)
     refine wn ?_
     refine WC.ret ?_
     refine WQ.inRet ?_
     refine WQ.out (.tmp rfl (.tmp rfl .nil)) ?_
     exact ⟨_, _, rfl, ⟨by omega, by omega⟩, H7.sel [0] rfl rfl⟩
  ·
   have hc3 := of_decide_eq_false hb3
   refine WC.skip ?_
   refine WQ.next ?_
   refine WC.region ?_
   refine wo (op_move rfl ?_)
   refine wo (op_move rfl ?_)
   refine wo (op_move rfl ?_)
   refine wo (op_move rfl ?_)
   refine wo (op_callF Fa.C167 rfl ((med_ok v n l (a + (((b - a) / 4) * 1)) (a + (((b - a) / 4) * 2)) (a + (((b - a) / 4) * 3)) b1 0 _ _ (H1.part [0, 1] rfl rfl) (by omega) (by omega) (by omega) (by omega) (by omega) (by omega)).mono (fun e w10 hq => ?_)))
   obtain ⟨s10, x10, rfl, hc10, hq10⟩ := hq
   refine ⟨_, rfl, ?_⟩
   have H10 : Owl.Own T w w10 [.row v 3 1 n (List.map vN l), .blk b1 [(vN s10)] 3] := H1.splice [0, 1] [.row v 3 1 n (List.map vN l), .blk b1 [(vN s10)] 3] [] rfl rfl hq10 (Fits.solid True.intro (Fits.solid True.intro Fits.nil))
   refine wo (op_assign rfl ?_)
   refine wn ?_
   refine ws ?_
   refine wo (op_load rfl (H10.cell (i := 1) rfl rfl) Try.underlying3 rfl ?_)
   refine wn ?_
   refine WC.block ?_
   refine ws ?_
   refine wo (op_eqlN (b := 0) rfl rfl ?_)
   refine wo (op_assign rfl ?_)
   refine wn ?_
   refine WC.cond rfl (fun (hb11 : (decide (s10 = 0)) = true) => ?_) (fun (hb11 : (decide (s10 = 0)) = false) => ?_)
   ·
    have hc11 := of_decide_eq_true hb11
    refine ws ?_
    refine wo (op_move rfl ?_)
    refine wo (op_assign rfl ?_)
    refine wo (op_assign rfl ?_)
    refine wn ?_
    refine WC.ret ?_
    refine WQ.inRet ?_
    refine WQ.out (.tmp rfl (.tmp rfl .nil)) ?_
    exact ⟨_, _, rfl, ⟨by omega, by omega⟩, H10.sel [0] rfl rfl⟩
   ·
    have hc11 := of_decide_eq_false hb11
    refine ws ?_
    refine wo (op_eqlN (b := 12) rfl rfl ?_)
    refine wo (op_assign rfl ?_)
    refine wn ?_
    refine WC.cond rfl (fun (hb12 : (decide (s10 = 12)) = true) => ?_) (fun (hb12 : (decide (s10 = 12)) = false) => ?_)
    ·
     have hc12 := of_decide_eq_true hb12
     refine ws ?_
     refine wo (op_move rfl ?_)
     refine wo (op_assign rfl ?_)
     refine wo (op_assign rfl ?_)
     refine wn ?_
     refine WC.ret ?_
     refine WQ.inRet ?_
     refine WQ.out (.tmp rfl (.tmp rfl .nil)) ?_
     exact ⟨_, _, rfl, ⟨by omega, by omega⟩, H10.sel [0] rfl rfl⟩
    ·
     have hc12 := of_decide_eq_false hb12
     refine ws ?_
     refine wo (op_move rfl ?_)
     refine wo (op_assign rfl ?_)
     refine wo (op_assign rfl ?_)
     refine wn ?_
     refine WC.ret ?_
     refine WQ.inRet ?_
     refine WQ.out (.tmp rfl (.tmp rfl .nil)) ?_
     exact ⟨_, _, rfl, ⟨by omega, by omega⟩, H10.sel [0] rfl rfl⟩
 ·
  have hc2 := of_decide_eq_false hb2
  refine WC.skip ?_
  refine WQ.next ?_
  refine ws ?_
  refine wo (op_load rfl (H1.cell (i := 1) rfl rfl) Try.underlying3 rfl ?_)
  refine wn ?_
  refine WC.block ?_
  refine ws ?_
  refine wo (op_eqlN (b := 0) rfl rfl ?_)
  refine wo (op_assign rfl ?_)
  refine wn ?_
  refine WC.yes rfl (by decide) ?_
  refine ws ?_
  refine wo (op_move rfl ?_)
  refine wo (op_assign rfl ?_)
  refine wo (op_assign rfl ?_)
  refine wn ?_
  refine WC.ret ?_
  refine WQ.inRet ?_
  refine WQ.out (.tmp rfl (.tmp rfl .nil)) ?_
  exact ⟨_, _, rfl, ⟨by omega, by omega⟩, H1.sel [0] rfl rfl⟩
end Go.Proofs.Ytbjhccnffacbcaa
