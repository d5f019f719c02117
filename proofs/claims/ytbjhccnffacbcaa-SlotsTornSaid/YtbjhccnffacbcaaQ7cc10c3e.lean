/- General lemmas and walks: WSlot8, WSlot9. No condition but what each theorem names. -/
import Derived.Test.YtbjhccnffacbcaaQc82fb2da
import Derived.Test.YtbjhccnffacbcaaQd3557b50
import Derived.Test.YtbjhccnffacbcaaQ018bed80
/-! from WSlot8 -/
namespace Go.Proofs.Ytbjhccnffacbcaa
open Go.Owl Go.Spec
set_option maxRecDepth 100000 in
theorem made_ok (nb : UInt32) (key : List UInt8) (w : World) (h4 : 4 ≤ nb.toNat) (hm : nb.toNat ≤ 1024) :
    Calls Try.prog 10 #[(vU32 nb), (str key)] w (fun e w' => ∃ s x k bv e0 e1 xv cv nv, e = .returned (.tuple #[ptr x 0, ptr s 0]) ∧ (∀ b' ∈ [k], w.heap.size ≤ b') ∧ (∀ b' ∈ footA bv [e0, e1], w.heap.size ≤ b') ∧ (∀ b' ∈ footA e0 (List.map str (List.replicate (1 : UInt32).toNat (List.replicate 64 0))), w.heap.size ≤ b') ∧ (∀ b' ∈ [x], w.heap.size ≤ b') ∧ Own [] w w' [.blk s [(ptr x 0), (vU32 1), (str key), (vN ((nb.toNat - 2) / 2)), (vI (-1))] 98, Ent.bo x [(ptr k 0)], Ent.bo k [(vU32 40), xv, cv, nv, bv], Ent.ar bv 1 2 [e0, e1], .row e1 9 1 nb.toNat (List.map str (List.replicate nb.toNat (List.replicate 64 0))), Ent.ar e0 1 (1 : UInt32).toNat (List.map str (List.replicate (1 : UInt32).toNat (List.replicate 64 0)))]) := by
  refine enter (args := [(vU32 nb), (str key)]) Try.func10 rfl rfl ?_
  have H0 : Own [] w w [] := Own.start w []
  refine WC.seq ?_
  refine WC.region ?_
  refine WL.op rfl rfl (op_assign rfl ?_)
  refine WL.op rfl rfl (op_assign rfl ?_)
  refine WL.nil ?_
  refine WQ.next ?_
  refine WC.seq ?_
  refine WC.region ?_
  refine WL.op rfl rfl (op_move rfl ?_)
  refine WL.op rfl rfl (op_buildSlice (cs := [_, _]) H0 Try.underlying46 Fa.I29 rfl rfl rfl rfl (by decide) (by decide) (fun b1 w1 H1 => ?_))
  refine WL.op rfl rfl (op_build (cs := [_, _]) Fa.I48 Fa.PL48 rfl rfl ?_)
  refine WL.op rfl rfl (op_callF Fa.C42 rfl ((exoNew_ok 40 _ 1 nb _ (H1.arrR (i := 0) rfl) (hard_made hm)).mono (fun e w2 hq => ?_)))
  obtain ⟨x2, k2, bv2, e02, e12, xv2, cv2, nv2, rfl, hf02, hf12, hf22, hf32, hq2⟩ := hq
  refine ⟨_, rfl, ?_⟩
  have H2 : Own [] w w2 [.row (.slice (some ⟨b1, 0, none⟩) 2 2) 29 1 2 (List.map vU32 [1, nb]), Ent.bo x2 [(ptr k2 0)], Ent.bo k2 [(vU32 40), xv2, cv2, nv2, bv2], Ent.ar bv2 1 2 [e02, e12], .row e12 9 1 nb.toNat (List.map str (List.replicate nb.toNat (List.replicate 64 0))), Ent.ar e02 1 (1 : UInt32).toNat (List.map str (List.replicate (1 : UInt32).toNat (List.replicate 64 0)))] := H1.splice [] [] [Ent.bo x2 [(ptr k2 0)], Ent.bo k2 [(vU32 40), xv2, cv2, nv2, bv2], Ent.ar bv2 1 2 [e02, e12], .row e12 9 1 nb.toNat (List.map str (List.replicate nb.toNat (List.replicate 64 0))), Ent.ar e02 1 (1 : UInt32).toNat (List.map str (List.replicate (1 : UInt32).toNat (List.replicate 64 0)))] rfl rfl hq2 (Fits.fresh hf32 (Fits.fresh hf02 (Fits.fresh hf12 (Fits.solid True.intro (Fits.fresh hf22 Fits.nil)))))
  refine WL.op rfl rfl (op_move rfl ?_)
  refine WL.op rfl rfl (op_extract rfl rfl ?_)
  refine WL.op rfl rfl (op_extract rfl rfl ?_)
  refine WL.op rfl rfl (op_assign rfl ?_)
  refine WL.op rfl rfl (op_assign rfl ?_)
  refine WL.nil ?_
  refine WQ.next ?_
  refine WC.seq ?_
  refine WC.seq ?_
  refine WC.region ?_
  have hs : w.heap.size ≤ w1.heap.size := H1.fr.size
  refine WL.op rfl rfl (op_move rfl ?_)
  refine WL.op rfl rfl (op_neqN (b := 0) rfl rfl ?_)
  refine WL.op rfl rfl (op_move rfl ?_)
  refine WL.yes rfl rfl rfl (by decide) rfl (op_move rfl ?_)
  refine WL.yes rfl rfl rfl (by decide) rfl (op_eqlPN Fa.PT25 rfl rfl ?_)
  refine WL.op rfl rfl (op_pickF rfl (by decide) rfl ?_)
  refine WL.nil ?_
  refine WQ.next ?_
  refine WC.no rfl rfl ?_
  refine WC.skip ?_
  refine WQ.next ?_
  refine WC.seq ?_
  refine WC.region ?_
  refine WL.op rfl rfl (op_move rfl ?_)
  refine WL.op rfl rfl (op_move rfl ?_)
  refine WL.op rfl rfl (op_callF Fa.C14 rfl ((new44_ok x2 k2 bv2 e12 xv2 cv2 nv2 40 2 nb.toNat ([e02, e12]) (List.replicate nb.toNat (List.replicate 64 0)) 1 key _ (H2.cellsAtO (i := 1) rfl) (H2.cellsAtO (i := 2) rfl) (H2.arrO (i := 3) rfl) (H2.arrR (i := 4) rfl) (by decide) rfl (by omega) (by omega)).mono (fun e w3 hq => ?_)))
  obtain ⟨s3, rfl, hq3⟩ := hq
  refine ⟨_, rfl, ?_⟩
  have H3 : Own [] w w3 [.row (.slice (some ⟨b1, 0, none⟩) 2 2) 29 1 2 (List.map vU32 [1, nb]), Ent.bo x2 [(ptr k2 0)], Ent.bo k2 [(vU32 40), xv2, cv2, nv2, bv2], Ent.ar bv2 1 2 [e02, e12], .row e12 9 1 nb.toNat (List.map str (List.replicate nb.toNat (List.replicate 64 0))), Ent.ar e02 1 (1 : UInt32).toNat (List.map str (List.replicate (1 : UInt32).toNat (List.replicate 64 0))), .blk s3 [(ptr x2 0), (vU32 1), (str key), (vN ((nb.toNat - 2) / 2)), (vI (-1))] 98] := H2.splice [] [] [.blk s3 [(ptr x2 0), (vU32 1), (str key), (vN ((nb.toNat - 2) / 2)), (vI (-1))] 98] rfl rfl hq3 (Fits.solid True.intro Fits.nil)
  refine WL.op rfl rfl (op_move rfl ?_)
  refine WL.op rfl rfl (op_extract rfl rfl ?_)
  refine WL.op rfl rfl (op_extract rfl rfl ?_)
  refine WL.op rfl rfl (op_assign rfl ?_)
  refine WL.op rfl rfl (op_assign rfl ?_)
  refine WL.nil ?_
  refine WQ.next ?_
  refine WC.seq ?_
  refine WC.seq ?_
  refine WC.region ?_
  refine WL.op rfl rfl (op_move rfl ?_)
  refine WL.op rfl rfl (op_neqN (b := 0) rfl rfl ?_)
  refine WL.nil ?_
  refine WQ.next ?_
  refine WC.no rfl (by decide) ?_
  refine WC.skip ?_
  refine WQ.next ?_
  refine WC.seq ?_
  refine WC.region ?_
  refine WL.op rfl rfl (op_move rfl ?_)
  refine WL.op rfl rfl (op_move rfl ?_)
  refine WL.op rfl rfl (op_assign rfl ?_)
  refine WL.op rfl rfl (op_assign rfl ?_)
  refine WL.nil ?_
  refine WQ.next ?_
  refine WC.ret ?_
  refine WQ.out (.tmp rfl (.tmp rfl .nil)) ?_
  exact ⟨_, _, _, _, _, _, _, _, _, rfl, up hf02 hs, up hf12 hs, up hf22 hs, up hf32 hs, H3.sel [6, 1, 2, 3, 4, 5] rfl rfl⟩
set_option maxRecDepth 100000 in
theorem heavy44_ok (key : List UInt8) (lv : Value) (l : List Ak) (w : World) (hA : Arr w lv 4 l.length (List.flatMap akc l)) (hk : key.length < 2 ^ 48) (hfit : AkFit l) (hl : l.length < 2 ^ 47) :
    Calls Try.prog 8 #[(str key), lv] w (fun e w' => e = .returned (.bool (heavy44 key l)) ∧ Fr [] w w') := by
  refine enter (args := [(str key), lv]) Try.func8 rfl rfl ?_
  have H0 : Own [] w w [] := Own.start w []
  refine WC.seq ?_
  refine WC.region ?_
  refine WL.op rfl rfl (op_assign rfl ?_)
  refine WL.nil ?_
  refine WQ.next ?_
  refine WC.seq ?_
  refine WC.region ?_
  refine WL.op rfl rfl (op_move rfl ?_)
  refine WL.op rfl rfl (op_lenStr Try.underlying9 rfl ?_)
  refine WL.op rfl rfl (op_assign rfl ?_)
  refine WL.nil ?_
  refine WQ.next ?_
  refine WC.seq ?_
  refine WC.seq ?_
  refine WC.region ?_
  refine WL.op rfl rfl (op_assign rfl ?_)
  refine WL.nil ?_
  refine WQ.next ?_
  refine WC.block ?_
  refine WC.loop (α := Nat) (fun k => [(0, (str key)), (1, lv), (5, (vN (hvN key l k))), (6, (vN k))]) (fun k w' => (k ≤ min l.length 100) ∧ Own [] w w' []) (fun k => l.length - k) 0 ⟨(Nat.zero_le _), H0⟩ ⟨rfl, rfl, rfl, rfl, trivial⟩ ?_
  rintro k w1 ⟨hk1, H1⟩
  show WC _ _ _ _ _ [(0, (str key)), (1, lv), (5, (vN (hvN key l k))), (6, (vN k))] _
  have hv := hvN_le hk hfit k
  have hg := (hfit k).1
  refine WC.seq ?_
  refine WC.seq ?_
  refine WC.region ?_
  refine WL.op rfl rfl (op_move rfl ?_)
  refine WL.op rfl rfl (op_move rfl ?_)
  refine WL.op rfl rfl (op_lenA Try.underlying22 rfl (H1.arr hA) ?_)
  refine WL.op rfl rfl (op_lssN rfl rfl ?_)
  refine WL.op rfl rfl (op_move rfl ?_)
  refine WL.split (t := 13) rfl (fun (hb2 : (decide (k < l.length)) = true) => ?_) (fun (hb2 : (decide (k < l.length)) = false) => ?_)
  ·
    have hc2 := of_decide_eq_true hb2
    refine WL.yes rfl rfl rfl hb2 rfl (op_move rfl ?_)
    refine WL.yes rfl rfl rfl hb2 rfl (op_lssN (b := 100) rfl rfl ?_)
    refine WL.op rfl rfl (op_pickT rfl hb2 rfl ?_)
    refine WL.nil ?_
    refine WQ.next ?_
    refine WC.cond rfl (fun (hb3 : (decide (k < 100)) = true) => ?_) (fun (hb3 : (decide (k < 100)) = false) => ?_)
    ·
      have hc3 := of_decide_eq_true hb3
      refine WC.skip ?_
      refine WQ.next ?_
      refine WC.seq ?_
      refine WC.block ?_
      refine WC.region ?_
      refine WL.op rfl rfl (op_move rfl ?_)
      refine WL.op rfl rfl (op_move rfl ?_)
      refine WL.op rfl rfl (op_move rfl ?_)
      refine WL.op rfl rfl (op_indexAddr Try.underlying22 Fa.I35 rfl (H1.arr hA) rfl (by omega) ?_)
      refine WL.op rfl rfl (op_fieldAddrS rfl Fa.F35_3 ?_)
      refine WL.op rfl rfl (op_load rfl (Arr.atF (k := 3) (H1.arr hA) (fun _ => rfl) (by decide) Ak.zero (by omega) rfl) Try.underlying9 rfl ?_)
      refine WL.op rfl rfl (op_lenStr Try.underlying9 rfl ?_)
      refine WL.op rfl rfl (op_addN rfl rfl (by omega) ?_)
      refine WL.op rfl rfl (op_assign rfl ?_)
      refine WL.nil ?_
      refine WQ.inNormal ?_
      refine WQ.next ?_
      refine WC.region ?_
      refine WL.op rfl rfl (op_move rfl ?_)
      refine WL.op rfl rfl (op_addN (b := 1) rfl rfl (by omega) ?_)
      refine WL.op rfl rfl (op_assign rfl ?_)
      refine WL.nil ?_
      exact WQ.round (k + 1) ⟨(by omega), H1⟩ ⟨rfl, rfl, rfl, rfl, trivial⟩ (by omega)
    ·
      have hc3 := of_decide_eq_false hb3
      refine WC.exit ?_
      refine WQ.thenExit ?_
      refine WQ.thenExit ?_
      refine WQ.inHere ?_
      refine WQ.next ?_
      refine WC.seq ?_
      refine WC.region ?_
      refine WL.op rfl rfl (op_move rfl ?_)
      refine WL.op rfl rfl (op_lenA Try.underlying22 rfl (H1.arr hA) ?_)
      refine WL.op rfl rfl (op_gtrN (b := 40) rfl rfl ?_)
      refine WL.op rfl rfl (op_move rfl ?_)
      refine WL.split (t := 30) rfl (fun (hb4 : (decide (l.length > 40)) = true) => ?_) (fun (hb4 : (decide (l.length > 40)) = false) => ?_)
      ·
        have hc4 := of_decide_eq_true hb4
        refine WL.no rfl rfl rfl hb4 rfl ?_
        refine WL.no rfl rfl rfl hb4 rfl ?_
        refine WL.op rfl rfl (op_pickT rfl hb4 rfl ?_)
        refine WL.op rfl rfl (op_assign rfl ?_)
        refine WL.nil ?_
        refine WQ.next ?_
        refine WC.ret ?_
        refine WQ.out (.tmp rfl .nil) ?_
        exact ⟨by rw [heavy44, if_pos (of_decide_eq_true hb4)]; rfl, H1.fr⟩
      ·
        have hc4 := of_decide_eq_false hb4
        refine WL.yes rfl rfl rfl hb4 rfl (op_move rfl ?_)
        refine WL.yes rfl rfl rfl hb4 rfl (op_gtrN (b := 6000) rfl rfl ?_)
        refine WL.op rfl rfl (op_pickF rfl hb4 rfl ?_)
        refine WL.op rfl rfl (op_assign rfl ?_)
        refine WL.nil ?_
        refine WQ.next ?_
        refine WC.ret ?_
        refine WQ.out (.tmp rfl .nil) ?_
        exact ⟨by rw [heavy44, if_neg (of_decide_eq_false hb4), show min l.length 100 = k by omega]; rfl, H1.fr⟩
  ·
    have hc2 := of_decide_eq_false hb2
    refine WL.no rfl rfl rfl hb2 rfl ?_
    refine WL.no rfl rfl rfl hb2 rfl ?_
    refine WL.op rfl rfl (op_pickF rfl hb2 rfl ?_)
    refine WL.nil ?_
    refine WQ.next ?_
    refine WC.no rfl rfl ?_
    refine WC.exit ?_
    refine WQ.thenExit ?_
    refine WQ.thenExit ?_
    refine WQ.inHere ?_
    refine WQ.next ?_
    refine WC.seq ?_
    refine WC.region ?_
    refine WL.op rfl rfl (op_move rfl ?_)
    refine WL.op rfl rfl (op_lenA Try.underlying22 rfl (H1.arr hA) ?_)
    refine WL.op rfl rfl (op_gtrN (b := 40) rfl rfl ?_)
    refine WL.op rfl rfl (op_move rfl ?_)
    refine WL.split (t := 30) rfl (fun (hb5 : (decide (l.length > 40)) = true) => ?_) (fun (hb5 : (decide (l.length > 40)) = false) => ?_)
    ·
      have hc5 := of_decide_eq_true hb5
      refine WL.no rfl rfl rfl hb5 rfl ?_
      refine WL.no rfl rfl rfl hb5 rfl ?_
      refine WL.op rfl rfl (op_pickT rfl hb5 rfl ?_)
      refine WL.op rfl rfl (op_assign rfl ?_)
      refine WL.nil ?_
      refine WQ.next ?_
      refine WC.ret ?_
      refine WQ.out (.tmp rfl .nil) ?_
      exact ⟨by rw [heavy44, if_pos (of_decide_eq_true hb5)]; rfl, H1.fr⟩
    ·
      have hc5 := of_decide_eq_false hb5
      refine WL.yes rfl rfl rfl hb5 rfl (op_move rfl ?_)
      refine WL.yes rfl rfl rfl hb5 rfl (op_gtrN (b := 6000) rfl rfl ?_)
      refine WL.op rfl rfl (op_pickF rfl hb5 rfl ?_)
      refine WL.op rfl rfl (op_assign rfl ?_)
      refine WL.nil ?_
      refine WQ.next ?_
      refine WC.ret ?_
      refine WQ.out (.tmp rfl .nil) ?_
      exact ⟨by rw [heavy44, if_neg (of_decide_eq_false hb5), show min l.length 100 = k by omega]; rfl, H1.fr⟩
set_option maxHeartbeats 4000000 in
set_option maxRecDepth 100000 in
theorem alive44_ok  (w : World) :
    Calls Try.prog 9 #[] w (fun e w' => e = .returned (.bool true) ∧ Fr [] w w') := by
  refine enter (args := []) Try.func9 rfl rfl ?_
  have H0 : Own [] w w [] := Own.start w []
  refine WC.seq ?_
  refine WC.region ?_
  refine WL.op rfl rfl (op_assign rfl ?_)
  refine WL.nil ?_
  refine WQ.next ?_
  refine WC.seq ?_
  refine WC.region ?_
  refine WL.op rfl rfl (op_callF Fa.C10 rfl ((made_ok 6 ([107]) _ (by decide) (by decide)).mono (fun e w1 hq => ?_)))
  obtain ⟨s1, x1, k1, bv1, e01, e11, xv1, cv1, nv1, rfl, hf01, hf11, hf21, hf31, hq1⟩ := hq
  refine ⟨_, rfl, ?_⟩
  have H1 : Own [] w w1 [.blk s1 [(ptr x1 0), (vU32 1), (str [107]), (vN (((6 : UInt32).toNat - 2) / 2)), (vI (-1))] 98, Ent.bo x1 [(ptr k1 0)], Ent.bo k1 [(vU32 40), xv1, cv1, nv1, bv1], Ent.ar bv1 1 2 [e01, e11], .row e11 9 1 (6 : UInt32).toNat (List.map str (List.replicate (6 : UInt32).toNat (List.replicate 64 0))), Ent.ar e01 1 (1 : UInt32).toNat (List.map str (List.replicate (1 : UInt32).toNat (List.replicate 64 0)))] := H0.splice [] [] [.blk s1 [(ptr x1 0), (vU32 1), (str [107]), (vN (((6 : UInt32).toNat - 2) / 2)), (vI (-1))] 98, Ent.bo x1 [(ptr k1 0)], Ent.bo k1 [(vU32 40), xv1, cv1, nv1, bv1], Ent.ar bv1 1 2 [e01, e11], .row e11 9 1 (6 : UInt32).toNat (List.map str (List.replicate (6 : UInt32).toNat (List.replicate 64 0))), Ent.ar e01 1 (1 : UInt32).toNat (List.map str (List.replicate (1 : UInt32).toNat (List.replicate 64 0)))] rfl rfl hq1 (Fits.solid True.intro (Fits.fresh hf31 (Fits.fresh hf01 (Fits.fresh hf11 (Fits.solid True.intro (Fits.fresh hf21 Fits.nil))))))
  refine WL.op rfl rfl (op_move rfl ?_)
  refine WL.op rfl rfl (op_extract rfl rfl ?_)
  refine WL.op rfl rfl (op_extract rfl rfl ?_)
  refine WL.op rfl rfl (op_assign rfl ?_)
  refine WL.op rfl rfl (op_assign rfl ?_)
  refine WL.nil ?_
  refine WQ.next ?_
  refine WC.seq ?_
  refine WC.seq ?_
  refine WC.region ?_
  refine WL.op rfl rfl (op_move rfl ?_)
  refine WL.op rfl rfl (op_eqlPN Fa.PT26 rfl rfl ?_)
  refine WL.nil ?_
  refine WQ.next ?_
  refine WC.no rfl rfl ?_
  refine WC.skip ?_
  refine WQ.next ?_
  refine WC.seq ?_
  refine WC.region ?_
  refine WL.op rfl rfl (op_move rfl ?_)
  refine WL.op rfl rfl (op_callF Fa.C13 rfl ((update_ok s1 1 ([107]) (((6 : UInt32).toNat - 2) / 2) (-1) x1 k1 bv1 e11 xv1 cv1 nv1 40 2 ((6 : UInt32).toNat) ([e01, e11]) (List.replicate (6 : UInt32).toNat (List.replicate 64 0)) 1 ([97]) _ _ (H1.part [0, 1, 2, 3, 4] rfl rfl) (by decide) rfl ((SOK.new (6 : UInt32).toNat)).len ((SOK.new (6 : UInt32).toNat)).all (by decide) (by decide) (by decide) (by decide) (by decide) (by decide)).mono (fun e w2 hq => ?_)))
  obtain ⟨rfl, hq2⟩ := hq
  refine ⟨_, rfl, ?_⟩
  have H2 : Own [] w w2 [.blk s1 [(ptr x1 0), (vU32 1), (str [107]), (vN (((6 : UInt32).toNat - 2) / 2)), (vI (updE (Sst.mk (List.replicate (6 : UInt32).toNat (List.replicate 64 0)) (-1)) (((6 : UInt32).toNat - 2) / 2) ([107]) 1 ([97])).1.left)] 98, Ent.bo x1 [(ptr k1 0)], Ent.bo k1 [(vU32 40), xv1, cv1, nv1, bv1], Ent.ar bv1 1 2 [e01, e11], .row e11 9 1 (6 : UInt32).toNat (List.map str (updE (Sst.mk (List.replicate (6 : UInt32).toNat (List.replicate 64 0)) (-1)) (((6 : UInt32).toNat - 2) / 2) ([107]) 1 ([97])).1.B), Ent.ar e01 1 (1 : UInt32).toNat (List.map str (List.replicate (1 : UInt32).toNat (List.replicate 64 0)))] := H1.splice [0, 1, 2, 3, 4] [.blk s1 [(ptr x1 0), (vU32 1), (str [107]), (vN (((6 : UInt32).toNat - 2) / 2)), (vI (updE (Sst.mk (List.replicate (6 : UInt32).toNat (List.replicate 64 0)) (-1)) (((6 : UInt32).toNat - 2) / 2) ([107]) 1 ([97])).1.left)] 98, Ent.bo x1 [(ptr k1 0)], Ent.bo k1 [(vU32 40), xv1, cv1, nv1, bv1], Ent.ar bv1 1 2 [e01, e11], .row e11 9 1 (6 : UInt32).toNat (List.map str (updE (Sst.mk (List.replicate (6 : UInt32).toNat (List.replicate 64 0)) (-1)) (((6 : UInt32).toNat - 2) / 2) ([107]) 1 ([97])).1.B)] [] rfl rfl hq2 (Fits.solid True.intro (Fits.same (j := 1) rfl (Fits.same (j := 2) rfl (Fits.same (j := 3) rfl (Fits.solid True.intro Fits.nil)))))
  refine WL.op rfl rfl (op_move rfl ?_)
  refine WL.op rfl rfl (op_callF Fa.C13 rfl ((update_ok s1 1 ([107]) (((6 : UInt32).toNat - 2) / 2) ((updE (Sst.mk (List.replicate (6 : UInt32).toNat (List.replicate 64 0)) (-1)) (((6 : UInt32).toNat - 2) / 2) ([107]) 1 ([97])).1.left) x1 k1 bv1 e11 xv1 cv1 nv1 40 2 ((6 : UInt32).toNat) ([e01, e11]) ((updE (Sst.mk (List.replicate (6 : UInt32).toNat (List.replicate 64 0)) (-1)) (((6 : UInt32).toNat - 2) / 2) ([107]) 1 ([97])).1.B) 1 ([98]) _ _ (H2.part [0, 1, 2, 3, 4] rfl rfl) (by decide) rfl ((SOK.upd (SOK.new (6 : UInt32).toNat))).len ((SOK.upd (SOK.new (6 : UInt32).toNat))).all (by decide) (by decide) (by decide) (by decide) (updE_left (by decide)) (by decide)).mono (fun e w3 hq => ?_)))
  obtain ⟨rfl, hq3⟩ := hq
  refine ⟨_, rfl, ?_⟩
  have H3 : Own [] w w3 [.blk s1 [(ptr x1 0), (vU32 1), (str [107]), (vN (((6 : UInt32).toNat - 2) / 2)), (vI (updE (Sst.mk ((updE (Sst.mk (List.replicate (6 : UInt32).toNat (List.replicate 64 0)) (-1)) (((6 : UInt32).toNat - 2) / 2) ([107]) 1 ([97])).1.B) ((updE (Sst.mk (List.replicate (6 : UInt32).toNat (List.replicate 64 0)) (-1)) (((6 : UInt32).toNat - 2) / 2) ([107]) 1 ([97])).1.left)) (((6 : UInt32).toNat - 2) / 2) ([107]) 1 ([98])).1.left)] 98, Ent.bo x1 [(ptr k1 0)], Ent.bo k1 [(vU32 40), xv1, cv1, nv1, bv1], Ent.ar bv1 1 2 [e01, e11], .row e11 9 1 (6 : UInt32).toNat (List.map str (updE (Sst.mk ((updE (Sst.mk (List.replicate (6 : UInt32).toNat (List.replicate 64 0)) (-1)) (((6 : UInt32).toNat - 2) / 2) ([107]) 1 ([97])).1.B) ((updE (Sst.mk (List.replicate (6 : UInt32).toNat (List.replicate 64 0)) (-1)) (((6 : UInt32).toNat - 2) / 2) ([107]) 1 ([97])).1.left)) (((6 : UInt32).toNat - 2) / 2) ([107]) 1 ([98])).1.B), Ent.ar e01 1 (1 : UInt32).toNat (List.map str (List.replicate (1 : UInt32).toNat (List.replicate 64 0)))] := H2.splice [0, 1, 2, 3, 4] [.blk s1 [(ptr x1 0), (vU32 1), (str [107]), (vN (((6 : UInt32).toNat - 2) / 2)), (vI (updE (Sst.mk ((updE (Sst.mk (List.replicate (6 : UInt32).toNat (List.replicate 64 0)) (-1)) (((6 : UInt32).toNat - 2) / 2) ([107]) 1 ([97])).1.B) ((updE (Sst.mk (List.replicate (6 : UInt32).toNat (List.replicate 64 0)) (-1)) (((6 : UInt32).toNat - 2) / 2) ([107]) 1 ([97])).1.left)) (((6 : UInt32).toNat - 2) / 2) ([107]) 1 ([98])).1.left)] 98, Ent.bo x1 [(ptr k1 0)], Ent.bo k1 [(vU32 40), xv1, cv1, nv1, bv1], Ent.ar bv1 1 2 [e01, e11], .row e11 9 1 (6 : UInt32).toNat (List.map str (updE (Sst.mk ((updE (Sst.mk (List.replicate (6 : UInt32).toNat (List.replicate 64 0)) (-1)) (((6 : UInt32).toNat - 2) / 2) ([107]) 1 ([97])).1.B) ((updE (Sst.mk (List.replicate (6 : UInt32).toNat (List.replicate 64 0)) (-1)) (((6 : UInt32).toNat - 2) / 2) ([107]) 1 ([97])).1.left)) (((6 : UInt32).toNat - 2) / 2) ([107]) 1 ([98])).1.B)] [] rfl rfl hq3 (Fits.solid True.intro (Fits.same (j := 1) rfl (Fits.same (j := 2) rfl (Fits.same (j := 3) rfl (Fits.solid True.intro Fits.nil)))))
  refine WL.op rfl rfl (op_assign rfl ?_)
  refine WL.op rfl rfl (op_assign rfl ?_)
  refine WL.nil ?_
  refine WQ.next ?_
  refine WC.seq ?_
  refine WC.region ?_
  refine WL.op rfl rfl (op_move rfl ?_)
  refine WL.op rfl rfl (op_callF Fa.C12 rfl ((fuse_ok s1 (ptr x1 0) rfl 1 ([107]) (((6 : UInt32).toNat - 2) / 2) ((updE (Sst.mk ((updE (Sst.mk (List.replicate (6 : UInt32).toNat (List.replicate 64 0)) (-1)) (((6 : UInt32).toNat - 2) / 2) ([107]) 1 ([97])).1.B) ((updE (Sst.mk (List.replicate (6 : UInt32).toNat (List.replicate 64 0)) (-1)) (((6 : UInt32).toNat - 2) / 2) ([107]) 1 ([97])).1.left)) (((6 : UInt32).toNat - 2) / 2) ([107]) 1 ([98])).1.left) (2 : Int) _ _ (H3.part [0] rfl rfl)).mono (fun e w4 hq => ?_)))
  obtain ⟨rfl, hq4⟩ := hq
  refine ⟨_, rfl, ?_⟩
  have H4 : Own [] w w4 [.blk s1 [(ptr x1 0), (vU32 1), (str [107]), (vN (((6 : UInt32).toNat - 2) / 2)), (vI (max (2 : Int) (-1)))] 98, Ent.bo x1 [(ptr k1 0)], Ent.bo k1 [(vU32 40), xv1, cv1, nv1, bv1], Ent.ar bv1 1 2 [e01, e11], .row e11 9 1 (6 : UInt32).toNat (List.map str (updE (Sst.mk ((updE (Sst.mk (List.replicate (6 : UInt32).toNat (List.replicate 64 0)) (-1)) (((6 : UInt32).toNat - 2) / 2) ([107]) 1 ([97])).1.B) ((updE (Sst.mk (List.replicate (6 : UInt32).toNat (List.replicate 64 0)) (-1)) (((6 : UInt32).toNat - 2) / 2) ([107]) 1 ([97])).1.left)) (((6 : UInt32).toNat - 2) / 2) ([107]) 1 ([98])).1.B), Ent.ar e01 1 (1 : UInt32).toNat (List.map str (List.replicate (1 : UInt32).toNat (List.replicate 64 0)))] := H3.splice [0] [.blk s1 [(ptr x1 0), (vU32 1), (str [107]), (vN (((6 : UInt32).toNat - 2) / 2)), (vI (max (2 : Int) (-1)))] 98] [] rfl rfl hq4 (Fits.solid True.intro Fits.nil)
  refine WL.nil ?_
  refine WQ.next ?_
  refine WC.seq ?_
  refine WC.region ?_
  refine WL.op rfl rfl (op_move rfl ?_)
  refine WL.op rfl rfl (op_callF Fa.C13 rfl ((update_ok s1 1 ([107]) (((6 : UInt32).toNat - 2) / 2) (max (2 : Int) (-1)) x1 k1 bv1 e11 xv1 cv1 nv1 40 2 ((6 : UInt32).toNat) ([e01, e11]) ((updE (Sst.mk ((updE (Sst.mk (List.replicate (6 : UInt32).toNat (List.replicate 64 0)) (-1)) (((6 : UInt32).toNat - 2) / 2) ([107]) 1 ([97])).1.B) ((updE (Sst.mk (List.replicate (6 : UInt32).toNat (List.replicate 64 0)) (-1)) (((6 : UInt32).toNat - 2) / 2) ([107]) 1 ([97])).1.left)) (((6 : UInt32).toNat - 2) / 2) ([107]) 1 ([98])).1.B) 2 ([98]) _ _ (H4.part [0, 1, 2, 3, 4] rfl rfl) (by decide) rfl ((SOK.upd (SOK.upd (SOK.new (6 : UInt32).toNat)))).len ((SOK.upd (SOK.upd (SOK.new (6 : UInt32).toNat)))).all (by decide) (by decide) (by decide) (by decide) (max_left (by decide)) (by decide)).mono (fun e w5 hq => ?_)))
  obtain ⟨rfl, hq5⟩ := hq
  refine ⟨_, rfl, ?_⟩
  have H5 : Own [] w w5 [.blk s1 [(ptr x1 0), (vU32 1), (str [107]), (vN (((6 : UInt32).toNat - 2) / 2)), (vI (updE (Sst.mk ((updE (Sst.mk ((updE (Sst.mk (List.replicate (6 : UInt32).toNat (List.replicate 64 0)) (-1)) (((6 : UInt32).toNat - 2) / 2) ([107]) 1 ([97])).1.B) ((updE (Sst.mk (List.replicate (6 : UInt32).toNat (List.replicate 64 0)) (-1)) (((6 : UInt32).toNat - 2) / 2) ([107]) 1 ([97])).1.left)) (((6 : UInt32).toNat - 2) / 2) ([107]) 1 ([98])).1.B) (max (2 : Int) (-1))) (((6 : UInt32).toNat - 2) / 2) ([107]) 2 ([98])).1.left)] 98, Ent.bo x1 [(ptr k1 0)], Ent.bo k1 [(vU32 40), xv1, cv1, nv1, bv1], Ent.ar bv1 1 2 [e01, e11], .row e11 9 1 (6 : UInt32).toNat (List.map str (updE (Sst.mk ((updE (Sst.mk ((updE (Sst.mk (List.replicate (6 : UInt32).toNat (List.replicate 64 0)) (-1)) (((6 : UInt32).toNat - 2) / 2) ([107]) 1 ([97])).1.B) ((updE (Sst.mk (List.replicate (6 : UInt32).toNat (List.replicate 64 0)) (-1)) (((6 : UInt32).toNat - 2) / 2) ([107]) 1 ([97])).1.left)) (((6 : UInt32).toNat - 2) / 2) ([107]) 1 ([98])).1.B) (max (2 : Int) (-1))) (((6 : UInt32).toNat - 2) / 2) ([107]) 2 ([98])).1.B), Ent.ar e01 1 (1 : UInt32).toNat (List.map str (List.replicate (1 : UInt32).toNat (List.replicate 64 0)))] := H4.splice [0, 1, 2, 3, 4] [.blk s1 [(ptr x1 0), (vU32 1), (str [107]), (vN (((6 : UInt32).toNat - 2) / 2)), (vI (updE (Sst.mk ((updE (Sst.mk ((updE (Sst.mk (List.replicate (6 : UInt32).toNat (List.replicate 64 0)) (-1)) (((6 : UInt32).toNat - 2) / 2) ([107]) 1 ([97])).1.B) ((updE (Sst.mk (List.replicate (6 : UInt32).toNat (List.replicate 64 0)) (-1)) (((6 : UInt32).toNat - 2) / 2) ([107]) 1 ([97])).1.left)) (((6 : UInt32).toNat - 2) / 2) ([107]) 1 ([98])).1.B) (max (2 : Int) (-1))) (((6 : UInt32).toNat - 2) / 2) ([107]) 2 ([98])).1.left)] 98, Ent.bo x1 [(ptr k1 0)], Ent.bo k1 [(vU32 40), xv1, cv1, nv1, bv1], Ent.ar bv1 1 2 [e01, e11], .row e11 9 1 (6 : UInt32).toNat (List.map str (updE (Sst.mk ((updE (Sst.mk ((updE (Sst.mk (List.replicate (6 : UInt32).toNat (List.replicate 64 0)) (-1)) (((6 : UInt32).toNat - 2) / 2) ([107]) 1 ([97])).1.B) ((updE (Sst.mk (List.replicate (6 : UInt32).toNat (List.replicate 64 0)) (-1)) (((6 : UInt32).toNat - 2) / 2) ([107]) 1 ([97])).1.left)) (((6 : UInt32).toNat - 2) / 2) ([107]) 1 ([98])).1.B) (max (2 : Int) (-1))) (((6 : UInt32).toNat - 2) / 2) ([107]) 2 ([98])).1.B)] [] rfl rfl hq5 (Fits.solid True.intro (Fits.same (j := 1) rfl (Fits.same (j := 2) rfl (Fits.same (j := 3) rfl (Fits.solid True.intro Fits.nil)))))
  refine WL.op rfl rfl (op_assign rfl ?_)
  refine WL.nil ?_
  refine WQ.next ?_
  refine WC.seq ?_
  refine WC.region ?_
  refine WL.op rfl rfl (op_move rfl ?_)
  refine WL.op rfl rfl (op_callF Fa.C11 rfl ((current_ok s1 1 ([107]) (((6 : UInt32).toNat - 2) / 2) ((updE (Sst.mk ((updE (Sst.mk ((updE (Sst.mk (List.replicate (6 : UInt32).toNat (List.replicate 64 0)) (-1)) (((6 : UInt32).toNat - 2) / 2) ([107]) 1 ([97])).1.B) ((updE (Sst.mk (List.replicate (6 : UInt32).toNat (List.replicate 64 0)) (-1)) (((6 : UInt32).toNat - 2) / 2) ([107]) 1 ([97])).1.left)) (((6 : UInt32).toNat - 2) / 2) ([107]) 1 ([98])).1.B) (max (2 : Int) (-1))) (((6 : UInt32).toNat - 2) / 2) ([107]) 2 ([98])).1.left) x1 k1 bv1 e11 xv1 cv1 nv1 40 2 ((6 : UInt32).toNat) ([e01, e11]) ((updE (Sst.mk ((updE (Sst.mk ((updE (Sst.mk (List.replicate (6 : UInt32).toNat (List.replicate 64 0)) (-1)) (((6 : UInt32).toNat - 2) / 2) ([107]) 1 ([97])).1.B) ((updE (Sst.mk (List.replicate (6 : UInt32).toNat (List.replicate 64 0)) (-1)) (((6 : UInt32).toNat - 2) / 2) ([107]) 1 ([97])).1.left)) (((6 : UInt32).toNat - 2) / 2) ([107]) 1 ([98])).1.B) (max (2 : Int) (-1))) (((6 : UInt32).toNat - 2) / 2) ([107]) 2 ([98])).1.B) _ (H5.cellsAt (i := 0) rfl) (H5.cellsAtO (i := 1) rfl) (H5.cellsAtO (i := 2) rfl) (H5.arrO (i := 3) rfl) (H5.arrR (i := 4) rfl) (by decide) rfl ((SOK.upd (SOK.upd (SOK.upd (SOK.new (6 : UInt32).toNat))))).len ((SOK.upd (SOK.upd (SOK.upd (SOK.new (6 : UInt32).toNat))))).all (by decide) (by decide) (by decide)).mono (fun e w6 hq => ?_)))
  obtain ⟨rfl, hf6⟩ := hq
  refine ⟨_, rfl, ?_⟩
  have H6 := H5.fr' hf6
  refine WL.op rfl rfl (op_move rfl ?_)
  refine WL.op rfl rfl (op_extract rfl rfl ?_)
  refine WL.op rfl rfl (op_extract rfl rfl ?_)
  refine WL.op rfl rfl (op_extract rfl rfl ?_)
  refine WL.op rfl rfl (op_assign rfl ?_)
  refine WL.op rfl rfl (op_assign rfl ?_)
  refine WL.op rfl rfl (op_assign rfl ?_)
  refine WL.nil ?_
  refine WQ.next ?_
  refine WC.seq ?_
  refine WC.region ?_
  refine WL.op rfl rfl (op_move rfl ?_)
  refine WL.op rfl rfl (op_callF Fa.C12 rfl ((fuse_ok s1 (ptr x1 0) rfl 1 ([107]) (((6 : UInt32).toNat - 2) / 2) ((updE (Sst.mk ((updE (Sst.mk ((updE (Sst.mk (List.replicate (6 : UInt32).toNat (List.replicate 64 0)) (-1)) (((6 : UInt32).toNat - 2) / 2) ([107]) 1 ([97])).1.B) ((updE (Sst.mk (List.replicate (6 : UInt32).toNat (List.replicate 64 0)) (-1)) (((6 : UInt32).toNat - 2) / 2) ([107]) 1 ([97])).1.left)) (((6 : UInt32).toNat - 2) / 2) ([107]) 1 ([98])).1.B) (max (2 : Int) (-1))) (((6 : UInt32).toNat - 2) / 2) ([107]) 2 ([98])).1.left) (-1) _ _ (H6.part [0] rfl rfl)).mono (fun e w7 hq => ?_)))
  obtain ⟨rfl, hq7⟩ := hq
  refine ⟨_, rfl, ?_⟩
  have H7 : Own [] w w7 [.blk s1 [(ptr x1 0), (vU32 1), (str [107]), (vN (((6 : UInt32).toNat - 2) / 2)), (vI (max (-1) (-1)))] 98, Ent.bo x1 [(ptr k1 0)], Ent.bo k1 [(vU32 40), xv1, cv1, nv1, bv1], Ent.ar bv1 1 2 [e01, e11], .row e11 9 1 (6 : UInt32).toNat (List.map str (updE (Sst.mk ((updE (Sst.mk ((updE (Sst.mk (List.replicate (6 : UInt32).toNat (List.replicate 64 0)) (-1)) (((6 : UInt32).toNat - 2) / 2) ([107]) 1 ([97])).1.B) ((updE (Sst.mk (List.replicate (6 : UInt32).toNat (List.replicate 64 0)) (-1)) (((6 : UInt32).toNat - 2) / 2) ([107]) 1 ([97])).1.left)) (((6 : UInt32).toNat - 2) / 2) ([107]) 1 ([98])).1.B) (max (2 : Int) (-1))) (((6 : UInt32).toNat - 2) / 2) ([107]) 2 ([98])).1.B), Ent.ar e01 1 (1 : UInt32).toNat (List.map str (List.replicate (1 : UInt32).toNat (List.replicate 64 0)))] := H6.splice [0] [.blk s1 [(ptr x1 0), (vU32 1), (str [107]), (vN (((6 : UInt32).toNat - 2) / 2)), (vI (max (-1) (-1)))] 98] [] rfl rfl hq7 (Fits.solid True.intro Fits.nil)
  refine WL.nil ?_
  refine WQ.next ?_
  refine WC.seq ?_
  refine WC.region ?_
  refine WL.op rfl rfl (op_move rfl ?_)
  refine WL.op rfl rfl (op_callF Fa.C13 rfl ((update_ok s1 1 ([107]) (((6 : UInt32).toNat - 2) / 2) (max (-1) (-1)) x1 k1 bv1 e11 xv1 cv1 nv1 40 2 ((6 : UInt32).toNat) ([e01, e11]) ((updE (Sst.mk ((updE (Sst.mk ((updE (Sst.mk (List.replicate (6 : UInt32).toNat (List.replicate 64 0)) (-1)) (((6 : UInt32).toNat - 2) / 2) ([107]) 1 ([97])).1.B) ((updE (Sst.mk (List.replicate (6 : UInt32).toNat (List.replicate 64 0)) (-1)) (((6 : UInt32).toNat - 2) / 2) ([107]) 1 ([97])).1.left)) (((6 : UInt32).toNat - 2) / 2) ([107]) 1 ([98])).1.B) (max (2 : Int) (-1))) (((6 : UInt32).toNat - 2) / 2) ([107]) 2 ([98])).1.B) 2 ([98]) _ _ (H7.part [0, 1, 2, 3, 4] rfl rfl) (by decide) rfl ((SOK.upd (SOK.upd (SOK.upd (SOK.new (6 : UInt32).toNat))))).len ((SOK.upd (SOK.upd (SOK.upd (SOK.new (6 : UInt32).toNat))))).all (by decide) (by decide) (by decide) (by decide) (max_left (by decide)) (by decide)).mono (fun e w8 hq => ?_)))
  obtain ⟨rfl, hq8⟩ := hq
  refine ⟨_, rfl, ?_⟩
  have H8 : Own [] w w8 [.blk s1 [(ptr x1 0), (vU32 1), (str [107]), (vN (((6 : UInt32).toNat - 2) / 2)), (vI (updE (Sst.mk ((updE (Sst.mk ((updE (Sst.mk ((updE (Sst.mk (List.replicate (6 : UInt32).toNat (List.replicate 64 0)) (-1)) (((6 : UInt32).toNat - 2) / 2) ([107]) 1 ([97])).1.B) ((updE (Sst.mk (List.replicate (6 : UInt32).toNat (List.replicate 64 0)) (-1)) (((6 : UInt32).toNat - 2) / 2) ([107]) 1 ([97])).1.left)) (((6 : UInt32).toNat - 2) / 2) ([107]) 1 ([98])).1.B) (max (2 : Int) (-1))) (((6 : UInt32).toNat - 2) / 2) ([107]) 2 ([98])).1.B) (max (-1) (-1))) (((6 : UInt32).toNat - 2) / 2) ([107]) 2 ([98])).1.left)] 98, Ent.bo x1 [(ptr k1 0)], Ent.bo k1 [(vU32 40), xv1, cv1, nv1, bv1], Ent.ar bv1 1 2 [e01, e11], .row e11 9 1 (6 : UInt32).toNat (List.map str (updE (Sst.mk ((updE (Sst.mk ((updE (Sst.mk ((updE (Sst.mk (List.replicate (6 : UInt32).toNat (List.replicate 64 0)) (-1)) (((6 : UInt32).toNat - 2) / 2) ([107]) 1 ([97])).1.B) ((updE (Sst.mk (List.replicate (6 : UInt32).toNat (List.replicate 64 0)) (-1)) (((6 : UInt32).toNat - 2) / 2) ([107]) 1 ([97])).1.left)) (((6 : UInt32).toNat - 2) / 2) ([107]) 1 ([98])).1.B) (max (2 : Int) (-1))) (((6 : UInt32).toNat - 2) / 2) ([107]) 2 ([98])).1.B) (max (-1) (-1))) (((6 : UInt32).toNat - 2) / 2) ([107]) 2 ([98])).1.B), Ent.ar e01 1 (1 : UInt32).toNat (List.map str (List.replicate (1 : UInt32).toNat (List.replicate 64 0)))] := H7.splice [0, 1, 2, 3, 4] [.blk s1 [(ptr x1 0), (vU32 1), (str [107]), (vN (((6 : UInt32).toNat - 2) / 2)), (vI (updE (Sst.mk ((updE (Sst.mk ((updE (Sst.mk ((updE (Sst.mk (List.replicate (6 : UInt32).toNat (List.replicate 64 0)) (-1)) (((6 : UInt32).toNat - 2) / 2) ([107]) 1 ([97])).1.B) ((updE (Sst.mk (List.replicate (6 : UInt32).toNat (List.replicate 64 0)) (-1)) (((6 : UInt32).toNat - 2) / 2) ([107]) 1 ([97])).1.left)) (((6 : UInt32).toNat - 2) / 2) ([107]) 1 ([98])).1.B) (max (2 : Int) (-1))) (((6 : UInt32).toNat - 2) / 2) ([107]) 2 ([98])).1.B) (max (-1) (-1))) (((6 : UInt32).toNat - 2) / 2) ([107]) 2 ([98])).1.left)] 98, Ent.bo x1 [(ptr k1 0)], Ent.bo k1 [(vU32 40), xv1, cv1, nv1, bv1], Ent.ar bv1 1 2 [e01, e11], .row e11 9 1 (6 : UInt32).toNat (List.map str (updE (Sst.mk ((updE (Sst.mk ((updE (Sst.mk ((updE (Sst.mk (List.replicate (6 : UInt32).toNat (List.replicate 64 0)) (-1)) (((6 : UInt32).toNat - 2) / 2) ([107]) 1 ([97])).1.B) ((updE (Sst.mk (List.replicate (6 : UInt32).toNat (List.replicate 64 0)) (-1)) (((6 : UInt32).toNat - 2) / 2) ([107]) 1 ([97])).1.left)) (((6 : UInt32).toNat - 2) / 2) ([107]) 1 ([98])).1.B) (max (2 : Int) (-1))) (((6 : UInt32).toNat - 2) / 2) ([107]) 2 ([98])).1.B) (max (-1) (-1))) (((6 : UInt32).toNat - 2) / 2) ([107]) 2 ([98])).1.B)] [] rfl rfl hq8 (Fits.solid True.intro (Fits.same (j := 1) rfl (Fits.same (j := 2) rfl (Fits.same (j := 3) rfl (Fits.solid True.intro Fits.nil)))))
  refine WL.op rfl rfl (op_assign rfl ?_)
  refine WL.nil ?_
  refine WQ.next ?_
  refine WC.seq ?_
  refine WC.region ?_
  refine WL.op rfl rfl (op_move rfl ?_)
  refine WL.op rfl rfl (op_callF Fa.C40 rfl ((slot_ok s1 1 ([107]) (((6 : UInt32).toNat - 2) / 2) ((updE (Sst.mk ((updE (Sst.mk ((updE (Sst.mk ((updE (Sst.mk (List.replicate (6 : UInt32).toNat (List.replicate 64 0)) (-1)) (((6 : UInt32).toNat - 2) / 2) ([107]) 1 ([97])).1.B) ((updE (Sst.mk (List.replicate (6 : UInt32).toNat (List.replicate 64 0)) (-1)) (((6 : UInt32).toNat - 2) / 2) ([107]) 1 ([97])).1.left)) (((6 : UInt32).toNat - 2) / 2) ([107]) 1 ([98])).1.B) (max (2 : Int) (-1))) (((6 : UInt32).toNat - 2) / 2) ([107]) 2 ([98])).1.B) (max (-1) (-1))) (((6 : UInt32).toNat - 2) / 2) ([107]) 2 ([98])).1.left) x1 k1 bv1 e11 xv1 cv1 nv1 40 2 ((6 : UInt32).toNat) ([e01, e11]) ((updE (Sst.mk ((updE (Sst.mk ((updE (Sst.mk ((updE (Sst.mk (List.replicate (6 : UInt32).toNat (List.replicate 64 0)) (-1)) (((6 : UInt32).toNat - 2) / 2) ([107]) 1 ([97])).1.B) ((updE (Sst.mk (List.replicate (6 : UInt32).toNat (List.replicate 64 0)) (-1)) (((6 : UInt32).toNat - 2) / 2) ([107]) 1 ([97])).1.left)) (((6 : UInt32).toNat - 2) / 2) ([107]) 1 ([98])).1.B) (max (2 : Int) (-1))) (((6 : UInt32).toNat - 2) / 2) ([107]) 2 ([98])).1.B) (max (-1) (-1))) (((6 : UInt32).toNat - 2) / 2) ([107]) 2 ([98])).1.B) 1 _ (H8.cellsAt (i := 0) rfl) (H8.cellsAtO (i := 1) rfl) (H8.cellsAtO (i := 2) rfl) (H8.arrO (i := 3) rfl) (H8.arrR (i := 4) rfl) (by decide) rfl ((SOK.upd (SOK.upd (SOK.upd (SOK.upd (SOK.new (6 : UInt32).toNat)))))).len ((SOK.upd (SOK.upd (SOK.upd (SOK.upd (SOK.new (6 : UInt32).toNat)))))).all (by decide) (by decide) (by decide) (by decide)).mono (fun e w9 hq => ?_)))
  obtain ⟨rfl, hf9⟩ := hq
  refine ⟨_, rfl, ?_⟩
  have H9 := H8.fr' hf9
  refine WL.op rfl rfl (op_move rfl ?_)
  refine WL.op rfl rfl (op_extract rfl rfl ?_)
  refine WL.op rfl rfl (op_extract rfl rfl ?_)
  refine WL.op rfl rfl (op_extract rfl rfl ?_)
  refine WL.op rfl rfl (op_assign rfl ?_)
  refine WL.op rfl rfl (op_assign rfl ?_)
  refine WL.op rfl rfl (op_assign rfl ?_)
  refine WL.nil ?_
  refine WQ.next ?_
  refine WC.seq ?_
  refine WC.region ?_
  refine WL.op rfl rfl (op_move rfl ?_)
  refine WL.op rfl rfl (op_callF Fa.C14 rfl ((new44_no x1 k1 bv1 e01 xv1 cv1 nv1 40 2 ((1 : UInt32).toNat) ([e01, e11]) (List.replicate (1 : UInt32).toNat (List.replicate 64 0)) 0 ([107]) _ (H9.cellsAtO (i := 1) rfl) (H9.cellsAtO (i := 2) rfl) (H9.arrO (i := 3) rfl) (H9.arrO (i := 5) rfl) (by decide) rfl (by decide) (by decide)).mono (fun e w10 hq => ?_)))
  obtain ⟨rfl, hf10⟩ := hq
  refine ⟨_, rfl, ?_⟩
  have H10 := H9.fr' hf10
  refine WL.op rfl rfl (op_move rfl ?_)
  refine WL.op rfl rfl (op_extract rfl rfl ?_)
  refine WL.op rfl rfl (op_extract rfl rfl ?_)
  refine WL.op rfl rfl (op_assign rfl ?_)
  refine WL.op rfl rfl (op_assign rfl ?_)
  refine WL.nil ?_
  refine WQ.next ?_
  refine WC.seq ?_
  refine WC.region ?_
  refine WL.op rfl rfl (op_move rfl ?_)
  refine WL.op rfl rfl (op_callF Fa.C41 rfl ((room_ok s1 (ptr x1 0) 1 ([107]) (((6 : UInt32).toNat - 2) / 2) ((updE (Sst.mk ((updE (Sst.mk ((updE (Sst.mk ((updE (Sst.mk (List.replicate (6 : UInt32).toNat (List.replicate 64 0)) (-1)) (((6 : UInt32).toNat - 2) / 2) ([107]) 1 ([97])).1.B) ((updE (Sst.mk (List.replicate (6 : UInt32).toNat (List.replicate 64 0)) (-1)) (((6 : UInt32).toNat - 2) / 2) ([107]) 1 ([97])).1.left)) (((6 : UInt32).toNat - 2) / 2) ([107]) 1 ([98])).1.B) (max (2 : Int) (-1))) (((6 : UInt32).toNat - 2) / 2) ([107]) 2 ([98])).1.B) (max (-1) (-1))) (((6 : UInt32).toNat - 2) / 2) ([107]) 2 ([98])).1.left) _ (H10.cellsAt (i := 0) rfl) (by decide)).mono (fun e w11 hq => ?_)))
  obtain ⟨rfl, hf11⟩ := hq
  refine ⟨_, rfl, ?_⟩
  have H11 := H10.fr' hf11
  refine WL.op rfl rfl (op_eqlN (b := 128) rfl rfl ?_)
  refine WL.op rfl rfl (op_move rfl ?_)
  refine WL.yes rfl rfl rfl rfl rfl (op_move rfl ?_)
  refine WL.yes rfl rfl rfl rfl rfl (op_eqlN (b := 0) rfl rfl ?_)
  refine WL.op rfl rfl (op_pickT rfl rfl rfl ?_)
  refine WL.op rfl rfl (op_move rfl ?_)
  refine WL.yes rfl rfl rfl (decide_eq_true (al44 (n := (6 : UInt32).toNat) (each := ((6 : UInt32).toNat - 2) / 2) (key := [107]) rfl rfl).1) rfl (op_move rfl ?_)
  refine WL.yes rfl rfl rfl (decide_eq_true (al44 (n := (6 : UInt32).toNat) (each := ((6 : UInt32).toNat - 2) / 2) (key := [107]) rfl rfl).1) rfl (op_eqlN (b := 440) rfl rfl ?_)
  refine WL.op rfl rfl (op_pickT rfl (decide_eq_true (al44 (n := (6 : UInt32).toNat) (each := ((6 : UInt32).toNat - 2) / 2) (key := [107]) rfl rfl).1) rfl ?_)
  refine WL.op rfl rfl (op_move rfl ?_)
  refine WL.yes rfl rfl rfl (decide_eq_true (al44 (n := (6 : UInt32).toNat) (each := ((6 : UInt32).toNat - 2) / 2) (key := [107]) rfl rfl).2.1) rfl (op_move rfl ?_)
  refine WL.yes rfl rfl rfl (decide_eq_true (al44 (n := (6 : UInt32).toNat) (each := ((6 : UInt32).toNat - 2) / 2) (key := [107]) rfl rfl).2.1) rfl (op_eqlN (b := 441) rfl rfl ?_)
  refine WL.op rfl rfl (op_pickT rfl (decide_eq_true (al44 (n := (6 : UInt32).toNat) (each := ((6 : UInt32).toNat - 2) / 2) (key := [107]) rfl rfl).2.1) rfl ?_)
  refine WL.op rfl rfl (op_move rfl ?_)
  refine WL.yes rfl rfl rfl (decide_eq_true (al44 (n := (6 : UInt32).toNat) (each := ((6 : UInt32).toNat - 2) / 2) (key := [107]) rfl rfl).2.2.1) rfl (op_move rfl ?_)
  refine WL.yes rfl rfl rfl (decide_eq_true (al44 (n := (6 : UInt32).toNat) (each := ((6 : UInt32).toNat - 2) / 2) (key := [107]) rfl rfl).2.2.1) rfl (op_eqlU32 (b := 1) rfl rfl ?_)
  refine WL.op rfl rfl (op_pickT rfl (decide_eq_true (al44 (n := (6 : UInt32).toNat) (each := ((6 : UInt32).toNat - 2) / 2) (key := [107]) rfl rfl).2.2.1) rfl ?_)
  refine WL.op rfl rfl (op_move rfl ?_)
  refine WL.yes rfl rfl rfl (decide_eq_true (by rw [(al44 (n := (6 : UInt32).toNat) (each := ((6 : UInt32).toNat - 2) / 2) (key := [107]) rfl rfl).2.2.2.1])) rfl (op_move rfl ?_)
  refine WL.yes rfl rfl rfl (decide_eq_true (by rw [(al44 (n := (6 : UInt32).toNat) (each := ((6 : UInt32).toNat - 2) / 2) (key := [107]) rfl rfl).2.2.2.1])) rfl (op_eqlStr rfl rfl ?_)
  refine WL.op rfl rfl (op_pickT rfl (decide_eq_true (by rw [(al44 (n := (6 : UInt32).toNat) (each := ((6 : UInt32).toNat - 2) / 2) (key := [107]) rfl rfl).2.2.2.1])) rfl ?_)
  refine WL.op rfl rfl (op_move rfl ?_)
  refine WL.yes rfl rfl rfl (decide_eq_true (by rw [(al44 (n := (6 : UInt32).toNat) (each := ((6 : UInt32).toNat - 2) / 2) (key := [107]) rfl rfl).2.2.2.1])) rfl (op_move rfl ?_)
  refine WL.op rfl rfl (op_pickT rfl (decide_eq_true (by rw [(al44 (n := (6 : UInt32).toNat) (each := ((6 : UInt32).toNat - 2) / 2) (key := [107]) rfl rfl).2.2.2.1])) rfl ?_)
  refine WL.op rfl rfl (op_move rfl ?_)
  refine WL.yes rfl rfl rfl (by rw [(al44 (n := (6 : UInt32).toNat) (each := ((6 : UInt32).toNat - 2) / 2) (key := [107]) rfl rfl).2.2.2.1]) rfl (op_move rfl ?_)
  refine WL.yes rfl rfl rfl (by rw [(al44 (n := (6 : UInt32).toNat) (each := ((6 : UInt32).toNat - 2) / 2) (key := [107]) rfl rfl).2.2.2.1]) rfl (op_eqlN (b := 0) rfl rfl ?_)
  refine WL.op rfl rfl (op_pickT rfl (by rw [(al44 (n := (6 : UInt32).toNat) (each := ((6 : UInt32).toNat - 2) / 2) (key := [107]) rfl rfl).2.2.2.1]) rfl ?_)
  refine WL.op rfl rfl (op_move rfl ?_)
  refine WL.yes rfl rfl rfl (decide_eq_true (al44 (n := (6 : UInt32).toNat) (each := ((6 : UInt32).toNat - 2) / 2) (key := [107]) rfl rfl).2.2.2.2.1) rfl (op_move rfl ?_)
  refine WL.yes rfl rfl rfl (decide_eq_true (al44 (n := (6 : UInt32).toNat) (each := ((6 : UInt32).toNat - 2) / 2) (key := [107]) rfl rfl).2.2.2.2.1) rfl (op_eqlU32 (b := 2) rfl rfl ?_)
  refine WL.op rfl rfl (op_pickT rfl (decide_eq_true (al44 (n := (6 : UInt32).toNat) (each := ((6 : UInt32).toNat - 2) / 2) (key := [107]) rfl rfl).2.2.2.2.1) rfl ?_)
  refine WL.op rfl rfl (op_move rfl ?_)
  refine WL.yes rfl rfl rfl (decide_eq_true (by rw [(al44 (n := (6 : UInt32).toNat) (each := ((6 : UInt32).toNat - 2) / 2) (key := [107]) rfl rfl).2.2.2.2.2])) rfl (op_move rfl ?_)
  refine WL.yes rfl rfl rfl (decide_eq_true (by rw [(al44 (n := (6 : UInt32).toNat) (each := ((6 : UInt32).toNat - 2) / 2) (key := [107]) rfl rfl).2.2.2.2.2])) rfl (op_eqlStr rfl rfl ?_)
  refine WL.op rfl rfl (op_pickT rfl (decide_eq_true (by rw [(al44 (n := (6 : UInt32).toNat) (each := ((6 : UInt32).toNat - 2) / 2) (key := [107]) rfl rfl).2.2.2.2.2])) rfl ?_)
  refine WL.op rfl rfl (op_move rfl ?_)
  refine WL.yes rfl rfl rfl (decide_eq_true (by rw [(al44 (n := (6 : UInt32).toNat) (each := ((6 : UInt32).toNat - 2) / 2) (key := [107]) rfl rfl).2.2.2.2.2])) rfl (op_move rfl ?_)
  refine WL.op rfl rfl (op_pickT rfl (decide_eq_true (by rw [(al44 (n := (6 : UInt32).toNat) (each := ((6 : UInt32).toNat - 2) / 2) (key := [107]) rfl rfl).2.2.2.2.2])) rfl ?_)
  refine WL.op rfl rfl (op_move rfl ?_)
  refine WL.yes rfl rfl rfl (by rw [(al44 (n := (6 : UInt32).toNat) (each := ((6 : UInt32).toNat - 2) / 2) (key := [107]) rfl rfl).2.2.2.2.2]) rfl (op_move rfl ?_)
  refine WL.yes rfl rfl rfl (by rw [(al44 (n := (6 : UInt32).toNat) (each := ((6 : UInt32).toNat - 2) / 2) (key := [107]) rfl rfl).2.2.2.2.2]) rfl (op_eqlN (b := 2) rfl rfl ?_)
  refine WL.op rfl rfl (op_pickT rfl (by rw [(al44 (n := (6 : UInt32).toNat) (each := ((6 : UInt32).toNat - 2) / 2) (key := [107]) rfl rfl).2.2.2.2.2]) rfl ?_)
  refine WL.op rfl rfl (op_assign rfl ?_)
  refine WL.nil ?_
  refine WQ.next ?_
  refine WC.ret ?_
  refine WQ.out (.tmp rfl .nil) ?_
  exact ⟨rfl, H11.fr⟩
end Go.Proofs.Ytbjhccnffacbcaa
/-! from WSlot9 -/
namespace Go.Proofs.Ytbjhccnffacbcaa
open Go.Owl Go.Spec
set_option maxHeartbeats 8000000 in
set_option maxRecDepth 100000 in
theorem slotsTorn_ok (bl : UInt8) (key : List UInt8) (lv : Value) (l : List Ak) (w : World) (hA : Arr w lv 4 l.length (List.flatMap akc l)) (hfit : AkFit l) (hl : l.length < 2 ^ 47) (hk0 : key.length < 2 ^ 48) :
    Calls Try.prog 3 #[(vU8 bl), (str key), lv] w (fun e w' => e = .returned (.bool true) ∧ Fr [] w w') := by
  refine enter (args := [(vU8 bl), (str key), lv]) Try.func3 rfl rfl ?_
  have H0 : Own [] w w [] := Own.start w []
  refine WC.seq ?_
  refine WC.region ?_
  refine WL.op rfl rfl (op_assign rfl ?_)
  refine WL.nil ?_
  refine WQ.next ?_
  refine WC.seq ?_
  refine WC.seq ?_
  refine WC.region ?_
  refine WL.op rfl rfl (op_move rfl ?_)
  refine WL.op rfl rfl (op_move rfl ?_)
  refine WL.op rfl rfl (op_callF Fa.C8 rfl ((heavy44_ok key _ l _ (H0.arr hA) hk0 hfit hl).mono (fun e w1 hq => ?_)))
  obtain ⟨rfl, hf1⟩ := hq
  refine ⟨_, rfl, ?_⟩
  have H1 := H0.fr' hf1
  refine WL.nil ?_
  refine WQ.next ?_
  refine WC.cond rfl (fun (hb2 : (heavy44 key l) = true) => ?_) (fun (hb2 : (heavy44 key l) = false) => ?_)
  ·
    refine WC.seq ?_
    refine WC.region ?_
    refine WL.op rfl rfl (op_callF Fa.C9 rfl ((alive44_ok _).mono (fun e w3 hq => ?_)))
    obtain ⟨rfl, hf3⟩ := hq
    refine ⟨_, rfl, ?_⟩
    have H3 := H1.fr' hf3
    refine WL.op rfl rfl (op_assign rfl ?_)
    refine WL.nil ?_
    refine WQ.next ?_
    refine WC.ret ?_
    refine WQ.thenRet ?_
    refine WQ.out (.tmp rfl .nil) ?_
    exact ⟨rfl, H3.fr⟩
  ·
    have hh := heavy_no hb2
    have hnb := nb_bd bl
    have hk40 : key.length < 2 ^ 40 := by omega
    have hcc : 2 + (((4 + (UInt32.ofNat (bl % 12).toNat)).toNat - 2) / 2) + (((4 + (UInt32.ofNat (bl % 12).toNat)).toNat - 2) / 2) ≤ (4 + (UInt32.ofNat (bl % 12).toNat)).toNat := by omega
    have hc1 : 1 ≤ (((4 + (UInt32.ofNat (bl % 12).toNat)).toNat - 2) / 2) := by omega
    refine WC.skip ?_
    refine WQ.next ?_
    refine WC.seq ?_
    refine WC.region ?_
    refine WL.op rfl rfl (op_move rfl ?_)
    refine WL.op rfl rfl (op_remU8 (b := 12) rfl rfl (by decide) ?_)
    refine WL.op rfl rfl (op_convU8U32 (hs := Try.underlying5) (hd := Try.underlying29) rfl ?_)
    refine WL.op rfl rfl (op_addU32 (a := 4) rfl rfl ?_)
    refine WL.op rfl rfl (op_move rfl ?_)
    refine WL.op rfl rfl (op_callF Fa.C10 rfl ((made_ok ((4 : UInt32) + (UInt32.ofNat (bl % (12 : UInt8)).toNat)) key _ hnb.1 (by omega)).mono (fun e w4 hq => ?_)))
    obtain ⟨s4, x4, k4, bv4, e04, e14, xv4, cv4, nv4, rfl, hf04, hf14, hf24, hf34, hq4⟩ := hq
    refine ⟨_, rfl, ?_⟩
    have H4 : Own [] w w4 [.blk s4 [(ptr x4 0), (vU32 1), (str key), (vN ((((4 : UInt32) + (UInt32.ofNat (bl % (12 : UInt8)).toNat)).toNat - 2) / 2)), (vI (-1))] 98, Ent.bo x4 [(ptr k4 0)], Ent.bo k4 [(vU32 40), xv4, cv4, nv4, bv4], Ent.ar bv4 1 2 [e04, e14], .row e14 9 1 ((4 : UInt32) + (UInt32.ofNat (bl % (12 : UInt8)).toNat)).toNat (List.map str (List.replicate ((4 : UInt32) + (UInt32.ofNat (bl % (12 : UInt8)).toNat)).toNat (List.replicate 64 0))), Ent.ar e04 1 (1 : UInt32).toNat (List.map str (List.replicate (1 : UInt32).toNat (List.replicate 64 0)))] := H1.splice [] [] [.blk s4 [(ptr x4 0), (vU32 1), (str key), (vN ((((4 : UInt32) + (UInt32.ofNat (bl % (12 : UInt8)).toNat)).toNat - 2) / 2)), (vI (-1))] 98, Ent.bo x4 [(ptr k4 0)], Ent.bo k4 [(vU32 40), xv4, cv4, nv4, bv4], Ent.ar bv4 1 2 [e04, e14], .row e14 9 1 ((4 : UInt32) + (UInt32.ofNat (bl % (12 : UInt8)).toNat)).toNat (List.map str (List.replicate ((4 : UInt32) + (UInt32.ofNat (bl % (12 : UInt8)).toNat)).toNat (List.replicate 64 0))), Ent.ar e04 1 (1 : UInt32).toNat (List.map str (List.replicate (1 : UInt32).toNat (List.replicate 64 0)))] rfl rfl hq4 (Fits.solid True.intro (Fits.fresh hf34 (Fits.fresh hf04 (Fits.fresh hf14 (Fits.solid True.intro (Fits.fresh hf24 Fits.nil))))))
    refine WL.op rfl rfl (op_move rfl ?_)
    refine WL.op rfl rfl (op_extract rfl rfl ?_)
    refine WL.op rfl rfl (op_extract rfl rfl ?_)
    refine WL.op rfl rfl (op_assign rfl ?_)
    refine WL.op rfl rfl (op_assign rfl ?_)
    refine WL.nil ?_
    refine WQ.next ?_
    refine WC.seq ?_
    refine WC.seq ?_
    refine WC.region ?_
    refine WL.op rfl rfl (op_move rfl ?_)
    refine WL.op rfl rfl (op_eqlPN Fa.PT25 rfl rfl ?_)
    refine WL.op rfl rfl (op_move rfl ?_)
    refine WL.yes rfl rfl rfl rfl rfl (op_move rfl ?_)
    refine WL.yes rfl rfl rfl rfl rfl (op_eqlPN Fa.PT26 rfl rfl ?_)
    refine WL.op rfl rfl (op_pickF rfl rfl rfl ?_)
    refine WL.nil ?_
    refine WQ.next ?_
    refine WC.no rfl rfl ?_
    refine WC.skip ?_
    refine WQ.next ?_
    refine WC.seq ?_
    refine WC.seq ?_
    refine WC.region ?_
    refine WL.op rfl rfl (op_assign rfl ?_)
    refine WL.nil ?_
    refine WQ.next ?_
    refine WC.block ?_
    refine WC.loop (α := Nat × Nat × List (List UInt8) × Int) (fun (i, sb, B1, lf) => [(1, (str key)), (2, lv), (7, (ptr x4 0)), (8, (ptr sb 0)), (9, (vN i))]) (fun (i, sb, B1, lf) w' => (i ≤ l.length ∧ SOK B1 (4 + (UInt32.ofNat (bl % 12).toNat)).toNat ∧ lf < 2 ^ 63) ∧ Own [] w w' [.blk sb [(ptr x4 0), (vU32 1), (str key), (vN ((((4 : UInt32) + (UInt32.ofNat (bl % (12 : UInt8)).toNat)).toNat - 2) / 2)), (vI lf)] 98, Ent.bo x4 [(ptr k4 0)], Ent.bo k4 [(vU32 40), xv4, cv4, nv4, bv4], Ent.ar bv4 1 2 [e04, e14], .row e14 9 1 ((4 : UInt32) + (UInt32.ofNat (bl % (12 : UInt8)).toNat)).toNat (List.map str B1), Ent.ar e04 1 (1 : UInt32).toNat (List.map str (List.replicate (1 : UInt32).toNat (List.replicate 64 0)))]) (fun (i, sb, B1, lf) => l.length - i) (0, s4, (List.replicate ((4 : UInt32) + (UInt32.ofNat (bl % (12 : UInt8)).toNat)).toNat (List.replicate 64 0)), (-1)) ⟨⟨Nat.zero_le _, SOK.new _, by decide⟩, H4⟩ ⟨rfl, rfl, rfl, rfl, rfl, trivial⟩ ?_
    rintro ⟨i, sb, B1, lf⟩ w5 ⟨⟨hi1, hOK, hL0⟩, H5⟩
    show WC _ _ _ _ _ [(1, (str key)), (2, lv), (7, (ptr x4 0)), (8, (ptr sb 0)), (9, (vN i))] _
    have htx := hh.2.2 i
    have hu := upd_cur (s := Sst.mk B1 (max (l.getD i Ak.zero).n (-1))) (key := key) (v := (l.getD i Ak.zero).v) (t := (l.getD i Ak.zero).t) (hOK.fit hcc hc1 (by omega))
    refine WC.seq ?_
    refine WC.seq ?_
    refine WC.region ?_
    refine WL.op rfl rfl (op_move rfl ?_)
    refine WL.op rfl rfl (op_move rfl ?_)
    refine WL.op rfl rfl (op_lenA Try.underlying22 rfl (H5.arr hA) ?_)
    refine WL.op rfl rfl (op_lssN rfl rfl ?_)
    refine WL.nil ?_
    refine WQ.next ?_
    refine WC.cond rfl (fun (hb6 : (decide (i < l.length)) = true) => ?_) (fun (hb6 : (decide (i < l.length)) = false) => ?_)
    ·
      have hc6 := of_decide_eq_true hb6
      refine WC.skip ?_
      refine WQ.next ?_
      refine WC.seq ?_
      refine WC.block ?_
      refine WC.seq ?_
      refine WC.region ?_
      refine WL.op rfl rfl (op_move rfl ?_)
      refine WL.op rfl rfl (op_callF Fa.C11 rfl ((current_ok sb 1 key ((((4 : UInt32) + (UInt32.ofNat (bl % (12 : UInt8)).toNat)).toNat - 2) / 2) lf x4 k4 bv4 e14 xv4 cv4 nv4 40 2 (((4 : UInt32) + (UInt32.ofNat (bl % (12 : UInt8)).toNat)).toNat) ([e04, e14]) B1 _ (H5.cellsAt (i := 0) rfl) (H5.cellsAtO (i := 1) rfl) (H5.cellsAtO (i := 2) rfl) (H5.arrO (i := 3) rfl) (H5.arrR (i := 4) rfl) (by decide) rfl (hOK).len (hOK).all hcc (by omega) hk40).mono (fun e w7 hq => ?_)))
      obtain ⟨rfl, hf7⟩ := hq
      refine ⟨_, rfl, ?_⟩
      have H7 := H5.fr' hf7
      refine WL.op rfl rfl (op_move rfl ?_)
      refine WL.op rfl rfl (op_extract rfl rfl ?_)
      refine WL.op rfl rfl (op_extract rfl rfl ?_)
      refine WL.op rfl rfl (op_extract rfl rfl ?_)
      refine WL.op rfl rfl (op_assign rfl ?_)
      refine WL.op rfl rfl (op_assign rfl ?_)
      refine WL.op rfl rfl (op_assign rfl ?_)
      refine WL.nil ?_
      refine WQ.next ?_
      refine WC.seq ?_
      refine WC.region ?_
      refine WL.op rfl rfl (op_move rfl ?_)
      refine WL.op rfl rfl (op_move rfl ?_)
      refine WL.op rfl rfl (op_move rfl ?_)
      refine WL.op rfl rfl (op_indexAddr Try.underlying22 Fa.I35 rfl (H7.arr hA) rfl (by omega) ?_)
      refine WL.op rfl rfl (op_fieldAddrS rfl Fa.F35_1 ?_)
      refine WL.op rfl rfl (op_load rfl (Arr.atF (k := 1) (H7.arr hA) (fun _ => rfl) (by decide) Ak.zero (by omega) rfl) Try.underlying3 rfl ?_)
      refine WL.op rfl rfl (op_callF Fa.C12 rfl ((fuse_ok sb (ptr x4 0) rfl 1 key ((((4 : UInt32) + (UInt32.ofNat (bl % (12 : UInt8)).toNat)).toNat - 2) / 2) lf ((l.getD i Ak.zero).n) _ _ (H7.part [0] rfl rfl)).mono (fun e w8 hq => ?_)))
      obtain ⟨rfl, hq8⟩ := hq
      refine ⟨_, rfl, ?_⟩
      have H8 : Own [] w w8 [.blk sb [(ptr x4 0), (vU32 1), (str key), (vN ((((4 : UInt32) + (UInt32.ofNat (bl % (12 : UInt8)).toNat)).toNat - 2) / 2)), (vI (max ((l.getD i Ak.zero).n) (-1)))] 98, Ent.bo x4 [(ptr k4 0)], Ent.bo k4 [(vU32 40), xv4, cv4, nv4, bv4], Ent.ar bv4 1 2 [e04, e14], .row e14 9 1 ((4 : UInt32) + (UInt32.ofNat (bl % (12 : UInt8)).toNat)).toNat (List.map str B1), Ent.ar e04 1 (1 : UInt32).toNat (List.map str (List.replicate (1 : UInt32).toNat (List.replicate 64 0)))] := H7.splice [0] [.blk sb [(ptr x4 0), (vU32 1), (str key), (vN ((((4 : UInt32) + (UInt32.ofNat (bl % (12 : UInt8)).toNat)).toNat - 2) / 2)), (vI (max ((l.getD i Ak.zero).n) (-1)))] 98] [] rfl rfl hq8 (Fits.solid True.intro Fits.nil)
      refine WL.nil ?_
      refine WQ.next ?_
      refine WC.seq ?_
      refine WC.draw 11 Fa.M H8 (HW.op rfl (fun w1 H1 => op_move rfl ⟨rfl, Fr.refl _ _⟩) (HW.op rfl (fun w1 H1 => op_move rfl ⟨rfl, Fr.refl _ _⟩) (HW.op rfl (fun w1 H1 => op_move rfl ⟨rfl, Fr.refl _ _⟩) (HW.op rfl (fun w1 H1 => op_indexAddr Try.underlying22 Fa.I35 rfl (H1.arr hA) rfl (by omega) ⟨rfl, Fr.refl _ _⟩) (HW.op rfl (fun w1 H1 => op_fieldAddrS rfl Fa.F35_2 ⟨rfl, Fr.refl _ _⟩) (HW.op rfl (fun w1 H1 => op_load rfl (Arr.atF (k := 2) (H1.arr hA) (fun _ => rfl) (by decide) Ak.zero (by omega) rfl) Try.underlying29 rfl ⟨rfl, Fr.refl _ _⟩) (HW.op rfl (fun w1 H1 => op_move rfl ⟨rfl, Fr.refl _ _⟩) (HW.op rfl (fun w1 H1 => op_move rfl ⟨rfl, Fr.refl _ _⟩) (HW.op rfl (fun w1 H1 => op_indexAddr Try.underlying22 Fa.I35 rfl (H1.arr hA) rfl (by omega) ⟨rfl, Fr.refl _ _⟩) (HW.op rfl (fun w1 H1 => op_fieldAddrS rfl Fa.F35_3 ⟨rfl, Fr.refl _ _⟩) (HW.op rfl (fun w1 H1 => op_load rfl (Arr.atF (k := 3) (H1.arr hA) (fun _ => rfl) (by decide) Ak.zero (by omega) rfl) Try.underlying9 rfl ⟨rfl, Fr.refl _ _⟩)  HW.nil))))))))))) (by kernel_rfl) ?_
      intro β9 w9 H9
      refine WL.op rfl rfl (op_callF Fa.C13 rfl ((update_ok sb 1 key ((((4 : UInt32) + (UInt32.ofNat (bl % (12 : UInt8)).toNat)).toNat - 2) / 2) (max ((l.getD i Ak.zero).n) (-1)) x4 k4 bv4 e14 xv4 cv4 nv4 40 2 (((4 : UInt32) + (UInt32.ofNat (bl % (12 : UInt8)).toNat)).toNat) ([e04, e14]) B1 ((l.getD i Ak.zero).v) ((l.getD i Ak.zero).t) _ _ (H9.part [0, 1, 2, 3, 4] rfl rfl) (by decide) rfl (hOK).len (hOK).all hcc (by omega) hk40 hnb.1 (max_left (hfit i).2) (by omega)).mono (fun e w10 hq => ?_)))
      obtain ⟨rfl, hq10⟩ := hq
      refine ⟨_, rfl, ?_⟩
      have H10 : Own [] w w10 [.blk sb [(ptr x4 0), (vU32 1), (str key), (vN ((((4 : UInt32) + (UInt32.ofNat (bl % (12 : UInt8)).toNat)).toNat - 2) / 2)), (vI (updE (Sst.mk B1 (max ((l.getD i Ak.zero).n) (-1))) ((((4 : UInt32) + (UInt32.ofNat (bl % (12 : UInt8)).toNat)).toNat - 2) / 2) key ((l.getD i Ak.zero).v) ((l.getD i Ak.zero).t)).1.left)] 98, Ent.bo x4 [(ptr k4 0)], Ent.bo k4 [(vU32 40), xv4, cv4, nv4, bv4], Ent.ar bv4 1 2 [e04, e14], .row e14 9 1 ((4 : UInt32) + (UInt32.ofNat (bl % (12 : UInt8)).toNat)).toNat (List.map str (updE (Sst.mk B1 (max ((l.getD i Ak.zero).n) (-1))) ((((4 : UInt32) + (UInt32.ofNat (bl % (12 : UInt8)).toNat)).toNat - 2) / 2) key ((l.getD i Ak.zero).v) ((l.getD i Ak.zero).t)).1.B), Ent.ar e04 1 (1 : UInt32).toNat (List.map str (List.replicate (1 : UInt32).toNat (List.replicate 64 0)))] := H9.splice [0, 1, 2, 3, 4] [.blk sb [(ptr x4 0), (vU32 1), (str key), (vN ((((4 : UInt32) + (UInt32.ofNat (bl % (12 : UInt8)).toNat)).toNat - 2) / 2)), (vI (updE (Sst.mk B1 (max ((l.getD i Ak.zero).n) (-1))) ((((4 : UInt32) + (UInt32.ofNat (bl % (12 : UInt8)).toNat)).toNat - 2) / 2) key ((l.getD i Ak.zero).v) ((l.getD i Ak.zero).t)).1.left)] 98, Ent.bo x4 [(ptr k4 0)], Ent.bo k4 [(vU32 40), xv4, cv4, nv4, bv4], Ent.ar bv4 1 2 [e04, e14], .row e14 9 1 ((4 : UInt32) + (UInt32.ofNat (bl % (12 : UInt8)).toNat)).toNat (List.map str (updE (Sst.mk B1 (max ((l.getD i Ak.zero).n) (-1))) ((((4 : UInt32) + (UInt32.ofNat (bl % (12 : UInt8)).toNat)).toNat - 2) / 2) key ((l.getD i Ak.zero).v) ((l.getD i Ak.zero).t)).1.B)] [] rfl rfl hq10 (Fits.solid True.intro (Fits.same (j := 1) rfl (Fits.same (j := 2) rfl (Fits.same (j := 3) rfl (Fits.solid True.intro Fits.nil)))))
      refine WL.op rfl rfl (op_assign rfl ?_)
      refine WL.nil ?_
      refine WQ.next ?_
      refine WC.seq ?_
      refine WC.region ?_
      refine WL.op rfl rfl (op_move rfl ?_)
      refine WL.op rfl rfl (op_move rfl ?_)
      refine WL.op rfl rfl (op_callF Fa.C14 rfl ((new44_ok x4 k4 bv4 e14 xv4 cv4 nv4 40 2 (((4 : UInt32) + (UInt32.ofNat (bl % (12 : UInt8)).toNat)).toNat) ([e04, e14]) ((updE (Sst.mk B1 (max ((l.getD i Ak.zero).n) (-1))) ((((4 : UInt32) + (UInt32.ofNat (bl % (12 : UInt8)).toNat)).toNat - 2) / 2) key ((l.getD i Ak.zero).v) ((l.getD i Ak.zero).t)).1.B) 1 key _ (H10.cellsAtO (i := 1) rfl) (H10.cellsAtO (i := 2) rfl) (H10.arrO (i := 3) rfl) (H10.arrR (i := 4) rfl) (by decide) rfl hnb.1 (by omega)).mono (fun e w11 hq => ?_)))
      obtain ⟨s11, rfl, hq11⟩ := hq
      refine ⟨_, rfl, ?_⟩
      have H11 : Own [] w w11 [.blk sb [(ptr x4 0), (vU32 1), (str key), (vN ((((4 : UInt32) + (UInt32.ofNat (bl % (12 : UInt8)).toNat)).toNat - 2) / 2)), (vI (updE (Sst.mk B1 (max ((l.getD i Ak.zero).n) (-1))) ((((4 : UInt32) + (UInt32.ofNat (bl % (12 : UInt8)).toNat)).toNat - 2) / 2) key ((l.getD i Ak.zero).v) ((l.getD i Ak.zero).t)).1.left)] 98, Ent.bo x4 [(ptr k4 0)], Ent.bo k4 [(vU32 40), xv4, cv4, nv4, bv4], Ent.ar bv4 1 2 [e04, e14], .row e14 9 1 ((4 : UInt32) + (UInt32.ofNat (bl % (12 : UInt8)).toNat)).toNat (List.map str (updE (Sst.mk B1 (max ((l.getD i Ak.zero).n) (-1))) ((((4 : UInt32) + (UInt32.ofNat (bl % (12 : UInt8)).toNat)).toNat - 2) / 2) key ((l.getD i Ak.zero).v) ((l.getD i Ak.zero).t)).1.B), Ent.ar e04 1 (1 : UInt32).toNat (List.map str (List.replicate (1 : UInt32).toNat (List.replicate 64 0))), .blk s11 [(ptr x4 0), (vU32 1), (str key), (vN (((((4 : UInt32) + (UInt32.ofNat (bl % (12 : UInt8)).toNat)).toNat) - 2) / 2)), (vI (-1))] 98] := H10.splice [] [] [.blk s11 [(ptr x4 0), (vU32 1), (str key), (vN (((((4 : UInt32) + (UInt32.ofNat (bl % (12 : UInt8)).toNat)).toNat) - 2) / 2)), (vI (-1))] 98] rfl rfl hq11 (Fits.solid True.intro Fits.nil)
      refine WL.op rfl rfl (op_move rfl ?_)
      refine WL.op rfl rfl (op_extract rfl rfl ?_)
      refine WL.op rfl rfl (op_extract rfl rfl ?_)
      refine WL.op rfl rfl (op_assign rfl ?_)
      refine WL.op rfl rfl (op_assign rfl ?_)
      refine WL.nil ?_
      refine WQ.next ?_
      refine WC.seq ?_
      refine WC.seq ?_
      refine WC.region ?_
      refine WL.op rfl rfl (op_move rfl ?_)
      refine WL.op rfl rfl (op_neqN (b := 0) rfl rfl ?_)
      refine WL.op rfl rfl (op_move rfl ?_)
      refine WL.yes rfl rfl rfl (by decide) rfl (op_move rfl ?_)
      refine WL.yes rfl rfl rfl (by decide) rfl (op_eqlPN Fa.PT26 rfl rfl ?_)
      refine WL.op rfl rfl (op_pickF rfl (by decide) rfl ?_)
      refine WL.nil ?_
      refine WQ.next ?_
      refine WC.no rfl rfl ?_
      refine WC.skip ?_
      refine WQ.next ?_
      refine WC.seq ?_
      refine WC.region ?_
      refine WL.op rfl rfl (op_move rfl ?_)
      refine WL.op rfl rfl (op_callF Fa.C11 rfl ((current_ok s11 1 key (((((4 : UInt32) + (UInt32.ofNat (bl % (12 : UInt8)).toNat)).toNat) - 2) / 2) (-1) x4 k4 bv4 e14 xv4 cv4 nv4 40 2 (((4 : UInt32) + (UInt32.ofNat (bl % (12 : UInt8)).toNat)).toNat) ([e04, e14]) ((updE (Sst.mk B1 (max ((l.getD i Ak.zero).n) (-1))) ((((4 : UInt32) + (UInt32.ofNat (bl % (12 : UInt8)).toNat)).toNat - 2) / 2) key ((l.getD i Ak.zero).v) ((l.getD i Ak.zero).t)).1.B) _ (H11.cellsAt (i := 6) rfl) (H11.cellsAtO (i := 1) rfl) (H11.cellsAtO (i := 2) rfl) (H11.arrO (i := 3) rfl) (H11.arrR (i := 4) rfl) (by decide) rfl ((SOK.upd hOK)).len ((SOK.upd hOK)).all hcc (by omega) hk40).mono (fun e w12 hq => ?_)))
      obtain ⟨rfl, hf12⟩ := hq
      refine ⟨_, rfl, ?_⟩
      have H12 := H11.fr' hf12
      refine WL.op rfl rfl (op_move rfl ?_)
      refine WL.op rfl rfl (op_extract rfl rfl ?_)
      refine WL.op rfl rfl (op_extract rfl rfl ?_)
      refine WL.op rfl rfl (op_extract rfl rfl ?_)
      refine WL.op rfl rfl (op_assign rfl ?_)
      refine WL.op rfl rfl (op_assign rfl ?_)
      refine WL.op rfl rfl (op_assign rfl ?_)
      refine WL.nil ?_
      refine WQ.next ?_
      refine WC.seq ?_
      refine WC.region ?_
      refine bsplit (fun (hb13 : (decide ((updE (Sst.mk B1 (max ((l.getD i Ak.zero).n) (-1))) ((((4 : UInt32) + (UInt32.ofNat (bl % (12 : UInt8)).toNat)).toNat - 2) / 2) key ((l.getD i Ak.zero).v) ((l.getD i Ak.zero).t)).2 = 0)) = true) => ?_) (fun (hb13 : (decide ((updE (Sst.mk B1 (max ((l.getD i Ak.zero).n) (-1))) ((((4 : UInt32) + (UInt32.ofNat (bl % (12 : UInt8)).toNat)).toNat - 2) / 2) key ((l.getD i Ak.zero).v) ((l.getD i Ak.zero).t)).2 = 0)) = false) => ?_)
      ·
        have hc13 := of_decide_eq_true hb13
        have ha0 := of_decide_eq_true hb13
        have hcn := hu.2.1 ha0
        have hvn : ¬ (l.getD i Ak.zero).v ≤ (curS B1 ((((4 : UInt32) + (UInt32.ofNat (bl % (12 : UInt8)).toNat)).toNat - 2) / 2) key).v := fun h => by have := hu.1.2 h; rw [ha0] at this; cases this
        have hq0 : (decide ((curS ((updE (Sst.mk B1 (max ((l.getD i Ak.zero).n) (-1))) ((((4 : UInt32) + (UInt32.ofNat (bl % (12 : UInt8)).toNat)).toNat - 2) / 2) key ((l.getD i Ak.zero).v) ((l.getD i Ak.zero).t)).1.B) (((((4 : UInt32) + (UInt32.ofNat (bl % (12 : UInt8)).toNat)).toNat) - 2) / 2) key).v = (curS B1 ((((4 : UInt32) + (UInt32.ofNat (bl % (12 : UInt8)).toNat)).toNat - 2) / 2) key).v)) = false := decide_eq_false (fun h => by rw [hcn] at h; exact hvn (by rw [show (l.getD i Ak.zero).v = (curS B1 ((((4 : UInt32) + (UInt32.ofNat (bl % (12 : UInt8)).toNat)).toNat - 2) / 2) key).v from h]; exact UInt32.le_refl _))
        have hq1 : (decide ((curS ((updE (Sst.mk B1 (max ((l.getD i Ak.zero).n) (-1))) ((((4 : UInt32) + (UInt32.ofNat (bl % (12 : UInt8)).toNat)).toNat - 2) / 2) key ((l.getD i Ak.zero).v) ((l.getD i Ak.zero).t)).1.B) (((((4 : UInt32) + (UInt32.ofNat (bl % (12 : UInt8)).toNat)).toNat) - 2) / 2) key).v = (l.getD i Ak.zero).v)) = true := decide_eq_true (by rw [hcn])
        have hq2 : (decide ((curS ((updE (Sst.mk B1 (max ((l.getD i Ak.zero).n) (-1))) ((((4 : UInt32) + (UInt32.ofNat (bl % (12 : UInt8)).toNat)).toNat - 2) / 2) key ((l.getD i Ak.zero).v) ((l.getD i Ak.zero).t)).1.B) (((((4 : UInt32) + (UInt32.ofNat (bl % (12 : UInt8)).toNat)).toNat) - 2) / 2) key).t = (l.getD i Ak.zero).t)) = true := decide_eq_true (by rw [hcn])
        have hq3 : (curS ((updE (Sst.mk B1 (max ((l.getD i Ak.zero).n) (-1))) ((((4 : UInt32) + (UInt32.ofNat (bl % (12 : UInt8)).toNat)).toNat - 2) / 2) key ((l.getD i Ak.zero).v) ((l.getD i Ak.zero).t)).1.B) (((((4 : UInt32) + (UInt32.ofNat (bl % (12 : UInt8)).toNat)).toNat) - 2) / 2) key).is = true := by rw [hcn]
        have hq4 : (decide ((updE (Sst.mk B1 (max ((l.getD i Ak.zero).n) (-1))) ((((4 : UInt32) + (UInt32.ofNat (bl % (12 : UInt8)).toNat)).toNat - 2) / 2) key ((l.getD i Ak.zero).v) ((l.getD i Ak.zero).t)).2 ≠ 0)) = false := decide_eq_false (fun h => h ha0)
        have hq5 : (decide ((curS ((updE (Sst.mk B1 (max ((l.getD i Ak.zero).n) (-1))) ((((4 : UInt32) + (UInt32.ofNat (bl % (12 : UInt8)).toNat)).toNat - 2) / 2) key ((l.getD i Ak.zero).v) ((l.getD i Ak.zero).t)).1.B) (((((4 : UInt32) + (UInt32.ofNat (bl % (12 : UInt8)).toNat)).toNat) - 2) / 2) key).v < (curS B1 ((((4 : UInt32) + (UInt32.ofNat (bl % (12 : UInt8)).toNat)).toNat - 2) / 2) key).v)) = false := decide_eq_false (fun h => by rw [hcn] at h; exact hvn (UInt32.le_of_lt h))
        have hq6 : (!((decide ((updE (Sst.mk B1 (max ((l.getD i Ak.zero).n) (-1))) ((((4 : UInt32) + (UInt32.ofNat (bl % (12 : UInt8)).toNat)).toNat - 2) / 2) key ((l.getD i Ak.zero).v) ((l.getD i Ak.zero).t)).2 = 440)) == (decide ((l.getD i Ak.zero).v ≤ (curS B1 ((((4 : UInt32) + (UInt32.ofNat (bl % (12 : UInt8)).toNat)).toNat - 2) / 2) key).v)))) = false := by rw [decide_eq_false (show ¬ (updE (Sst.mk B1 (max ((l.getD i Ak.zero).n) (-1))) ((((4 : UInt32) + (UInt32.ofNat (bl % (12 : UInt8)).toNat)).toNat - 2) / 2) key ((l.getD i Ak.zero).v) ((l.getD i Ak.zero).t)).2 = 440 from fun h => by rw [ha0] at h; cases h), decide_eq_false hvn]; rfl
        have hq7 : (decide ((updE (Sst.mk B1 (max ((l.getD i Ak.zero).n) (-1))) ((((4 : UInt32) + (UInt32.ofNat (bl % (12 : UInt8)).toNat)).toNat - 2) / 2) key ((l.getD i Ak.zero).v) ((l.getD i Ak.zero).t)).2 = 441)) = false := decide_eq_false (fun h => by rw [ha0] at h; cases h)
        refine WL.op rfl rfl (op_move rfl ?_)
        refine WL.op rfl rfl (op_move rfl ?_)
        refine WL.op rfl rfl (op_eqlU32 rfl rfl ?_)
        refine WL.op rfl rfl (op_move rfl ?_)
        refine WL.no rfl rfl rfl hq0 rfl ?_
        refine WL.no rfl rfl rfl hq0 rfl ?_
        refine WL.no rfl rfl rfl hq0 rfl ?_
        refine WL.op rfl rfl (op_pickF rfl hq0 rfl ?_)
        refine WL.op rfl rfl (op_move rfl ?_)
        refine WL.no rfl rfl rfl rfl rfl ?_
        refine WL.no rfl rfl rfl rfl rfl ?_
        refine WL.no rfl rfl rfl rfl rfl ?_
        refine WL.op rfl rfl (op_pickF rfl rfl rfl ?_)
        refine WL.op rfl rfl (op_assign rfl ?_)
        refine WL.nil ?_
        refine WQ.next ?_
        refine WC.seq ?_
        refine WC.region ?_
        refine WL.op rfl rfl (op_move rfl ?_)
        refine WL.op rfl rfl (op_move rfl ?_)
        refine WL.op rfl rfl (op_move rfl ?_)
        refine WL.op rfl rfl (op_indexAddr Try.underlying22 Fa.I35 rfl (H12.arr hA) rfl (by omega) ?_)
        refine WL.op rfl rfl (op_fieldAddrS rfl Fa.F35_2 ?_)
        refine WL.op rfl rfl (op_load rfl (Arr.atF (k := 2) (H12.arr hA) (fun _ => rfl) (by decide) Ak.zero (by omega) rfl) Try.underlying29 rfl ?_)
        refine WL.op rfl rfl (op_eqlU32 rfl rfl ?_)
        refine WL.op rfl rfl (op_move rfl ?_)
        refine WL.yes rfl rfl rfl hq1 rfl (op_move rfl ?_)
        refine WL.yes rfl rfl rfl hq1 rfl (op_move rfl ?_)
        refine WL.yes rfl rfl rfl hq1 rfl (op_move rfl ?_)
        refine WL.yes rfl rfl rfl hq1 rfl (op_indexAddr Try.underlying22 Fa.I35 rfl (H12.arr hA) rfl (by omega) ?_)
        refine WL.yes rfl rfl rfl hq1 rfl (op_fieldAddrS rfl Fa.F35_3 ?_)
        refine WL.yes rfl rfl rfl hq1 rfl (op_load rfl (Arr.atF (k := 3) (H12.arr hA) (fun _ => rfl) (by decide) Ak.zero (by omega) rfl) Try.underlying9 rfl ?_)
        refine WL.yes rfl rfl rfl hq1 rfl (op_eqlStr rfl rfl ?_)
        refine WL.op rfl rfl (op_pickT rfl hq1 rfl ?_)
        refine WL.op rfl rfl (op_move rfl ?_)
        refine WL.yes rfl rfl rfl hq2 rfl (op_move rfl ?_)
        refine WL.op rfl rfl (op_pickT rfl hq2 rfl ?_)
        refine WL.op rfl rfl (op_assign rfl ?_)
        refine WL.nil ?_
        refine WQ.next ?_
        refine WC.seq ?_
        refine WC.seq ?_
        refine WC.region ?_
        refine WL.op rfl rfl (op_move rfl ?_)
        refine WL.op rfl rfl (op_not rfl ?_)
        refine WL.op rfl rfl (op_move rfl ?_)
        refine WL.yes rfl rfl rfl (congrArg Bool.not rfl) rfl (op_move rfl ?_)
        refine WL.yes rfl rfl rfl (congrArg Bool.not rfl) rfl (op_not rfl ?_)
        refine WL.op rfl rfl (op_pickT rfl (congrArg Bool.not rfl) rfl ?_)
        refine WL.op rfl rfl (op_move rfl ?_)
        refine WL.yes rfl rfl rfl (congrArg Bool.not hq3) rfl (op_move rfl ?_)
        refine WL.yes rfl rfl rfl (congrArg Bool.not hq3) rfl (op_eqlN (b := 0) rfl rfl ?_)
        refine WL.yes rfl rfl rfl (congrArg Bool.not hq3) rfl (op_move rfl ?_)
        refine WL.yes rfl rfl rfl hb13 rfl (op_move rfl ?_)
        refine WL.yes rfl rfl rfl hb13 rfl (op_not rfl ?_)
        refine WL.yes rfl rfl rfl (congrArg Bool.not hq3) rfl (op_pickT rfl hb13 rfl ?_)
        refine WL.op rfl rfl (op_pickF rfl (congrArg Bool.not hq3) rfl ?_)
        refine WL.op rfl rfl (op_move rfl ?_)
        refine WL.yes rfl rfl rfl (congrArg Bool.not hq3) rfl (op_move rfl ?_)
        refine WL.yes rfl rfl rfl (congrArg Bool.not hq3) rfl (op_neqN (b := 0) rfl rfl ?_)
        refine WL.yes rfl rfl rfl (congrArg Bool.not hq3) rfl (op_move rfl ?_)
        refine WL.no rfl rfl rfl hq4 rfl ?_
        refine WL.no rfl rfl rfl hq4 rfl ?_
        refine WL.yes rfl rfl rfl (congrArg Bool.not hq3) rfl (op_pickF rfl hq4 rfl ?_)
        refine WL.yes rfl rfl rfl (congrArg Bool.not hq3) rfl (op_move rfl ?_)
        refine WL.no rfl rfl rfl rfl rfl ?_
        refine WL.no rfl rfl rfl rfl rfl ?_
        refine WL.yes rfl rfl rfl (congrArg Bool.not hq3) rfl (op_pickF rfl rfl rfl ?_)
        refine WL.op rfl rfl (op_pickF rfl (congrArg Bool.not hq3) rfl ?_)
        refine WL.op rfl rfl (op_move rfl ?_)
        refine WL.yes rfl rfl rfl rfl rfl (op_move rfl ?_)
        refine WL.yes rfl rfl rfl rfl rfl (op_move rfl ?_)
        refine WL.yes rfl rfl rfl rfl rfl (op_lssU32 rfl rfl ?_)
        refine WL.op rfl rfl (op_pickF rfl rfl rfl ?_)
        refine WL.op rfl rfl (op_move rfl ?_)
        refine WL.yes rfl rfl rfl hq5 rfl (op_move rfl ?_)
        refine WL.yes rfl rfl rfl hq5 rfl (op_eqlN (b := 440) rfl rfl ?_)
        refine WL.yes rfl rfl rfl hq5 rfl (op_move rfl ?_)
        refine WL.yes rfl rfl rfl hq5 rfl (op_move rfl ?_)
        refine WL.yes rfl rfl rfl hq5 rfl (op_indexAddr Try.underlying22 Fa.I35 rfl (H12.arr hA) rfl (by omega) ?_)
        refine WL.yes rfl rfl rfl hq5 rfl (op_fieldAddrS rfl Fa.F35_2 ?_)
        refine WL.yes rfl rfl rfl hq5 rfl (op_load rfl (Arr.atF (k := 2) (H12.arr hA) (fun _ => rfl) (by decide) Ak.zero (by omega) rfl) Try.underlying29 rfl ?_)
        refine WL.yes rfl rfl rfl hq5 rfl (op_move rfl ?_)
        refine WL.yes rfl rfl rfl hq5 rfl (op_leqU32 rfl rfl ?_)
        refine WL.yes rfl rfl rfl hq5 rfl (op_neqB Try.underlying4 rfl rfl ?_)
        refine WL.op rfl rfl (op_pickF rfl hq5 rfl ?_)
        refine WL.nil ?_
        refine WQ.next ?_
        refine WC.no rfl hq6 ?_
        refine WC.skip ?_
        refine WQ.next ?_
        refine WC.seq ?_
        refine WC.seq ?_
        refine WC.draw 14 Fa.M H12 (HW.op rfl (fun w1 H1 => op_move rfl ⟨rfl, Fr.refl _ _⟩) (HW.op rfl (fun w1 H1 => op_eqlN (b := 441) rfl rfl ⟨rfl, Fr.refl _ _⟩) (HW.op rfl (fun w1 H1 => op_move rfl ⟨rfl, Fr.refl _ _⟩) (HW.no rfl rfl rfl hq7 (HW.no rfl rfl rfl hq7 (HW.no rfl rfl rfl hq7 (HW.no rfl rfl rfl hq7 (HW.no rfl rfl rfl hq7 (HW.no rfl rfl rfl hq7 (HW.no rfl rfl rfl hq7 (HW.no rfl rfl rfl hq7 (HW.no rfl rfl rfl hq7 (HW.no rfl rfl rfl hq7 (HW.no rfl rfl rfl hq7  HW.nil)))))))))))))) (by kernel_rfl) ?_
        intro β14 w14 H14
        refine WL.no rfl rfl rfl hq7 rfl ?_
        refine WL.no rfl rfl rfl hq7 rfl ?_
        refine WL.op rfl rfl (op_pickF rfl hq7 rfl ?_)
        refine WL.nil ?_
        refine WQ.next ?_
        refine WC.no rfl rfl ?_
        refine WC.skip ?_
        refine WQ.next ?_
        refine WC.seq ?_
        refine WC.seq ?_
        refine WC.region ?_
        refine WL.op rfl rfl (op_move rfl ?_)
        refine WL.op rfl rfl (op_eqlN (b := 441) rfl rfl ?_)
        refine WL.nil ?_
        refine WQ.next ?_
        refine WC.no rfl hq7 ?_
        refine WC.skip ?_
        refine WQ.next ?_
        refine WC.region ?_
        refine WL.op rfl rfl (op_move rfl ?_)
        refine WL.op rfl rfl (op_assign rfl ?_)
        refine WL.nil ?_
        refine WQ.inNormal ?_
        refine WQ.next ?_
        refine WC.region ?_
        refine WL.op rfl rfl (op_move rfl ?_)
        refine WL.op rfl rfl (op_addN (b := 1) rfl rfl (by omega) ?_)
        refine WL.op rfl rfl (op_assign rfl ?_)
        refine WL.nil ?_
        exact WQ.round (i + 1, s11, (updE (Sst.mk B1 (max ((l.getD i Ak.zero).n) (-1))) ((((4 : UInt32) + (UInt32.ofNat (bl % (12 : UInt8)).toNat)).toNat - 2) / 2) key ((l.getD i Ak.zero).v) ((l.getD i Ak.zero).t)).1.B, (-1)) ⟨⟨by omega, (SOK.upd hOK), (by decide)⟩, (H14.sel [6, 1, 2, 3, 4, 5] rfl rfl)⟩ ⟨rfl, rfl, rfl, rfl, rfl, trivial⟩ (by show l.length - (i + 1) < l.length - i; omega)
      ·
        have hc13 := of_decide_eq_false hb13
        have ha0 := of_decide_eq_false hb13
        have hcn := hu.2.2.1 ha0
        have hq0 : (decide ((curS ((updE (Sst.mk B1 (max ((l.getD i Ak.zero).n) (-1))) ((((4 : UInt32) + (UInt32.ofNat (bl % (12 : UInt8)).toNat)).toNat - 2) / 2) key ((l.getD i Ak.zero).v) ((l.getD i Ak.zero).t)).1.B) (((((4 : UInt32) + (UInt32.ofNat (bl % (12 : UInt8)).toNat)).toNat) - 2) / 2) key).v = (curS B1 ((((4 : UInt32) + (UInt32.ofNat (bl % (12 : UInt8)).toNat)).toNat - 2) / 2) key).v)) = true := decide_eq_true (by rw [hcn])
        have hq1 : (decide ((curS ((updE (Sst.mk B1 (max ((l.getD i Ak.zero).n) (-1))) ((((4 : UInt32) + (UInt32.ofNat (bl % (12 : UInt8)).toNat)).toNat - 2) / 2) key ((l.getD i Ak.zero).v) ((l.getD i Ak.zero).t)).1.B) (((((4 : UInt32) + (UInt32.ofNat (bl % (12 : UInt8)).toNat)).toNat) - 2) / 2) key).t = (curS B1 ((((4 : UInt32) + (UInt32.ofNat (bl % (12 : UInt8)).toNat)).toNat - 2) / 2) key).t)) = true := decide_eq_true (by rw [hcn])
        have hq2 : ((curS ((updE (Sst.mk B1 (max ((l.getD i Ak.zero).n) (-1))) ((((4 : UInt32) + (UInt32.ofNat (bl % (12 : UInt8)).toNat)).toNat - 2) / 2) key ((l.getD i Ak.zero).v) ((l.getD i Ak.zero).t)).1.B) (((((4 : UInt32) + (UInt32.ofNat (bl % (12 : UInt8)).toNat)).toNat) - 2) / 2) key).is == (curS B1 ((((4 : UInt32) + (UInt32.ofNat (bl % (12 : UInt8)).toNat)).toNat - 2) / 2) key).is) = true := by rw [hcn]; exact beq_self_eq_true _
        have hq3 : (decide ((updE (Sst.mk B1 (max ((l.getD i Ak.zero).n) (-1))) ((((4 : UInt32) + (UInt32.ofNat (bl % (12 : UInt8)).toNat)).toNat - 2) / 2) key ((l.getD i Ak.zero).v) ((l.getD i Ak.zero).t)).2 ≠ 0)) = true := decide_eq_true ha0
        have hq4 : (decide ((curS ((updE (Sst.mk B1 (max ((l.getD i Ak.zero).n) (-1))) ((((4 : UInt32) + (UInt32.ofNat (bl % (12 : UInt8)).toNat)).toNat - 2) / 2) key ((l.getD i Ak.zero).v) ((l.getD i Ak.zero).t)).1.B) (((((4 : UInt32) + (UInt32.ofNat (bl % (12 : UInt8)).toNat)).toNat) - 2) / 2) key).v < (curS B1 ((((4 : UInt32) + (UInt32.ofNat (bl % (12 : UInt8)).toNat)).toNat - 2) / 2) key).v)) = false := decide_eq_false (by rw [hcn]; exact UInt32.lt_irrefl _)
        have hq5 : (!((decide ((updE (Sst.mk B1 (max ((l.getD i Ak.zero).n) (-1))) ((((4 : UInt32) + (UInt32.ofNat (bl % (12 : UInt8)).toNat)).toNat - 2) / 2) key ((l.getD i Ak.zero).v) ((l.getD i Ak.zero).t)).2 = 440)) == (decide ((l.getD i Ak.zero).v ≤ (curS B1 ((((4 : UInt32) + (UInt32.ofNat (bl % (12 : UInt8)).toNat)).toNat - 2) / 2) key).v)))) = false := by rw [show (decide ((updE (Sst.mk B1 (max ((l.getD i Ak.zero).n) (-1))) ((((4 : UInt32) + (UInt32.ofNat (bl % (12 : UInt8)).toNat)).toNat - 2) / 2) key ((l.getD i Ak.zero).v) ((l.getD i Ak.zero).t)).2 = 440)) = (decide ((l.getD i Ak.zero).v ≤ (curS B1 ((((4 : UInt32) + (UInt32.ofNat (bl % (12 : UInt8)).toNat)).toNat - 2) / 2) key).v)) from decide_eq_decide.2 hu.1]; simp
        refine bsplit (fun (hb15 : (decide ((updE (Sst.mk B1 (max ((l.getD i Ak.zero).n) (-1))) ((((4 : UInt32) + (UInt32.ofNat (bl % (12 : UInt8)).toNat)).toNat - 2) / 2) key ((l.getD i Ak.zero).v) ((l.getD i Ak.zero).t)).2 = 441)) = true) => ?_) (fun (hb15 : (decide ((updE (Sst.mk B1 (max ((l.getD i Ak.zero).n) (-1))) ((((4 : UInt32) + (UInt32.ofNat (bl % (12 : UInt8)).toNat)).toNat - 2) / 2) key ((l.getD i Ak.zero).v) ((l.getD i Ak.zero).t)).2 = 441)) = false) => ?_)
        ·
          have hc15 := of_decide_eq_true hb15
          have ha1 := of_decide_eq_true hb15
          have hu2 := upd_cur (s := Sst.mk ((updE (Sst.mk B1 (max ((l.getD i Ak.zero).n) (-1))) ((((4 : UInt32) + (UInt32.ofNat (bl % (12 : UInt8)).toNat)).toNat - 2) / 2) key ((l.getD i Ak.zero).v) ((l.getD i Ak.zero).t)).1.B) (-1)) (key := key) (v := (l.getD i Ak.zero).v) (t := (l.getD i Ak.zero).t) ((SOK.upd hOK).fit hcc hc1 (by omega))
          have hz2 : (updE (Sst.mk ((updE (Sst.mk B1 (max ((l.getD i Ak.zero).n) (-1))) ((((4 : UInt32) + (UInt32.ofNat (bl % (12 : UInt8)).toNat)).toNat - 2) / 2) key ((l.getD i Ak.zero).v) ((l.getD i Ak.zero).t)).1.B) (-1)) (((((4 : UInt32) + (UInt32.ofNat (bl % (12 : UInt8)).toNat)).toNat) - 2) / 2) key ((l.getD i Ak.zero).v) ((l.getD i Ak.zero).t)).2 = 0 := hu2.2.2.2.2 (by show (-1 : Int) < 0; decide) (by show ¬ (l.getD i Ak.zero).v ≤ (curS ((updE (Sst.mk B1 (max ((l.getD i Ak.zero).n) (-1))) ((((4 : UInt32) + (UInt32.ofNat (bl % (12 : UInt8)).toNat)).toNat - 2) / 2) key ((l.getD i Ak.zero).v) ((l.getD i Ak.zero).t)).1.B) (((((4 : UInt32) + (UInt32.ofNat (bl % (12 : UInt8)).toNat)).toNat) - 2) / 2) key).v; rw [hcn]; exact fun h => by have := hu.1.2 h; rw [ha1] at this; cases this) (hu.2.2.2.1 ha1)
          have hn2 := hu2.2.1 hz2
          have hr0 : (decide ((updE (Sst.mk B1 (max ((l.getD i Ak.zero).n) (-1))) ((((4 : UInt32) + (UInt32.ofNat (bl % (12 : UInt8)).toNat)).toNat - 2) / 2) key ((l.getD i Ak.zero).v) ((l.getD i Ak.zero).t)).2 ≠ 441)) = false := decide_eq_false (fun h => h ha1)
          have hr1 : (decide ((updE (Sst.mk ((updE (Sst.mk B1 (max ((l.getD i Ak.zero).n) (-1))) ((((4 : UInt32) + (UInt32.ofNat (bl % (12 : UInt8)).toNat)).toNat - 2) / 2) key ((l.getD i Ak.zero).v) ((l.getD i Ak.zero).t)).1.B) (-1)) (((((4 : UInt32) + (UInt32.ofNat (bl % (12 : UInt8)).toNat)).toNat) - 2) / 2) key ((l.getD i Ak.zero).v) ((l.getD i Ak.zero).t)).2 ≠ 0)) = false := decide_eq_false (fun h => h hz2)
          have hr2 : (decide ((curS ((updE (Sst.mk ((updE (Sst.mk B1 (max ((l.getD i Ak.zero).n) (-1))) ((((4 : UInt32) + (UInt32.ofNat (bl % (12 : UInt8)).toNat)).toNat - 2) / 2) key ((l.getD i Ak.zero).v) ((l.getD i Ak.zero).t)).1.B) (-1)) (((((4 : UInt32) + (UInt32.ofNat (bl % (12 : UInt8)).toNat)).toNat) - 2) / 2) key ((l.getD i Ak.zero).v) ((l.getD i Ak.zero).t)).1.B) (((((4 : UInt32) + (UInt32.ofNat (bl % (12 : UInt8)).toNat)).toNat) - 2) / 2) key).v ≠ (l.getD i Ak.zero).v)) = false := decide_eq_false (fun h => h (by rw [hn2]))
          have hr3 : (decide ((curS ((updE (Sst.mk ((updE (Sst.mk B1 (max ((l.getD i Ak.zero).n) (-1))) ((((4 : UInt32) + (UInt32.ofNat (bl % (12 : UInt8)).toNat)).toNat - 2) / 2) key ((l.getD i Ak.zero).v) ((l.getD i Ak.zero).t)).1.B) (-1)) (((((4 : UInt32) + (UInt32.ofNat (bl % (12 : UInt8)).toNat)).toNat) - 2) / 2) key ((l.getD i Ak.zero).v) ((l.getD i Ak.zero).t)).1.B) (((((4 : UInt32) + (UInt32.ofNat (bl % (12 : UInt8)).toNat)).toNat) - 2) / 2) key).t ≠ (l.getD i Ak.zero).t)) = false := decide_eq_false (fun h => h (by rw [hn2]))
          have hr4 : (curS ((updE (Sst.mk ((updE (Sst.mk B1 (max ((l.getD i Ak.zero).n) (-1))) ((((4 : UInt32) + (UInt32.ofNat (bl % (12 : UInt8)).toNat)).toNat - 2) / 2) key ((l.getD i Ak.zero).v) ((l.getD i Ak.zero).t)).1.B) (-1)) (((((4 : UInt32) + (UInt32.ofNat (bl % (12 : UInt8)).toNat)).toNat) - 2) / 2) key ((l.getD i Ak.zero).v) ((l.getD i Ak.zero).t)).1.B) (((((4 : UInt32) + (UInt32.ofNat (bl % (12 : UInt8)).toNat)).toNat) - 2) / 2) key).is = true := by rw [hn2]
          refine WL.op rfl rfl (op_move rfl ?_)
          refine WL.op rfl rfl (op_move rfl ?_)
          refine WL.op rfl rfl (op_eqlU32 rfl rfl ?_)
          refine WL.op rfl rfl (op_move rfl ?_)
          refine WL.yes rfl rfl rfl hq0 rfl (op_move rfl ?_)
          refine WL.yes rfl rfl rfl hq0 rfl (op_move rfl ?_)
          refine WL.yes rfl rfl rfl hq0 rfl (op_eqlStr rfl rfl ?_)
          refine WL.op rfl rfl (op_pickT rfl hq0 rfl ?_)
          refine WL.op rfl rfl (op_move rfl ?_)
          refine WL.yes rfl rfl rfl hq1 rfl (op_move rfl ?_)
          refine WL.yes rfl rfl rfl hq1 rfl (op_move rfl ?_)
          refine WL.yes rfl rfl rfl hq1 rfl (op_eqlB Try.underlying4 rfl rfl ?_)
          refine WL.op rfl rfl (op_pickT rfl hq1 rfl ?_)
          refine WL.op rfl rfl (op_assign rfl ?_)
          refine WL.nil ?_
          refine WQ.next ?_
          refine WC.seq ?_
          refine WC.region ?_
          refine WL.op rfl rfl (op_move rfl ?_)
          refine WL.op rfl rfl (op_move rfl ?_)
          refine WL.op rfl rfl (op_move rfl ?_)
          refine WL.op rfl rfl (op_indexAddr Try.underlying22 Fa.I35 rfl (H12.arr hA) rfl (by omega) ?_)
          refine WL.op rfl rfl (op_fieldAddrS rfl Fa.F35_2 ?_)
          refine WL.op rfl rfl (op_load rfl (Arr.atF (k := 2) (H12.arr hA) (fun _ => rfl) (by decide) Ak.zero (by omega) rfl) Try.underlying29 rfl ?_)
          refine WL.op rfl rfl (op_eqlU32 rfl rfl ?_)
          refine WL.op rfl rfl (op_move rfl ?_)
          refine WL.split (t := 109) rfl (fun (hb16 : (decide ((curS ((updE (Sst.mk B1 (max ((l.getD i Ak.zero).n) (-1))) ((((4 : UInt32) + (UInt32.ofNat (bl % (12 : UInt8)).toNat)).toNat - 2) / 2) key ((l.getD i Ak.zero).v) ((l.getD i Ak.zero).t)).1.B) (((((4 : UInt32) + (UInt32.ofNat (bl % (12 : UInt8)).toNat)).toNat) - 2) / 2) key).v = (l.getD i Ak.zero).v)) = true) => ?_) (fun (hb16 : (decide ((curS ((updE (Sst.mk B1 (max ((l.getD i Ak.zero).n) (-1))) ((((4 : UInt32) + (UInt32.ofNat (bl % (12 : UInt8)).toNat)).toNat - 2) / 2) key ((l.getD i Ak.zero).v) ((l.getD i Ak.zero).t)).1.B) (((((4 : UInt32) + (UInt32.ofNat (bl % (12 : UInt8)).toNat)).toNat) - 2) / 2) key).v = (l.getD i Ak.zero).v)) = false) => ?_)
          ·
            have hc16 := of_decide_eq_true hb16
            refine WL.yes rfl rfl rfl hb16 rfl (op_move rfl ?_)
            refine WL.yes rfl rfl rfl hb16 rfl (op_move rfl ?_)
            refine WL.yes rfl rfl rfl hb16 rfl (op_move rfl ?_)
            refine WL.yes rfl rfl rfl hb16 rfl (op_indexAddr Try.underlying22 Fa.I35 rfl (H12.arr hA) rfl (by omega) ?_)
            refine WL.yes rfl rfl rfl hb16 rfl (op_fieldAddrS rfl Fa.F35_3 ?_)
            refine WL.yes rfl rfl rfl hb16 rfl (op_load rfl (Arr.atF (k := 3) (H12.arr hA) (fun _ => rfl) (by decide) Ak.zero (by omega) rfl) Try.underlying9 rfl ?_)
            refine WL.yes rfl rfl rfl hb16 rfl (op_eqlStr rfl rfl ?_)
            refine WL.op rfl rfl (op_pickT rfl hb16 rfl ?_)
            refine WL.op rfl rfl (op_move rfl ?_)
            refine WL.split (t := 118) rfl (fun (hb17 : (decide ((curS ((updE (Sst.mk B1 (max ((l.getD i Ak.zero).n) (-1))) ((((4 : UInt32) + (UInt32.ofNat (bl % (12 : UInt8)).toNat)).toNat - 2) / 2) key ((l.getD i Ak.zero).v) ((l.getD i Ak.zero).t)).1.B) (((((4 : UInt32) + (UInt32.ofNat (bl % (12 : UInt8)).toNat)).toNat) - 2) / 2) key).t = (l.getD i Ak.zero).t)) = true) => ?_) (fun (hb17 : (decide ((curS ((updE (Sst.mk B1 (max ((l.getD i Ak.zero).n) (-1))) ((((4 : UInt32) + (UInt32.ofNat (bl % (12 : UInt8)).toNat)).toNat - 2) / 2) key ((l.getD i Ak.zero).v) ((l.getD i Ak.zero).t)).1.B) (((((4 : UInt32) + (UInt32.ofNat (bl % (12 : UInt8)).toNat)).toNat) - 2) / 2) key).t = (l.getD i Ak.zero).t)) = false) => ?_)
            ·
              have hc17 := of_decide_eq_true hb17
              refine WL.yes rfl rfl rfl hb17 rfl (op_move rfl ?_)
              refine WL.op rfl rfl (op_pickT rfl hb17 rfl ?_)
              refine WL.op rfl rfl (op_assign rfl ?_)
              refine WL.nil ?_
              refine WQ.next ?_
              refine WC.seq ?_
              refine WC.seq ?_
              refine WC.region ?_
              refine WL.op rfl rfl (op_move rfl ?_)
              refine WL.op rfl rfl (op_not rfl ?_)
              refine WL.op rfl rfl (op_move rfl ?_)
              refine WL.no rfl rfl rfl (congrArg Bool.not hq2) rfl ?_
              refine WL.no rfl rfl rfl (congrArg Bool.not hq2) rfl ?_
              refine WL.op rfl rfl (op_pickF rfl (congrArg Bool.not hq2) rfl ?_)
              refine WL.op rfl rfl (op_move rfl ?_)
              refine WL.yes rfl rfl rfl rfl rfl (op_move rfl ?_)
              refine WL.yes rfl rfl rfl rfl rfl (op_eqlN (b := 0) rfl rfl ?_)
              refine WL.yes rfl rfl rfl rfl rfl (op_move rfl ?_)
              refine WL.no rfl rfl rfl hb13 rfl ?_
              refine WL.no rfl rfl rfl hb13 rfl ?_
              refine WL.yes rfl rfl rfl rfl rfl (op_pickF rfl hb13 rfl ?_)
              refine WL.op rfl rfl (op_pickF rfl rfl rfl ?_)
              refine WL.op rfl rfl (op_move rfl ?_)
              refine WL.yes rfl rfl rfl rfl rfl (op_move rfl ?_)
              refine WL.yes rfl rfl rfl rfl rfl (op_neqN (b := 0) rfl rfl ?_)
              refine WL.yes rfl rfl rfl rfl rfl (op_move rfl ?_)
              refine WL.yes rfl rfl rfl hq3 rfl (op_move rfl ?_)
              refine WL.yes rfl rfl rfl hq3 rfl (op_neqN (b := 441) rfl rfl ?_)
              refine WL.yes rfl rfl rfl rfl rfl (op_pickT rfl hq3 rfl ?_)
              refine WL.yes rfl rfl rfl rfl rfl (op_move rfl ?_)
              refine WL.no rfl rfl rfl hr0 rfl ?_
              refine WL.no rfl rfl rfl hr0 rfl ?_
              refine WL.yes rfl rfl rfl rfl rfl (op_pickF rfl hr0 rfl ?_)
              refine WL.op rfl rfl (op_pickF rfl rfl rfl ?_)
              refine WL.op rfl rfl (op_move rfl ?_)
              refine WL.yes rfl rfl rfl rfl rfl (op_move rfl ?_)
              refine WL.yes rfl rfl rfl rfl rfl (op_move rfl ?_)
              refine WL.yes rfl rfl rfl rfl rfl (op_lssU32 rfl rfl ?_)
              refine WL.op rfl rfl (op_pickF rfl rfl rfl ?_)
              refine WL.op rfl rfl (op_move rfl ?_)
              refine WL.yes rfl rfl rfl hq4 rfl (op_move rfl ?_)
              refine WL.yes rfl rfl rfl hq4 rfl (op_eqlN (b := 440) rfl rfl ?_)
              refine WL.yes rfl rfl rfl hq4 rfl (op_move rfl ?_)
              refine WL.yes rfl rfl rfl hq4 rfl (op_move rfl ?_)
              refine WL.yes rfl rfl rfl hq4 rfl (op_indexAddr Try.underlying22 Fa.I35 rfl (H12.arr hA) rfl (by omega) ?_)
              refine WL.yes rfl rfl rfl hq4 rfl (op_fieldAddrS rfl Fa.F35_2 ?_)
              refine WL.yes rfl rfl rfl hq4 rfl (op_load rfl (Arr.atF (k := 2) (H12.arr hA) (fun _ => rfl) (by decide) Ak.zero (by omega) rfl) Try.underlying29 rfl ?_)
              refine WL.yes rfl rfl rfl hq4 rfl (op_move rfl ?_)
              refine WL.yes rfl rfl rfl hq4 rfl (op_leqU32 rfl rfl ?_)
              refine WL.yes rfl rfl rfl hq4 rfl (op_neqB Try.underlying4 rfl rfl ?_)
              refine WL.op rfl rfl (op_pickF rfl hq4 rfl ?_)
              refine WL.nil ?_
              refine WQ.next ?_
              refine WC.no rfl hq5 ?_
              refine WC.skip ?_
              refine WQ.next ?_
              refine WC.seq ?_
              refine WC.seq ?_
              refine WC.draw 14 Fa.M H12 (HW.op rfl (fun w1 H1 => op_move rfl ⟨rfl, Fr.refl _ _⟩) (HW.op rfl (fun w1 H1 => op_eqlN (b := 441) rfl rfl ⟨rfl, Fr.refl _ _⟩) (HW.op rfl (fun w1 H1 => op_move rfl ⟨rfl, Fr.refl _ _⟩) (HW.yes rfl rfl rfl hb15 (fun w1 H1 => op_move rfl ⟨rfl, Fr.refl _ _⟩) (HW.yes rfl rfl rfl hb15 (fun w1 H1 => op_move rfl ⟨rfl, Fr.refl _ _⟩) (HW.yes rfl rfl rfl hb15 (fun w1 H1 => op_move rfl ⟨rfl, Fr.refl _ _⟩) (HW.yes rfl rfl rfl hb15 (fun w1 H1 => op_indexAddr Try.underlying22 Fa.I35 rfl (H1.arr hA) rfl (by omega) ⟨rfl, Fr.refl _ _⟩) (HW.yes rfl rfl rfl hb15 (fun w1 H1 => op_fieldAddrS rfl Fa.F35_2 ⟨rfl, Fr.refl _ _⟩) (HW.yes rfl rfl rfl hb15 (fun w1 H1 => op_load rfl (Arr.atF (k := 2) (H1.arr hA) (fun _ => rfl) (by decide) Ak.zero (by omega) rfl) Try.underlying29 rfl ⟨rfl, Fr.refl _ _⟩) (HW.yes rfl rfl rfl hb15 (fun w1 H1 => op_move rfl ⟨rfl, Fr.refl _ _⟩) (HW.yes rfl rfl rfl hb15 (fun w1 H1 => op_move rfl ⟨rfl, Fr.refl _ _⟩) (HW.yes rfl rfl rfl hb15 (fun w1 H1 => op_indexAddr Try.underlying22 Fa.I35 rfl (H1.arr hA) rfl (by omega) ⟨rfl, Fr.refl _ _⟩) (HW.yes rfl rfl rfl hb15 (fun w1 H1 => op_fieldAddrS rfl Fa.F35_3 ⟨rfl, Fr.refl _ _⟩) (HW.yes rfl rfl rfl hb15 (fun w1 H1 => op_load rfl (Arr.atF (k := 3) (H1.arr hA) (fun _ => rfl) (by decide) Ak.zero (by omega) rfl) Try.underlying9 rfl ⟨rfl, Fr.refl _ _⟩)  HW.nil)))))))))))))) (by kernel_rfl) ?_
              intro β18 w18 H18
              refine WL.yes rfl rfl rfl hb15 rfl (op_callF Fa.C13 rfl ((update_ok s11 1 key (((((4 : UInt32) + (UInt32.ofNat (bl % (12 : UInt8)).toNat)).toNat) - 2) / 2) (-1) x4 k4 bv4 e14 xv4 cv4 nv4 40 2 (((4 : UInt32) + (UInt32.ofNat (bl % (12 : UInt8)).toNat)).toNat) ([e04, e14]) ((updE (Sst.mk B1 (max ((l.getD i Ak.zero).n) (-1))) ((((4 : UInt32) + (UInt32.ofNat (bl % (12 : UInt8)).toNat)).toNat - 2) / 2) key ((l.getD i Ak.zero).v) ((l.getD i Ak.zero).t)).1.B) ((l.getD i Ak.zero).v) ((l.getD i Ak.zero).t) _ _ (H18.part [6, 1, 2, 3, 4] rfl rfl) (by decide) rfl ((SOK.upd hOK)).len ((SOK.upd hOK)).all hcc (by omega) hk40 hnb.1 (by decide) (by omega)).mono (fun e w19 hq => ?_)))
              obtain ⟨rfl, hq19⟩ := hq
              refine ⟨_, rfl, ?_⟩
              have H19 : Own [] w w19 [.blk sb [(ptr x4 0), (vU32 1), (str key), (vN ((((4 : UInt32) + (UInt32.ofNat (bl % (12 : UInt8)).toNat)).toNat - 2) / 2)), (vI (updE (Sst.mk B1 (max ((l.getD i Ak.zero).n) (-1))) ((((4 : UInt32) + (UInt32.ofNat (bl % (12 : UInt8)).toNat)).toNat - 2) / 2) key ((l.getD i Ak.zero).v) ((l.getD i Ak.zero).t)).1.left)] 98, Ent.bo x4 [(ptr k4 0)], Ent.bo k4 [(vU32 40), xv4, cv4, nv4, bv4], Ent.ar bv4 1 2 [e04, e14], .row e14 9 1 ((4 : UInt32) + (UInt32.ofNat (bl % (12 : UInt8)).toNat)).toNat (List.map str (updE (Sst.mk ((updE (Sst.mk B1 (max ((l.getD i Ak.zero).n) (-1))) ((((4 : UInt32) + (UInt32.ofNat (bl % (12 : UInt8)).toNat)).toNat - 2) / 2) key ((l.getD i Ak.zero).v) ((l.getD i Ak.zero).t)).1.B) (-1)) (((((4 : UInt32) + (UInt32.ofNat (bl % (12 : UInt8)).toNat)).toNat) - 2) / 2) key ((l.getD i Ak.zero).v) ((l.getD i Ak.zero).t)).1.B), Ent.ar e04 1 (1 : UInt32).toNat (List.map str (List.replicate (1 : UInt32).toNat (List.replicate 64 0))), .blk s11 [(ptr x4 0), (vU32 1), (str key), (vN (((((4 : UInt32) + (UInt32.ofNat (bl % (12 : UInt8)).toNat)).toNat) - 2) / 2)), (vI (updE (Sst.mk ((updE (Sst.mk B1 (max ((l.getD i Ak.zero).n) (-1))) ((((4 : UInt32) + (UInt32.ofNat (bl % (12 : UInt8)).toNat)).toNat - 2) / 2) key ((l.getD i Ak.zero).v) ((l.getD i Ak.zero).t)).1.B) (-1)) (((((4 : UInt32) + (UInt32.ofNat (bl % (12 : UInt8)).toNat)).toNat) - 2) / 2) key ((l.getD i Ak.zero).v) ((l.getD i Ak.zero).t)).1.left)] 98] := H18.splice [6, 1, 2, 3, 4] [.blk s11 [(ptr x4 0), (vU32 1), (str key), (vN (((((4 : UInt32) + (UInt32.ofNat (bl % (12 : UInt8)).toNat)).toNat) - 2) / 2)), (vI (updE (Sst.mk ((updE (Sst.mk B1 (max ((l.getD i Ak.zero).n) (-1))) ((((4 : UInt32) + (UInt32.ofNat (bl % (12 : UInt8)).toNat)).toNat - 2) / 2) key ((l.getD i Ak.zero).v) ((l.getD i Ak.zero).t)).1.B) (-1)) (((((4 : UInt32) + (UInt32.ofNat (bl % (12 : UInt8)).toNat)).toNat) - 2) / 2) key ((l.getD i Ak.zero).v) ((l.getD i Ak.zero).t)).1.left)] 98, Ent.bo x4 [(ptr k4 0)], Ent.bo k4 [(vU32 40), xv4, cv4, nv4, bv4], Ent.ar bv4 1 2 [e04, e14], .row e14 9 1 ((4 : UInt32) + (UInt32.ofNat (bl % (12 : UInt8)).toNat)).toNat (List.map str (updE (Sst.mk ((updE (Sst.mk B1 (max ((l.getD i Ak.zero).n) (-1))) ((((4 : UInt32) + (UInt32.ofNat (bl % (12 : UInt8)).toNat)).toNat - 2) / 2) key ((l.getD i Ak.zero).v) ((l.getD i Ak.zero).t)).1.B) (-1)) (((((4 : UInt32) + (UInt32.ofNat (bl % (12 : UInt8)).toNat)).toNat) - 2) / 2) key ((l.getD i Ak.zero).v) ((l.getD i Ak.zero).t)).1.B)] [] rfl rfl hq19 (Fits.solid True.intro (Fits.same (j := 1) rfl (Fits.same (j := 2) rfl (Fits.same (j := 3) rfl (Fits.solid True.intro Fits.nil)))))
              refine WL.yes rfl rfl rfl hb15 rfl (op_neqN (b := 0) rfl rfl ?_)
              refine WL.op rfl rfl (op_pickT rfl hb15 rfl ?_)
              refine WL.nil ?_
              refine WQ.next ?_
              refine WC.no rfl hr1 ?_
              refine WC.skip ?_
              refine WQ.next ?_
              refine WC.seq ?_
              refine WC.seq ?_
              refine WC.region ?_
              refine WL.op rfl rfl (op_move rfl ?_)
              refine WL.op rfl rfl (op_eqlN (b := 441) rfl rfl ?_)
              refine WL.nil ?_
              refine WQ.next ?_
              refine WC.yes rfl hb15 ?_
              refine WC.seq ?_
              refine WC.region ?_
              refine WL.op rfl rfl (op_move rfl ?_)
              refine WL.op rfl rfl (op_callF Fa.C11 rfl ((current_ok s11 1 key (((((4 : UInt32) + (UInt32.ofNat (bl % (12 : UInt8)).toNat)).toNat) - 2) / 2) ((updE (Sst.mk ((updE (Sst.mk B1 (max ((l.getD i Ak.zero).n) (-1))) ((((4 : UInt32) + (UInt32.ofNat (bl % (12 : UInt8)).toNat)).toNat - 2) / 2) key ((l.getD i Ak.zero).v) ((l.getD i Ak.zero).t)).1.B) (-1)) (((((4 : UInt32) + (UInt32.ofNat (bl % (12 : UInt8)).toNat)).toNat) - 2) / 2) key ((l.getD i Ak.zero).v) ((l.getD i Ak.zero).t)).1.left) x4 k4 bv4 e14 xv4 cv4 nv4 40 2 (((4 : UInt32) + (UInt32.ofNat (bl % (12 : UInt8)).toNat)).toNat) ([e04, e14]) ((updE (Sst.mk ((updE (Sst.mk B1 (max ((l.getD i Ak.zero).n) (-1))) ((((4 : UInt32) + (UInt32.ofNat (bl % (12 : UInt8)).toNat)).toNat - 2) / 2) key ((l.getD i Ak.zero).v) ((l.getD i Ak.zero).t)).1.B) (-1)) (((((4 : UInt32) + (UInt32.ofNat (bl % (12 : UInt8)).toNat)).toNat) - 2) / 2) key ((l.getD i Ak.zero).v) ((l.getD i Ak.zero).t)).1.B) _ (H19.cellsAt (i := 6) rfl) (H19.cellsAtO (i := 1) rfl) (H19.cellsAtO (i := 2) rfl) (H19.arrO (i := 3) rfl) (H19.arrR (i := 4) rfl) (by decide) rfl ((SOK.upd (SOK.upd hOK))).len ((SOK.upd (SOK.upd hOK))).all hcc (by omega) hk40).mono (fun e w20 hq => ?_)))
              obtain ⟨rfl, hf20⟩ := hq
              refine ⟨_, rfl, ?_⟩
              have H20 := H19.fr' hf20
              refine WL.op rfl rfl (op_move rfl ?_)
              refine WL.op rfl rfl (op_extract rfl rfl ?_)
              refine WL.op rfl rfl (op_extract rfl rfl ?_)
              refine WL.op rfl rfl (op_extract rfl rfl ?_)
              refine WL.op rfl rfl (op_assign rfl ?_)
              refine WL.op rfl rfl (op_assign rfl ?_)
              refine WL.op rfl rfl (op_assign rfl ?_)
              refine WL.nil ?_
              refine WQ.next ?_
              refine WC.seq ?_
              refine WC.region ?_
              refine WL.op rfl rfl (op_move rfl ?_)
              refine WL.op rfl rfl (op_move rfl ?_)
              refine WL.op rfl rfl (op_move rfl ?_)
              refine WL.op rfl rfl (op_indexAddr Try.underlying22 Fa.I35 rfl (H20.arr hA) rfl (by omega) ?_)
              refine WL.op rfl rfl (op_fieldAddrS rfl Fa.F35_2 ?_)
              refine WL.op rfl rfl (op_load rfl (Arr.atF (k := 2) (H20.arr hA) (fun _ => rfl) (by decide) Ak.zero (by omega) rfl) Try.underlying29 rfl ?_)
              refine WL.op rfl rfl (op_neqU32 rfl rfl ?_)
              refine WL.op rfl rfl (op_move rfl ?_)
              refine WL.yes rfl rfl rfl hr2 rfl (op_move rfl ?_)
              refine WL.yes rfl rfl rfl hr2 rfl (op_move rfl ?_)
              refine WL.yes rfl rfl rfl hr2 rfl (op_move rfl ?_)
              refine WL.yes rfl rfl rfl hr2 rfl (op_indexAddr Try.underlying22 Fa.I35 rfl (H20.arr hA) rfl (by omega) ?_)
              refine WL.yes rfl rfl rfl hr2 rfl (op_fieldAddrS rfl Fa.F35_3 ?_)
              refine WL.yes rfl rfl rfl hr2 rfl (op_load rfl (Arr.atF (k := 3) (H20.arr hA) (fun _ => rfl) (by decide) Ak.zero (by omega) rfl) Try.underlying9 rfl ?_)
              refine WL.yes rfl rfl rfl hr2 rfl (op_neqStr rfl rfl ?_)
              refine WL.op rfl rfl (op_pickF rfl hr2 rfl ?_)
              refine WL.op rfl rfl (op_move rfl ?_)
              refine WL.yes rfl rfl rfl hr3 rfl (op_move rfl ?_)
              refine WL.yes rfl rfl rfl hr3 rfl (op_not rfl ?_)
              refine WL.op rfl rfl (op_pickF rfl hr3 rfl ?_)
              refine WL.nil ?_
              refine WQ.next ?_
              refine WC.no rfl (congrArg Bool.not hr4) ?_
              refine WC.skip ?_
              refine WQ.next ?_
              refine WC.region ?_
              refine WL.op rfl rfl (op_move rfl ?_)
              refine WL.op rfl rfl (op_assign rfl ?_)
              refine WL.nil ?_
              refine WQ.inNormal ?_
              refine WQ.next ?_
              refine WC.region ?_
              refine WL.op rfl rfl (op_move rfl ?_)
              refine WL.op rfl rfl (op_addN (b := 1) rfl rfl (by omega) ?_)
              refine WL.op rfl rfl (op_assign rfl ?_)
              refine WL.nil ?_
              exact WQ.round (i + 1, s11, (updE (Sst.mk ((updE (Sst.mk B1 (max ((l.getD i Ak.zero).n) (-1))) ((((4 : UInt32) + (UInt32.ofNat (bl % (12 : UInt8)).toNat)).toNat - 2) / 2) key ((l.getD i Ak.zero).v) ((l.getD i Ak.zero).t)).1.B) (-1)) (((((4 : UInt32) + (UInt32.ofNat (bl % (12 : UInt8)).toNat)).toNat) - 2) / 2) key ((l.getD i Ak.zero).v) ((l.getD i Ak.zero).t)).1.B, (updE (Sst.mk ((updE (Sst.mk B1 (max ((l.getD i Ak.zero).n) (-1))) ((((4 : UInt32) + (UInt32.ofNat (bl % (12 : UInt8)).toNat)).toNat - 2) / 2) key ((l.getD i Ak.zero).v) ((l.getD i Ak.zero).t)).1.B) (-1)) (((((4 : UInt32) + (UInt32.ofNat (bl % (12 : UInt8)).toNat)).toNat) - 2) / 2) key ((l.getD i Ak.zero).v) ((l.getD i Ak.zero).t)).1.left) ⟨⟨by omega, (SOK.upd (SOK.upd hOK)), (updE_left (by decide))⟩, (H20.sel [6, 1, 2, 3, 4, 5] rfl rfl)⟩ ⟨rfl, rfl, rfl, rfl, rfl, trivial⟩ (by show l.length - (i + 1) < l.length - i; omega)
            ·
              have hc17 := of_decide_eq_false hb17
              refine WL.no rfl rfl rfl hb17 rfl ?_
              refine WL.op rfl rfl (op_pickF rfl hb17 rfl ?_)
              refine WL.op rfl rfl (op_assign rfl ?_)
              refine WL.nil ?_
              refine WQ.next ?_
              refine WC.seq ?_
              refine WC.seq ?_
              refine WC.region ?_
              refine WL.op rfl rfl (op_move rfl ?_)
              refine WL.op rfl rfl (op_not rfl ?_)
              refine WL.op rfl rfl (op_move rfl ?_)
              refine WL.no rfl rfl rfl (congrArg Bool.not hq2) rfl ?_
              refine WL.no rfl rfl rfl (congrArg Bool.not hq2) rfl ?_
              refine WL.op rfl rfl (op_pickF rfl (congrArg Bool.not hq2) rfl ?_)
              refine WL.op rfl rfl (op_move rfl ?_)
              refine WL.yes rfl rfl rfl rfl rfl (op_move rfl ?_)
              refine WL.yes rfl rfl rfl rfl rfl (op_eqlN (b := 0) rfl rfl ?_)
              refine WL.yes rfl rfl rfl rfl rfl (op_move rfl ?_)
              refine WL.no rfl rfl rfl hb13 rfl ?_
              refine WL.no rfl rfl rfl hb13 rfl ?_
              refine WL.yes rfl rfl rfl rfl rfl (op_pickF rfl hb13 rfl ?_)
              refine WL.op rfl rfl (op_pickF rfl rfl rfl ?_)
              refine WL.op rfl rfl (op_move rfl ?_)
              refine WL.yes rfl rfl rfl rfl rfl (op_move rfl ?_)
              refine WL.yes rfl rfl rfl rfl rfl (op_neqN (b := 0) rfl rfl ?_)
              refine WL.yes rfl rfl rfl rfl rfl (op_move rfl ?_)
              refine WL.yes rfl rfl rfl hq3 rfl (op_move rfl ?_)
              refine WL.yes rfl rfl rfl hq3 rfl (op_neqN (b := 441) rfl rfl ?_)
              refine WL.yes rfl rfl rfl rfl rfl (op_pickT rfl hq3 rfl ?_)
              refine WL.yes rfl rfl rfl rfl rfl (op_move rfl ?_)
              refine WL.no rfl rfl rfl hr0 rfl ?_
              refine WL.no rfl rfl rfl hr0 rfl ?_
              refine WL.yes rfl rfl rfl rfl rfl (op_pickF rfl hr0 rfl ?_)
              refine WL.op rfl rfl (op_pickF rfl rfl rfl ?_)
              refine WL.op rfl rfl (op_move rfl ?_)
              refine WL.yes rfl rfl rfl rfl rfl (op_move rfl ?_)
              refine WL.yes rfl rfl rfl rfl rfl (op_move rfl ?_)
              refine WL.yes rfl rfl rfl rfl rfl (op_lssU32 rfl rfl ?_)
              refine WL.op rfl rfl (op_pickF rfl rfl rfl ?_)
              refine WL.op rfl rfl (op_move rfl ?_)
              refine WL.yes rfl rfl rfl hq4 rfl (op_move rfl ?_)
              refine WL.yes rfl rfl rfl hq4 rfl (op_eqlN (b := 440) rfl rfl ?_)
              refine WL.yes rfl rfl rfl hq4 rfl (op_move rfl ?_)
              refine WL.yes rfl rfl rfl hq4 rfl (op_move rfl ?_)
              refine WL.yes rfl rfl rfl hq4 rfl (op_indexAddr Try.underlying22 Fa.I35 rfl (H12.arr hA) rfl (by omega) ?_)
              refine WL.yes rfl rfl rfl hq4 rfl (op_fieldAddrS rfl Fa.F35_2 ?_)
              refine WL.yes rfl rfl rfl hq4 rfl (op_load rfl (Arr.atF (k := 2) (H12.arr hA) (fun _ => rfl) (by decide) Ak.zero (by omega) rfl) Try.underlying29 rfl ?_)
              refine WL.yes rfl rfl rfl hq4 rfl (op_move rfl ?_)
              refine WL.yes rfl rfl rfl hq4 rfl (op_leqU32 rfl rfl ?_)
              refine WL.yes rfl rfl rfl hq4 rfl (op_neqB Try.underlying4 rfl rfl ?_)
              refine WL.op rfl rfl (op_pickF rfl hq4 rfl ?_)
              refine WL.nil ?_
              refine WQ.next ?_
              refine WC.no rfl hq5 ?_
              refine WC.skip ?_
              refine WQ.next ?_
              refine WC.seq ?_
              refine WC.seq ?_
              refine WC.draw 14 Fa.M H12 (HW.op rfl (fun w1 H1 => op_move rfl ⟨rfl, Fr.refl _ _⟩) (HW.op rfl (fun w1 H1 => op_eqlN (b := 441) rfl rfl ⟨rfl, Fr.refl _ _⟩) (HW.op rfl (fun w1 H1 => op_move rfl ⟨rfl, Fr.refl _ _⟩) (HW.yes rfl rfl rfl hb15 (fun w1 H1 => op_move rfl ⟨rfl, Fr.refl _ _⟩) (HW.yes rfl rfl rfl hb15 (fun w1 H1 => op_move rfl ⟨rfl, Fr.refl _ _⟩) (HW.yes rfl rfl rfl hb15 (fun w1 H1 => op_move rfl ⟨rfl, Fr.refl _ _⟩) (HW.yes rfl rfl rfl hb15 (fun w1 H1 => op_indexAddr Try.underlying22 Fa.I35 rfl (H1.arr hA) rfl (by omega) ⟨rfl, Fr.refl _ _⟩) (HW.yes rfl rfl rfl hb15 (fun w1 H1 => op_fieldAddrS rfl Fa.F35_2 ⟨rfl, Fr.refl _ _⟩) (HW.yes rfl rfl rfl hb15 (fun w1 H1 => op_load rfl (Arr.atF (k := 2) (H1.arr hA) (fun _ => rfl) (by decide) Ak.zero (by omega) rfl) Try.underlying29 rfl ⟨rfl, Fr.refl _ _⟩) (HW.yes rfl rfl rfl hb15 (fun w1 H1 => op_move rfl ⟨rfl, Fr.refl _ _⟩) (HW.yes rfl rfl rfl hb15 (fun w1 H1 => op_move rfl ⟨rfl, Fr.refl _ _⟩) (HW.yes rfl rfl rfl hb15 (fun w1 H1 => op_indexAddr Try.underlying22 Fa.I35 rfl (H1.arr hA) rfl (by omega) ⟨rfl, Fr.refl _ _⟩) (HW.yes rfl rfl rfl hb15 (fun w1 H1 => op_fieldAddrS rfl Fa.F35_3 ⟨rfl, Fr.refl _ _⟩) (HW.yes rfl rfl rfl hb15 (fun w1 H1 => op_load rfl (Arr.atF (k := 3) (H1.arr hA) (fun _ => rfl) (by decide) Ak.zero (by omega) rfl) Try.underlying9 rfl ⟨rfl, Fr.refl _ _⟩)  HW.nil)))))))))))))) (by kernel_rfl) ?_
              intro β21 w21 H21
              refine WL.yes rfl rfl rfl hb15 rfl (op_callF Fa.C13 rfl ((update_ok s11 1 key (((((4 : UInt32) + (UInt32.ofNat (bl % (12 : UInt8)).toNat)).toNat) - 2) / 2) (-1) x4 k4 bv4 e14 xv4 cv4 nv4 40 2 (((4 : UInt32) + (UInt32.ofNat (bl % (12 : UInt8)).toNat)).toNat) ([e04, e14]) ((updE (Sst.mk B1 (max ((l.getD i Ak.zero).n) (-1))) ((((4 : UInt32) + (UInt32.ofNat (bl % (12 : UInt8)).toNat)).toNat - 2) / 2) key ((l.getD i Ak.zero).v) ((l.getD i Ak.zero).t)).1.B) ((l.getD i Ak.zero).v) ((l.getD i Ak.zero).t) _ _ (H21.part [6, 1, 2, 3, 4] rfl rfl) (by decide) rfl ((SOK.upd hOK)).len ((SOK.upd hOK)).all hcc (by omega) hk40 hnb.1 (by decide) (by omega)).mono (fun e w22 hq => ?_)))
              obtain ⟨rfl, hq22⟩ := hq
              refine ⟨_, rfl, ?_⟩
              have H22 : Own [] w w22 [.blk sb [(ptr x4 0), (vU32 1), (str key), (vN ((((4 : UInt32) + (UInt32.ofNat (bl % (12 : UInt8)).toNat)).toNat - 2) / 2)), (vI (updE (Sst.mk B1 (max ((l.getD i Ak.zero).n) (-1))) ((((4 : UInt32) + (UInt32.ofNat (bl % (12 : UInt8)).toNat)).toNat - 2) / 2) key ((l.getD i Ak.zero).v) ((l.getD i Ak.zero).t)).1.left)] 98, Ent.bo x4 [(ptr k4 0)], Ent.bo k4 [(vU32 40), xv4, cv4, nv4, bv4], Ent.ar bv4 1 2 [e04, e14], .row e14 9 1 ((4 : UInt32) + (UInt32.ofNat (bl % (12 : UInt8)).toNat)).toNat (List.map str (updE (Sst.mk ((updE (Sst.mk B1 (max ((l.getD i Ak.zero).n) (-1))) ((((4 : UInt32) + (UInt32.ofNat (bl % (12 : UInt8)).toNat)).toNat - 2) / 2) key ((l.getD i Ak.zero).v) ((l.getD i Ak.zero).t)).1.B) (-1)) (((((4 : UInt32) + (UInt32.ofNat (bl % (12 : UInt8)).toNat)).toNat) - 2) / 2) key ((l.getD i Ak.zero).v) ((l.getD i Ak.zero).t)).1.B), Ent.ar e04 1 (1 : UInt32).toNat (List.map str (List.replicate (1 : UInt32).toNat (List.replicate 64 0))), .blk s11 [(ptr x4 0), (vU32 1), (str key), (vN (((((4 : UInt32) + (UInt32.ofNat (bl % (12 : UInt8)).toNat)).toNat) - 2) / 2)), (vI (updE (Sst.mk ((updE (Sst.mk B1 (max ((l.getD i Ak.zero).n) (-1))) ((((4 : UInt32) + (UInt32.ofNat (bl % (12 : UInt8)).toNat)).toNat - 2) / 2) key ((l.getD i Ak.zero).v) ((l.getD i Ak.zero).t)).1.B) (-1)) (((((4 : UInt32) + (UInt32.ofNat (bl % (12 : UInt8)).toNat)).toNat) - 2) / 2) key ((l.getD i Ak.zero).v) ((l.getD i Ak.zero).t)).1.left)] 98] := H21.splice [6, 1, 2, 3, 4] [.blk s11 [(ptr x4 0), (vU32 1), (str key), (vN (((((4 : UInt32) + (UInt32.ofNat (bl % (12 : UInt8)).toNat)).toNat) - 2) / 2)), (vI (updE (Sst.mk ((updE (Sst.mk B1 (max ((l.getD i Ak.zero).n) (-1))) ((((4 : UInt32) + (UInt32.ofNat (bl % (12 : UInt8)).toNat)).toNat - 2) / 2) key ((l.getD i Ak.zero).v) ((l.getD i Ak.zero).t)).1.B) (-1)) (((((4 : UInt32) + (UInt32.ofNat (bl % (12 : UInt8)).toNat)).toNat) - 2) / 2) key ((l.getD i Ak.zero).v) ((l.getD i Ak.zero).t)).1.left)] 98, Ent.bo x4 [(ptr k4 0)], Ent.bo k4 [(vU32 40), xv4, cv4, nv4, bv4], Ent.ar bv4 1 2 [e04, e14], .row e14 9 1 ((4 : UInt32) + (UInt32.ofNat (bl % (12 : UInt8)).toNat)).toNat (List.map str (updE (Sst.mk ((updE (Sst.mk B1 (max ((l.getD i Ak.zero).n) (-1))) ((((4 : UInt32) + (UInt32.ofNat (bl % (12 : UInt8)).toNat)).toNat - 2) / 2) key ((l.getD i Ak.zero).v) ((l.getD i Ak.zero).t)).1.B) (-1)) (((((4 : UInt32) + (UInt32.ofNat (bl % (12 : UInt8)).toNat)).toNat) - 2) / 2) key ((l.getD i Ak.zero).v) ((l.getD i Ak.zero).t)).1.B)] [] rfl rfl hq22 (Fits.solid True.intro (Fits.same (j := 1) rfl (Fits.same (j := 2) rfl (Fits.same (j := 3) rfl (Fits.solid True.intro Fits.nil)))))
              refine WL.yes rfl rfl rfl hb15 rfl (op_neqN (b := 0) rfl rfl ?_)
              refine WL.op rfl rfl (op_pickT rfl hb15 rfl ?_)
              refine WL.nil ?_
              refine WQ.next ?_
              refine WC.no rfl hr1 ?_
              refine WC.skip ?_
              refine WQ.next ?_
              refine WC.seq ?_
              refine WC.seq ?_
              refine WC.region ?_
              refine WL.op rfl rfl (op_move rfl ?_)
              refine WL.op rfl rfl (op_eqlN (b := 441) rfl rfl ?_)
              refine WL.nil ?_
              refine WQ.next ?_
              refine WC.yes rfl hb15 ?_
              refine WC.seq ?_
              refine WC.region ?_
              refine WL.op rfl rfl (op_move rfl ?_)
              refine WL.op rfl rfl (op_callF Fa.C11 rfl ((current_ok s11 1 key (((((4 : UInt32) + (UInt32.ofNat (bl % (12 : UInt8)).toNat)).toNat) - 2) / 2) ((updE (Sst.mk ((updE (Sst.mk B1 (max ((l.getD i Ak.zero).n) (-1))) ((((4 : UInt32) + (UInt32.ofNat (bl % (12 : UInt8)).toNat)).toNat - 2) / 2) key ((l.getD i Ak.zero).v) ((l.getD i Ak.zero).t)).1.B) (-1)) (((((4 : UInt32) + (UInt32.ofNat (bl % (12 : UInt8)).toNat)).toNat) - 2) / 2) key ((l.getD i Ak.zero).v) ((l.getD i Ak.zero).t)).1.left) x4 k4 bv4 e14 xv4 cv4 nv4 40 2 (((4 : UInt32) + (UInt32.ofNat (bl % (12 : UInt8)).toNat)).toNat) ([e04, e14]) ((updE (Sst.mk ((updE (Sst.mk B1 (max ((l.getD i Ak.zero).n) (-1))) ((((4 : UInt32) + (UInt32.ofNat (bl % (12 : UInt8)).toNat)).toNat - 2) / 2) key ((l.getD i Ak.zero).v) ((l.getD i Ak.zero).t)).1.B) (-1)) (((((4 : UInt32) + (UInt32.ofNat (bl % (12 : UInt8)).toNat)).toNat) - 2) / 2) key ((l.getD i Ak.zero).v) ((l.getD i Ak.zero).t)).1.B) _ (H22.cellsAt (i := 6) rfl) (H22.cellsAtO (i := 1) rfl) (H22.cellsAtO (i := 2) rfl) (H22.arrO (i := 3) rfl) (H22.arrR (i := 4) rfl) (by decide) rfl ((SOK.upd (SOK.upd hOK))).len ((SOK.upd (SOK.upd hOK))).all hcc (by omega) hk40).mono (fun e w23 hq => ?_)))
              obtain ⟨rfl, hf23⟩ := hq
              refine ⟨_, rfl, ?_⟩
              have H23 := H22.fr' hf23
              refine WL.op rfl rfl (op_move rfl ?_)
              refine WL.op rfl rfl (op_extract rfl rfl ?_)
              refine WL.op rfl rfl (op_extract rfl rfl ?_)
              refine WL.op rfl rfl (op_extract rfl rfl ?_)
              refine WL.op rfl rfl (op_assign rfl ?_)
              refine WL.op rfl rfl (op_assign rfl ?_)
              refine WL.op rfl rfl (op_assign rfl ?_)
              refine WL.nil ?_
              refine WQ.next ?_
              refine WC.seq ?_
              refine WC.region ?_
              refine WL.op rfl rfl (op_move rfl ?_)
              refine WL.op rfl rfl (op_move rfl ?_)
              refine WL.op rfl rfl (op_move rfl ?_)
              refine WL.op rfl rfl (op_indexAddr Try.underlying22 Fa.I35 rfl (H23.arr hA) rfl (by omega) ?_)
              refine WL.op rfl rfl (op_fieldAddrS rfl Fa.F35_2 ?_)
              refine WL.op rfl rfl (op_load rfl (Arr.atF (k := 2) (H23.arr hA) (fun _ => rfl) (by decide) Ak.zero (by omega) rfl) Try.underlying29 rfl ?_)
              refine WL.op rfl rfl (op_neqU32 rfl rfl ?_)
              refine WL.op rfl rfl (op_move rfl ?_)
              refine WL.yes rfl rfl rfl hr2 rfl (op_move rfl ?_)
              refine WL.yes rfl rfl rfl hr2 rfl (op_move rfl ?_)
              refine WL.yes rfl rfl rfl hr2 rfl (op_move rfl ?_)
              refine WL.yes rfl rfl rfl hr2 rfl (op_indexAddr Try.underlying22 Fa.I35 rfl (H23.arr hA) rfl (by omega) ?_)
              refine WL.yes rfl rfl rfl hr2 rfl (op_fieldAddrS rfl Fa.F35_3 ?_)
              refine WL.yes rfl rfl rfl hr2 rfl (op_load rfl (Arr.atF (k := 3) (H23.arr hA) (fun _ => rfl) (by decide) Ak.zero (by omega) rfl) Try.underlying9 rfl ?_)
              refine WL.yes rfl rfl rfl hr2 rfl (op_neqStr rfl rfl ?_)
              refine WL.op rfl rfl (op_pickF rfl hr2 rfl ?_)
              refine WL.op rfl rfl (op_move rfl ?_)
              refine WL.yes rfl rfl rfl hr3 rfl (op_move rfl ?_)
              refine WL.yes rfl rfl rfl hr3 rfl (op_not rfl ?_)
              refine WL.op rfl rfl (op_pickF rfl hr3 rfl ?_)
              refine WL.nil ?_
              refine WQ.next ?_
              refine WC.no rfl (congrArg Bool.not hr4) ?_
              refine WC.skip ?_
              refine WQ.next ?_
              refine WC.region ?_
              refine WL.op rfl rfl (op_move rfl ?_)
              refine WL.op rfl rfl (op_assign rfl ?_)
              refine WL.nil ?_
              refine WQ.inNormal ?_
              refine WQ.next ?_
              refine WC.region ?_
              refine WL.op rfl rfl (op_move rfl ?_)
              refine WL.op rfl rfl (op_addN (b := 1) rfl rfl (by omega) ?_)
              refine WL.op rfl rfl (op_assign rfl ?_)
              refine WL.nil ?_
              exact WQ.round (i + 1, s11, (updE (Sst.mk ((updE (Sst.mk B1 (max ((l.getD i Ak.zero).n) (-1))) ((((4 : UInt32) + (UInt32.ofNat (bl % (12 : UInt8)).toNat)).toNat - 2) / 2) key ((l.getD i Ak.zero).v) ((l.getD i Ak.zero).t)).1.B) (-1)) (((((4 : UInt32) + (UInt32.ofNat (bl % (12 : UInt8)).toNat)).toNat) - 2) / 2) key ((l.getD i Ak.zero).v) ((l.getD i Ak.zero).t)).1.B, (updE (Sst.mk ((updE (Sst.mk B1 (max ((l.getD i Ak.zero).n) (-1))) ((((4 : UInt32) + (UInt32.ofNat (bl % (12 : UInt8)).toNat)).toNat - 2) / 2) key ((l.getD i Ak.zero).v) ((l.getD i Ak.zero).t)).1.B) (-1)) (((((4 : UInt32) + (UInt32.ofNat (bl % (12 : UInt8)).toNat)).toNat) - 2) / 2) key ((l.getD i Ak.zero).v) ((l.getD i Ak.zero).t)).1.left) ⟨⟨by omega, (SOK.upd (SOK.upd hOK)), (updE_left (by decide))⟩, (H23.sel [6, 1, 2, 3, 4, 5] rfl rfl)⟩ ⟨rfl, rfl, rfl, rfl, rfl, trivial⟩ (by show l.length - (i + 1) < l.length - i; omega)
          ·
            have hc16 := of_decide_eq_false hb16
            refine WL.no rfl rfl rfl hb16 rfl ?_
            refine WL.no rfl rfl rfl hb16 rfl ?_
            refine WL.no rfl rfl rfl hb16 rfl ?_
            refine WL.no rfl rfl rfl hb16 rfl ?_
            refine WL.no rfl rfl rfl hb16 rfl ?_
            refine WL.no rfl rfl rfl hb16 rfl ?_
            refine WL.no rfl rfl rfl hb16 rfl ?_
            refine WL.op rfl rfl (op_pickF rfl hb16 rfl ?_)
            refine WL.op rfl rfl (op_move rfl ?_)
            refine WL.no rfl rfl rfl rfl rfl ?_
            refine WL.op rfl rfl (op_pickF rfl rfl rfl ?_)
            refine WL.op rfl rfl (op_assign rfl ?_)
            refine WL.nil ?_
            refine WQ.next ?_
            refine WC.seq ?_
            refine WC.seq ?_
            refine WC.region ?_
            refine WL.op rfl rfl (op_move rfl ?_)
            refine WL.op rfl rfl (op_not rfl ?_)
            refine WL.op rfl rfl (op_move rfl ?_)
            refine WL.no rfl rfl rfl (congrArg Bool.not hq2) rfl ?_
            refine WL.no rfl rfl rfl (congrArg Bool.not hq2) rfl ?_
            refine WL.op rfl rfl (op_pickF rfl (congrArg Bool.not hq2) rfl ?_)
            refine WL.op rfl rfl (op_move rfl ?_)
            refine WL.yes rfl rfl rfl rfl rfl (op_move rfl ?_)
            refine WL.yes rfl rfl rfl rfl rfl (op_eqlN (b := 0) rfl rfl ?_)
            refine WL.yes rfl rfl rfl rfl rfl (op_move rfl ?_)
            refine WL.no rfl rfl rfl hb13 rfl ?_
            refine WL.no rfl rfl rfl hb13 rfl ?_
            refine WL.yes rfl rfl rfl rfl rfl (op_pickF rfl hb13 rfl ?_)
            refine WL.op rfl rfl (op_pickF rfl rfl rfl ?_)
            refine WL.op rfl rfl (op_move rfl ?_)
            refine WL.yes rfl rfl rfl rfl rfl (op_move rfl ?_)
            refine WL.yes rfl rfl rfl rfl rfl (op_neqN (b := 0) rfl rfl ?_)
            refine WL.yes rfl rfl rfl rfl rfl (op_move rfl ?_)
            refine WL.yes rfl rfl rfl hq3 rfl (op_move rfl ?_)
            refine WL.yes rfl rfl rfl hq3 rfl (op_neqN (b := 441) rfl rfl ?_)
            refine WL.yes rfl rfl rfl rfl rfl (op_pickT rfl hq3 rfl ?_)
            refine WL.yes rfl rfl rfl rfl rfl (op_move rfl ?_)
            refine WL.no rfl rfl rfl hr0 rfl ?_
            refine WL.no rfl rfl rfl hr0 rfl ?_
            refine WL.yes rfl rfl rfl rfl rfl (op_pickF rfl hr0 rfl ?_)
            refine WL.op rfl rfl (op_pickF rfl rfl rfl ?_)
            refine WL.op rfl rfl (op_move rfl ?_)
            refine WL.yes rfl rfl rfl rfl rfl (op_move rfl ?_)
            refine WL.yes rfl rfl rfl rfl rfl (op_move rfl ?_)
            refine WL.yes rfl rfl rfl rfl rfl (op_lssU32 rfl rfl ?_)
            refine WL.op rfl rfl (op_pickF rfl rfl rfl ?_)
            refine WL.op rfl rfl (op_move rfl ?_)
            refine WL.yes rfl rfl rfl hq4 rfl (op_move rfl ?_)
            refine WL.yes rfl rfl rfl hq4 rfl (op_eqlN (b := 440) rfl rfl ?_)
            refine WL.yes rfl rfl rfl hq4 rfl (op_move rfl ?_)
            refine WL.yes rfl rfl rfl hq4 rfl (op_move rfl ?_)
            refine WL.yes rfl rfl rfl hq4 rfl (op_indexAddr Try.underlying22 Fa.I35 rfl (H12.arr hA) rfl (by omega) ?_)
            refine WL.yes rfl rfl rfl hq4 rfl (op_fieldAddrS rfl Fa.F35_2 ?_)
            refine WL.yes rfl rfl rfl hq4 rfl (op_load rfl (Arr.atF (k := 2) (H12.arr hA) (fun _ => rfl) (by decide) Ak.zero (by omega) rfl) Try.underlying29 rfl ?_)
            refine WL.yes rfl rfl rfl hq4 rfl (op_move rfl ?_)
            refine WL.yes rfl rfl rfl hq4 rfl (op_leqU32 rfl rfl ?_)
            refine WL.yes rfl rfl rfl hq4 rfl (op_neqB Try.underlying4 rfl rfl ?_)
            refine WL.op rfl rfl (op_pickF rfl hq4 rfl ?_)
            refine WL.nil ?_
            refine WQ.next ?_
            refine WC.no rfl hq5 ?_
            refine WC.skip ?_
            refine WQ.next ?_
            refine WC.seq ?_
            refine WC.seq ?_
            refine WC.draw 14 Fa.M H12 (HW.op rfl (fun w1 H1 => op_move rfl ⟨rfl, Fr.refl _ _⟩) (HW.op rfl (fun w1 H1 => op_eqlN (b := 441) rfl rfl ⟨rfl, Fr.refl _ _⟩) (HW.op rfl (fun w1 H1 => op_move rfl ⟨rfl, Fr.refl _ _⟩) (HW.yes rfl rfl rfl hb15 (fun w1 H1 => op_move rfl ⟨rfl, Fr.refl _ _⟩) (HW.yes rfl rfl rfl hb15 (fun w1 H1 => op_move rfl ⟨rfl, Fr.refl _ _⟩) (HW.yes rfl rfl rfl hb15 (fun w1 H1 => op_move rfl ⟨rfl, Fr.refl _ _⟩) (HW.yes rfl rfl rfl hb15 (fun w1 H1 => op_indexAddr Try.underlying22 Fa.I35 rfl (H1.arr hA) rfl (by omega) ⟨rfl, Fr.refl _ _⟩) (HW.yes rfl rfl rfl hb15 (fun w1 H1 => op_fieldAddrS rfl Fa.F35_2 ⟨rfl, Fr.refl _ _⟩) (HW.yes rfl rfl rfl hb15 (fun w1 H1 => op_load rfl (Arr.atF (k := 2) (H1.arr hA) (fun _ => rfl) (by decide) Ak.zero (by omega) rfl) Try.underlying29 rfl ⟨rfl, Fr.refl _ _⟩) (HW.yes rfl rfl rfl hb15 (fun w1 H1 => op_move rfl ⟨rfl, Fr.refl _ _⟩) (HW.yes rfl rfl rfl hb15 (fun w1 H1 => op_move rfl ⟨rfl, Fr.refl _ _⟩) (HW.yes rfl rfl rfl hb15 (fun w1 H1 => op_indexAddr Try.underlying22 Fa.I35 rfl (H1.arr hA) rfl (by omega) ⟨rfl, Fr.refl _ _⟩) (HW.yes rfl rfl rfl hb15 (fun w1 H1 => op_fieldAddrS rfl Fa.F35_3 ⟨rfl, Fr.refl _ _⟩) (HW.yes rfl rfl rfl hb15 (fun w1 H1 => op_load rfl (Arr.atF (k := 3) (H1.arr hA) (fun _ => rfl) (by decide) Ak.zero (by omega) rfl) Try.underlying9 rfl ⟨rfl, Fr.refl _ _⟩)  HW.nil)))))))))))))) (by kernel_rfl) ?_
            intro β24 w24 H24
            refine WL.yes rfl rfl rfl hb15 rfl (op_callF Fa.C13 rfl ((update_ok s11 1 key (((((4 : UInt32) + (UInt32.ofNat (bl % (12 : UInt8)).toNat)).toNat) - 2) / 2) (-1) x4 k4 bv4 e14 xv4 cv4 nv4 40 2 (((4 : UInt32) + (UInt32.ofNat (bl % (12 : UInt8)).toNat)).toNat) ([e04, e14]) ((updE (Sst.mk B1 (max ((l.getD i Ak.zero).n) (-1))) ((((4 : UInt32) + (UInt32.ofNat (bl % (12 : UInt8)).toNat)).toNat - 2) / 2) key ((l.getD i Ak.zero).v) ((l.getD i Ak.zero).t)).1.B) ((l.getD i Ak.zero).v) ((l.getD i Ak.zero).t) _ _ (H24.part [6, 1, 2, 3, 4] rfl rfl) (by decide) rfl ((SOK.upd hOK)).len ((SOK.upd hOK)).all hcc (by omega) hk40 hnb.1 (by decide) (by omega)).mono (fun e w25 hq => ?_)))
            obtain ⟨rfl, hq25⟩ := hq
            refine ⟨_, rfl, ?_⟩
            have H25 : Own [] w w25 [.blk sb [(ptr x4 0), (vU32 1), (str key), (vN ((((4 : UInt32) + (UInt32.ofNat (bl % (12 : UInt8)).toNat)).toNat - 2) / 2)), (vI (updE (Sst.mk B1 (max ((l.getD i Ak.zero).n) (-1))) ((((4 : UInt32) + (UInt32.ofNat (bl % (12 : UInt8)).toNat)).toNat - 2) / 2) key ((l.getD i Ak.zero).v) ((l.getD i Ak.zero).t)).1.left)] 98, Ent.bo x4 [(ptr k4 0)], Ent.bo k4 [(vU32 40), xv4, cv4, nv4, bv4], Ent.ar bv4 1 2 [e04, e14], .row e14 9 1 ((4 : UInt32) + (UInt32.ofNat (bl % (12 : UInt8)).toNat)).toNat (List.map str (updE (Sst.mk ((updE (Sst.mk B1 (max ((l.getD i Ak.zero).n) (-1))) ((((4 : UInt32) + (UInt32.ofNat (bl % (12 : UInt8)).toNat)).toNat - 2) / 2) key ((l.getD i Ak.zero).v) ((l.getD i Ak.zero).t)).1.B) (-1)) (((((4 : UInt32) + (UInt32.ofNat (bl % (12 : UInt8)).toNat)).toNat) - 2) / 2) key ((l.getD i Ak.zero).v) ((l.getD i Ak.zero).t)).1.B), Ent.ar e04 1 (1 : UInt32).toNat (List.map str (List.replicate (1 : UInt32).toNat (List.replicate 64 0))), .blk s11 [(ptr x4 0), (vU32 1), (str key), (vN (((((4 : UInt32) + (UInt32.ofNat (bl % (12 : UInt8)).toNat)).toNat) - 2) / 2)), (vI (updE (Sst.mk ((updE (Sst.mk B1 (max ((l.getD i Ak.zero).n) (-1))) ((((4 : UInt32) + (UInt32.ofNat (bl % (12 : UInt8)).toNat)).toNat - 2) / 2) key ((l.getD i Ak.zero).v) ((l.getD i Ak.zero).t)).1.B) (-1)) (((((4 : UInt32) + (UInt32.ofNat (bl % (12 : UInt8)).toNat)).toNat) - 2) / 2) key ((l.getD i Ak.zero).v) ((l.getD i Ak.zero).t)).1.left)] 98] := H24.splice [6, 1, 2, 3, 4] [.blk s11 [(ptr x4 0), (vU32 1), (str key), (vN (((((4 : UInt32) + (UInt32.ofNat (bl % (12 : UInt8)).toNat)).toNat) - 2) / 2)), (vI (updE (Sst.mk ((updE (Sst.mk B1 (max ((l.getD i Ak.zero).n) (-1))) ((((4 : UInt32) + (UInt32.ofNat (bl % (12 : UInt8)).toNat)).toNat - 2) / 2) key ((l.getD i Ak.zero).v) ((l.getD i Ak.zero).t)).1.B) (-1)) (((((4 : UInt32) + (UInt32.ofNat (bl % (12 : UInt8)).toNat)).toNat) - 2) / 2) key ((l.getD i Ak.zero).v) ((l.getD i Ak.zero).t)).1.left)] 98, Ent.bo x4 [(ptr k4 0)], Ent.bo k4 [(vU32 40), xv4, cv4, nv4, bv4], Ent.ar bv4 1 2 [e04, e14], .row e14 9 1 ((4 : UInt32) + (UInt32.ofNat (bl % (12 : UInt8)).toNat)).toNat (List.map str (updE (Sst.mk ((updE (Sst.mk B1 (max ((l.getD i Ak.zero).n) (-1))) ((((4 : UInt32) + (UInt32.ofNat (bl % (12 : UInt8)).toNat)).toNat - 2) / 2) key ((l.getD i Ak.zero).v) ((l.getD i Ak.zero).t)).1.B) (-1)) (((((4 : UInt32) + (UInt32.ofNat (bl % (12 : UInt8)).toNat)).toNat) - 2) / 2) key ((l.getD i Ak.zero).v) ((l.getD i Ak.zero).t)).1.B)] [] rfl rfl hq25 (Fits.solid True.intro (Fits.same (j := 1) rfl (Fits.same (j := 2) rfl (Fits.same (j := 3) rfl (Fits.solid True.intro Fits.nil)))))
            refine WL.yes rfl rfl rfl hb15 rfl (op_neqN (b := 0) rfl rfl ?_)
            refine WL.op rfl rfl (op_pickT rfl hb15 rfl ?_)
            refine WL.nil ?_
            refine WQ.next ?_
            refine WC.no rfl hr1 ?_
            refine WC.skip ?_
            refine WQ.next ?_
            refine WC.seq ?_
            refine WC.seq ?_
            refine WC.region ?_
            refine WL.op rfl rfl (op_move rfl ?_)
            refine WL.op rfl rfl (op_eqlN (b := 441) rfl rfl ?_)
            refine WL.nil ?_
            refine WQ.next ?_
            refine WC.yes rfl hb15 ?_
            refine WC.seq ?_
            refine WC.region ?_
            refine WL.op rfl rfl (op_move rfl ?_)
            refine WL.op rfl rfl (op_callF Fa.C11 rfl ((current_ok s11 1 key (((((4 : UInt32) + (UInt32.ofNat (bl % (12 : UInt8)).toNat)).toNat) - 2) / 2) ((updE (Sst.mk ((updE (Sst.mk B1 (max ((l.getD i Ak.zero).n) (-1))) ((((4 : UInt32) + (UInt32.ofNat (bl % (12 : UInt8)).toNat)).toNat - 2) / 2) key ((l.getD i Ak.zero).v) ((l.getD i Ak.zero).t)).1.B) (-1)) (((((4 : UInt32) + (UInt32.ofNat (bl % (12 : UInt8)).toNat)).toNat) - 2) / 2) key ((l.getD i Ak.zero).v) ((l.getD i Ak.zero).t)).1.left) x4 k4 bv4 e14 xv4 cv4 nv4 40 2 (((4 : UInt32) + (UInt32.ofNat (bl % (12 : UInt8)).toNat)).toNat) ([e04, e14]) ((updE (Sst.mk ((updE (Sst.mk B1 (max ((l.getD i Ak.zero).n) (-1))) ((((4 : UInt32) + (UInt32.ofNat (bl % (12 : UInt8)).toNat)).toNat - 2) / 2) key ((l.getD i Ak.zero).v) ((l.getD i Ak.zero).t)).1.B) (-1)) (((((4 : UInt32) + (UInt32.ofNat (bl % (12 : UInt8)).toNat)).toNat) - 2) / 2) key ((l.getD i Ak.zero).v) ((l.getD i Ak.zero).t)).1.B) _ (H25.cellsAt (i := 6) rfl) (H25.cellsAtO (i := 1) rfl) (H25.cellsAtO (i := 2) rfl) (H25.arrO (i := 3) rfl) (H25.arrR (i := 4) rfl) (by decide) rfl ((SOK.upd (SOK.upd hOK))).len ((SOK.upd (SOK.upd hOK))).all hcc (by omega) hk40).mono (fun e w26 hq => ?_)))
            obtain ⟨rfl, hf26⟩ := hq
            refine ⟨_, rfl, ?_⟩
            have H26 := H25.fr' hf26
            refine WL.op rfl rfl (op_move rfl ?_)
            refine WL.op rfl rfl (op_extract rfl rfl ?_)
            refine WL.op rfl rfl (op_extract rfl rfl ?_)
            refine WL.op rfl rfl (op_extract rfl rfl ?_)
            refine WL.op rfl rfl (op_assign rfl ?_)
            refine WL.op rfl rfl (op_assign rfl ?_)
            refine WL.op rfl rfl (op_assign rfl ?_)
            refine WL.nil ?_
            refine WQ.next ?_
            refine WC.seq ?_
            refine WC.region ?_
            refine WL.op rfl rfl (op_move rfl ?_)
            refine WL.op rfl rfl (op_move rfl ?_)
            refine WL.op rfl rfl (op_move rfl ?_)
            refine WL.op rfl rfl (op_indexAddr Try.underlying22 Fa.I35 rfl (H26.arr hA) rfl (by omega) ?_)
            refine WL.op rfl rfl (op_fieldAddrS rfl Fa.F35_2 ?_)
            refine WL.op rfl rfl (op_load rfl (Arr.atF (k := 2) (H26.arr hA) (fun _ => rfl) (by decide) Ak.zero (by omega) rfl) Try.underlying29 rfl ?_)
            refine WL.op rfl rfl (op_neqU32 rfl rfl ?_)
            refine WL.op rfl rfl (op_move rfl ?_)
            refine WL.yes rfl rfl rfl hr2 rfl (op_move rfl ?_)
            refine WL.yes rfl rfl rfl hr2 rfl (op_move rfl ?_)
            refine WL.yes rfl rfl rfl hr2 rfl (op_move rfl ?_)
            refine WL.yes rfl rfl rfl hr2 rfl (op_indexAddr Try.underlying22 Fa.I35 rfl (H26.arr hA) rfl (by omega) ?_)
            refine WL.yes rfl rfl rfl hr2 rfl (op_fieldAddrS rfl Fa.F35_3 ?_)
            refine WL.yes rfl rfl rfl hr2 rfl (op_load rfl (Arr.atF (k := 3) (H26.arr hA) (fun _ => rfl) (by decide) Ak.zero (by omega) rfl) Try.underlying9 rfl ?_)
            refine WL.yes rfl rfl rfl hr2 rfl (op_neqStr rfl rfl ?_)
            refine WL.op rfl rfl (op_pickF rfl hr2 rfl ?_)
            refine WL.op rfl rfl (op_move rfl ?_)
            refine WL.yes rfl rfl rfl hr3 rfl (op_move rfl ?_)
            refine WL.yes rfl rfl rfl hr3 rfl (op_not rfl ?_)
            refine WL.op rfl rfl (op_pickF rfl hr3 rfl ?_)
            refine WL.nil ?_
            refine WQ.next ?_
            refine WC.no rfl (congrArg Bool.not hr4) ?_
            refine WC.skip ?_
            refine WQ.next ?_
            refine WC.region ?_
            refine WL.op rfl rfl (op_move rfl ?_)
            refine WL.op rfl rfl (op_assign rfl ?_)
            refine WL.nil ?_
            refine WQ.inNormal ?_
            refine WQ.next ?_
            refine WC.region ?_
            refine WL.op rfl rfl (op_move rfl ?_)
            refine WL.op rfl rfl (op_addN (b := 1) rfl rfl (by omega) ?_)
            refine WL.op rfl rfl (op_assign rfl ?_)
            refine WL.nil ?_
            exact WQ.round (i + 1, s11, (updE (Sst.mk ((updE (Sst.mk B1 (max ((l.getD i Ak.zero).n) (-1))) ((((4 : UInt32) + (UInt32.ofNat (bl % (12 : UInt8)).toNat)).toNat - 2) / 2) key ((l.getD i Ak.zero).v) ((l.getD i Ak.zero).t)).1.B) (-1)) (((((4 : UInt32) + (UInt32.ofNat (bl % (12 : UInt8)).toNat)).toNat) - 2) / 2) key ((l.getD i Ak.zero).v) ((l.getD i Ak.zero).t)).1.B, (updE (Sst.mk ((updE (Sst.mk B1 (max ((l.getD i Ak.zero).n) (-1))) ((((4 : UInt32) + (UInt32.ofNat (bl % (12 : UInt8)).toNat)).toNat - 2) / 2) key ((l.getD i Ak.zero).v) ((l.getD i Ak.zero).t)).1.B) (-1)) (((((4 : UInt32) + (UInt32.ofNat (bl % (12 : UInt8)).toNat)).toNat) - 2) / 2) key ((l.getD i Ak.zero).v) ((l.getD i Ak.zero).t)).1.left) ⟨⟨by omega, (SOK.upd (SOK.upd hOK)), (updE_left (by decide))⟩, (H26.sel [6, 1, 2, 3, 4, 5] rfl rfl)⟩ ⟨rfl, rfl, rfl, rfl, rfl, trivial⟩ (by show l.length - (i + 1) < l.length - i; omega)
        ·
          have hc15 := of_decide_eq_false hb15
          have hr1 : (decide ((updE (Sst.mk B1 (max ((l.getD i Ak.zero).n) (-1))) ((((4 : UInt32) + (UInt32.ofNat (bl % (12 : UInt8)).toNat)).toNat - 2) / 2) key ((l.getD i Ak.zero).v) ((l.getD i Ak.zero).t)).2 ≠ 441)) = true := decide_eq_true (of_decide_eq_false hb15)
          refine WL.op rfl rfl (op_move rfl ?_)
          refine WL.op rfl rfl (op_move rfl ?_)
          refine WL.op rfl rfl (op_eqlU32 rfl rfl ?_)
          refine WL.op rfl rfl (op_move rfl ?_)
          refine WL.yes rfl rfl rfl hq0 rfl (op_move rfl ?_)
          refine WL.yes rfl rfl rfl hq0 rfl (op_move rfl ?_)
          refine WL.yes rfl rfl rfl hq0 rfl (op_eqlStr rfl rfl ?_)
          refine WL.op rfl rfl (op_pickT rfl hq0 rfl ?_)
          refine WL.op rfl rfl (op_move rfl ?_)
          refine WL.yes rfl rfl rfl hq1 rfl (op_move rfl ?_)
          refine WL.yes rfl rfl rfl hq1 rfl (op_move rfl ?_)
          refine WL.yes rfl rfl rfl hq1 rfl (op_eqlB Try.underlying4 rfl rfl ?_)
          refine WL.op rfl rfl (op_pickT rfl hq1 rfl ?_)
          refine WL.op rfl rfl (op_assign rfl ?_)
          refine WL.nil ?_
          refine WQ.next ?_
          refine WC.seq ?_
          refine WC.region ?_
          refine WL.op rfl rfl (op_move rfl ?_)
          refine WL.op rfl rfl (op_move rfl ?_)
          refine WL.op rfl rfl (op_move rfl ?_)
          refine WL.op rfl rfl (op_indexAddr Try.underlying22 Fa.I35 rfl (H12.arr hA) rfl (by omega) ?_)
          refine WL.op rfl rfl (op_fieldAddrS rfl Fa.F35_2 ?_)
          refine WL.op rfl rfl (op_load rfl (Arr.atF (k := 2) (H12.arr hA) (fun _ => rfl) (by decide) Ak.zero (by omega) rfl) Try.underlying29 rfl ?_)
          refine WL.op rfl rfl (op_eqlU32 rfl rfl ?_)
          refine WL.op rfl rfl (op_move rfl ?_)
          refine WL.split (t := 109) rfl (fun (hb27 : (decide ((curS ((updE (Sst.mk B1 (max ((l.getD i Ak.zero).n) (-1))) ((((4 : UInt32) + (UInt32.ofNat (bl % (12 : UInt8)).toNat)).toNat - 2) / 2) key ((l.getD i Ak.zero).v) ((l.getD i Ak.zero).t)).1.B) (((((4 : UInt32) + (UInt32.ofNat (bl % (12 : UInt8)).toNat)).toNat) - 2) / 2) key).v = (l.getD i Ak.zero).v)) = true) => ?_) (fun (hb27 : (decide ((curS ((updE (Sst.mk B1 (max ((l.getD i Ak.zero).n) (-1))) ((((4 : UInt32) + (UInt32.ofNat (bl % (12 : UInt8)).toNat)).toNat - 2) / 2) key ((l.getD i Ak.zero).v) ((l.getD i Ak.zero).t)).1.B) (((((4 : UInt32) + (UInt32.ofNat (bl % (12 : UInt8)).toNat)).toNat) - 2) / 2) key).v = (l.getD i Ak.zero).v)) = false) => ?_)
          ·
            have hc27 := of_decide_eq_true hb27
            refine WL.yes rfl rfl rfl hb27 rfl (op_move rfl ?_)
            refine WL.yes rfl rfl rfl hb27 rfl (op_move rfl ?_)
            refine WL.yes rfl rfl rfl hb27 rfl (op_move rfl ?_)
            refine WL.yes rfl rfl rfl hb27 rfl (op_indexAddr Try.underlying22 Fa.I35 rfl (H12.arr hA) rfl (by omega) ?_)
            refine WL.yes rfl rfl rfl hb27 rfl (op_fieldAddrS rfl Fa.F35_3 ?_)
            refine WL.yes rfl rfl rfl hb27 rfl (op_load rfl (Arr.atF (k := 3) (H12.arr hA) (fun _ => rfl) (by decide) Ak.zero (by omega) rfl) Try.underlying9 rfl ?_)
            refine WL.yes rfl rfl rfl hb27 rfl (op_eqlStr rfl rfl ?_)
            refine WL.op rfl rfl (op_pickT rfl hb27 rfl ?_)
            refine WL.op rfl rfl (op_move rfl ?_)
            refine WL.split (t := 118) rfl (fun (hb28 : (decide ((curS ((updE (Sst.mk B1 (max ((l.getD i Ak.zero).n) (-1))) ((((4 : UInt32) + (UInt32.ofNat (bl % (12 : UInt8)).toNat)).toNat - 2) / 2) key ((l.getD i Ak.zero).v) ((l.getD i Ak.zero).t)).1.B) (((((4 : UInt32) + (UInt32.ofNat (bl % (12 : UInt8)).toNat)).toNat) - 2) / 2) key).t = (l.getD i Ak.zero).t)) = true) => ?_) (fun (hb28 : (decide ((curS ((updE (Sst.mk B1 (max ((l.getD i Ak.zero).n) (-1))) ((((4 : UInt32) + (UInt32.ofNat (bl % (12 : UInt8)).toNat)).toNat - 2) / 2) key ((l.getD i Ak.zero).v) ((l.getD i Ak.zero).t)).1.B) (((((4 : UInt32) + (UInt32.ofNat (bl % (12 : UInt8)).toNat)).toNat) - 2) / 2) key).t = (l.getD i Ak.zero).t)) = false) => ?_)
            ·
              have hc28 := of_decide_eq_true hb28
              refine WL.yes rfl rfl rfl hb28 rfl (op_move rfl ?_)
              refine WL.op rfl rfl (op_pickT rfl hb28 rfl ?_)
              refine WL.op rfl rfl (op_assign rfl ?_)
              refine WL.nil ?_
              refine WQ.next ?_
              refine WC.seq ?_
              refine WC.seq ?_
              refine WC.region ?_
              refine WL.op rfl rfl (op_move rfl ?_)
              refine WL.op rfl rfl (op_not rfl ?_)
              refine WL.op rfl rfl (op_move rfl ?_)
              refine WL.no rfl rfl rfl (congrArg Bool.not hq2) rfl ?_
              refine WL.no rfl rfl rfl (congrArg Bool.not hq2) rfl ?_
              refine WL.op rfl rfl (op_pickF rfl (congrArg Bool.not hq2) rfl ?_)
              refine WL.op rfl rfl (op_move rfl ?_)
              refine WL.yes rfl rfl rfl rfl rfl (op_move rfl ?_)
              refine WL.yes rfl rfl rfl rfl rfl (op_eqlN (b := 0) rfl rfl ?_)
              refine WL.yes rfl rfl rfl rfl rfl (op_move rfl ?_)
              refine WL.no rfl rfl rfl hb13 rfl ?_
              refine WL.no rfl rfl rfl hb13 rfl ?_
              refine WL.yes rfl rfl rfl rfl rfl (op_pickF rfl hb13 rfl ?_)
              refine WL.op rfl rfl (op_pickF rfl rfl rfl ?_)
              refine WL.op rfl rfl (op_move rfl ?_)
              refine WL.yes rfl rfl rfl rfl rfl (op_move rfl ?_)
              refine WL.yes rfl rfl rfl rfl rfl (op_neqN (b := 0) rfl rfl ?_)
              refine WL.yes rfl rfl rfl rfl rfl (op_move rfl ?_)
              refine WL.yes rfl rfl rfl hq3 rfl (op_move rfl ?_)
              refine WL.yes rfl rfl rfl hq3 rfl (op_neqN (b := 441) rfl rfl ?_)
              refine WL.yes rfl rfl rfl rfl rfl (op_pickT rfl hq3 rfl ?_)
              refine WL.yes rfl rfl rfl rfl rfl (op_move rfl ?_)
              refine WL.yes rfl rfl rfl hr1 rfl (op_move rfl ?_)
              refine WL.yes rfl rfl rfl hr1 rfl (op_not rfl ?_)
              refine WL.yes rfl rfl rfl rfl rfl (op_pickT rfl hr1 rfl ?_)
              refine WL.op rfl rfl (op_pickF rfl rfl rfl ?_)
              refine WL.op rfl rfl (op_move rfl ?_)
              refine WL.yes rfl rfl rfl (congrArg Bool.not hq2) rfl (op_move rfl ?_)
              refine WL.yes rfl rfl rfl (congrArg Bool.not hq2) rfl (op_move rfl ?_)
              refine WL.yes rfl rfl rfl (congrArg Bool.not hq2) rfl (op_lssU32 rfl rfl ?_)
              refine WL.op rfl rfl (op_pickF rfl (congrArg Bool.not hq2) rfl ?_)
              refine WL.op rfl rfl (op_move rfl ?_)
              refine WL.yes rfl rfl rfl hq4 rfl (op_move rfl ?_)
              refine WL.yes rfl rfl rfl hq4 rfl (op_eqlN (b := 440) rfl rfl ?_)
              refine WL.yes rfl rfl rfl hq4 rfl (op_move rfl ?_)
              refine WL.yes rfl rfl rfl hq4 rfl (op_move rfl ?_)
              refine WL.yes rfl rfl rfl hq4 rfl (op_indexAddr Try.underlying22 Fa.I35 rfl (H12.arr hA) rfl (by omega) ?_)
              refine WL.yes rfl rfl rfl hq4 rfl (op_fieldAddrS rfl Fa.F35_2 ?_)
              refine WL.yes rfl rfl rfl hq4 rfl (op_load rfl (Arr.atF (k := 2) (H12.arr hA) (fun _ => rfl) (by decide) Ak.zero (by omega) rfl) Try.underlying29 rfl ?_)
              refine WL.yes rfl rfl rfl hq4 rfl (op_move rfl ?_)
              refine WL.yes rfl rfl rfl hq4 rfl (op_leqU32 rfl rfl ?_)
              refine WL.yes rfl rfl rfl hq4 rfl (op_neqB Try.underlying4 rfl rfl ?_)
              refine WL.op rfl rfl (op_pickF rfl hq4 rfl ?_)
              refine WL.nil ?_
              refine WQ.next ?_
              refine WC.no rfl hq5 ?_
              refine WC.skip ?_
              refine WQ.next ?_
              refine WC.seq ?_
              refine WC.seq ?_
              refine WC.draw 14 Fa.M H12 (HW.op rfl (fun w1 H1 => op_move rfl ⟨rfl, Fr.refl _ _⟩) (HW.op rfl (fun w1 H1 => op_eqlN (b := 441) rfl rfl ⟨rfl, Fr.refl _ _⟩) (HW.op rfl (fun w1 H1 => op_move rfl ⟨rfl, Fr.refl _ _⟩) (HW.no rfl rfl rfl hb15 (HW.no rfl rfl rfl hb15 (HW.no rfl rfl rfl hb15 (HW.no rfl rfl rfl hb15 (HW.no rfl rfl rfl hb15 (HW.no rfl rfl rfl hb15 (HW.no rfl rfl rfl hb15 (HW.no rfl rfl rfl hb15 (HW.no rfl rfl rfl hb15 (HW.no rfl rfl rfl hb15 (HW.no rfl rfl rfl hb15  HW.nil)))))))))))))) (by kernel_rfl) ?_
              intro β29 w29 H29
              refine WL.no rfl rfl rfl hb15 rfl ?_
              refine WL.no rfl rfl rfl hb15 rfl ?_
              refine WL.op rfl rfl (op_pickF rfl hb15 rfl ?_)
              refine WL.nil ?_
              refine WQ.next ?_
              refine WC.no rfl rfl ?_
              refine WC.skip ?_
              refine WQ.next ?_
              refine WC.seq ?_
              refine WC.seq ?_
              refine WC.region ?_
              refine WL.op rfl rfl (op_move rfl ?_)
              refine WL.op rfl rfl (op_eqlN (b := 441) rfl rfl ?_)
              refine WL.nil ?_
              refine WQ.next ?_
              refine WC.no rfl hb15 ?_
              refine WC.skip ?_
              refine WQ.next ?_
              refine WC.region ?_
              refine WL.op rfl rfl (op_move rfl ?_)
              refine WL.op rfl rfl (op_assign rfl ?_)
              refine WL.nil ?_
              refine WQ.inNormal ?_
              refine WQ.next ?_
              refine WC.region ?_
              refine WL.op rfl rfl (op_move rfl ?_)
              refine WL.op rfl rfl (op_addN (b := 1) rfl rfl (by omega) ?_)
              refine WL.op rfl rfl (op_assign rfl ?_)
              refine WL.nil ?_
              exact WQ.round (i + 1, s11, (updE (Sst.mk B1 (max ((l.getD i Ak.zero).n) (-1))) ((((4 : UInt32) + (UInt32.ofNat (bl % (12 : UInt8)).toNat)).toNat - 2) / 2) key ((l.getD i Ak.zero).v) ((l.getD i Ak.zero).t)).1.B, (-1)) ⟨⟨by omega, (SOK.upd hOK), (by decide)⟩, (H29.sel [6, 1, 2, 3, 4, 5] rfl rfl)⟩ ⟨rfl, rfl, rfl, rfl, rfl, trivial⟩ (by show l.length - (i + 1) < l.length - i; omega)
            ·
              have hc28 := of_decide_eq_false hb28
              refine WL.no rfl rfl rfl hb28 rfl ?_
              refine WL.op rfl rfl (op_pickF rfl hb28 rfl ?_)
              refine WL.op rfl rfl (op_assign rfl ?_)
              refine WL.nil ?_
              refine WQ.next ?_
              refine WC.seq ?_
              refine WC.seq ?_
              refine WC.region ?_
              refine WL.op rfl rfl (op_move rfl ?_)
              refine WL.op rfl rfl (op_not rfl ?_)
              refine WL.op rfl rfl (op_move rfl ?_)
              refine WL.no rfl rfl rfl (congrArg Bool.not hq2) rfl ?_
              refine WL.no rfl rfl rfl (congrArg Bool.not hq2) rfl ?_
              refine WL.op rfl rfl (op_pickF rfl (congrArg Bool.not hq2) rfl ?_)
              refine WL.op rfl rfl (op_move rfl ?_)
              refine WL.yes rfl rfl rfl rfl rfl (op_move rfl ?_)
              refine WL.yes rfl rfl rfl rfl rfl (op_eqlN (b := 0) rfl rfl ?_)
              refine WL.yes rfl rfl rfl rfl rfl (op_move rfl ?_)
              refine WL.no rfl rfl rfl hb13 rfl ?_
              refine WL.no rfl rfl rfl hb13 rfl ?_
              refine WL.yes rfl rfl rfl rfl rfl (op_pickF rfl hb13 rfl ?_)
              refine WL.op rfl rfl (op_pickF rfl rfl rfl ?_)
              refine WL.op rfl rfl (op_move rfl ?_)
              refine WL.yes rfl rfl rfl rfl rfl (op_move rfl ?_)
              refine WL.yes rfl rfl rfl rfl rfl (op_neqN (b := 0) rfl rfl ?_)
              refine WL.yes rfl rfl rfl rfl rfl (op_move rfl ?_)
              refine WL.yes rfl rfl rfl hq3 rfl (op_move rfl ?_)
              refine WL.yes rfl rfl rfl hq3 rfl (op_neqN (b := 441) rfl rfl ?_)
              refine WL.yes rfl rfl rfl rfl rfl (op_pickT rfl hq3 rfl ?_)
              refine WL.yes rfl rfl rfl rfl rfl (op_move rfl ?_)
              refine WL.yes rfl rfl rfl hr1 rfl (op_move rfl ?_)
              refine WL.yes rfl rfl rfl hr1 rfl (op_not rfl ?_)
              refine WL.yes rfl rfl rfl rfl rfl (op_pickT rfl hr1 rfl ?_)
              refine WL.op rfl rfl (op_pickF rfl rfl rfl ?_)
              refine WL.op rfl rfl (op_move rfl ?_)
              refine WL.yes rfl rfl rfl (congrArg Bool.not hq2) rfl (op_move rfl ?_)
              refine WL.yes rfl rfl rfl (congrArg Bool.not hq2) rfl (op_move rfl ?_)
              refine WL.yes rfl rfl rfl (congrArg Bool.not hq2) rfl (op_lssU32 rfl rfl ?_)
              refine WL.op rfl rfl (op_pickF rfl (congrArg Bool.not hq2) rfl ?_)
              refine WL.op rfl rfl (op_move rfl ?_)
              refine WL.yes rfl rfl rfl hq4 rfl (op_move rfl ?_)
              refine WL.yes rfl rfl rfl hq4 rfl (op_eqlN (b := 440) rfl rfl ?_)
              refine WL.yes rfl rfl rfl hq4 rfl (op_move rfl ?_)
              refine WL.yes rfl rfl rfl hq4 rfl (op_move rfl ?_)
              refine WL.yes rfl rfl rfl hq4 rfl (op_indexAddr Try.underlying22 Fa.I35 rfl (H12.arr hA) rfl (by omega) ?_)
              refine WL.yes rfl rfl rfl hq4 rfl (op_fieldAddrS rfl Fa.F35_2 ?_)
              refine WL.yes rfl rfl rfl hq4 rfl (op_load rfl (Arr.atF (k := 2) (H12.arr hA) (fun _ => rfl) (by decide) Ak.zero (by omega) rfl) Try.underlying29 rfl ?_)
              refine WL.yes rfl rfl rfl hq4 rfl (op_move rfl ?_)
              refine WL.yes rfl rfl rfl hq4 rfl (op_leqU32 rfl rfl ?_)
              refine WL.yes rfl rfl rfl hq4 rfl (op_neqB Try.underlying4 rfl rfl ?_)
              refine WL.op rfl rfl (op_pickF rfl hq4 rfl ?_)
              refine WL.nil ?_
              refine WQ.next ?_
              refine WC.no rfl hq5 ?_
              refine WC.skip ?_
              refine WQ.next ?_
              refine WC.seq ?_
              refine WC.seq ?_
              refine WC.draw 14 Fa.M H12 (HW.op rfl (fun w1 H1 => op_move rfl ⟨rfl, Fr.refl _ _⟩) (HW.op rfl (fun w1 H1 => op_eqlN (b := 441) rfl rfl ⟨rfl, Fr.refl _ _⟩) (HW.op rfl (fun w1 H1 => op_move rfl ⟨rfl, Fr.refl _ _⟩) (HW.no rfl rfl rfl hb15 (HW.no rfl rfl rfl hb15 (HW.no rfl rfl rfl hb15 (HW.no rfl rfl rfl hb15 (HW.no rfl rfl rfl hb15 (HW.no rfl rfl rfl hb15 (HW.no rfl rfl rfl hb15 (HW.no rfl rfl rfl hb15 (HW.no rfl rfl rfl hb15 (HW.no rfl rfl rfl hb15 (HW.no rfl rfl rfl hb15  HW.nil)))))))))))))) (by kernel_rfl) ?_
              intro β30 w30 H30
              refine WL.no rfl rfl rfl hb15 rfl ?_
              refine WL.no rfl rfl rfl hb15 rfl ?_
              refine WL.op rfl rfl (op_pickF rfl hb15 rfl ?_)
              refine WL.nil ?_
              refine WQ.next ?_
              refine WC.no rfl rfl ?_
              refine WC.skip ?_
              refine WQ.next ?_
              refine WC.seq ?_
              refine WC.seq ?_
              refine WC.region ?_
              refine WL.op rfl rfl (op_move rfl ?_)
              refine WL.op rfl rfl (op_eqlN (b := 441) rfl rfl ?_)
              refine WL.nil ?_
              refine WQ.next ?_
              refine WC.no rfl hb15 ?_
              refine WC.skip ?_
              refine WQ.next ?_
              refine WC.region ?_
              refine WL.op rfl rfl (op_move rfl ?_)
              refine WL.op rfl rfl (op_assign rfl ?_)
              refine WL.nil ?_
              refine WQ.inNormal ?_
              refine WQ.next ?_
              refine WC.region ?_
              refine WL.op rfl rfl (op_move rfl ?_)
              refine WL.op rfl rfl (op_addN (b := 1) rfl rfl (by omega) ?_)
              refine WL.op rfl rfl (op_assign rfl ?_)
              refine WL.nil ?_
              exact WQ.round (i + 1, s11, (updE (Sst.mk B1 (max ((l.getD i Ak.zero).n) (-1))) ((((4 : UInt32) + (UInt32.ofNat (bl % (12 : UInt8)).toNat)).toNat - 2) / 2) key ((l.getD i Ak.zero).v) ((l.getD i Ak.zero).t)).1.B, (-1)) ⟨⟨by omega, (SOK.upd hOK), (by decide)⟩, (H30.sel [6, 1, 2, 3, 4, 5] rfl rfl)⟩ ⟨rfl, rfl, rfl, rfl, rfl, trivial⟩ (by show l.length - (i + 1) < l.length - i; omega)
          ·
            have hc27 := of_decide_eq_false hb27
            refine WL.no rfl rfl rfl hb27 rfl ?_
            refine WL.no rfl rfl rfl hb27 rfl ?_
            refine WL.no rfl rfl rfl hb27 rfl ?_
            refine WL.no rfl rfl rfl hb27 rfl ?_
            refine WL.no rfl rfl rfl hb27 rfl ?_
            refine WL.no rfl rfl rfl hb27 rfl ?_
            refine WL.no rfl rfl rfl hb27 rfl ?_
            refine WL.op rfl rfl (op_pickF rfl hb27 rfl ?_)
            refine WL.op rfl rfl (op_move rfl ?_)
            refine WL.no rfl rfl rfl rfl rfl ?_
            refine WL.op rfl rfl (op_pickF rfl rfl rfl ?_)
            refine WL.op rfl rfl (op_assign rfl ?_)
            refine WL.nil ?_
            refine WQ.next ?_
            refine WC.seq ?_
            refine WC.seq ?_
            refine WC.region ?_
            refine WL.op rfl rfl (op_move rfl ?_)
            refine WL.op rfl rfl (op_not rfl ?_)
            refine WL.op rfl rfl (op_move rfl ?_)
            refine WL.no rfl rfl rfl (congrArg Bool.not hq2) rfl ?_
            refine WL.no rfl rfl rfl (congrArg Bool.not hq2) rfl ?_
            refine WL.op rfl rfl (op_pickF rfl (congrArg Bool.not hq2) rfl ?_)
            refine WL.op rfl rfl (op_move rfl ?_)
            refine WL.yes rfl rfl rfl rfl rfl (op_move rfl ?_)
            refine WL.yes rfl rfl rfl rfl rfl (op_eqlN (b := 0) rfl rfl ?_)
            refine WL.yes rfl rfl rfl rfl rfl (op_move rfl ?_)
            refine WL.no rfl rfl rfl hb13 rfl ?_
            refine WL.no rfl rfl rfl hb13 rfl ?_
            refine WL.yes rfl rfl rfl rfl rfl (op_pickF rfl hb13 rfl ?_)
            refine WL.op rfl rfl (op_pickF rfl rfl rfl ?_)
            refine WL.op rfl rfl (op_move rfl ?_)
            refine WL.yes rfl rfl rfl rfl rfl (op_move rfl ?_)
            refine WL.yes rfl rfl rfl rfl rfl (op_neqN (b := 0) rfl rfl ?_)
            refine WL.yes rfl rfl rfl rfl rfl (op_move rfl ?_)
            refine WL.yes rfl rfl rfl hq3 rfl (op_move rfl ?_)
            refine WL.yes rfl rfl rfl hq3 rfl (op_neqN (b := 441) rfl rfl ?_)
            refine WL.yes rfl rfl rfl rfl rfl (op_pickT rfl hq3 rfl ?_)
            refine WL.yes rfl rfl rfl rfl rfl (op_move rfl ?_)
            refine WL.yes rfl rfl rfl hr1 rfl (op_move rfl ?_)
            refine WL.yes rfl rfl rfl hr1 rfl (op_not rfl ?_)
            refine WL.yes rfl rfl rfl rfl rfl (op_pickT rfl hr1 rfl ?_)
            refine WL.op rfl rfl (op_pickF rfl rfl rfl ?_)
            refine WL.op rfl rfl (op_move rfl ?_)
            refine WL.yes rfl rfl rfl (congrArg Bool.not hq2) rfl (op_move rfl ?_)
            refine WL.yes rfl rfl rfl (congrArg Bool.not hq2) rfl (op_move rfl ?_)
            refine WL.yes rfl rfl rfl (congrArg Bool.not hq2) rfl (op_lssU32 rfl rfl ?_)
            refine WL.op rfl rfl (op_pickF rfl (congrArg Bool.not hq2) rfl ?_)
            refine WL.op rfl rfl (op_move rfl ?_)
            refine WL.yes rfl rfl rfl hq4 rfl (op_move rfl ?_)
            refine WL.yes rfl rfl rfl hq4 rfl (op_eqlN (b := 440) rfl rfl ?_)
            refine WL.yes rfl rfl rfl hq4 rfl (op_move rfl ?_)
            refine WL.yes rfl rfl rfl hq4 rfl (op_move rfl ?_)
            refine WL.yes rfl rfl rfl hq4 rfl (op_indexAddr Try.underlying22 Fa.I35 rfl (H12.arr hA) rfl (by omega) ?_)
            refine WL.yes rfl rfl rfl hq4 rfl (op_fieldAddrS rfl Fa.F35_2 ?_)
            refine WL.yes rfl rfl rfl hq4 rfl (op_load rfl (Arr.atF (k := 2) (H12.arr hA) (fun _ => rfl) (by decide) Ak.zero (by omega) rfl) Try.underlying29 rfl ?_)
            refine WL.yes rfl rfl rfl hq4 rfl (op_move rfl ?_)
            refine WL.yes rfl rfl rfl hq4 rfl (op_leqU32 rfl rfl ?_)
            refine WL.yes rfl rfl rfl hq4 rfl (op_neqB Try.underlying4 rfl rfl ?_)
            refine WL.op rfl rfl (op_pickF rfl hq4 rfl ?_)
            refine WL.nil ?_
            refine WQ.next ?_
            refine WC.no rfl hq5 ?_
            refine WC.skip ?_
            refine WQ.next ?_
            refine WC.seq ?_
            refine WC.seq ?_
            refine WC.draw 14 Fa.M H12 (HW.op rfl (fun w1 H1 => op_move rfl ⟨rfl, Fr.refl _ _⟩) (HW.op rfl (fun w1 H1 => op_eqlN (b := 441) rfl rfl ⟨rfl, Fr.refl _ _⟩) (HW.op rfl (fun w1 H1 => op_move rfl ⟨rfl, Fr.refl _ _⟩) (HW.no rfl rfl rfl hb15 (HW.no rfl rfl rfl hb15 (HW.no rfl rfl rfl hb15 (HW.no rfl rfl rfl hb15 (HW.no rfl rfl rfl hb15 (HW.no rfl rfl rfl hb15 (HW.no rfl rfl rfl hb15 (HW.no rfl rfl rfl hb15 (HW.no rfl rfl rfl hb15 (HW.no rfl rfl rfl hb15 (HW.no rfl rfl rfl hb15  HW.nil)))))))))))))) (by kernel_rfl) ?_
            intro β31 w31 H31
            refine WL.no rfl rfl rfl hb15 rfl ?_
            refine WL.no rfl rfl rfl hb15 rfl ?_
            refine WL.op rfl rfl (op_pickF rfl hb15 rfl ?_)
            refine WL.nil ?_
            refine WQ.next ?_
            refine WC.no rfl rfl ?_
            refine WC.skip ?_
            refine WQ.next ?_
            refine WC.seq ?_
            refine WC.seq ?_
            refine WC.region ?_
            refine WL.op rfl rfl (op_move rfl ?_)
            refine WL.op rfl rfl (op_eqlN (b := 441) rfl rfl ?_)
            refine WL.nil ?_
            refine WQ.next ?_
            refine WC.no rfl hb15 ?_
            refine WC.skip ?_
            refine WQ.next ?_
            refine WC.region ?_
            refine WL.op rfl rfl (op_move rfl ?_)
            refine WL.op rfl rfl (op_assign rfl ?_)
            refine WL.nil ?_
            refine WQ.inNormal ?_
            refine WQ.next ?_
            refine WC.region ?_
            refine WL.op rfl rfl (op_move rfl ?_)
            refine WL.op rfl rfl (op_addN (b := 1) rfl rfl (by omega) ?_)
            refine WL.op rfl rfl (op_assign rfl ?_)
            refine WL.nil ?_
            exact WQ.round (i + 1, s11, (updE (Sst.mk B1 (max ((l.getD i Ak.zero).n) (-1))) ((((4 : UInt32) + (UInt32.ofNat (bl % (12 : UInt8)).toNat)).toNat - 2) / 2) key ((l.getD i Ak.zero).v) ((l.getD i Ak.zero).t)).1.B, (-1)) ⟨⟨by omega, (SOK.upd hOK), (by decide)⟩, (H31.sel [6, 1, 2, 3, 4, 5] rfl rfl)⟩ ⟨rfl, rfl, rfl, rfl, rfl, trivial⟩ (by show l.length - (i + 1) < l.length - i; omega)
    ·
      have hc6 := of_decide_eq_false hb6
      refine WC.exit ?_
      refine WQ.thenExit ?_
      refine WQ.thenExit ?_
      refine WQ.inHere ?_
      refine WQ.next ?_
      refine WC.seq ?_
      refine WC.region ?_
      refine WL.op rfl rfl (op_callF Fa.C9 rfl ((alive44_ok _).mono (fun e w32 hq => ?_)))
      obtain ⟨rfl, hf32⟩ := hq
      refine ⟨_, rfl, ?_⟩
      have H32 := H5.fr' hf32
      refine WL.op rfl rfl (op_assign rfl ?_)
      refine WL.nil ?_
      refine WQ.next ?_
      refine WC.ret ?_
      refine WQ.out (.tmp rfl .nil) ?_
      exact ⟨rfl, H32.fr⟩
end Go.Proofs.Ytbjhccnffacbcaa
