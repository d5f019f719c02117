/- General lemmas and walks: WSlot8, WSlot9, WSlot10, WSlot11, WSlot12, WSlot13. No condition but what each theorem names. -/
import Derived.Test.YtbjhccnffacbcaaGreatQe22db859
import Derived.Test.YtbjhccnffacbcaaGreatQec9f2c28
import Derived.Test.YtbjhccnffacbcaaGreatQ54427b1e
/-! from WSlot8 -/
namespace Go.Proofs.YtbjhccnffacbcaaGreat
open Go.Owl Go.Spec
set_option maxRecDepth 100000 in
theorem made_ok (nb : UInt32) (key : List UInt8) (w : World) (h4 : 4 ≤ nb.toNat) (hm : nb.toNat ≤ 1024) :
    Calls Tryz.prog 20 #[(vU32 nb), (str key)] w (fun e w' => ∃ s x k bv e0 e1 xv cv nv, e = .returned (.tuple #[ptr x 0, ptr s 0]) ∧ (∀ b' ∈ [k], w.heap.size ≤ b') ∧ (∀ b' ∈ footA bv [e0, e1], w.heap.size ≤ b') ∧ (∀ b' ∈ footA e0 (List.map str (List.replicate (1 : UInt32).toNat (List.replicate 64 0))), w.heap.size ≤ b') ∧ (∀ b' ∈ [x], w.heap.size ≤ b') ∧ Own [] w w' [.blk s [(ptr x 0), (vU32 1), (str key), (vN ((nb.toNat - 2) / 2)), (vI (-1))] 95, Ent.bo x [(ptr k 0)], Ent.bo k [(vU32 40), xv, cv, nv, bv], Ent.ar bv 1 2 [e0, e1], .row e1 9 1 nb.toNat (List.map str (List.replicate nb.toNat (List.replicate 64 0))), Ent.ar e0 1 (1 : UInt32).toNat (List.map str (List.replicate (1 : UInt32).toNat (List.replicate 64 0)))]) := by
  refine enter (args := [(vU32 nb), (str key)]) Tryz.func20 rfl rfl ?_
  have H0 : Own [] w w [] := Own.start w []
  refine WC.seq ?_
  refine WC.region ?_
  refine WL.op rfl rfl (op_assign rfl ?_)
  refine WL.op rfl rfl (op_assign rfl ?_)
  refine WL.nil ?_
  refine WQ.next ?_
  refine WC.seq ?_
  refine WC.region ?_
  refine WL.op rfl rfl (op_move rfl ?_)
  refine WL.op rfl rfl (op_buildSlice (cs := [_, _]) H0 Tryz.underlying73 Fa.I22 rfl rfl rfl rfl (by decide) (by decide) (fun b1 w1 H1 => ?_))
  refine WL.op rfl rfl (op_build (cs := [_, _]) Fa.I75 Fa.PL75 rfl rfl ?_)
  refine WL.op rfl rfl (op_callF Fa.C37 rfl ((exoNew_ok 40 _ 1 nb _ (H1.arrR (i := 0) rfl) (hard_made hm)).mono (fun e w2 hq => ?_)))
  obtain ⟨x2, k2, bv2, e02, e12, xv2, cv2, nv2, rfl, hf02, hf12, hf22, hf32, hq2⟩ := hq
  refine ⟨_, rfl, ?_⟩
  have H2 : Own [] w w2 [.row (.slice (some ⟨b1, 0, none⟩) 2 2) 22 1 2 (List.map vU32 [1, nb]), Ent.bo x2 [(ptr k2 0)], Ent.bo k2 [(vU32 40), xv2, cv2, nv2, bv2], Ent.ar bv2 1 2 [e02, e12], .row e12 9 1 nb.toNat (List.map str (List.replicate nb.toNat (List.replicate 64 0))), Ent.ar e02 1 (1 : UInt32).toNat (List.map str (List.replicate (1 : UInt32).toNat (List.replicate 64 0)))] := H1.splice [] [] [Ent.bo x2 [(ptr k2 0)], Ent.bo k2 [(vU32 40), xv2, cv2, nv2, bv2], Ent.ar bv2 1 2 [e02, e12], .row e12 9 1 nb.toNat (List.map str (List.replicate nb.toNat (List.replicate 64 0))), Ent.ar e02 1 (1 : UInt32).toNat (List.map str (List.replicate (1 : UInt32).toNat (List.replicate 64 0)))] rfl rfl hq2 (Fits.fresh hf32 (Fits.fresh hf02 (Fits.fresh hf12 (Fits.solid True.intro (Fits.fresh hf22 Fits.nil)))))
  refine WL.op rfl rfl (op_move rfl ?_)
  refine WL.op rfl rfl (op_extract rfl rfl ?_)
  refine WL.op rfl rfl (op_extract rfl rfl ?_)
  refine WL.op rfl rfl (op_assign rfl ?_)
  refine WL.op rfl rfl (op_assign rfl ?_)
  refine WL.nil ?_
  refine WQ.next ?_
  refine WC.seq ?_
  refine WC.seq ?_
  refine WC.region ?_
  have hs : w.heap.size ≤ w1.heap.size := H1.fr.size
  refine WL.op rfl rfl (op_move rfl ?_)
  refine WL.op rfl rfl (op_neqN (b := 0) rfl rfl ?_)
  refine WL.op rfl rfl (op_move rfl ?_)
  refine WL.yes rfl rfl rfl (by decide) rfl (op_move rfl ?_)
  refine WL.yes rfl rfl rfl (by decide) rfl (op_eqlPN Fa.PT47 rfl rfl ?_)
  refine WL.op rfl rfl (op_pickF rfl (by decide) rfl ?_)
  refine WL.nil ?_
  refine WQ.next ?_
  refine WC.no rfl rfl ?_
  refine WC.skip ?_
  refine WQ.next ?_
  refine WC.seq ?_
  refine WC.region ?_
  refine WL.op rfl rfl (op_move rfl ?_)
  refine WL.op rfl rfl (op_move rfl ?_)
  refine WL.op rfl rfl (op_callF Fa.C11 rfl ((new44_ok x2 k2 bv2 e12 xv2 cv2 nv2 40 2 nb.toNat ([e02, e12]) (List.replicate nb.toNat (List.replicate 64 0)) 1 key _ (H2.cellsAtO (i := 1) rfl) (H2.cellsAtO (i := 2) rfl) (H2.arrO (i := 3) rfl) (H2.arrR (i := 4) rfl) (by decide) rfl (by omega) (by omega)).mono (fun e w3 hq => ?_)))
  obtain ⟨s3, rfl, hq3⟩ := hq
  refine ⟨_, rfl, ?_⟩
  have H3 : Own [] w w3 [.row (.slice (some ⟨b1, 0, none⟩) 2 2) 22 1 2 (List.map vU32 [1, nb]), Ent.bo x2 [(ptr k2 0)], Ent.bo k2 [(vU32 40), xv2, cv2, nv2, bv2], Ent.ar bv2 1 2 [e02, e12], .row e12 9 1 nb.toNat (List.map str (List.replicate nb.toNat (List.replicate 64 0))), Ent.ar e02 1 (1 : UInt32).toNat (List.map str (List.replicate (1 : UInt32).toNat (List.replicate 64 0))), .blk s3 [(ptr x2 0), (vU32 1), (str key), (vN ((nb.toNat - 2) / 2)), (vI (-1))] 95] := H2.splice [] [] [.blk s3 [(ptr x2 0), (vU32 1), (str key), (vN ((nb.toNat - 2) / 2)), (vI (-1))] 95] rfl rfl hq3 (Fits.solid True.intro Fits.nil)
  refine WL.op rfl rfl (op_move rfl ?_)
  refine WL.op rfl rfl (op_extract rfl rfl ?_)
  refine WL.op rfl rfl (op_extract rfl rfl ?_)
  refine WL.op rfl rfl (op_assign rfl ?_)
  refine WL.op rfl rfl (op_assign rfl ?_)
  refine WL.nil ?_
  refine WQ.next ?_
  refine WC.seq ?_
  refine WC.seq ?_
  refine WC.region ?_
  refine WL.op rfl rfl (op_move rfl ?_)
  refine WL.op rfl rfl (op_neqN (b := 0) rfl rfl ?_)
  refine WL.nil ?_
  refine WQ.next ?_
  refine WC.no rfl (by decide) ?_
  refine WC.skip ?_
  refine WQ.next ?_
  refine WC.seq ?_
  refine WC.region ?_
  refine WL.op rfl rfl (op_move rfl ?_)
  refine WL.op rfl rfl (op_move rfl ?_)
  refine WL.op rfl rfl (op_assign rfl ?_)
  refine WL.op rfl rfl (op_assign rfl ?_)
  refine WL.nil ?_
  refine WQ.next ?_
  refine WC.ret ?_
  refine WQ.out (.tmp rfl (.tmp rfl .nil)) ?_
  exact ⟨_, _, _, _, _, _, _, _, _, rfl, up hf02 hs, up hf12 hs, up hf22 hs, up hf32 hs, H3.sel [6, 1, 2, 3, 4, 5] rfl rfl⟩
set_option maxRecDepth 100000 in
theorem heavy44_ok (key : List UInt8) (lv : Value) (l : List Ak) (w : World) (hA : Arr w lv 4 l.length (List.flatMap akc l)) (hk : key.length < 2 ^ 48) (hfit : AkFit l) (hl : l.length < 2 ^ 47) :
    Calls Tryz.prog 23 #[(str key), lv] w (fun e w' => e = .returned (.bool (heavy44 key l)) ∧ Fr [] w w') := by
  refine enter (args := [(str key), lv]) Tryz.func23 rfl rfl ?_
  have H0 : Own [] w w [] := Own.start w []
  refine WC.seq ?_
  refine WC.region ?_
  refine WL.op rfl rfl (op_assign rfl ?_)
  refine WL.nil ?_
  refine WQ.next ?_
  refine WC.seq ?_
  refine WC.region ?_
  refine WL.op rfl rfl (op_move rfl ?_)
  refine WL.op rfl rfl (op_lenStr Tryz.underlying9 rfl ?_)
  refine WL.op rfl rfl (op_assign rfl ?_)
  refine WL.nil ?_
  refine WQ.next ?_
  refine WC.seq ?_
  refine WC.seq ?_
  refine WC.region ?_
  refine WL.op rfl rfl (op_assign rfl ?_)
  refine WL.nil ?_
  refine WQ.next ?_
  refine WC.block ?_
  refine WC.loop (α := Nat) (fun k => [(0, (str key)), (1, lv), (5, (vN (hvN key l k))), (6, (vN k))]) (fun k w' => (k ≤ min l.length 100) ∧ Own [] w w' []) (fun k => l.length - k) 0 ⟨(Nat.zero_le _), H0⟩ ⟨rfl, rfl, rfl, rfl, trivial⟩ ?_
  rintro k w1 ⟨hk1, H1⟩
  show WC _ _ _ _ _ [(0, (str key)), (1, lv), (5, (vN (hvN key l k))), (6, (vN k))] _
  have hv := hvN_le hk hfit k
  have hg := (hfit k).1
  refine WC.seq ?_
  refine WC.seq ?_
  refine WC.region ?_
  refine WL.op rfl rfl (op_move rfl ?_)
  refine WL.op rfl rfl (op_move rfl ?_)
  refine WL.op rfl rfl (op_lenA Tryz.underlying53 rfl (H1.arr hA) ?_)
  refine WL.op rfl rfl (op_lssN rfl rfl ?_)
  refine WL.op rfl rfl (op_move rfl ?_)
  refine WL.split (t := 13) rfl (fun (hb2 : (decide (k < l.length)) = true) => ?_) (fun (hb2 : (decide (k < l.length)) = false) => ?_)
  ·
    have hc2 := of_decide_eq_true hb2
    refine WL.yes rfl rfl rfl hb2 rfl (op_move rfl ?_)
    refine WL.yes rfl rfl rfl hb2 rfl (op_lssN (b := 100) rfl rfl ?_)
    refine WL.op rfl rfl (op_pickT rfl hb2 rfl ?_)
    refine WL.nil ?_
    refine WQ.next ?_
    refine WC.cond rfl (fun (hb3 : (decide (k < 100)) = true) => ?_) (fun (hb3 : (decide (k < 100)) = false) => ?_)
    ·
      have hc3 := of_decide_eq_true hb3
      refine WC.skip ?_
      refine WQ.next ?_
      refine WC.seq ?_
      refine WC.block ?_
      refine WC.region ?_
      refine WL.op rfl rfl (op_move rfl ?_)
      refine WL.op rfl rfl (op_move rfl ?_)
      refine WL.op rfl rfl (op_move rfl ?_)
      refine WL.op rfl rfl (op_indexAddr Tryz.underlying53 Fa.I58 rfl (H1.arr hA) rfl (by omega) ?_)
      refine WL.op rfl rfl (op_fieldAddrS rfl Fa.F58_3 ?_)
      refine WL.op rfl rfl (op_load rfl (Arr.atF (k := 3) (H1.arr hA) (fun _ => rfl) (by decide) Ak.zero (by omega) rfl) Tryz.underlying9 rfl ?_)
      refine WL.op rfl rfl (op_lenStr Tryz.underlying9 rfl ?_)
      refine WL.op rfl rfl (op_addN rfl rfl (by omega) ?_)
      refine WL.op rfl rfl (op_assign rfl ?_)
      refine WL.nil ?_
      refine WQ.inNormal ?_
      refine WQ.next ?_
      refine WC.region ?_
      refine WL.op rfl rfl (op_move rfl ?_)
      refine WL.op rfl rfl (op_addN (b := 1) rfl rfl (by omega) ?_)
      refine WL.op rfl rfl (op_assign rfl ?_)
      refine WL.nil ?_
      exact WQ.round (k + 1) ⟨(by omega), H1⟩ ⟨rfl, rfl, rfl, rfl, trivial⟩ (by omega)
    ·
      have hc3 := of_decide_eq_false hb3
      refine WC.exit ?_
      refine WQ.thenExit ?_
      refine WQ.thenExit ?_
      refine WQ.inHere ?_
      refine WQ.next ?_
      refine WC.seq ?_
      refine WC.region ?_
      refine WL.op rfl rfl (op_move rfl ?_)
      refine WL.op rfl rfl (op_lenA Tryz.underlying53 rfl (H1.arr hA) ?_)
      refine WL.op rfl rfl (op_gtrN (b := 40) rfl rfl ?_)
      refine WL.op rfl rfl (op_move rfl ?_)
      refine WL.split (t := 30) rfl (fun (hb4 : (decide (l.length > 40)) = true) => ?_) (fun (hb4 : (decide (l.length > 40)) = false) => ?_)
      ·
        have hc4 := of_decide_eq_true hb4
        refine WL.no rfl rfl rfl hb4 rfl ?_
        refine WL.no rfl rfl rfl hb4 rfl ?_
        refine WL.op rfl rfl (op_pickT rfl hb4 rfl ?_)
        refine WL.op rfl rfl (op_assign rfl ?_)
        refine WL.nil ?_
        refine WQ.next ?_
        refine WC.ret ?_
        refine WQ.out (.tmp rfl .nil) ?_
        exact ⟨by rw [heavy44, if_pos (of_decide_eq_true hb4)]; rfl, H1.fr⟩
      ·
        have hc4 := of_decide_eq_false hb4
        refine WL.yes rfl rfl rfl hb4 rfl (op_move rfl ?_)
        refine WL.yes rfl rfl rfl hb4 rfl (op_gtrN (b := 6000) rfl rfl ?_)
        refine WL.op rfl rfl (op_pickF rfl hb4 rfl ?_)
        refine WL.op rfl rfl (op_assign rfl ?_)
        refine WL.nil ?_
        refine WQ.next ?_
        refine WC.ret ?_
        refine WQ.out (.tmp rfl .nil) ?_
        exact ⟨by rw [heavy44, if_neg (of_decide_eq_false hb4), show min l.length 100 = k by omega]; rfl, H1.fr⟩
  ·
    have hc2 := of_decide_eq_false hb2
    refine WL.no rfl rfl rfl hb2 rfl ?_
    refine WL.no rfl rfl rfl hb2 rfl ?_
    refine WL.op rfl rfl (op_pickF rfl hb2 rfl ?_)
    refine WL.nil ?_
    refine WQ.next ?_
    refine WC.no rfl rfl ?_
    refine WC.exit ?_
    refine WQ.thenExit ?_
    refine WQ.thenExit ?_
    refine WQ.inHere ?_
    refine WQ.next ?_
    refine WC.seq ?_
    refine WC.region ?_
    refine WL.op rfl rfl (op_move rfl ?_)
    refine WL.op rfl rfl (op_lenA Tryz.underlying53 rfl (H1.arr hA) ?_)
    refine WL.op rfl rfl (op_gtrN (b := 40) rfl rfl ?_)
    refine WL.op rfl rfl (op_move rfl ?_)
    refine WL.split (t := 30) rfl (fun (hb5 : (decide (l.length > 40)) = true) => ?_) (fun (hb5 : (decide (l.length > 40)) = false) => ?_)
    ·
      have hc5 := of_decide_eq_true hb5
      refine WL.no rfl rfl rfl hb5 rfl ?_
      refine WL.no rfl rfl rfl hb5 rfl ?_
      refine WL.op rfl rfl (op_pickT rfl hb5 rfl ?_)
      refine WL.op rfl rfl (op_assign rfl ?_)
      refine WL.nil ?_
      refine WQ.next ?_
      refine WC.ret ?_
      refine WQ.out (.tmp rfl .nil) ?_
      exact ⟨by rw [heavy44, if_pos (of_decide_eq_true hb5)]; rfl, H1.fr⟩
    ·
      have hc5 := of_decide_eq_false hb5
      refine WL.yes rfl rfl rfl hb5 rfl (op_move rfl ?_)
      refine WL.yes rfl rfl rfl hb5 rfl (op_gtrN (b := 6000) rfl rfl ?_)
      refine WL.op rfl rfl (op_pickF rfl hb5 rfl ?_)
      refine WL.op rfl rfl (op_assign rfl ?_)
      refine WL.nil ?_
      refine WQ.next ?_
      refine WC.ret ?_
      refine WQ.out (.tmp rfl .nil) ?_
      exact ⟨by rw [heavy44, if_neg (of_decide_eq_false hb5), show min l.length 100 = k by omega]; rfl, H1.fr⟩
set_option maxHeartbeats 4000000 in
set_option maxRecDepth 100000 in
theorem alive44_ok  (w : World) :
    Calls Tryz.prog 10 #[] w (fun e w' => e = .returned (.bool true) ∧ Fr [] w w') := by
  refine enter (args := []) Tryz.func10 rfl rfl ?_
  have H0 : Own [] w w [] := Own.start w []
  refine WC.seq ?_
  refine WC.region ?_
  refine WL.op rfl rfl (op_assign rfl ?_)
  refine WL.nil ?_
  refine WQ.next ?_
  refine WC.seq ?_
  refine WC.region ?_
  refine WL.op rfl rfl (op_callF Fa.C20 rfl ((made_ok 6 ([107]) _ (by decide) (by decide)).mono (fun e w1 hq => ?_)))
  obtain ⟨s1, x1, k1, bv1, e01, e11, xv1, cv1, nv1, rfl, hf01, hf11, hf21, hf31, hq1⟩ := hq
  refine ⟨_, rfl, ?_⟩
  have H1 : Own [] w w1 [.blk s1 [(ptr x1 0), (vU32 1), (str [107]), (vN (((6 : UInt32).toNat - 2) / 2)), (vI (-1))] 95, Ent.bo x1 [(ptr k1 0)], Ent.bo k1 [(vU32 40), xv1, cv1, nv1, bv1], Ent.ar bv1 1 2 [e01, e11], .row e11 9 1 (6 : UInt32).toNat (List.map str (List.replicate (6 : UInt32).toNat (List.replicate 64 0))), Ent.ar e01 1 (1 : UInt32).toNat (List.map str (List.replicate (1 : UInt32).toNat (List.replicate 64 0)))] := H0.splice [] [] [.blk s1 [(ptr x1 0), (vU32 1), (str [107]), (vN (((6 : UInt32).toNat - 2) / 2)), (vI (-1))] 95, Ent.bo x1 [(ptr k1 0)], Ent.bo k1 [(vU32 40), xv1, cv1, nv1, bv1], Ent.ar bv1 1 2 [e01, e11], .row e11 9 1 (6 : UInt32).toNat (List.map str (List.replicate (6 : UInt32).toNat (List.replicate 64 0))), Ent.ar e01 1 (1 : UInt32).toNat (List.map str (List.replicate (1 : UInt32).toNat (List.replicate 64 0)))] rfl rfl hq1 (Fits.solid True.intro (Fits.fresh hf31 (Fits.fresh hf01 (Fits.fresh hf11 (Fits.solid True.intro (Fits.fresh hf21 Fits.nil))))))
  refine WL.op rfl rfl (op_move rfl ?_)
  refine WL.op rfl rfl (op_extract rfl rfl ?_)
  refine WL.op rfl rfl (op_extract rfl rfl ?_)
  refine WL.op rfl rfl (op_assign rfl ?_)
  refine WL.op rfl rfl (op_assign rfl ?_)
  refine WL.nil ?_
  refine WQ.next ?_
  refine WC.seq ?_
  refine WC.seq ?_
  refine WC.region ?_
  refine WL.op rfl rfl (op_move rfl ?_)
  refine WL.op rfl rfl (op_eqlPN Fa.PT24 rfl rfl ?_)
  refine WL.nil ?_
  refine WQ.next ?_
  refine WC.no rfl rfl ?_
  refine WC.skip ?_
  refine WQ.next ?_
  refine WC.seq ?_
  refine WC.region ?_
  refine WL.op rfl rfl (op_move rfl ?_)
  refine WL.op rfl rfl (op_callF Fa.C17 rfl ((update_ok s1 1 ([107]) (((6 : UInt32).toNat - 2) / 2) (-1) x1 k1 bv1 e11 xv1 cv1 nv1 40 2 ((6 : UInt32).toNat) ([e01, e11]) (List.replicate (6 : UInt32).toNat (List.replicate 64 0)) 1 ([97]) _ _ (H1.part [0, 1, 2, 3, 4] rfl rfl) (by decide) rfl ((SOK.new (6 : UInt32).toNat)).len ((SOK.new (6 : UInt32).toNat)).all (by decide) (by decide) (by decide) (by decide) (by decide) (by decide)).mono (fun e w2 hq => ?_)))
  obtain ⟨rfl, hq2⟩ := hq
  refine ⟨_, rfl, ?_⟩
  have H2 : Own [] w w2 [.blk s1 [(ptr x1 0), (vU32 1), (str [107]), (vN (((6 : UInt32).toNat - 2) / 2)), (vI (updE (Sst.mk (List.replicate (6 : UInt32).toNat (List.replicate 64 0)) (-1)) (((6 : UInt32).toNat - 2) / 2) ([107]) 1 ([97])).1.left)] 95, Ent.bo x1 [(ptr k1 0)], Ent.bo k1 [(vU32 40), xv1, cv1, nv1, bv1], Ent.ar bv1 1 2 [e01, e11], .row e11 9 1 (6 : UInt32).toNat (List.map str (updE (Sst.mk (List.replicate (6 : UInt32).toNat (List.replicate 64 0)) (-1)) (((6 : UInt32).toNat - 2) / 2) ([107]) 1 ([97])).1.B), Ent.ar e01 1 (1 : UInt32).toNat (List.map str (List.replicate (1 : UInt32).toNat (List.replicate 64 0)))] := H1.splice [0, 1, 2, 3, 4] [.blk s1 [(ptr x1 0), (vU32 1), (str [107]), (vN (((6 : UInt32).toNat - 2) / 2)), (vI (updE (Sst.mk (List.replicate (6 : UInt32).toNat (List.replicate 64 0)) (-1)) (((6 : UInt32).toNat - 2) / 2) ([107]) 1 ([97])).1.left)] 95, Ent.bo x1 [(ptr k1 0)], Ent.bo k1 [(vU32 40), xv1, cv1, nv1, bv1], Ent.ar bv1 1 2 [e01, e11], .row e11 9 1 (6 : UInt32).toNat (List.map str (updE (Sst.mk (List.replicate (6 : UInt32).toNat (List.replicate 64 0)) (-1)) (((6 : UInt32).toNat - 2) / 2) ([107]) 1 ([97])).1.B)] [] rfl rfl hq2 (Fits.solid True.intro (Fits.same (j := 1) rfl (Fits.same (j := 2) rfl (Fits.same (j := 3) rfl (Fits.solid True.intro Fits.nil)))))
  refine WL.op rfl rfl (op_move rfl ?_)
  refine WL.op rfl rfl (op_callF Fa.C17 rfl ((update_ok s1 1 ([107]) (((6 : UInt32).toNat - 2) / 2) ((updE (Sst.mk (List.replicate (6 : UInt32).toNat (List.replicate 64 0)) (-1)) (((6 : UInt32).toNat - 2) / 2) ([107]) 1 ([97])).1.left) x1 k1 bv1 e11 xv1 cv1 nv1 40 2 ((6 : UInt32).toNat) ([e01, e11]) ((updE (Sst.mk (List.replicate (6 : UInt32).toNat (List.replicate 64 0)) (-1)) (((6 : UInt32).toNat - 2) / 2) ([107]) 1 ([97])).1.B) 1 ([98]) _ _ (H2.part [0, 1, 2, 3, 4] rfl rfl) (by decide) rfl ((SOK.upd (SOK.new (6 : UInt32).toNat))).len ((SOK.upd (SOK.new (6 : UInt32).toNat))).all (by decide) (by decide) (by decide) (by decide) (updE_left (by decide)) (by decide)).mono (fun e w3 hq => ?_)))
  obtain ⟨rfl, hq3⟩ := hq
  refine ⟨_, rfl, ?_⟩
  have H3 : Own [] w w3 [.blk s1 [(ptr x1 0), (vU32 1), (str [107]), (vN (((6 : UInt32).toNat - 2) / 2)), (vI (updE (Sst.mk ((updE (Sst.mk (List.replicate (6 : UInt32).toNat (List.replicate 64 0)) (-1)) (((6 : UInt32).toNat - 2) / 2) ([107]) 1 ([97])).1.B) ((updE (Sst.mk (List.replicate (6 : UInt32).toNat (List.replicate 64 0)) (-1)) (((6 : UInt32).toNat - 2) / 2) ([107]) 1 ([97])).1.left)) (((6 : UInt32).toNat - 2) / 2) ([107]) 1 ([98])).1.left)] 95, Ent.bo x1 [(ptr k1 0)], Ent.bo k1 [(vU32 40), xv1, cv1, nv1, bv1], Ent.ar bv1 1 2 [e01, e11], .row e11 9 1 (6 : UInt32).toNat (List.map str (updE (Sst.mk ((updE (Sst.mk (List.replicate (6 : UInt32).toNat (List.replicate 64 0)) (-1)) (((6 : UInt32).toNat - 2) / 2) ([107]) 1 ([97])).1.B) ((updE (Sst.mk (List.replicate (6 : UInt32).toNat (List.replicate 64 0)) (-1)) (((6 : UInt32).toNat - 2) / 2) ([107]) 1 ([97])).1.left)) (((6 : UInt32).toNat - 2) / 2) ([107]) 1 ([98])).1.B), Ent.ar e01 1 (1 : UInt32).toNat (List.map str (List.replicate (1 : UInt32).toNat (List.replicate 64 0)))] := H2.splice [0, 1, 2, 3, 4] [.blk s1 [(ptr x1 0), (vU32 1), (str [107]), (vN (((6 : UInt32).toNat - 2) / 2)), (vI (updE (Sst.mk ((updE (Sst.mk (List.replicate (6 : UInt32).toNat (List.replicate 64 0)) (-1)) (((6 : UInt32).toNat - 2) / 2) ([107]) 1 ([97])).1.B) ((updE (Sst.mk (List.replicate (6 : UInt32).toNat (List.replicate 64 0)) (-1)) (((6 : UInt32).toNat - 2) / 2) ([107]) 1 ([97])).1.left)) (((6 : UInt32).toNat - 2) / 2) ([107]) 1 ([98])).1.left)] 95, Ent.bo x1 [(ptr k1 0)], Ent.bo k1 [(vU32 40), xv1, cv1, nv1, bv1], Ent.ar bv1 1 2 [e01, e11], .row e11 9 1 (6 : UInt32).toNat (List.map str (updE (Sst.mk ((updE (Sst.mk (List.replicate (6 : UInt32).toNat (List.replicate 64 0)) (-1)) (((6 : UInt32).toNat - 2) / 2) ([107]) 1 ([97])).1.B) ((updE (Sst.mk (List.replicate (6 : UInt32).toNat (List.replicate 64 0)) (-1)) (((6 : UInt32).toNat - 2) / 2) ([107]) 1 ([97])).1.left)) (((6 : UInt32).toNat - 2) / 2) ([107]) 1 ([98])).1.B)] [] rfl rfl hq3 (Fits.solid True.intro (Fits.same (j := 1) rfl (Fits.same (j := 2) rfl (Fits.same (j := 3) rfl (Fits.solid True.intro Fits.nil)))))
  refine WL.op rfl rfl (op_assign rfl ?_)
  refine WL.op rfl rfl (op_assign rfl ?_)
  refine WL.nil ?_
  refine WQ.next ?_
  refine WC.seq ?_
  refine WC.region ?_
  refine WL.op rfl rfl (op_move rfl ?_)
  refine WL.op rfl rfl (op_callF Fa.C16 rfl ((fuse_ok s1 (ptr x1 0) rfl 1 ([107]) (((6 : UInt32).toNat - 2) / 2) ((updE (Sst.mk ((updE (Sst.mk (List.replicate (6 : UInt32).toNat (List.replicate 64 0)) (-1)) (((6 : UInt32).toNat - 2) / 2) ([107]) 1 ([97])).1.B) ((updE (Sst.mk (List.replicate (6 : UInt32).toNat (List.replicate 64 0)) (-1)) (((6 : UInt32).toNat - 2) / 2) ([107]) 1 ([97])).1.left)) (((6 : UInt32).toNat - 2) / 2) ([107]) 1 ([98])).1.left) (2 : Int) _ _ (H3.part [0] rfl rfl)).mono (fun e w4 hq => ?_)))
  obtain ⟨rfl, hq4⟩ := hq
  refine ⟨_, rfl, ?_⟩
  have H4 : Own [] w w4 [.blk s1 [(ptr x1 0), (vU32 1), (str [107]), (vN (((6 : UInt32).toNat - 2) / 2)), (vI (max (2 : Int) (-1)))] 95, Ent.bo x1 [(ptr k1 0)], Ent.bo k1 [(vU32 40), xv1, cv1, nv1, bv1], Ent.ar bv1 1 2 [e01, e11], .row e11 9 1 (6 : UInt32).toNat (List.map str (updE (Sst.mk ((updE (Sst.mk (List.replicate (6 : UInt32).toNat (List.replicate 64 0)) (-1)) (((6 : UInt32).toNat - 2) / 2) ([107]) 1 ([97])).1.B) ((updE (Sst.mk (List.replicate (6 : UInt32).toNat (List.replicate 64 0)) (-1)) (((6 : UInt32).toNat - 2) / 2) ([107]) 1 ([97])).1.left)) (((6 : UInt32).toNat - 2) / 2) ([107]) 1 ([98])).1.B), Ent.ar e01 1 (1 : UInt32).toNat (List.map str (List.replicate (1 : UInt32).toNat (List.replicate 64 0)))] := H3.splice [0] [.blk s1 [(ptr x1 0), (vU32 1), (str [107]), (vN (((6 : UInt32).toNat - 2) / 2)), (vI (max (2 : Int) (-1)))] 95] [] rfl rfl hq4 (Fits.solid True.intro Fits.nil)
  refine WL.nil ?_
  refine WQ.next ?_
  refine WC.seq ?_
  refine WC.region ?_
  refine WL.op rfl rfl (op_move rfl ?_)
  refine WL.op rfl rfl (op_callF Fa.C17 rfl ((update_ok s1 1 ([107]) (((6 : UInt32).toNat - 2) / 2) (max (2 : Int) (-1)) x1 k1 bv1 e11 xv1 cv1 nv1 40 2 ((6 : UInt32).toNat) ([e01, e11]) ((updE (Sst.mk ((updE (Sst.mk (List.replicate (6 : UInt32).toNat (List.replicate 64 0)) (-1)) (((6 : UInt32).toNat - 2) / 2) ([107]) 1 ([97])).1.B) ((updE (Sst.mk (List.replicate (6 : UInt32).toNat (List.replicate 64 0)) (-1)) (((6 : UInt32).toNat - 2) / 2) ([107]) 1 ([97])).1.left)) (((6 : UInt32).toNat - 2) / 2) ([107]) 1 ([98])).1.B) 2 ([98]) _ _ (H4.part [0, 1, 2, 3, 4] rfl rfl) (by decide) rfl ((SOK.upd (SOK.upd (SOK.new (6 : UInt32).toNat)))).len ((SOK.upd (SOK.upd (SOK.new (6 : UInt32).toNat)))).all (by decide) (by decide) (by decide) (by decide) (max_left (by decide)) (by decide)).mono (fun e w5 hq => ?_)))
  obtain ⟨rfl, hq5⟩ := hq
  refine ⟨_, rfl, ?_⟩
  have H5 : Own [] w w5 [.blk s1 [(ptr x1 0), (vU32 1), (str [107]), (vN (((6 : UInt32).toNat - 2) / 2)), (vI (updE (Sst.mk ((updE (Sst.mk ((updE (Sst.mk (List.replicate (6 : UInt32).toNat (List.replicate 64 0)) (-1)) (((6 : UInt32).toNat - 2) / 2) ([107]) 1 ([97])).1.B) ((updE (Sst.mk (List.replicate (6 : UInt32).toNat (List.replicate 64 0)) (-1)) (((6 : UInt32).toNat - 2) / 2) ([107]) 1 ([97])).1.left)) (((6 : UInt32).toNat - 2) / 2) ([107]) 1 ([98])).1.B) (max (2 : Int) (-1))) (((6 : UInt32).toNat - 2) / 2) ([107]) 2 ([98])).1.left)] 95, Ent.bo x1 [(ptr k1 0)], Ent.bo k1 [(vU32 40), xv1, cv1, nv1, bv1], Ent.ar bv1 1 2 [e01, e11], .row e11 9 1 (6 : UInt32).toNat (List.map str (updE (Sst.mk ((updE (Sst.mk ((updE (Sst.mk (List.replicate (6 : UInt32).toNat (List.replicate 64 0)) (-1)) (((6 : UInt32).toNat - 2) / 2) ([107]) 1 ([97])).1.B) ((updE (Sst.mk (List.replicate (6 : UInt32).toNat (List.replicate 64 0)) (-1)) (((6 : UInt32).toNat - 2) / 2) ([107]) 1 ([97])).1.left)) (((6 : UInt32).toNat - 2) / 2) ([107]) 1 ([98])).1.B) (max (2 : Int) (-1))) (((6 : UInt32).toNat - 2) / 2) ([107]) 2 ([98])).1.B), Ent.ar e01 1 (1 : UInt32).toNat (List.map str (List.replicate (1 : UInt32).toNat (List.replicate 64 0)))] := H4.splice [0, 1, 2, 3, 4] [.blk s1 [(ptr x1 0), (vU32 1), (str [107]), (vN (((6 : UInt32).toNat - 2) / 2)), (vI (updE (Sst.mk ((updE (Sst.mk ((updE (Sst.mk (List.replicate (6 : UInt32).toNat (List.replicate 64 0)) (-1)) (((6 : UInt32).toNat - 2) / 2) ([107]) 1 ([97])).1.B) ((updE (Sst.mk (List.replicate (6 : UInt32).toNat (List.replicate 64 0)) (-1)) (((6 : UInt32).toNat - 2) / 2) ([107]) 1 ([97])).1.left)) (((6 : UInt32).toNat - 2) / 2) ([107]) 1 ([98])).1.B) (max (2 : Int) (-1))) (((6 : UInt32).toNat - 2) / 2) ([107]) 2 ([98])).1.left)] 95, Ent.bo x1 [(ptr k1 0)], Ent.bo k1 [(vU32 40), xv1, cv1, nv1, bv1], Ent.ar bv1 1 2 [e01, e11], .row e11 9 1 (6 : UInt32).toNat (List.map str (updE (Sst.mk ((updE (Sst.mk ((updE (Sst.mk (List.replicate (6 : UInt32).toNat (List.replicate 64 0)) (-1)) (((6 : UInt32).toNat - 2) / 2) ([107]) 1 ([97])).1.B) ((updE (Sst.mk (List.replicate (6 : UInt32).toNat (List.replicate 64 0)) (-1)) (((6 : UInt32).toNat - 2) / 2) ([107]) 1 ([97])).1.left)) (((6 : UInt32).toNat - 2) / 2) ([107]) 1 ([98])).1.B) (max (2 : Int) (-1))) (((6 : UInt32).toNat - 2) / 2) ([107]) 2 ([98])).1.B)] [] rfl rfl hq5 (Fits.solid True.intro (Fits.same (j := 1) rfl (Fits.same (j := 2) rfl (Fits.same (j := 3) rfl (Fits.solid True.intro Fits.nil)))))
  refine WL.op rfl rfl (op_assign rfl ?_)
  refine WL.nil ?_
  refine WQ.next ?_
  refine WC.seq ?_
  refine WC.region ?_
  refine WL.op rfl rfl (op_move rfl ?_)
  refine WL.op rfl rfl (op_callF Fa.C13 rfl ((current_ok s1 1 ([107]) (((6 : UInt32).toNat - 2) / 2) ((updE (Sst.mk ((updE (Sst.mk ((updE (Sst.mk (List.replicate (6 : UInt32).toNat (List.replicate 64 0)) (-1)) (((6 : UInt32).toNat - 2) / 2) ([107]) 1 ([97])).1.B) ((updE (Sst.mk (List.replicate (6 : UInt32).toNat (List.replicate 64 0)) (-1)) (((6 : UInt32).toNat - 2) / 2) ([107]) 1 ([97])).1.left)) (((6 : UInt32).toNat - 2) / 2) ([107]) 1 ([98])).1.B) (max (2 : Int) (-1))) (((6 : UInt32).toNat - 2) / 2) ([107]) 2 ([98])).1.left) x1 k1 bv1 e11 xv1 cv1 nv1 40 2 ((6 : UInt32).toNat) ([e01, e11]) ((updE (Sst.mk ((updE (Sst.mk ((updE (Sst.mk (List.replicate (6 : UInt32).toNat (List.replicate 64 0)) (-1)) (((6 : UInt32).toNat - 2) / 2) ([107]) 1 ([97])).1.B) ((updE (Sst.mk (List.replicate (6 : UInt32).toNat (List.replicate 64 0)) (-1)) (((6 : UInt32).toNat - 2) / 2) ([107]) 1 ([97])).1.left)) (((6 : UInt32).toNat - 2) / 2) ([107]) 1 ([98])).1.B) (max (2 : Int) (-1))) (((6 : UInt32).toNat - 2) / 2) ([107]) 2 ([98])).1.B) _ (H5.cellsAt (i := 0) rfl) (H5.cellsAtO (i := 1) rfl) (H5.cellsAtO (i := 2) rfl) (H5.arrO (i := 3) rfl) (H5.arrR (i := 4) rfl) (by decide) rfl ((SOK.upd (SOK.upd (SOK.upd (SOK.new (6 : UInt32).toNat))))).len ((SOK.upd (SOK.upd (SOK.upd (SOK.new (6 : UInt32).toNat))))).all (by decide) (by decide) (by decide)).mono (fun e w6 hq => ?_)))
  obtain ⟨rfl, hf6⟩ := hq
  refine ⟨_, rfl, ?_⟩
  have H6 := H5.fr' hf6
  refine WL.op rfl rfl (op_move rfl ?_)
  refine WL.op rfl rfl (op_extract rfl rfl ?_)
  refine WL.op rfl rfl (op_extract rfl rfl ?_)
  refine WL.op rfl rfl (op_extract rfl rfl ?_)
  refine WL.op rfl rfl (op_assign rfl ?_)
  refine WL.op rfl rfl (op_assign rfl ?_)
  refine WL.op rfl rfl (op_assign rfl ?_)
  refine WL.nil ?_
  refine WQ.next ?_
  refine WC.seq ?_
  refine WC.region ?_
  refine WL.op rfl rfl (op_move rfl ?_)
  refine WL.op rfl rfl (op_callF Fa.C16 rfl ((fuse_ok s1 (ptr x1 0) rfl 1 ([107]) (((6 : UInt32).toNat - 2) / 2) ((updE (Sst.mk ((updE (Sst.mk ((updE (Sst.mk (List.replicate (6 : UInt32).toNat (List.replicate 64 0)) (-1)) (((6 : UInt32).toNat - 2) / 2) ([107]) 1 ([97])).1.B) ((updE (Sst.mk (List.replicate (6 : UInt32).toNat (List.replicate 64 0)) (-1)) (((6 : UInt32).toNat - 2) / 2) ([107]) 1 ([97])).1.left)) (((6 : UInt32).toNat - 2) / 2) ([107]) 1 ([98])).1.B) (max (2 : Int) (-1))) (((6 : UInt32).toNat - 2) / 2) ([107]) 2 ([98])).1.left) (-1) _ _ (H6.part [0] rfl rfl)).mono (fun e w7 hq => ?_)))
  obtain ⟨rfl, hq7⟩ := hq
  refine ⟨_, rfl, ?_⟩
  have H7 : Own [] w w7 [.blk s1 [(ptr x1 0), (vU32 1), (str [107]), (vN (((6 : UInt32).toNat - 2) / 2)), (vI (max (-1) (-1)))] 95, Ent.bo x1 [(ptr k1 0)], Ent.bo k1 [(vU32 40), xv1, cv1, nv1, bv1], Ent.ar bv1 1 2 [e01, e11], .row e11 9 1 (6 : UInt32).toNat (List.map str (updE (Sst.mk ((updE (Sst.mk ((updE (Sst.mk (List.replicate (6 : UInt32).toNat (List.replicate 64 0)) (-1)) (((6 : UInt32).toNat - 2) / 2) ([107]) 1 ([97])).1.B) ((updE (Sst.mk (List.replicate (6 : UInt32).toNat (List.replicate 64 0)) (-1)) (((6 : UInt32).toNat - 2) / 2) ([107]) 1 ([97])).1.left)) (((6 : UInt32).toNat - 2) / 2) ([107]) 1 ([98])).1.B) (max (2 : Int) (-1))) (((6 : UInt32).toNat - 2) / 2) ([107]) 2 ([98])).1.B), Ent.ar e01 1 (1 : UInt32).toNat (List.map str (List.replicate (1 : UInt32).toNat (List.replicate 64 0)))] := H6.splice [0] [.blk s1 [(ptr x1 0), (vU32 1), (str [107]), (vN (((6 : UInt32).toNat - 2) / 2)), (vI (max (-1) (-1)))] 95] [] rfl rfl hq7 (Fits.solid True.intro Fits.nil)
  refine WL.nil ?_
  refine WQ.next ?_
  refine WC.seq ?_
  refine WC.region ?_
  refine WL.op rfl rfl (op_move rfl ?_)
  refine WL.op rfl rfl (op_callF Fa.C17 rfl ((update_ok s1 1 ([107]) (((6 : UInt32).toNat - 2) / 2) (max (-1) (-1)) x1 k1 bv1 e11 xv1 cv1 nv1 40 2 ((6 : UInt32).toNat) ([e01, e11]) ((updE (Sst.mk ((updE (Sst.mk ((updE (Sst.mk (List.replicate (6 : UInt32).toNat (List.replicate 64 0)) (-1)) (((6 : UInt32).toNat - 2) / 2) ([107]) 1 ([97])).1.B) ((updE (Sst.mk (List.replicate (6 : UInt32).toNat (List.replicate 64 0)) (-1)) (((6 : UInt32).toNat - 2) / 2) ([107]) 1 ([97])).1.left)) (((6 : UInt32).toNat - 2) / 2) ([107]) 1 ([98])).1.B) (max (2 : Int) (-1))) (((6 : UInt32).toNat - 2) / 2) ([107]) 2 ([98])).1.B) 2 ([98]) _ _ (H7.part [0, 1, 2, 3, 4] rfl rfl) (by decide) rfl ((SOK.upd (SOK.upd (SOK.upd (SOK.new (6 : UInt32).toNat))))).len ((SOK.upd (SOK.upd (SOK.upd (SOK.new (6 : UInt32).toNat))))).all (by decide) (by decide) (by decide) (by decide) (max_left (by decide)) (by decide)).mono (fun e w8 hq => ?_)))
  obtain ⟨rfl, hq8⟩ := hq
  refine ⟨_, rfl, ?_⟩
  have H8 : Own [] w w8 [.blk s1 [(ptr x1 0), (vU32 1), (str [107]), (vN (((6 : UInt32).toNat - 2) / 2)), (vI (updE (Sst.mk ((updE (Sst.mk ((updE (Sst.mk ((updE (Sst.mk (List.replicate (6 : UInt32).toNat (List.replicate 64 0)) (-1)) (((6 : UInt32).toNat - 2) / 2) ([107]) 1 ([97])).1.B) ((updE (Sst.mk (List.replicate (6 : UInt32).toNat (List.replicate 64 0)) (-1)) (((6 : UInt32).toNat - 2) / 2) ([107]) 1 ([97])).1.left)) (((6 : UInt32).toNat - 2) / 2) ([107]) 1 ([98])).1.B) (max (2 : Int) (-1))) (((6 : UInt32).toNat - 2) / 2) ([107]) 2 ([98])).1.B) (max (-1) (-1))) (((6 : UInt32).toNat - 2) / 2) ([107]) 2 ([98])).1.left)] 95, Ent.bo x1 [(ptr k1 0)], Ent.bo k1 [(vU32 40), xv1, cv1, nv1, bv1], Ent.ar bv1 1 2 [e01, e11], .row e11 9 1 (6 : UInt32).toNat (List.map str (updE (Sst.mk ((updE (Sst.mk ((updE (Sst.mk ((updE (Sst.mk (List.replicate (6 : UInt32).toNat (List.replicate 64 0)) (-1)) (((6 : UInt32).toNat - 2) / 2) ([107]) 1 ([97])).1.B) ((updE (Sst.mk (List.replicate (6 : UInt32).toNat (List.replicate 64 0)) (-1)) (((6 : UInt32).toNat - 2) / 2) ([107]) 1 ([97])).1.left)) (((6 : UInt32).toNat - 2) / 2) ([107]) 1 ([98])).1.B) (max (2 : Int) (-1))) (((6 : UInt32).toNat - 2) / 2) ([107]) 2 ([98])).1.B) (max (-1) (-1))) (((6 : UInt32).toNat - 2) / 2) ([107]) 2 ([98])).1.B), Ent.ar e01 1 (1 : UInt32).toNat (List.map str (List.replicate (1 : UInt32).toNat (List.replicate 64 0)))] := H7.splice [0, 1, 2, 3, 4] [.blk s1 [(ptr x1 0), (vU32 1), (str [107]), (vN (((6 : UInt32).toNat - 2) / 2)), (vI (updE (Sst.mk ((updE (Sst.mk ((updE (Sst.mk ((updE (Sst.mk (List.replicate (6 : UInt32).toNat (List.replicate 64 0)) (-1)) (((6 : UInt32).toNat - 2) / 2) ([107]) 1 ([97])).1.B) ((updE (Sst.mk (List.replicate (6 : UInt32).toNat (List.replicate 64 0)) (-1)) (((6 : UInt32).toNat - 2) / 2) ([107]) 1 ([97])).1.left)) (((6 : UInt32).toNat - 2) / 2) ([107]) 1 ([98])).1.B) (max (2 : Int) (-1))) (((6 : UInt32).toNat - 2) / 2) ([107]) 2 ([98])).1.B) (max (-1) (-1))) (((6 : UInt32).toNat - 2) / 2) ([107]) 2 ([98])).1.left)] 95, Ent.bo x1 [(ptr k1 0)], Ent.bo k1 [(vU32 40), xv1, cv1, nv1, bv1], Ent.ar bv1 1 2 [e01, e11], .row e11 9 1 (6 : UInt32).toNat (List.map str (updE (Sst.mk ((updE (Sst.mk ((updE (Sst.mk ((updE (Sst.mk (List.replicate (6 : UInt32).toNat (List.replicate 64 0)) (-1)) (((6 : UInt32).toNat - 2) / 2) ([107]) 1 ([97])).1.B) ((updE (Sst.mk (List.replicate (6 : UInt32).toNat (List.replicate 64 0)) (-1)) (((6 : UInt32).toNat - 2) / 2) ([107]) 1 ([97])).1.left)) (((6 : UInt32).toNat - 2) / 2) ([107]) 1 ([98])).1.B) (max (2 : Int) (-1))) (((6 : UInt32).toNat - 2) / 2) ([107]) 2 ([98])).1.B) (max (-1) (-1))) (((6 : UInt32).toNat - 2) / 2) ([107]) 2 ([98])).1.B)] [] rfl rfl hq8 (Fits.solid True.intro (Fits.same (j := 1) rfl (Fits.same (j := 2) rfl (Fits.same (j := 3) rfl (Fits.solid True.intro Fits.nil)))))
  refine WL.op rfl rfl (op_assign rfl ?_)
  refine WL.nil ?_
  refine WQ.next ?_
  refine WC.seq ?_
  refine WC.region ?_
  refine WL.op rfl rfl (op_move rfl ?_)
  refine WL.op rfl rfl (op_callF Fa.C12 rfl ((slot_ok s1 1 ([107]) (((6 : UInt32).toNat - 2) / 2) ((updE (Sst.mk ((updE (Sst.mk ((updE (Sst.mk ((updE (Sst.mk (List.replicate (6 : UInt32).toNat (List.replicate 64 0)) (-1)) (((6 : UInt32).toNat - 2) / 2) ([107]) 1 ([97])).1.B) ((updE (Sst.mk (List.replicate (6 : UInt32).toNat (List.replicate 64 0)) (-1)) (((6 : UInt32).toNat - 2) / 2) ([107]) 1 ([97])).1.left)) (((6 : UInt32).toNat - 2) / 2) ([107]) 1 ([98])).1.B) (max (2 : Int) (-1))) (((6 : UInt32).toNat - 2) / 2) ([107]) 2 ([98])).1.B) (max (-1) (-1))) (((6 : UInt32).toNat - 2) / 2) ([107]) 2 ([98])).1.left) x1 k1 bv1 e11 xv1 cv1 nv1 40 2 ((6 : UInt32).toNat) ([e01, e11]) ((updE (Sst.mk ((updE (Sst.mk ((updE (Sst.mk ((updE (Sst.mk (List.replicate (6 : UInt32).toNat (List.replicate 64 0)) (-1)) (((6 : UInt32).toNat - 2) / 2) ([107]) 1 ([97])).1.B) ((updE (Sst.mk (List.replicate (6 : UInt32).toNat (List.replicate 64 0)) (-1)) (((6 : UInt32).toNat - 2) / 2) ([107]) 1 ([97])).1.left)) (((6 : UInt32).toNat - 2) / 2) ([107]) 1 ([98])).1.B) (max (2 : Int) (-1))) (((6 : UInt32).toNat - 2) / 2) ([107]) 2 ([98])).1.B) (max (-1) (-1))) (((6 : UInt32).toNat - 2) / 2) ([107]) 2 ([98])).1.B) 1 _ (H8.cellsAt (i := 0) rfl) (H8.cellsAtO (i := 1) rfl) (H8.cellsAtO (i := 2) rfl) (H8.arrO (i := 3) rfl) (H8.arrR (i := 4) rfl) (by decide) rfl ((SOK.upd (SOK.upd (SOK.upd (SOK.upd (SOK.new (6 : UInt32).toNat)))))).len ((SOK.upd (SOK.upd (SOK.upd (SOK.upd (SOK.new (6 : UInt32).toNat)))))).all (by decide) (by decide) (by decide) (by decide)).mono (fun e w9 hq => ?_)))
  obtain ⟨rfl, hf9⟩ := hq
  refine ⟨_, rfl, ?_⟩
  have H9 := H8.fr' hf9
  refine WL.op rfl rfl (op_move rfl ?_)
  refine WL.op rfl rfl (op_extract rfl rfl ?_)
  refine WL.op rfl rfl (op_extract rfl rfl ?_)
  refine WL.op rfl rfl (op_extract rfl rfl ?_)
  refine WL.op rfl rfl (op_assign rfl ?_)
  refine WL.op rfl rfl (op_assign rfl ?_)
  refine WL.op rfl rfl (op_assign rfl ?_)
  refine WL.nil ?_
  refine WQ.next ?_
  refine WC.seq ?_
  refine WC.region ?_
  refine WL.op rfl rfl (op_move rfl ?_)
  refine WL.op rfl rfl (op_callF Fa.C11 rfl ((new44_no x1 k1 bv1 e01 xv1 cv1 nv1 40 2 ((1 : UInt32).toNat) ([e01, e11]) (List.replicate (1 : UInt32).toNat (List.replicate 64 0)) 0 ([107]) _ (H9.cellsAtO (i := 1) rfl) (H9.cellsAtO (i := 2) rfl) (H9.arrO (i := 3) rfl) (H9.arrO (i := 5) rfl) (by decide) rfl (by decide) (by decide)).mono (fun e w10 hq => ?_)))
  obtain ⟨rfl, hf10⟩ := hq
  refine ⟨_, rfl, ?_⟩
  have H10 := H9.fr' hf10
  refine WL.op rfl rfl (op_move rfl ?_)
  refine WL.op rfl rfl (op_extract rfl rfl ?_)
  refine WL.op rfl rfl (op_extract rfl rfl ?_)
  refine WL.op rfl rfl (op_assign rfl ?_)
  refine WL.op rfl rfl (op_assign rfl ?_)
  refine WL.nil ?_
  refine WQ.next ?_
  refine WC.seq ?_
  refine WC.region ?_
  refine WL.op rfl rfl (op_move rfl ?_)
  refine WL.op rfl rfl (op_callF Fa.C15 rfl ((room_ok s1 (ptr x1 0) 1 ([107]) (((6 : UInt32).toNat - 2) / 2) ((updE (Sst.mk ((updE (Sst.mk ((updE (Sst.mk ((updE (Sst.mk (List.replicate (6 : UInt32).toNat (List.replicate 64 0)) (-1)) (((6 : UInt32).toNat - 2) / 2) ([107]) 1 ([97])).1.B) ((updE (Sst.mk (List.replicate (6 : UInt32).toNat (List.replicate 64 0)) (-1)) (((6 : UInt32).toNat - 2) / 2) ([107]) 1 ([97])).1.left)) (((6 : UInt32).toNat - 2) / 2) ([107]) 1 ([98])).1.B) (max (2 : Int) (-1))) (((6 : UInt32).toNat - 2) / 2) ([107]) 2 ([98])).1.B) (max (-1) (-1))) (((6 : UInt32).toNat - 2) / 2) ([107]) 2 ([98])).1.left) _ (H10.cellsAt (i := 0) rfl) (by decide)).mono (fun e w11 hq => ?_)))
  obtain ⟨rfl, hf11⟩ := hq
  refine ⟨_, rfl, ?_⟩
  have H11 := H10.fr' hf11
  refine WL.op rfl rfl (op_eqlN (b := 128) rfl rfl ?_)
  refine WL.op rfl rfl (op_move rfl ?_)
  refine WL.yes rfl rfl rfl rfl rfl (op_move rfl ?_)
  refine WL.yes rfl rfl rfl rfl rfl (op_eqlN (b := 0) rfl rfl ?_)
  refine WL.op rfl rfl (op_pickT rfl rfl rfl ?_)
  refine WL.op rfl rfl (op_move rfl ?_)
  refine WL.yes rfl rfl rfl (decide_eq_true (al44 (n := (6 : UInt32).toNat) (each := ((6 : UInt32).toNat - 2) / 2) (key := [107]) rfl rfl).1) rfl (op_move rfl ?_)
  refine WL.yes rfl rfl rfl (decide_eq_true (al44 (n := (6 : UInt32).toNat) (each := ((6 : UInt32).toNat - 2) / 2) (key := [107]) rfl rfl).1) rfl (op_eqlN (b := 440) rfl rfl ?_)
  refine WL.op rfl rfl (op_pickT rfl (decide_eq_true (al44 (n := (6 : UInt32).toNat) (each := ((6 : UInt32).toNat - 2) / 2) (key := [107]) rfl rfl).1) rfl ?_)
  refine WL.op rfl rfl (op_move rfl ?_)
  refine WL.yes rfl rfl rfl (decide_eq_true (al44 (n := (6 : UInt32).toNat) (each := ((6 : UInt32).toNat - 2) / 2) (key := [107]) rfl rfl).2.1) rfl (op_move rfl ?_)
  refine WL.yes rfl rfl rfl (decide_eq_true (al44 (n := (6 : UInt32).toNat) (each := ((6 : UInt32).toNat - 2) / 2) (key := [107]) rfl rfl).2.1) rfl (op_eqlN (b := 441) rfl rfl ?_)
  refine WL.op rfl rfl (op_pickT rfl (decide_eq_true (al44 (n := (6 : UInt32).toNat) (each := ((6 : UInt32).toNat - 2) / 2) (key := [107]) rfl rfl).2.1) rfl ?_)
  refine WL.op rfl rfl (op_move rfl ?_)
  refine WL.yes rfl rfl rfl (decide_eq_true (al44 (n := (6 : UInt32).toNat) (each := ((6 : UInt32).toNat - 2) / 2) (key := [107]) rfl rfl).2.2.1) rfl (op_move rfl ?_)
  refine WL.yes rfl rfl rfl (decide_eq_true (al44 (n := (6 : UInt32).toNat) (each := ((6 : UInt32).toNat - 2) / 2) (key := [107]) rfl rfl).2.2.1) rfl (op_eqlU32 (b := 1) rfl rfl ?_)
  refine WL.op rfl rfl (op_pickT rfl (decide_eq_true (al44 (n := (6 : UInt32).toNat) (each := ((6 : UInt32).toNat - 2) / 2) (key := [107]) rfl rfl).2.2.1) rfl ?_)
  refine WL.op rfl rfl (op_move rfl ?_)
  refine WL.yes rfl rfl rfl (decide_eq_true (by rw [(al44 (n := (6 : UInt32).toNat) (each := ((6 : UInt32).toNat - 2) / 2) (key := [107]) rfl rfl).2.2.2.1])) rfl (op_move rfl ?_)
  refine WL.yes rfl rfl rfl (decide_eq_true (by rw [(al44 (n := (6 : UInt32).toNat) (each := ((6 : UInt32).toNat - 2) / 2) (key := [107]) rfl rfl).2.2.2.1])) rfl (op_eqlStr rfl rfl ?_)
  refine WL.op rfl rfl (op_pickT rfl (decide_eq_true (by rw [(al44 (n := (6 : UInt32).toNat) (each := ((6 : UInt32).toNat - 2) / 2) (key := [107]) rfl rfl).2.2.2.1])) rfl ?_)
  refine WL.op rfl rfl (op_move rfl ?_)
  refine WL.yes rfl rfl rfl (decide_eq_true (by rw [(al44 (n := (6 : UInt32).toNat) (each := ((6 : UInt32).toNat - 2) / 2) (key := [107]) rfl rfl).2.2.2.1])) rfl (op_move rfl ?_)
  refine WL.op rfl rfl (op_pickT rfl (decide_eq_true (by rw [(al44 (n := (6 : UInt32).toNat) (each := ((6 : UInt32).toNat - 2) / 2) (key := [107]) rfl rfl).2.2.2.1])) rfl ?_)
  refine WL.op rfl rfl (op_move rfl ?_)
  refine WL.yes rfl rfl rfl (by rw [(al44 (n := (6 : UInt32).toNat) (each := ((6 : UInt32).toNat - 2) / 2) (key := [107]) rfl rfl).2.2.2.1]) rfl (op_move rfl ?_)
  refine WL.yes rfl rfl rfl (by rw [(al44 (n := (6 : UInt32).toNat) (each := ((6 : UInt32).toNat - 2) / 2) (key := [107]) rfl rfl).2.2.2.1]) rfl (op_eqlN (b := 0) rfl rfl ?_)
  refine WL.op rfl rfl (op_pickT rfl (by rw [(al44 (n := (6 : UInt32).toNat) (each := ((6 : UInt32).toNat - 2) / 2) (key := [107]) rfl rfl).2.2.2.1]) rfl ?_)
  refine WL.op rfl rfl (op_move rfl ?_)
  refine WL.yes rfl rfl rfl (decide_eq_true (al44 (n := (6 : UInt32).toNat) (each := ((6 : UInt32).toNat - 2) / 2) (key := [107]) rfl rfl).2.2.2.2.1) rfl (op_move rfl ?_)
  refine WL.yes rfl rfl rfl (decide_eq_true (al44 (n := (6 : UInt32).toNat) (each := ((6 : UInt32).toNat - 2) / 2) (key := [107]) rfl rfl).2.2.2.2.1) rfl (op_eqlU32 (b := 2) rfl rfl ?_)
  refine WL.op rfl rfl (op_pickT rfl (decide_eq_true (al44 (n := (6 : UInt32).toNat) (each := ((6 : UInt32).toNat - 2) / 2) (key := [107]) rfl rfl).2.2.2.2.1) rfl ?_)
  refine WL.op rfl rfl (op_move rfl ?_)
  refine WL.yes rfl rfl rfl (decide_eq_true (by rw [(al44 (n := (6 : UInt32).toNat) (each := ((6 : UInt32).toNat - 2) / 2) (key := [107]) rfl rfl).2.2.2.2.2])) rfl (op_move rfl ?_)
  refine WL.yes rfl rfl rfl (decide_eq_true (by rw [(al44 (n := (6 : UInt32).toNat) (each := ((6 : UInt32).toNat - 2) / 2) (key := [107]) rfl rfl).2.2.2.2.2])) rfl (op_eqlStr rfl rfl ?_)
  refine WL.op rfl rfl (op_pickT rfl (decide_eq_true (by rw [(al44 (n := (6 : UInt32).toNat) (each := ((6 : UInt32).toNat - 2) / 2) (key := [107]) rfl rfl).2.2.2.2.2])) rfl ?_)
  refine WL.op rfl rfl (op_move rfl ?_)
  refine WL.yes rfl rfl rfl (decide_eq_true (by rw [(al44 (n := (6 : UInt32).toNat) (each := ((6 : UInt32).toNat - 2) / 2) (key := [107]) rfl rfl).2.2.2.2.2])) rfl (op_move rfl ?_)
  refine WL.op rfl rfl (op_pickT rfl (decide_eq_true (by rw [(al44 (n := (6 : UInt32).toNat) (each := ((6 : UInt32).toNat - 2) / 2) (key := [107]) rfl rfl).2.2.2.2.2])) rfl ?_)
  refine WL.op rfl rfl (op_move rfl ?_)
  refine WL.yes rfl rfl rfl (by rw [(al44 (n := (6 : UInt32).toNat) (each := ((6 : UInt32).toNat - 2) / 2) (key := [107]) rfl rfl).2.2.2.2.2]) rfl (op_move rfl ?_)
  refine WL.yes rfl rfl rfl (by rw [(al44 (n := (6 : UInt32).toNat) (each := ((6 : UInt32).toNat - 2) / 2) (key := [107]) rfl rfl).2.2.2.2.2]) rfl (op_eqlN (b := 2) rfl rfl ?_)
  refine WL.op rfl rfl (op_pickT rfl (by rw [(al44 (n := (6 : UInt32).toNat) (each := ((6 : UInt32).toNat - 2) / 2) (key := [107]) rfl rfl).2.2.2.2.2]) rfl ?_)
  refine WL.op rfl rfl (op_assign rfl ?_)
  refine WL.nil ?_
  refine WQ.next ?_
  refine WC.ret ?_
  refine WQ.out (.tmp rfl .nil) ?_
  exact ⟨rfl, H11.fr⟩
set_option maxRecDepth 100000 in
theorem rhead_ok (r : Nat) (bv : Value) (key : List UInt8) (left : Int) (v : UInt32) (t : List UInt8) (w : World) (hR : cellsAt w r [bv, (str key), (vI left)]) (hk : key.length < 2 ^ 40) (ht : t.length < 2 ^ 32) :
    Calls Tryz.prog 64 #[(ptr r 0), (vU32 v), (str t)] w (fun e w' => e = .returned (str (hdrS key v t)) ∧ Fr [] w w') := by
  refine enter (args := [(ptr r 0), (vU32 v), (str t)]) Tryz.func64 rfl rfl ?_
  have H0 : Own [] w w [Ent.bo r [bv, (str key), (vI left)]] := ((Own.start w []).oldB hR)
  refine WC.seq ?_
  refine WC.region ?_
  refine WL.op rfl rfl (op_assign rfl ?_)
  refine WL.nil ?_
  refine WQ.next ?_
  refine WC.seq ?_
  refine WC.region ?_
  refine WL.op rfl rfl (op_move rfl ?_)
  refine WL.op rfl rfl (op_callF Fa.C117 rfl ((bytes_ok v 4 (by decide) _).mono (fun e w1 hq => ?_)))
  obtain ⟨rfl, hf1⟩ := hq
  refine ⟨_, rfl, ?_⟩
  have H1 := H0.fr' hf1
  refine WL.op rfl rfl (op_move rfl ?_)
  refine WL.op rfl rfl (op_lenStr Tryz.underlying9 rfl ?_)
  refine WL.op rfl rfl (op_convNU32 (hs := Tryz.underlying3) (hd := Tryz.underlying22) rfl ?_)
  refine WL.op rfl rfl (op_callF Fa.C117 rfl ((bytes_ok (UInt32.ofNat t.length) 4 (by decide) _).mono (fun e w2 hq => ?_)))
  obtain ⟨rfl, hf2⟩ := hq
  refine ⟨_, rfl, ?_⟩
  have H2 := H1.fr' hf2
  refine WL.op rfl rfl (op_addStr rfl rfl (by simp only [List.length_append, rB_length, mac_length, List.length_cons, List.length_nil, List.length_replicate] <;> omega) ?_)
  refine WL.op rfl rfl (op_assign rfl ?_)
  refine WL.nil ?_
  refine WQ.next ?_
  refine WC.seq ?_
  refine WC.region ?_
  refine WL.op rfl rfl (op_move rfl ?_)
  refine WL.op rfl rfl (op_addStr rfl rfl (by simp only [List.length_append, rB_length, mac_length, List.length_cons, List.length_nil, List.length_replicate] <;> omega) ?_)
  refine WL.op rfl rfl (op_move rfl ?_)
  refine WL.op rfl rfl (op_nilCheck rfl ?_)
  refine WL.op rfl rfl (op_fieldAddr rfl Fa.F61_1 ?_)
  refine WL.op rfl rfl (op_load rfl (H2.cellO (i := 0) rfl rfl) Tryz.underlying9 rfl ?_)
  refine WL.op rfl rfl (op_move rfl ?_)
  refine WL.op rfl rfl (op_move rfl ?_)
  refine WL.op rfl rfl (op_addStr rfl rfl (by simp only [List.length_append, rB_length, mac_length, List.length_cons, List.length_nil, List.length_replicate] <;> omega) ?_)
  refine WL.op rfl rfl (op_callF Fa.C118 rfl ((rmac_ok key (((rB v 4) ++ (rB (UInt32.ofNat t.length) 4)) ++ t) _ hk (by simp only [List.length_append, rB_length, mac_length, List.length_cons, List.length_nil] <;> omega)).mono (fun e w3 hq => ?_)))
  obtain ⟨rfl, hf3⟩ := hq
  refine ⟨_, rfl, ?_⟩
  have H3 := H2.fr' hf3
  refine WL.op rfl rfl (op_addStr rfl rfl (by simp only [List.length_append, rB_length, mac_length, List.length_cons, List.length_nil, List.length_replicate] <;> omega) ?_)
  refine WL.op rfl rfl (op_assign rfl ?_)
  refine WL.nil ?_
  refine WQ.next ?_
  refine WC.seq ?_
  refine WC.region ?_
  refine WL.op rfl rfl (op_move rfl ?_)
  refine WL.op rfl rfl (op_move rfl ?_)
  refine WL.op rfl rfl (op_lenStr Tryz.underlying9 rfl ?_)
  refine WL.op rfl rfl (op_subI (a := ((64 : Nat) : Int)) (b := (((([65, 83, 76, 49] ++ ((rB v 4) ++ (rB (UInt32.ofNat t.length) 4))) ++ (mac key (((rB v 4) ++ (rB (UInt32.ofNat t.length) 4)) ++ t))).length : Nat) : Int)) rfl rfl (by rw [rhead_len]; omega) ?_)
  rw [rhead_len]
  refine WL.op rfl rfl (op_makeSliceM (f := vU8) (c := 0) H3 Tryz.underlying114 Fa.I5 rfl rfl (by omega) (by omega) (fun b4 w4 H4 => ?_))
  refine WL.op rfl rfl (op_bytesStr (l := (List.replicate 20 0)) Tryz.underlying114 Tryz.underlying5 Tryz.underlying9 rfl (H4.arrR (i := 1) rfl) rfl ?_)
  refine WL.op rfl rfl (op_addStr rfl rfl (by simp only [List.length_append, rB_length, mac_length, List.length_cons, List.length_nil, List.length_replicate] <;> omega) ?_)
  refine WL.op rfl rfl (op_assign rfl ?_)
  refine WL.nil ?_
  refine WQ.next ?_
  refine WC.ret ?_
  refine WQ.out (.tmp rfl .nil) ?_
  exact ⟨by rw [← rhead_eq]; rfl, H4.fr⟩
end Go.Proofs.YtbjhccnffacbcaaGreat
/-! from WSlot9 -/
namespace Go.Proofs.YtbjhccnffacbcaaGreat
open Go.Owl Go.Spec
end Go.Proofs.YtbjhccnffacbcaaGreat
/-! from WSlot10 -/
namespace Go.Proofs.YtbjhccnffacbcaaGreat
open Go.Owl Go.Spec
end Go.Proofs.YtbjhccnffacbcaaGreat
/-! from WSlot11 -/
namespace Go.Proofs.YtbjhccnffacbcaaGreat
open Go.Owl Go.Spec
set_option maxRecDepth 100000 in
theorem reach_ok (r : Nat) (vb : Value) (key : List UInt8) (left : Int) (n : Nat) (B : List (List UInt8)) (w : World) (hR : cellsAt w r [vb, (str key), (vI left)]) (hRB : Arr w vb 1 n (List.map str B)) (h4 : 4 ≤ n) (hm : n < 2 ^ 20) :
    Calls Tryz.prog 66 #[(ptr r 0)] w (fun e w' => e = .returned (vN ((n - 2) / 2)) ∧ Fr [] w w') := by
  refine enter (args := [(ptr r 0)]) Tryz.func66 rfl rfl ?_
  have H0 : Own [] w w [Ent.bo r [vb, (str key), (vI left)], Ent.ar vb 1 n (List.map str B)] := (((Own.start w []).oldB hR).oldA hRB)
  refine WC.seq ?_
  refine WC.region ?_
  refine WL.op rfl rfl (op_assign rfl ?_)
  refine WL.nil ?_
  refine WQ.next ?_
  refine WC.seq ?_
  refine WC.region ?_
  refine WL.op rfl rfl (op_move rfl ?_)
  refine WL.op rfl rfl (op_nilCheck rfl ?_)
  refine WL.op rfl rfl (op_fieldAddr rfl Fa.F61_0 ?_)
  refine WL.op rfl rfl (op_load rfl (H0.cellO (i := 0) rfl rfl) Tryz.underlying59 rfl ?_)
  refine WL.op rfl rfl (op_lenA Tryz.underlying59 rfl (H0.arrO (i := 1) rfl) ?_)
  refine WL.op rfl rfl (op_subN (b := 2) rfl rfl (by omega) (by omega) ?_)
  refine WL.op rfl rfl (op_quoN (b := 2) rfl rfl (by omega) (by omega) ?_)
  refine WL.op rfl rfl (op_assign rfl ?_)
  refine WL.nil ?_
  refine WQ.next ?_
  refine WC.ret ?_
  refine WQ.out (.tmp rfl .nil) ?_
  exact ⟨rfl, H0.fr⟩
set_option maxRecDepth 100000 in
theorem rroom_ok (r : Nat) (vb : Value) (key : List UInt8) (left : Int) (n : Nat) (B : List (List UInt8)) (w : World) (hR : cellsAt w r [vb, (str key), (vI left)]) (hRB : Arr w vb 1 n (List.map str B)) (h4 : 4 ≤ n) (hm : n < 2 ^ 20) :
    Calls Tryz.prog 62 #[(ptr r 0)] w (fun e w' => e = .returned (vN (((n - 2) / 2) * 64)) ∧ Fr [] w w') := by
  refine enter (args := [(ptr r 0)]) Tryz.func62 rfl rfl ?_
  have H0 : Own [] w w [Ent.bo r [vb, (str key), (vI left)], Ent.ar vb 1 n (List.map str B)] := (((Own.start w []).oldB hR).oldA hRB)
  refine WC.seq ?_
  refine WC.region ?_
  refine WL.op rfl rfl (op_assign rfl ?_)
  refine WL.nil ?_
  refine WQ.next ?_
  refine WC.seq ?_
  refine WC.region ?_
  refine WL.op rfl rfl (op_move rfl ?_)
  refine WL.op rfl rfl (op_callF Fa.C66 rfl ((reach_ok r vb key left n B _ (H0.cellsAtO (i := 0) rfl) (H0.arrO (i := 1) rfl) h4 hm).mono (fun e w1 hq => ?_)))
  obtain ⟨rfl, hf1⟩ := hq
  refine ⟨_, rfl, ?_⟩
  have H1 := H0.fr' hf1
  refine WL.op rfl rfl (op_mulN (b := 64) rfl rfl (by omega) ?_)
  refine WL.op rfl rfl (op_assign rfl ?_)
  refine WL.nil ?_
  refine WQ.next ?_
  refine WC.ret ?_
  refine WQ.out (.tmp rfl .nil) ?_
  exact ⟨rfl, H1.fr⟩
set_option maxHeartbeats 1000000 in
set_option maxRecDepth 100000 in
theorem rslot0_ok (r : Nat) (vb : Value) (key : List UInt8) (left : Int) (n : Nat) (B : List (List UInt8)) (w : World) (hR : cellsAt w r [vb, (str key), (vI left)]) (hRB : Arr w vb 1 n (List.map str B)) (hn : B.length = n) (hB : ∀ b ∈ B, b.length = 64) (h4 : 4 ≤ n) (hm : n < 2 ^ 20) (hk : key.length < 2 ^ 40) :
    Calls Tryz.prog 68 #[(ptr r 0), (vN 0)] w (fun e w' => e = .returned (.tuple #[vU32 (slotN B ((n - 2) / 2) key 0).v, str (slotN B ((n - 2) / 2) key 0).t, .bool (slotN B ((n - 2) / 2) key 0).is]) ∧ Fr [] w w') := by
  refine enter (args := [(ptr r 0), (vN 0)]) Tryz.func68 rfl rfl ?_
  have H0 : Own [] w w [Ent.bo r [vb, (str key), (vI left)], Ent.ar vb 1 n (List.map str B)] := (((Own.start w []).oldB hR).oldA hRB)
  have hhl : (B.getD 0 []).length = 64 := all_get hB (by omega)
  refine WC.seq ?_
  refine WC.region ?_
  refine WL.op rfl rfl (op_assign rfl ?_)
  refine WL.op rfl rfl (op_assign rfl ?_)
  refine WL.op rfl rfl (op_assign rfl ?_)
  refine WL.nil ?_
  refine WQ.next ?_
  refine WC.seq ?_
  refine WC.seq ?_
  refine WC.region ?_
  refine WL.op rfl rfl (op_move rfl ?_)
  refine WL.op rfl rfl (op_neqN (b := 0) rfl rfl ?_)
  refine WL.op rfl rfl (op_move rfl ?_)
  refine WL.no rfl rfl rfl (by decide) rfl ?_
  refine WL.no rfl rfl rfl (by decide) rfl ?_
  refine WL.op rfl rfl (op_pickF rfl (by decide) rfl ?_)
  refine WL.nil ?_
  refine WQ.next ?_
  refine WC.no rfl rfl ?_
  refine WC.skip ?_
  refine WQ.next ?_
  refine WC.seq ?_
  refine WC.region ?_
  refine WL.op rfl rfl (op_assign rfl ?_)
  refine WL.nil ?_
  refine WQ.next ?_
  refine WC.seq ?_
  refine WC.seq ?_
  refine WC.region ?_
  refine WL.op rfl rfl (op_assign rfl ?_)
  refine WL.nil ?_
  refine WQ.next ?_
  refine WC.block ?_
  refine WC.loop (α := Nat) (fun u => [(0, (ptr r 0)), (1, (vN 0)), (7, (str (catB B (2 + 0 * ((n - 2) / 2)) u))), (8, (vN u))]) (fun u w' => (u ≤ ((n - 2) / 2)) ∧ Own [] w w' [Ent.bo r [vb, (str key), (vI left)], Ent.ar vb 1 n (List.map str B)]) (fun u => ((n - 2) / 2) - u) 0 ⟨(Nat.zero_le _), H0⟩ ⟨rfl, rfl, rfl, rfl, trivial⟩ ?_
  rintro u w1 ⟨hk1, H1⟩
  show WC _ _ _ _ _ [(0, (ptr r 0)), (1, (vN 0)), (7, (str (catB B (2 + 0 * ((n - 2) / 2)) u))), (8, (vN u))] _
  have hcl : (catB B (2 + 0 * ((n - 2) / 2)) u).length = 64 * u := catB_len (fun j h1 h2 => all_get hB (by omega))
  have hgl : u < ((n - 2) / 2) → (B.getD (2 + 0 * ((n - 2) / 2) + u) []).length = 64 := fun h => all_get hB (by omega)
  refine WC.seq ?_
  refine WC.seq ?_
  refine WC.region ?_
  refine WL.op rfl rfl (op_move rfl ?_)
  refine WL.op rfl rfl (op_move rfl ?_)
  refine WL.op rfl rfl (op_callF Fa.C66 rfl ((reach_ok r vb key left n B _ (H1.cellsAtO (i := 0) rfl) (H1.arrO (i := 1) rfl) h4 hm).mono (fun e w2 hq => ?_)))
  obtain ⟨rfl, hf2⟩ := hq
  refine ⟨_, rfl, ?_⟩
  have H2 := H1.fr' hf2
  refine WL.op rfl rfl (op_lssN rfl rfl ?_)
  refine WL.nil ?_
  refine WQ.next ?_
  refine WC.cond rfl (fun (hb3 : (decide (u < ((n - 2) / 2))) = true) => ?_) (fun (hb3 : (decide (u < ((n - 2) / 2))) = false) => ?_)
  ·
    have hc3 := of_decide_eq_true hb3
    refine WC.skip ?_
    refine WQ.next ?_
    refine WC.seq ?_
    refine WC.block ?_
    refine WC.draw 16 Fa.M H2 (HW.op rfl (fun w1 H1 => op_move rfl ⟨rfl, Fr.refl _ _⟩) (HW.op rfl (fun w1 H1 => op_move rfl ⟨rfl, Fr.refl _ _⟩) (HW.op rfl (fun w1 H1 => op_nilCheck rfl ⟨rfl, Fr.refl _ _⟩) (HW.op rfl (fun w1 H1 => op_fieldAddr rfl Fa.F61_0 ⟨rfl, Fr.refl _ _⟩) (HW.op rfl (fun w1 H1 => op_load rfl (H1.cellO (i := 0) rfl rfl) Tryz.underlying59 rfl ⟨rfl, Fr.refl _ _⟩) (HW.op rfl (fun w1 H1 => op_move rfl ⟨rfl, Fr.refl _ _⟩) (HW.op rfl (fun w1 H1 => op_move rfl ⟨rfl, Fr.refl _ _⟩) (HW.op rfl (fun w1 H1 => op_callF Fa.C66 rfl ((reach_ok r vb key left n B _ (H1.cellsAtO (i := 0) rfl) (H1.arrO (i := 1) rfl) h4 hm).mono (fun e w2 hq => ⟨_, hq.1, rfl, hq.2⟩))) (HW.op rfl (fun w1 H1 => op_mulN rfl rfl (by omega) ⟨rfl, Fr.refl _ _⟩) (HW.op rfl (fun w1 H1 => op_addN (a := 2) rfl rfl (by omega) ⟨rfl, Fr.refl _ _⟩) (HW.op rfl (fun w1 H1 => op_move rfl ⟨rfl, Fr.refl _ _⟩) (HW.op rfl (fun w1 H1 => op_addN rfl rfl (by omega) ⟨rfl, Fr.refl _ _⟩) (HW.op rfl (fun w1 H1 => op_indexAddr1 Tryz.underlying59 Fa.I9 rfl (H1.arrO (i := 1) rfl) rfl (by omega) ⟨rfl, Fr.refl _ _⟩) (HW.op rfl (fun w1 H1 => op_load rfl ((H1.arrO (i := 1) rfl).at (get_map str [] (Arr.ltM (H1.arrO (i := 1) rfl) (by omega)))) Tryz.underlying9 rfl ⟨rfl, Fr.refl _ _⟩) (HW.op rfl (fun w1 H1 => op_addStr rfl rfl (by have := hgl (by omega); omega) ⟨rfl, Fr.refl _ _⟩) (HW.op rfl (fun w1 H1 => op_assign rfl ⟨rfl, Fr.refl _ _⟩)  HW.nil)))))))))))))))) (by kernel_rfl) ?_
    intro β5 w5 H5
    refine WL.nil ?_
    refine WQ.inNormal ?_
    refine WQ.next ?_
    refine WC.region ?_
    refine WL.op rfl rfl (op_move rfl ?_)
    refine WL.op rfl rfl (op_addN (b := 1) rfl rfl (by omega) ?_)
    refine WL.op rfl rfl (op_assign rfl ?_)
    refine WL.nil ?_
    exact WQ.round (u + 1) ⟨(by omega), H5⟩ ⟨rfl, rfl, rfl, rfl, trivial⟩ (by omega)
  ·
    have hc3 := of_decide_eq_false hb3
    have hke : u = ((n - 2) / 2) := by omega
    rw [hke] at hcl
    rw [hke]
    refine WC.exit ?_
    refine WQ.thenExit ?_
    refine WQ.thenExit ?_
    refine WQ.inHere ?_
    refine WQ.next ?_
    refine WC.seq ?_
    refine WC.region ?_
    refine WL.op rfl rfl (op_move rfl ?_)
    refine WL.op rfl rfl (op_nilCheck rfl ?_)
    refine WL.op rfl rfl (op_fieldAddr rfl Fa.F61_0 ?_)
    refine WL.op rfl rfl (op_load rfl (H2.cellO (i := 0) rfl rfl) Tryz.underlying59 rfl ?_)
    refine WL.op rfl rfl (op_move rfl ?_)
    refine WL.op rfl rfl (op_indexAddr1 Tryz.underlying59 Fa.I9 rfl (H2.arrO (i := 1) rfl) rfl (by omega) ?_)
    refine WL.op rfl rfl (op_load rfl ((H2.arrO (i := 1) rfl).at (get_map str [] (Arr.ltM (H2.arrO (i := 1) rfl) (by omega)))) Tryz.underlying9 rfl ?_)
    refine WL.op rfl rfl (op_sliceStr (a := 4) (b := 8) Tryz.underlying9 rfl rfl rfl (by omega) (by omega) ?_)
    refine WL.op rfl rfl (op_callF Fa.C120 rfl ((rGet_ok (((B.getD 0 []).drop 4).take (8 - 4)) _).mono (fun e w6 hq => ?_)))
    obtain ⟨rfl, hf6⟩ := hq
    refine ⟨_, rfl, ?_⟩
    have H6 := H2.fr' hf6
    refine WL.op rfl rfl (op_move rfl ?_)
    refine WL.op rfl rfl (op_extract rfl rfl ?_)
    refine WL.op rfl rfl (op_extract rfl rfl ?_)
    rw [gFV_getV]
    refine WL.op rfl rfl (op_assign rfl ?_)
    refine WL.op rfl rfl (op_assign rfl ?_)
    refine WL.nil ?_
    refine WQ.next ?_
    refine WC.seq ?_
    refine WC.region ?_
    refine WL.op rfl rfl (op_move rfl ?_)
    refine WL.op rfl rfl (op_nilCheck rfl ?_)
    refine WL.op rfl rfl (op_fieldAddr rfl Fa.F61_0 ?_)
    refine WL.op rfl rfl (op_load rfl (H6.cellO (i := 0) rfl rfl) Tryz.underlying59 rfl ?_)
    refine WL.op rfl rfl (op_move rfl ?_)
    refine WL.op rfl rfl (op_indexAddr1 Tryz.underlying59 Fa.I9 rfl (H6.arrO (i := 1) rfl) rfl (by omega) ?_)
    refine WL.op rfl rfl (op_load rfl ((H6.arrO (i := 1) rfl).at (get_map str [] (Arr.ltM (H6.arrO (i := 1) rfl) (by omega)))) Tryz.underlying9 rfl ?_)
    refine WL.op rfl rfl (op_sliceStr (a := 8) (b := 12) Tryz.underlying9 rfl rfl rfl (by omega) (by omega) ?_)
    refine WL.op rfl rfl (op_callF Fa.C120 rfl ((rGet_ok (((B.getD 0 []).drop 8).take (12 - 8)) _).mono (fun e w7 hq => ?_)))
    obtain ⟨rfl, hf7⟩ := hq
    refine ⟨_, rfl, ?_⟩
    have H7 := H6.fr' hf7
    refine WL.op rfl rfl (op_move rfl ?_)
    refine WL.op rfl rfl (op_extract rfl rfl ?_)
    refine WL.op rfl rfl (op_extract rfl rfl ?_)
    rw [gFV_getV]
    refine WL.op rfl rfl (op_assign rfl ?_)
    refine WL.op rfl rfl (op_assign rfl ?_)
    refine WL.nil ?_
    refine WQ.next ?_
    refine WC.seq ?_
    refine WC.seq ?_
    refine bsplit (fun (hb8 : (decide ((getV (((B.getD 0 []).drop 8).take (12 - 8))) > (UInt32.ofNat (catB B (2 + 0 * ((n - 2) / 2)) ((n - 2) / 2)).length))) = true) => ?_) (fun (hb8 : (decide ((getV (((B.getD 0 []).drop 8).take (12 - 8))) > (UInt32.ofNat (catB B (2 + 0 * ((n - 2) / 2)) ((n - 2) / 2)).length))) = false) => ?_)
    ·
      have hc8 := of_decide_eq_true hb8
      refine WC.draw 21 Fa.M H7 (HW.op rfl (fun w1 H1 => op_move rfl ⟨rfl, Fr.refl _ _⟩) (HW.op rfl (fun w1 H1 => op_move rfl ⟨rfl, Fr.refl _ _⟩) (HW.op rfl (fun w1 H1 => op_lenStr Tryz.underlying9 rfl ⟨rfl, Fr.refl _ _⟩) (HW.op rfl (fun w1 H1 => op_convNU32 (hs := Tryz.underlying3) (hd := Tryz.underlying22) rfl ⟨rfl, Fr.refl _ _⟩) (HW.op rfl (fun w1 H1 => op_gtrU32 rfl rfl ⟨rfl, Fr.refl _ _⟩) (HW.op rfl (fun w1 H1 => op_move rfl ⟨rfl, Fr.refl _ _⟩) (HW.no rfl rfl rfl hb8 (HW.no rfl rfl rfl hb8 (HW.no rfl rfl rfl hb8 (HW.no rfl rfl rfl hb8 (HW.no rfl rfl rfl hb8 (HW.no rfl rfl rfl hb8 (HW.no rfl rfl rfl hb8 (HW.no rfl rfl rfl hb8 (HW.no rfl rfl rfl hb8 (HW.no rfl rfl rfl hb8 (HW.no rfl rfl rfl hb8 (HW.no rfl rfl rfl hb8 (HW.no rfl rfl rfl hb8 (HW.no rfl rfl rfl hb8 (HW.op rfl (fun w1 H1 => op_pickT rfl hb8 rfl ⟨rfl, Fr.refl _ _⟩)  HW.nil))))))))))))))))))))) (by kernel_rfl) ?_
      intro β9 w9 H9
      refine WL.nil ?_
      refine WQ.next ?_
      refine WC.yes rfl rfl ?_
      refine WC.seq ?_
      refine WC.region ?_
      refine WL.op rfl rfl (op_assign rfl ?_)
      refine WL.op rfl rfl (op_assign rfl ?_)
      refine WL.op rfl rfl (op_assign rfl ?_)
      refine WL.nil ?_
      refine WQ.next ?_
      refine WC.ret ?_
      refine WQ.thenRet ?_
      refine WQ.out (.tmp rfl (.tmp rfl (.tmp rfl .nil))) ?_
      exact ⟨by rw [slotN, pickS, if_pos (.inl (of_decide_eq_true hb8))]; rfl, H9.fr⟩
    ·
      have hc8 := of_decide_eq_false hb8
      have hzl := sl_le (of_decide_eq_false hb8) (by omega)
      refine WC.draw 21 Fa.M H7 (HW.op rfl (fun w1 H1 => op_move rfl ⟨rfl, Fr.refl _ _⟩) (HW.op rfl (fun w1 H1 => op_move rfl ⟨rfl, Fr.refl _ _⟩) (HW.op rfl (fun w1 H1 => op_lenStr Tryz.underlying9 rfl ⟨rfl, Fr.refl _ _⟩) (HW.op rfl (fun w1 H1 => op_convNU32 (hs := Tryz.underlying3) (hd := Tryz.underlying22) rfl ⟨rfl, Fr.refl _ _⟩) (HW.op rfl (fun w1 H1 => op_gtrU32 rfl rfl ⟨rfl, Fr.refl _ _⟩) (HW.op rfl (fun w1 H1 => op_move rfl ⟨rfl, Fr.refl _ _⟩) (HW.yes rfl rfl rfl hb8 (fun w1 H1 => op_move rfl ⟨rfl, Fr.refl _ _⟩) (HW.yes rfl rfl rfl hb8 (fun w1 H1 => op_nilCheck rfl ⟨rfl, Fr.refl _ _⟩) (HW.yes rfl rfl rfl hb8 (fun w1 H1 => op_fieldAddr rfl Fa.F61_0 ⟨rfl, Fr.refl _ _⟩) (HW.yes rfl rfl rfl hb8 (fun w1 H1 => op_load rfl (H1.cellO (i := 0) rfl rfl) Tryz.underlying59 rfl ⟨rfl, Fr.refl _ _⟩) (HW.yes rfl rfl rfl hb8 (fun w1 H1 => op_move rfl ⟨rfl, Fr.refl _ _⟩) (HW.yes rfl rfl rfl hb8 (fun w1 H1 => op_indexAddr1 Tryz.underlying59 Fa.I9 rfl (H1.arrO (i := 1) rfl) rfl (by omega) ⟨rfl, Fr.refl _ _⟩) (HW.yes rfl rfl rfl hb8 (fun w1 H1 => op_load rfl ((H1.arrO (i := 1) rfl).at (get_map str [] (Arr.ltM (H1.arrO (i := 1) rfl) (by omega)))) Tryz.underlying9 rfl ⟨rfl, Fr.refl _ _⟩) (HW.yes rfl rfl rfl hb8 (fun w1 H1 => op_move rfl ⟨rfl, Fr.refl _ _⟩) (HW.yes rfl rfl rfl hb8 (fun w1 H1 => op_move rfl ⟨rfl, Fr.refl _ _⟩) (HW.yes rfl rfl rfl hb8 (fun w1 H1 => op_move rfl ⟨rfl, Fr.refl _ _⟩) (HW.yes rfl rfl rfl hb8 (fun w1 H1 => op_move rfl ⟨rfl, Fr.refl _ _⟩) (HW.yes rfl rfl rfl hb8 (fun w1 H1 => op_sliceStrHi Tryz.underlying9 rfl rfl (by omega) ⟨rfl, Fr.refl _ _⟩) (HW.yes rfl rfl rfl hb8 (fun w1 H1 => op_callF Fa.C64 rfl ((rhead_ok r vb key left (getV (((B.getD 0 []).drop 4).take (8 - 4))) ((catB B (2 + 0 * ((n - 2) / 2)) ((n - 2) / 2)).take (getV (((B.getD 0 []).drop 8).take (12 - 8))).toNat) _ (H1.cellsAtO (i := 0) rfl) hk (by rw [List.length_take]; omega)).mono (fun e w2 hq => ⟨_, hq.1, rfl, hq.2⟩))) (HW.yes rfl rfl rfl hb8 (fun w1 H1 => op_neqStr rfl rfl ⟨rfl, Fr.refl _ _⟩) (HW.op rfl (fun w1 H1 => op_pickF rfl hb8 rfl ⟨rfl, Fr.refl _ _⟩)  HW.nil))))))))))))))))))))) (by kernel_rfl) ?_
      intro β11 w11 H11
      refine WL.nil ?_
      refine WQ.next ?_
      refine WC.cond rfl (fun (hb12 : (decide ((B.getD 0 []) ≠ (hdrS key (getV (((B.getD 0 []).drop 4).take (8 - 4))) ((catB B (2 + 0 * ((n - 2) / 2)) ((n - 2) / 2)).take (getV (((B.getD 0 []).drop 8).take (12 - 8))).toNat)))) = true) => ?_) (fun (hb12 : (decide ((B.getD 0 []) ≠ (hdrS key (getV (((B.getD 0 []).drop 4).take (8 - 4))) ((catB B (2 + 0 * ((n - 2) / 2)) ((n - 2) / 2)).take (getV (((B.getD 0 []).drop 8).take (12 - 8))).toNat)))) = false) => ?_)
      ·
        have hc12 := of_decide_eq_true hb12
        refine WC.seq ?_
        refine WC.region ?_
        refine WL.op rfl rfl (op_assign rfl ?_)
        refine WL.op rfl rfl (op_assign rfl ?_)
        refine WL.op rfl rfl (op_assign rfl ?_)
        refine WL.nil ?_
        refine WQ.next ?_
        refine WC.ret ?_
        refine WQ.thenRet ?_
        refine WQ.out (.tmp rfl (.tmp rfl (.tmp rfl .nil))) ?_
        exact ⟨by rw [slotN, pickS, if_pos (.inr (of_decide_eq_true hb12))]; rfl, H11.fr⟩
      ·
        have hc12 := of_decide_eq_false hb12
        refine WC.skip ?_
        refine WQ.next ?_
        refine WC.seq ?_
        refine WC.draw 7 Fa.M H11 (HW.op rfl (fun w1 H1 => op_move rfl ⟨rfl, Fr.refl _ _⟩) (HW.op rfl (fun w1 H1 => op_move rfl ⟨rfl, Fr.refl _ _⟩) (HW.op rfl (fun w1 H1 => op_move rfl ⟨rfl, Fr.refl _ _⟩) (HW.op rfl (fun w1 H1 => op_sliceStrHi Tryz.underlying9 rfl rfl (by omega) ⟨rfl, Fr.refl _ _⟩) (HW.op rfl (fun w1 H1 => op_assign rfl ⟨rfl, Fr.refl _ _⟩) (HW.op rfl (fun w1 H1 => op_assign rfl ⟨rfl, Fr.refl _ _⟩) (HW.op rfl (fun w1 H1 => op_assign rfl ⟨rfl, Fr.refl _ _⟩)  HW.nil))))))) (by kernel_rfl) ?_
        intro β13 w13 H13
        refine WL.nil ?_
        refine WQ.next ?_
        refine WC.ret ?_
        refine WQ.out (.tmp rfl (.tmp rfl (.tmp rfl .nil))) ?_
        exact ⟨by rw [slotN, pickS, if_neg (fun h => h.elim (of_decide_eq_false hb8) (of_decide_eq_false hb12))]; rfl, H13.fr⟩
set_option maxHeartbeats 1000000 in
set_option maxRecDepth 100000 in
theorem rslot1_ok (r : Nat) (vb : Value) (key : List UInt8) (left : Int) (n : Nat) (B : List (List UInt8)) (w : World) (hR : cellsAt w r [vb, (str key), (vI left)]) (hRB : Arr w vb 1 n (List.map str B)) (hn : B.length = n) (hB : ∀ b ∈ B, b.length = 64) (h4 : 4 ≤ n) (hm : n < 2 ^ 20) (hk : key.length < 2 ^ 40) :
    Calls Tryz.prog 68 #[(ptr r 0), (vN 1)] w (fun e w' => e = .returned (.tuple #[vU32 (slotN B ((n - 2) / 2) key 1).v, str (slotN B ((n - 2) / 2) key 1).t, .bool (slotN B ((n - 2) / 2) key 1).is]) ∧ Fr [] w w') := by
  refine enter (args := [(ptr r 0), (vN 1)]) Tryz.func68 rfl rfl ?_
  have H0 : Own [] w w [Ent.bo r [vb, (str key), (vI left)], Ent.ar vb 1 n (List.map str B)] := (((Own.start w []).oldB hR).oldA hRB)
  have hhl : (B.getD 1 []).length = 64 := all_get hB (by omega)
  refine WC.seq ?_
  refine WC.region ?_
  refine WL.op rfl rfl (op_assign rfl ?_)
  refine WL.op rfl rfl (op_assign rfl ?_)
  refine WL.op rfl rfl (op_assign rfl ?_)
  refine WL.nil ?_
  refine WQ.next ?_
  refine WC.seq ?_
  refine WC.seq ?_
  refine WC.region ?_
  refine WL.op rfl rfl (op_move rfl ?_)
  refine WL.op rfl rfl (op_neqN (b := 0) rfl rfl ?_)
  refine WL.op rfl rfl (op_move rfl ?_)
  refine WL.yes rfl rfl rfl (by decide) rfl (op_move rfl ?_)
  refine WL.yes rfl rfl rfl (by decide) rfl (op_neqN (b := 1) rfl rfl ?_)
  refine WL.op rfl rfl (op_pickT rfl (by decide) rfl ?_)
  refine WL.nil ?_
  refine WQ.next ?_
  refine WC.no rfl (by decide) ?_
  refine WC.skip ?_
  refine WQ.next ?_
  refine WC.seq ?_
  refine WC.region ?_
  refine WL.op rfl rfl (op_assign rfl ?_)
  refine WL.nil ?_
  refine WQ.next ?_
  refine WC.seq ?_
  refine WC.seq ?_
  refine WC.region ?_
  refine WL.op rfl rfl (op_assign rfl ?_)
  refine WL.nil ?_
  refine WQ.next ?_
  refine WC.block ?_
  refine WC.loop (α := Nat) (fun u => [(0, (ptr r 0)), (1, (vN 1)), (7, (str (catB B (2 + 1 * ((n - 2) / 2)) u))), (8, (vN u))]) (fun u w' => (u ≤ ((n - 2) / 2)) ∧ Own [] w w' [Ent.bo r [vb, (str key), (vI left)], Ent.ar vb 1 n (List.map str B)]) (fun u => ((n - 2) / 2) - u) 0 ⟨(Nat.zero_le _), H0⟩ ⟨rfl, rfl, rfl, rfl, trivial⟩ ?_
  rintro u w1 ⟨hk1, H1⟩
  show WC _ _ _ _ _ [(0, (ptr r 0)), (1, (vN 1)), (7, (str (catB B (2 + 1 * ((n - 2) / 2)) u))), (8, (vN u))] _
  have hcl : (catB B (2 + 1 * ((n - 2) / 2)) u).length = 64 * u := catB_len (fun j h1 h2 => all_get hB (by omega))
  have hgl : u < ((n - 2) / 2) → (B.getD (2 + 1 * ((n - 2) / 2) + u) []).length = 64 := fun h => all_get hB (by omega)
  refine WC.seq ?_
  refine WC.seq ?_
  refine WC.region ?_
  refine WL.op rfl rfl (op_move rfl ?_)
  refine WL.op rfl rfl (op_move rfl ?_)
  refine WL.op rfl rfl (op_callF Fa.C66 rfl ((reach_ok r vb key left n B _ (H1.cellsAtO (i := 0) rfl) (H1.arrO (i := 1) rfl) h4 hm).mono (fun e w2 hq => ?_)))
  obtain ⟨rfl, hf2⟩ := hq
  refine ⟨_, rfl, ?_⟩
  have H2 := H1.fr' hf2
  refine WL.op rfl rfl (op_lssN rfl rfl ?_)
  refine WL.nil ?_
  refine WQ.next ?_
  refine WC.cond rfl (fun (hb3 : (decide (u < ((n - 2) / 2))) = true) => ?_) (fun (hb3 : (decide (u < ((n - 2) / 2))) = false) => ?_)
  ·
    have hc3 := of_decide_eq_true hb3
    refine WC.skip ?_
    refine WQ.next ?_
    refine WC.seq ?_
    refine WC.block ?_
    refine WC.draw 16 Fa.M H2 (HW.op rfl (fun w1 H1 => op_move rfl ⟨rfl, Fr.refl _ _⟩) (HW.op rfl (fun w1 H1 => op_move rfl ⟨rfl, Fr.refl _ _⟩) (HW.op rfl (fun w1 H1 => op_nilCheck rfl ⟨rfl, Fr.refl _ _⟩) (HW.op rfl (fun w1 H1 => op_fieldAddr rfl Fa.F61_0 ⟨rfl, Fr.refl _ _⟩) (HW.op rfl (fun w1 H1 => op_load rfl (H1.cellO (i := 0) rfl rfl) Tryz.underlying59 rfl ⟨rfl, Fr.refl _ _⟩) (HW.op rfl (fun w1 H1 => op_move rfl ⟨rfl, Fr.refl _ _⟩) (HW.op rfl (fun w1 H1 => op_move rfl ⟨rfl, Fr.refl _ _⟩) (HW.op rfl (fun w1 H1 => op_callF Fa.C66 rfl ((reach_ok r vb key left n B _ (H1.cellsAtO (i := 0) rfl) (H1.arrO (i := 1) rfl) h4 hm).mono (fun e w2 hq => ⟨_, hq.1, rfl, hq.2⟩))) (HW.op rfl (fun w1 H1 => op_mulN rfl rfl (by omega) ⟨rfl, Fr.refl _ _⟩) (HW.op rfl (fun w1 H1 => op_addN (a := 2) rfl rfl (by omega) ⟨rfl, Fr.refl _ _⟩) (HW.op rfl (fun w1 H1 => op_move rfl ⟨rfl, Fr.refl _ _⟩) (HW.op rfl (fun w1 H1 => op_addN rfl rfl (by omega) ⟨rfl, Fr.refl _ _⟩) (HW.op rfl (fun w1 H1 => op_indexAddr1 Tryz.underlying59 Fa.I9 rfl (H1.arrO (i := 1) rfl) rfl (by omega) ⟨rfl, Fr.refl _ _⟩) (HW.op rfl (fun w1 H1 => op_load rfl ((H1.arrO (i := 1) rfl).at (get_map str [] (Arr.ltM (H1.arrO (i := 1) rfl) (by omega)))) Tryz.underlying9 rfl ⟨rfl, Fr.refl _ _⟩) (HW.op rfl (fun w1 H1 => op_addStr rfl rfl (by have := hgl (by omega); omega) ⟨rfl, Fr.refl _ _⟩) (HW.op rfl (fun w1 H1 => op_assign rfl ⟨rfl, Fr.refl _ _⟩)  HW.nil)))))))))))))))) (by kernel_rfl) ?_
    intro β5 w5 H5
    refine WL.nil ?_
    refine WQ.inNormal ?_
    refine WQ.next ?_
    refine WC.region ?_
    refine WL.op rfl rfl (op_move rfl ?_)
    refine WL.op rfl rfl (op_addN (b := 1) rfl rfl (by omega) ?_)
    refine WL.op rfl rfl (op_assign rfl ?_)
    refine WL.nil ?_
    exact WQ.round (u + 1) ⟨(by omega), H5⟩ ⟨rfl, rfl, rfl, rfl, trivial⟩ (by omega)
  ·
    have hc3 := of_decide_eq_false hb3
    have hke : u = ((n - 2) / 2) := by omega
    rw [hke] at hcl
    rw [hke]
    refine WC.exit ?_
    refine WQ.thenExit ?_
    refine WQ.thenExit ?_
    refine WQ.inHere ?_
    refine WQ.next ?_
    refine WC.seq ?_
    refine WC.region ?_
    refine WL.op rfl rfl (op_move rfl ?_)
    refine WL.op rfl rfl (op_nilCheck rfl ?_)
    refine WL.op rfl rfl (op_fieldAddr rfl Fa.F61_0 ?_)
    refine WL.op rfl rfl (op_load rfl (H2.cellO (i := 0) rfl rfl) Tryz.underlying59 rfl ?_)
    refine WL.op rfl rfl (op_move rfl ?_)
    refine WL.op rfl rfl (op_indexAddr1 Tryz.underlying59 Fa.I9 rfl (H2.arrO (i := 1) rfl) rfl (by omega) ?_)
    refine WL.op rfl rfl (op_load rfl ((H2.arrO (i := 1) rfl).at (get_map str [] (Arr.ltM (H2.arrO (i := 1) rfl) (by omega)))) Tryz.underlying9 rfl ?_)
    refine WL.op rfl rfl (op_sliceStr (a := 4) (b := 8) Tryz.underlying9 rfl rfl rfl (by omega) (by omega) ?_)
    refine WL.op rfl rfl (op_callF Fa.C120 rfl ((rGet_ok (((B.getD 1 []).drop 4).take (8 - 4)) _).mono (fun e w6 hq => ?_)))
    obtain ⟨rfl, hf6⟩ := hq
    refine ⟨_, rfl, ?_⟩
    have H6 := H2.fr' hf6
    refine WL.op rfl rfl (op_move rfl ?_)
    refine WL.op rfl rfl (op_extract rfl rfl ?_)
    refine WL.op rfl rfl (op_extract rfl rfl ?_)
    rw [gFV_getV]
    refine WL.op rfl rfl (op_assign rfl ?_)
    refine WL.op rfl rfl (op_assign rfl ?_)
    refine WL.nil ?_
    refine WQ.next ?_
    refine WC.seq ?_
    refine WC.region ?_
    refine WL.op rfl rfl (op_move rfl ?_)
    refine WL.op rfl rfl (op_nilCheck rfl ?_)
    refine WL.op rfl rfl (op_fieldAddr rfl Fa.F61_0 ?_)
    refine WL.op rfl rfl (op_load rfl (H6.cellO (i := 0) rfl rfl) Tryz.underlying59 rfl ?_)
    refine WL.op rfl rfl (op_move rfl ?_)
    refine WL.op rfl rfl (op_indexAddr1 Tryz.underlying59 Fa.I9 rfl (H6.arrO (i := 1) rfl) rfl (by omega) ?_)
    refine WL.op rfl rfl (op_load rfl ((H6.arrO (i := 1) rfl).at (get_map str [] (Arr.ltM (H6.arrO (i := 1) rfl) (by omega)))) Tryz.underlying9 rfl ?_)
    refine WL.op rfl rfl (op_sliceStr (a := 8) (b := 12) Tryz.underlying9 rfl rfl rfl (by omega) (by omega) ?_)
    refine WL.op rfl rfl (op_callF Fa.C120 rfl ((rGet_ok (((B.getD 1 []).drop 8).take (12 - 8)) _).mono (fun e w7 hq => ?_)))
    obtain ⟨rfl, hf7⟩ := hq
    refine ⟨_, rfl, ?_⟩
    have H7 := H6.fr' hf7
    refine WL.op rfl rfl (op_move rfl ?_)
    refine WL.op rfl rfl (op_extract rfl rfl ?_)
    refine WL.op rfl rfl (op_extract rfl rfl ?_)
    rw [gFV_getV]
    refine WL.op rfl rfl (op_assign rfl ?_)
    refine WL.op rfl rfl (op_assign rfl ?_)
    refine WL.nil ?_
    refine WQ.next ?_
    refine WC.seq ?_
    refine WC.seq ?_
    refine bsplit (fun (hb8 : (decide ((getV (((B.getD 1 []).drop 8).take (12 - 8))) > (UInt32.ofNat (catB B (2 + 1 * ((n - 2) / 2)) ((n - 2) / 2)).length))) = true) => ?_) (fun (hb8 : (decide ((getV (((B.getD 1 []).drop 8).take (12 - 8))) > (UInt32.ofNat (catB B (2 + 1 * ((n - 2) / 2)) ((n - 2) / 2)).length))) = false) => ?_)
    ·
      have hc8 := of_decide_eq_true hb8
      refine WC.draw 21 Fa.M H7 (HW.op rfl (fun w1 H1 => op_move rfl ⟨rfl, Fr.refl _ _⟩) (HW.op rfl (fun w1 H1 => op_move rfl ⟨rfl, Fr.refl _ _⟩) (HW.op rfl (fun w1 H1 => op_lenStr Tryz.underlying9 rfl ⟨rfl, Fr.refl _ _⟩) (HW.op rfl (fun w1 H1 => op_convNU32 (hs := Tryz.underlying3) (hd := Tryz.underlying22) rfl ⟨rfl, Fr.refl _ _⟩) (HW.op rfl (fun w1 H1 => op_gtrU32 rfl rfl ⟨rfl, Fr.refl _ _⟩) (HW.op rfl (fun w1 H1 => op_move rfl ⟨rfl, Fr.refl _ _⟩) (HW.no rfl rfl rfl hb8 (HW.no rfl rfl rfl hb8 (HW.no rfl rfl rfl hb8 (HW.no rfl rfl rfl hb8 (HW.no rfl rfl rfl hb8 (HW.no rfl rfl rfl hb8 (HW.no rfl rfl rfl hb8 (HW.no rfl rfl rfl hb8 (HW.no rfl rfl rfl hb8 (HW.no rfl rfl rfl hb8 (HW.no rfl rfl rfl hb8 (HW.no rfl rfl rfl hb8 (HW.no rfl rfl rfl hb8 (HW.no rfl rfl rfl hb8 (HW.op rfl (fun w1 H1 => op_pickT rfl hb8 rfl ⟨rfl, Fr.refl _ _⟩)  HW.nil))))))))))))))))))))) (by kernel_rfl) ?_
      intro β9 w9 H9
      refine WL.nil ?_
      refine WQ.next ?_
      refine WC.yes rfl rfl ?_
      refine WC.seq ?_
      refine WC.region ?_
      refine WL.op rfl rfl (op_assign rfl ?_)
      refine WL.op rfl rfl (op_assign rfl ?_)
      refine WL.op rfl rfl (op_assign rfl ?_)
      refine WL.nil ?_
      refine WQ.next ?_
      refine WC.ret ?_
      refine WQ.thenRet ?_
      refine WQ.out (.tmp rfl (.tmp rfl (.tmp rfl .nil))) ?_
      exact ⟨by rw [slotN, pickS, if_pos (.inl (of_decide_eq_true hb8))]; rfl, H9.fr⟩
    ·
      have hc8 := of_decide_eq_false hb8
      have hzl := sl_le (of_decide_eq_false hb8) (by omega)
      refine WC.draw 21 Fa.M H7 (HW.op rfl (fun w1 H1 => op_move rfl ⟨rfl, Fr.refl _ _⟩) (HW.op rfl (fun w1 H1 => op_move rfl ⟨rfl, Fr.refl _ _⟩) (HW.op rfl (fun w1 H1 => op_lenStr Tryz.underlying9 rfl ⟨rfl, Fr.refl _ _⟩) (HW.op rfl (fun w1 H1 => op_convNU32 (hs := Tryz.underlying3) (hd := Tryz.underlying22) rfl ⟨rfl, Fr.refl _ _⟩) (HW.op rfl (fun w1 H1 => op_gtrU32 rfl rfl ⟨rfl, Fr.refl _ _⟩) (HW.op rfl (fun w1 H1 => op_move rfl ⟨rfl, Fr.refl _ _⟩) (HW.yes rfl rfl rfl hb8 (fun w1 H1 => op_move rfl ⟨rfl, Fr.refl _ _⟩) (HW.yes rfl rfl rfl hb8 (fun w1 H1 => op_nilCheck rfl ⟨rfl, Fr.refl _ _⟩) (HW.yes rfl rfl rfl hb8 (fun w1 H1 => op_fieldAddr rfl Fa.F61_0 ⟨rfl, Fr.refl _ _⟩) (HW.yes rfl rfl rfl hb8 (fun w1 H1 => op_load rfl (H1.cellO (i := 0) rfl rfl) Tryz.underlying59 rfl ⟨rfl, Fr.refl _ _⟩) (HW.yes rfl rfl rfl hb8 (fun w1 H1 => op_move rfl ⟨rfl, Fr.refl _ _⟩) (HW.yes rfl rfl rfl hb8 (fun w1 H1 => op_indexAddr1 Tryz.underlying59 Fa.I9 rfl (H1.arrO (i := 1) rfl) rfl (by omega) ⟨rfl, Fr.refl _ _⟩) (HW.yes rfl rfl rfl hb8 (fun w1 H1 => op_load rfl ((H1.arrO (i := 1) rfl).at (get_map str [] (Arr.ltM (H1.arrO (i := 1) rfl) (by omega)))) Tryz.underlying9 rfl ⟨rfl, Fr.refl _ _⟩) (HW.yes rfl rfl rfl hb8 (fun w1 H1 => op_move rfl ⟨rfl, Fr.refl _ _⟩) (HW.yes rfl rfl rfl hb8 (fun w1 H1 => op_move rfl ⟨rfl, Fr.refl _ _⟩) (HW.yes rfl rfl rfl hb8 (fun w1 H1 => op_move rfl ⟨rfl, Fr.refl _ _⟩) (HW.yes rfl rfl rfl hb8 (fun w1 H1 => op_move rfl ⟨rfl, Fr.refl _ _⟩) (HW.yes rfl rfl rfl hb8 (fun w1 H1 => op_sliceStrHi Tryz.underlying9 rfl rfl (by omega) ⟨rfl, Fr.refl _ _⟩) (HW.yes rfl rfl rfl hb8 (fun w1 H1 => op_callF Fa.C64 rfl ((rhead_ok r vb key left (getV (((B.getD 1 []).drop 4).take (8 - 4))) ((catB B (2 + 1 * ((n - 2) / 2)) ((n - 2) / 2)).take (getV (((B.getD 1 []).drop 8).take (12 - 8))).toNat) _ (H1.cellsAtO (i := 0) rfl) hk (by rw [List.length_take]; omega)).mono (fun e w2 hq => ⟨_, hq.1, rfl, hq.2⟩))) (HW.yes rfl rfl rfl hb8 (fun w1 H1 => op_neqStr rfl rfl ⟨rfl, Fr.refl _ _⟩) (HW.op rfl (fun w1 H1 => op_pickF rfl hb8 rfl ⟨rfl, Fr.refl _ _⟩)  HW.nil))))))))))))))))))))) (by kernel_rfl) ?_
      intro β11 w11 H11
      refine WL.nil ?_
      refine WQ.next ?_
      refine WC.cond rfl (fun (hb12 : (decide ((B.getD 1 []) ≠ (hdrS key (getV (((B.getD 1 []).drop 4).take (8 - 4))) ((catB B (2 + 1 * ((n - 2) / 2)) ((n - 2) / 2)).take (getV (((B.getD 1 []).drop 8).take (12 - 8))).toNat)))) = true) => ?_) (fun (hb12 : (decide ((B.getD 1 []) ≠ (hdrS key (getV (((B.getD 1 []).drop 4).take (8 - 4))) ((catB B (2 + 1 * ((n - 2) / 2)) ((n - 2) / 2)).take (getV (((B.getD 1 []).drop 8).take (12 - 8))).toNat)))) = false) => ?_)
      ·
        have hc12 := of_decide_eq_true hb12
        refine WC.seq ?_
        refine WC.region ?_
        refine WL.op rfl rfl (op_assign rfl ?_)
        refine WL.op rfl rfl (op_assign rfl ?_)
        refine WL.op rfl rfl (op_assign rfl ?_)
        refine WL.nil ?_
        refine WQ.next ?_
        refine WC.ret ?_
        refine WQ.thenRet ?_
        refine WQ.out (.tmp rfl (.tmp rfl (.tmp rfl .nil))) ?_
        exact ⟨by rw [slotN, pickS, if_pos (.inr (of_decide_eq_true hb12))]; rfl, H11.fr⟩
      ·
        have hc12 := of_decide_eq_false hb12
        refine WC.skip ?_
        refine WQ.next ?_
        refine WC.seq ?_
        refine WC.draw 7 Fa.M H11 (HW.op rfl (fun w1 H1 => op_move rfl ⟨rfl, Fr.refl _ _⟩) (HW.op rfl (fun w1 H1 => op_move rfl ⟨rfl, Fr.refl _ _⟩) (HW.op rfl (fun w1 H1 => op_move rfl ⟨rfl, Fr.refl _ _⟩) (HW.op rfl (fun w1 H1 => op_sliceStrHi Tryz.underlying9 rfl rfl (by omega) ⟨rfl, Fr.refl _ _⟩) (HW.op rfl (fun w1 H1 => op_assign rfl ⟨rfl, Fr.refl _ _⟩) (HW.op rfl (fun w1 H1 => op_assign rfl ⟨rfl, Fr.refl _ _⟩) (HW.op rfl (fun w1 H1 => op_assign rfl ⟨rfl, Fr.refl _ _⟩)  HW.nil))))))) (by kernel_rfl) ?_
        intro β13 w13 H13
        refine WL.nil ?_
        refine WQ.next ?_
        refine WC.ret ?_
        refine WQ.out (.tmp rfl (.tmp rfl (.tmp rfl .nil))) ?_
        exact ⟨by rw [slotN, pickS, if_neg (fun h => h.elim (of_decide_eq_false hb8) (of_decide_eq_false hb12))]; rfl, H13.fr⟩
set_option maxRecDepth 100000 in
theorem rslotX_ok (r : Nat) (vb : Value) (key : List UInt8) (left : Int) (n : Nat) (B : List (List UInt8)) (i : Int) (w : World) (hR : cellsAt w r [vb, (str key), (vI left)]) (hRB : Arr w vb 1 n (List.map str B)) (hx : i < 0 ∨ i > 1) :
    Calls Tryz.prog 68 #[(ptr r 0), (vI i)] w (fun e w' => e = .returned (.tuple #[vU32 0, str [], .bool false]) ∧ Fr [] w w') := by
  refine enter (args := [(ptr r 0), (vI i)]) Tryz.func68 rfl rfl ?_
  have H0 : Own [] w w [Ent.bo r [vb, (str key), (vI left)], Ent.ar vb 1 n (List.map str B)] := (((Own.start w []).oldB hR).oldA hRB)
  refine WC.seq ?_
  refine WC.region ?_
  refine WL.op rfl rfl (op_assign rfl ?_)
  refine WL.op rfl rfl (op_assign rfl ?_)
  refine WL.op rfl rfl (op_assign rfl ?_)
  refine WL.nil ?_
  refine WQ.next ?_
  refine WC.seq ?_
  refine WC.seq ?_
  refine WC.region ?_
  refine WL.op rfl rfl (op_move rfl ?_)
  refine WL.op rfl rfl (op_neqI (b := (0 : Int)) rfl rfl ?_)
  refine WL.op rfl rfl (op_move rfl ?_)
  refine WL.yes rfl rfl rfl (decide_eq_true (fun h => by omega)) rfl (op_move rfl ?_)
  refine WL.yes rfl rfl rfl (decide_eq_true (fun h => by omega)) rfl (op_neqI (b := (1 : Int)) rfl rfl ?_)
  refine WL.op rfl rfl (op_pickT rfl (decide_eq_true (fun h => by omega)) rfl ?_)
  refine WL.nil ?_
  refine WQ.next ?_
  refine WC.yes rfl (decide_eq_true (fun h => by omega)) ?_
  refine WC.seq ?_
  refine WC.region ?_
  refine WL.op rfl rfl (op_assign rfl ?_)
  refine WL.op rfl rfl (op_assign rfl ?_)
  refine WL.op rfl rfl (op_assign rfl ?_)
  refine WL.nil ?_
  refine WQ.next ?_
  refine WC.ret ?_
  refine WQ.thenRet ?_
  refine WQ.out (.tmp rfl (.tmp rfl (.tmp rfl .nil))) ?_
  exact ⟨rfl, H0.fr⟩
theorem rslotI_ok (r : Nat) (vb : Value) (key : List UInt8) (left : Int) (n : Nat) (B : List (List UInt8)) (i : Int) (w : World) (hR : cellsAt w r [vb, (str key), (vI left)]) (hRB : Arr w vb 1 n (List.map str B)) (hn : B.length = n) (hB : ∀ b ∈ B, b.length = 64) (h4 : 4 ≤ n) (hm : n < 2 ^ 20) (hk : key.length < 2 ^ 40) : Calls Tryz.prog 68 #[ptr r 0, vI i] w (fun e w' => e = .returned (.tuple #[vU32 (slotI B ((n - 2) / 2) key i).v, str (slotI B ((n - 2) / 2) key i).t, .bool (slotI B ((n - 2) / 2) key i).is]) ∧ Fr [] w w') := by
  by_cases h : i < 0 ∨ i > 1
  · rw [slI_out h]; exact rslotX_ok r vb key left n B i w hR hRB h
  · rw [slI_in h]
    rcases (show i = 0 ∨ i = 1 by omega) with rfl | rfl
    · exact rslot0_ok r vb key left n B w hR hRB hn hB h4 hm hk
    · exact rslot1_ok r vb key left n B w hR hRB hn hB h4 hm hk
set_option maxRecDepth 100000 in
theorem rcur_ok (r : Nat) (vb : Value) (key : List UInt8) (left : Int) (n : Nat) (B : List (List UInt8)) (w : World) (hR : cellsAt w r [vb, (str key), (vI left)]) (hRB : Arr w vb 1 n (List.map str B)) (hn : B.length = n) (hB : ∀ b ∈ B, b.length = 64) (h4 : 4 ≤ n) (hm : n < 2 ^ 20) (hk : key.length < 2 ^ 40) :
    Calls Tryz.prog 63 #[(ptr r 0)] w (fun e w' => e = .returned (vI (rcur (slotN B ((n - 2) / 2) key 0) (slotN B ((n - 2) / 2) key 1))) ∧ Fr [] w w') := by
  refine enter (args := [(ptr r 0)]) Tryz.func63 rfl rfl ?_
  have H0 : Own [] w w [Ent.bo r [vb, (str key), (vI left)], Ent.ar vb 1 n (List.map str B)] := (((Own.start w []).oldB hR).oldA hRB)
  refine WC.seq ?_
  refine WC.region ?_
  refine WL.op rfl rfl (op_assign rfl ?_)
  refine WL.nil ?_
  refine WQ.next ?_
  refine WC.seq ?_
  refine WC.region ?_
  refine WL.op rfl rfl (op_move rfl ?_)
  refine WL.op rfl rfl (op_callF Fa.C68 rfl ((rslot0_ok r vb key left n B _ (H0.cellsAtO (i := 0) rfl) (H0.arrO (i := 1) rfl) hn hB h4 hm hk).mono (fun e w1 hq => ?_)))
  obtain ⟨rfl, hf1⟩ := hq
  refine ⟨_, rfl, ?_⟩
  have H1 := H0.fr' hf1
  refine WL.op rfl rfl (op_move rfl ?_)
  refine WL.op rfl rfl (op_extract rfl rfl ?_)
  refine WL.op rfl rfl (op_extract rfl rfl ?_)
  refine WL.op rfl rfl (op_extract rfl rfl ?_)
  refine WL.op rfl rfl (op_assign rfl ?_)
  refine WL.op rfl rfl (op_assign rfl ?_)
  refine WL.op rfl rfl (op_assign rfl ?_)
  refine WL.nil ?_
  refine WQ.next ?_
  refine WC.seq ?_
  refine WC.region ?_
  refine WL.op rfl rfl (op_move rfl ?_)
  refine WL.op rfl rfl (op_callF Fa.C68 rfl ((rslot1_ok r vb key left n B _ (H1.cellsAtO (i := 0) rfl) (H1.arrO (i := 1) rfl) hn hB h4 hm hk).mono (fun e w2 hq => ?_)))
  obtain ⟨rfl, hf2⟩ := hq
  refine ⟨_, rfl, ?_⟩
  have H2 := H1.fr' hf2
  refine WL.op rfl rfl (op_move rfl ?_)
  refine WL.op rfl rfl (op_extract rfl rfl ?_)
  refine WL.op rfl rfl (op_extract rfl rfl ?_)
  refine WL.op rfl rfl (op_extract rfl rfl ?_)
  refine WL.op rfl rfl (op_assign rfl ?_)
  refine WL.op rfl rfl (op_assign rfl ?_)
  refine WL.op rfl rfl (op_assign rfl ?_)
  refine WL.nil ?_
  refine WQ.next ?_
  refine WC.seq ?_
  refine WC.seq ?_
  refine WC.region ?_
  refine WL.op rfl rfl (op_move rfl ?_)
  refine WL.op rfl rfl (op_move rfl ?_)
  refine WL.split (t := 22) rfl (fun (hb3 : (slotN B ((n - 2) / 2) key 0).is = true) => ?_) (fun (hb3 : (slotN B ((n - 2) / 2) key 0).is = false) => ?_)
  ·
    refine WL.yes rfl rfl rfl hb3 rfl (op_move rfl ?_)
    refine WL.yes rfl rfl rfl hb3 rfl (op_not rfl ?_)
    refine WL.yes rfl rfl rfl hb3 rfl (op_move rfl ?_)
    refine WL.split (t := 25) rfl (fun (hb4 : (!(slotN B ((n - 2) / 2) key 1).is) = true) => ?_) (fun (hb4 : (!(slotN B ((n - 2) / 2) key 1).is) = false) => ?_)
    ·
      have hn4 := (Bool.not_eq_true' _).mp hb4
      refine WL.no rfl rfl rfl hb4 rfl ?_
      refine WL.no rfl rfl rfl hb4 rfl ?_
      refine WL.no rfl rfl rfl hb4 rfl ?_
      refine WL.yes rfl rfl rfl hb3 rfl (op_pickT rfl hb4 rfl ?_)
      refine WL.op rfl rfl (op_pickT rfl hb3 rfl ?_)
      refine WL.nil ?_
      refine WQ.next ?_
      refine WC.yes rfl rfl ?_
      refine WC.seq ?_
      refine WC.region ?_
      refine WL.op rfl rfl (op_assign rfl ?_)
      refine WL.nil ?_
      refine WQ.next ?_
      refine WC.ret ?_
      refine WQ.thenRet ?_
      refine WQ.out (.tmp rfl .nil) ?_
      exact ⟨by rw [rcur, if_pos ⟨hb3, .inl ((Bool.not_eq_true' _).mp hb4)⟩]; rfl, H2.fr⟩
    ·
      have hn4 := (Bool.not_eq_false' _).mp hb4
      refine WL.yes rfl rfl rfl hb4 rfl (op_move rfl ?_)
      refine WL.yes rfl rfl rfl hb4 rfl (op_move rfl ?_)
      refine WL.yes rfl rfl rfl hb4 rfl (op_geqU32 rfl rfl ?_)
      refine WL.yes rfl rfl rfl hb3 rfl (op_pickF rfl hb4 rfl ?_)
      refine WL.op rfl rfl (op_pickT rfl hb3 rfl ?_)
      refine WL.nil ?_
      refine WQ.next ?_
      refine WC.cond rfl (fun (hb5 : (decide ((slotN B ((n - 2) / 2) key 0).v ≥ (slotN B ((n - 2) / 2) key 1).v)) = true) => ?_) (fun (hb5 : (decide ((slotN B ((n - 2) / 2) key 0).v ≥ (slotN B ((n - 2) / 2) key 1).v)) = false) => ?_)
      ·
        have hc5 := of_decide_eq_true hb5
        refine WC.seq ?_
        refine WC.region ?_
        refine WL.op rfl rfl (op_assign rfl ?_)
        refine WL.nil ?_
        refine WQ.next ?_
        refine WC.ret ?_
        refine WQ.thenRet ?_
        refine WQ.out (.tmp rfl .nil) ?_
        exact ⟨by rw [rcur, if_pos ⟨hb3, .inr (of_decide_eq_true hb5)⟩]; rfl, H2.fr⟩
      ·
        have hc5 := of_decide_eq_false hb5
        refine WC.skip ?_
        refine WQ.next ?_
        refine WC.seq ?_
        refine WC.seq ?_
        refine WC.region ?_
        refine WL.op rfl rfl (op_move rfl ?_)
        refine WL.nil ?_
        refine WQ.next ?_
        refine WC.cond rfl (fun (hb6 : (slotN B ((n - 2) / 2) key 1).is = true) => ?_) (fun (hb6 : (slotN B ((n - 2) / 2) key 1).is = false) => ?_)
        ·
          refine WC.seq ?_
          refine WC.region ?_
          refine WL.op rfl rfl (op_assign rfl ?_)
          refine WL.nil ?_
          refine WQ.next ?_
          refine WC.ret ?_
          refine WQ.thenRet ?_
          refine WQ.out (.tmp rfl .nil) ?_
          exact ⟨by rw [rcur, if_neg (fun h => h.2.elim (fun h => by rw [hb6] at h; cases h) (of_decide_eq_false hb5)), if_pos hb6]; rfl, H2.fr⟩
        ·
          refine WC.skip ?_
          refine WQ.next ?_
          refine WC.seq ?_
          refine WC.region ?_
          refine WL.op rfl rfl (op_assign rfl ?_)
          refine WL.nil ?_
          refine WQ.next ?_
          refine WC.ret ?_
          refine WQ.out (.tmp rfl .nil) ?_
          exact absurd ((Bool.not_eq_false' _).mp hb4) (by rw [hb6]; decide)
  ·
    refine WL.no rfl rfl rfl hb3 rfl ?_
    refine WL.no rfl rfl rfl hb3 rfl ?_
    refine WL.no rfl rfl rfl hb3 rfl ?_
    refine WL.non rfl rfl rfl rfl ?_
    refine WL.non rfl rfl rfl rfl ?_
    refine WL.non rfl rfl rfl rfl ?_
    refine WL.no rfl rfl rfl hb3 rfl ?_
    refine WL.op rfl rfl (op_pickF rfl hb3 rfl ?_)
    refine WL.nil ?_
    refine WQ.next ?_
    refine WC.no rfl rfl ?_
    refine WC.skip ?_
    refine WQ.next ?_
    refine WC.seq ?_
    refine WC.seq ?_
    refine WC.region ?_
    refine WL.op rfl rfl (op_move rfl ?_)
    refine WL.nil ?_
    refine WQ.next ?_
    refine WC.cond rfl (fun (hb7 : (slotN B ((n - 2) / 2) key 1).is = true) => ?_) (fun (hb7 : (slotN B ((n - 2) / 2) key 1).is = false) => ?_)
    ·
      refine WC.seq ?_
      refine WC.region ?_
      refine WL.op rfl rfl (op_assign rfl ?_)
      refine WL.nil ?_
      refine WQ.next ?_
      refine WC.ret ?_
      refine WQ.thenRet ?_
      refine WQ.out (.tmp rfl .nil) ?_
      exact ⟨by rw [rcur, if_neg (fun h => by rw [hb3] at h; cases h.1), if_pos hb7]; rfl, H2.fr⟩
    ·
      refine WC.skip ?_
      refine WQ.next ?_
      refine WC.seq ?_
      refine WC.region ?_
      refine WL.op rfl rfl (op_assign rfl ?_)
      refine WL.nil ?_
      refine WQ.next ?_
      refine WC.ret ?_
      refine WQ.out (.tmp rfl .nil) ?_
      exact ⟨by rw [rcur, if_neg (fun h => by rw [hb3] at h; cases h.1), if_neg (fun h => by rw [hb7] at h; cases h)]; rfl, H2.fr⟩
set_option maxRecDepth 100000 in
theorem rcurrent_ok (r : Nat) (vb : Value) (key : List UInt8) (left : Int) (n : Nat) (B : List (List UInt8)) (w : World) (hR : cellsAt w r [vb, (str key), (vI left)]) (hRB : Arr w vb 1 n (List.map str B)) (hn : B.length = n) (hB : ∀ b ∈ B, b.length = 64) (h4 : 4 ≤ n) (hm : n < 2 ^ 20) (hk : key.length < 2 ^ 40) :
    Calls Tryz.prog 61 #[(ptr r 0)] w (fun e w' => e = .returned (.tuple #[vU32 (curS B ((n - 2) / 2) key).v, str (curS B ((n - 2) / 2) key).t, .bool (curS B ((n - 2) / 2) key).is]) ∧ Fr [] w w') := by
  refine enter (args := [(ptr r 0)]) Tryz.func61 rfl rfl ?_
  have H0 : Own [] w w [Ent.bo r [vb, (str key), (vI left)], Ent.ar vb 1 n (List.map str B)] := (((Own.start w []).oldB hR).oldA hRB)
  refine WC.seq ?_
  refine WC.region ?_
  refine WL.op rfl rfl (op_assign rfl ?_)
  refine WL.op rfl rfl (op_assign rfl ?_)
  refine WL.op rfl rfl (op_assign rfl ?_)
  refine WL.nil ?_
  refine WQ.next ?_
  refine WC.seq ?_
  refine WC.region ?_
  refine WL.op rfl rfl (op_move rfl ?_)
  refine WL.op rfl rfl (op_move rfl ?_)
  refine WL.op rfl rfl (op_callF Fa.C63 rfl ((rcur_ok r vb key left n B _ (H0.cellsAtO (i := 0) rfl) (H0.arrO (i := 1) rfl) hn hB h4 hm hk).mono (fun e w1 hq => ?_)))
  obtain ⟨rfl, hf1⟩ := hq
  refine ⟨_, rfl, ?_⟩
  have H1 := H0.fr' hf1
  refine WL.op rfl rfl (op_callF Fa.C68 rfl ((rslotI_ok r vb key left n B (rcur (slotN B ((n - 2) / 2) key 0) (slotN B ((n - 2) / 2) key 1)) _ (H1.cellsAtO (i := 0) rfl) (H1.arrO (i := 1) rfl) hn hB h4 hm hk).mono (fun e w2 hq => ?_)))
  obtain ⟨rfl, hf2⟩ := hq
  refine ⟨_, rfl, ?_⟩
  have H2 := H1.fr' hf2
  refine WL.op rfl rfl (op_extract rfl rfl ?_)
  refine WL.op rfl rfl (op_extract rfl rfl ?_)
  refine WL.op rfl rfl (op_extract rfl rfl ?_)
  refine WL.op rfl rfl (op_assign rfl ?_)
  refine WL.op rfl rfl (op_assign rfl ?_)
  refine WL.op rfl rfl (op_assign rfl ?_)
  refine WL.nil ?_
  refine WQ.next ?_
  refine WC.ret ?_
  refine WQ.out (.tmp rfl (.tmp rfl (.tmp rfl .nil))) ?_
  exact ⟨by rw [← rcur_slot]; rfl, H2.fr⟩
set_option maxRecDepth 100000 in
theorem slotX_ok (s : Nat) (id : UInt32) (key : List UInt8) (each : Nat) (left : Int) (x : Nat) (k : Nat) (bv ev xv cv nv : Value) (pg : UInt32) (m n : Nat) (es : List Value) (B : List (List UInt8)) (i : Int) (w : World) (hS : cellsAt w s [(ptr x 0), (vU32 id), (str key), (vN each), (vI left)]) (hX : cellsAt w x [(ptr k 0)]) (hK : cellsAt w k [(vU32 pg), xv, cv, nv, bv]) (hV : Arr w bv 1 m es) (hE : Arr w ev 1 n (List.map str B)) (hx : i < 0 ∨ i > 1) :
    Calls Tryz.prog 12 #[(ptr s 0), (vI i)] w (fun e w' => e = .returned (.tuple #[vU32 0, str [], .bool false]) ∧ Fr [] w w') := by
  refine enter (args := [(ptr s 0), (vI i)]) Tryz.func12 rfl rfl ?_
  have H0 : Own [] w w [Ent.bo s [(ptr x 0), (vU32 id), (str key), (vN each), (vI left)], Ent.bo x [(ptr k 0)], Ent.bo k [(vU32 pg), xv, cv, nv, bv], Ent.ar bv 1 m es, Ent.ar ev 1 n (List.map str B)] := ((((((Own.start w []).oldB hS).oldB hX).oldB hK).oldA hV).oldA hE)
  refine WC.seq ?_
  refine WC.region ?_
  refine WL.op rfl rfl (op_assign rfl ?_)
  refine WL.op rfl rfl (op_assign rfl ?_)
  refine WL.op rfl rfl (op_assign rfl ?_)
  refine WL.nil ?_
  refine WQ.next ?_
  refine WC.seq ?_
  refine WC.seq ?_
  refine WC.region ?_
  refine WL.op rfl rfl (op_move rfl ?_)
  refine WL.op rfl rfl (op_eqlPN Fa.PT24 rfl rfl ?_)
  refine WL.op rfl rfl (op_move rfl ?_)
  refine bsplit (fun (hb1 : (decide (i < (0 : Int))) = true) => ?_) (fun (hb1 : (decide (i < (0 : Int))) = false) => ?_)
  ·
    have hc1 := of_decide_eq_true hb1
    refine WL.yes rfl rfl rfl rfl rfl (op_move rfl ?_)
    refine WL.yes rfl rfl rfl rfl rfl (op_lssI (b := (0 : Int)) rfl rfl ?_)
    refine WL.op rfl rfl (op_pickF rfl rfl rfl ?_)
    refine WL.op rfl rfl (op_move rfl ?_)
    refine WL.no rfl rfl rfl hb1 rfl ?_
    refine WL.no rfl rfl rfl hb1 rfl ?_
    refine WL.op rfl rfl (op_pickT rfl hb1 rfl ?_)
    refine WL.nil ?_
    refine WQ.next ?_
    refine WC.yes rfl rfl ?_
    refine WC.seq ?_
    refine WC.region ?_
    refine WL.op rfl rfl (op_assign rfl ?_)
    refine WL.op rfl rfl (op_assign rfl ?_)
    refine WL.op rfl rfl (op_assign rfl ?_)
    refine WL.nil ?_
    refine WQ.next ?_
    refine WC.ret ?_
    refine WQ.thenRet ?_
    refine WQ.out (.tmp rfl (.tmp rfl (.tmp rfl .nil))) ?_
    exact ⟨rfl, H0.fr⟩
  ·
    have hc1 := of_decide_eq_false hb1
    refine WL.yes rfl rfl rfl rfl rfl (op_move rfl ?_)
    refine WL.yes rfl rfl rfl rfl rfl (op_lssI (b := (0 : Int)) rfl rfl ?_)
    refine WL.op rfl rfl (op_pickF rfl rfl rfl ?_)
    refine WL.op rfl rfl (op_move rfl ?_)
    refine WL.yes rfl rfl rfl hb1 rfl (op_move rfl ?_)
    refine WL.yes rfl rfl rfl hb1 rfl (op_gtrI (b := (1 : Int)) rfl rfl ?_)
    refine WL.op rfl rfl (op_pickF rfl hb1 rfl ?_)
    refine WL.nil ?_
    refine WQ.next ?_
    refine WC.yes rfl (decide_eq_true (by omega)) ?_
    refine WC.seq ?_
    refine WC.region ?_
    refine WL.op rfl rfl (op_assign rfl ?_)
    refine WL.op rfl rfl (op_assign rfl ?_)
    refine WL.op rfl rfl (op_assign rfl ?_)
    refine WL.nil ?_
    refine WQ.next ?_
    refine WC.ret ?_
    refine WQ.thenRet ?_
    refine WQ.out (.tmp rfl (.tmp rfl (.tmp rfl .nil))) ?_
    exact ⟨rfl, H0.fr⟩
theorem slotI_ok (s : Nat) (id : UInt32) (key : List UInt8) (each : Nat) (left : Int) (x : Nat) (k : Nat) (bv ev xv cv nv : Value) (pg : UInt32) (m n : Nat) (es : List Value) (B : List (List UInt8)) (i : Int) (w : World) (hS : cellsAt w s [(ptr x 0), (vU32 id), (str key), (vN each), (vI left)]) (hX : cellsAt w x [(ptr k 0)]) (hK : cellsAt w k [(vU32 pg), xv, cv, nv, bv]) (hV : Arr w bv 1 m es) (hE : Arr w ev 1 n (List.map str B)) (hid : id.toNat < m) (hev : es[id.toNat]? = some ev) (hn : B.length = n) (hB : ∀ b ∈ B, b.length = 64) (hc : 2 + each + each ≤ n) (hm : n < 2 ^ 20) (hk : key.length < 2 ^ 40) : Calls Tryz.prog 12 #[ptr s 0, vI i] w (fun e w' => e = .returned (.tuple #[vU32 (slotI B each key i).v, str (slotI B each key i).t, .bool (slotI B each key i).is]) ∧ Fr [] w w') := by
  by_cases h : i < 0 ∨ i > 1
  · rw [slI_out h]; exact slotX_ok s id key each left x k bv ev xv cv nv pg m n es B i w hS hX hK hV hE h
  · rw [slI_in h]
    rcases (show i = 0 ∨ i = 1 by omega) with rfl | rfl
    · exact slot_ok s id key each left x k bv ev xv cv nv pg m n es B 0 w hS hX hK hV hE hid hev hn hB hc hm hk (by decide)
    · exact slot_ok s id key each left x k bv ev xv cv nv pg m n es B 1 w hS hX hK hV hE hid hev hn hB hc hm hk (by decide)
set_option maxRecDepth 100000 in
theorem blk22_ok (t : List UInt8) (w : World) (ht : t.length < 2 ^ 40) :
    Calls Tryz.prog 26 #[(str t)] w (fun e w' => e = .returned (str (blk64 t)) ∧ Fr [] w w') := by
  refine enter (args := [(str t)]) Tryz.func26 rfl rfl ?_
  have H0 : Own [] w w [] := Own.start w []
  refine WC.seq ?_
  refine WC.region ?_
  refine WL.op rfl rfl (op_assign rfl ?_)
  refine WL.nil ?_
  refine WQ.next ?_
  refine WC.seq ?_
  refine WC.region ?_
  refine WL.op rfl rfl (op_makeSliceM (f := vU8) (c := 0) (m := 64) H0 Tryz.underlying114 Fa.I5 rfl rfl (by omega) (by omega) (fun b1 w1 H1 => ?_))
  refine WL.op rfl rfl (op_assign rfl ?_)
  refine WL.nil ?_
  refine WQ.next ?_
  refine WC.seq ?_
  refine WC.seq ?_
  refine WC.region ?_
  refine WL.op rfl rfl (op_assign rfl ?_)
  refine WL.nil ?_
  refine WQ.next ?_
  refine WC.block ?_
  refine WC.loop (α := Nat) (fun i => [(0, (str t)), (3, (.slice (some ⟨b1, 0, none⟩) 64 64)), (4, (vN i))]) (fun i w' => (i ≤ 64 ∧ i ≤ t.length) ∧ Own [] w w' [.row (.slice (some ⟨b1, 0, none⟩) 64 64) 5 1 64 (List.map vU8 (t.take i ++ List.replicate (64 - i) 0))]) (fun i => 64 - i) 0 ⟨⟨Nat.zero_le _, Nat.zero_le _⟩, (Own.rowEq (i := 0) (f := vU8) H1 rfl (by simp))⟩ ⟨rfl, rfl, rfl, trivial⟩ ?_
  rintro i w2 ⟨⟨hi1, hi2⟩, H2⟩
  show WC _ _ _ _ _ [(0, (str t)), (3, (.slice (some ⟨b1, 0, none⟩) 64 64)), (4, (vN i))] _
  refine WC.seq ?_
  refine WC.seq ?_
  refine WC.region ?_
  refine WL.op rfl rfl (op_move rfl ?_)
  refine WL.op rfl rfl (op_move rfl ?_)
  refine WL.op rfl rfl (op_lenA Tryz.underlying114 rfl (H2.arrR (i := 0) rfl) ?_)
  refine WL.op rfl rfl (op_lssN rfl rfl ?_)
  refine WL.op rfl rfl (op_move rfl ?_)
  refine WL.split (t := 10) rfl (fun (hb3 : (decide (i < 64)) = true) => ?_) (fun (hb3 : (decide (i < 64)) = false) => ?_)
  ·
    have hc3 := of_decide_eq_true hb3
    refine WL.yes rfl rfl rfl hb3 rfl (op_move rfl ?_)
    refine WL.yes rfl rfl rfl hb3 rfl (op_move rfl ?_)
    refine WL.yes rfl rfl rfl hb3 rfl (op_lenStr Tryz.underlying9 rfl ?_)
    refine WL.yes rfl rfl rfl hb3 rfl (op_lssN rfl rfl ?_)
    refine WL.op rfl rfl (op_pickT rfl hb3 rfl ?_)
    refine WL.nil ?_
    refine WQ.next ?_
    refine WC.cond rfl (fun (hb4 : (decide (i < t.length)) = true) => ?_) (fun (hb4 : (decide (i < t.length)) = false) => ?_)
    ·
      have hc4 := of_decide_eq_true hb4
      refine WC.skip ?_
      refine WQ.next ?_
      refine WC.seq ?_
      refine WC.block ?_
      refine WC.region ?_
      refine WL.op rfl rfl (op_move rfl ?_)
      refine WL.op rfl rfl (op_move rfl ?_)
      refine WL.op rfl rfl (op_move rfl ?_)
      refine WL.op rfl rfl (op_move rfl ?_)
      refine WL.op rfl rfl (op_indexStrD Tryz.underlying9 rfl rfl (by omega) ?_)
      refine WL.op rfl rfl (op_indexAddr1 Tryz.underlying114 Fa.I5 rfl (H2.arrR (i := 0) rfl) rfl (by omega) ?_)
      refine WL.op rfl rfl (op_storeRM (i := 0) (f := vU8) (l := (t.take i ++ List.replicate (64 - i) 0)) (c := (t.getD i 0)) H2 rfl rfl rfl (by omega) rfl Fa.I5 (fun w5 H5 => ?_))
      refine WL.nil ?_
      refine WQ.inNormal ?_
      refine WQ.next ?_
      refine WC.region ?_
      refine WL.op rfl rfl (op_move rfl ?_)
      refine WL.op rfl rfl (op_addN (b := 1) rfl rfl (by omega) ?_)
      refine WL.op rfl rfl (op_assign rfl ?_)
      refine WL.nil ?_
      exact WQ.round (i + 1) ⟨⟨by omega, by omega⟩, (Own.rowEq (i := 0) (f := vU8) H5 rfl (blk_step (by omega) (by omega)))⟩ ⟨rfl, rfl, rfl, trivial⟩ (by omega)
    ·
      have hc4 := of_decide_eq_false hb4
      refine WC.exit ?_
      refine WQ.thenExit ?_
      refine WQ.thenExit ?_
      refine WQ.inHere ?_
      refine WQ.next ?_
      refine WC.seq ?_
      refine WC.region ?_
      refine WL.op rfl rfl (op_move rfl ?_)
      refine WL.op rfl rfl (op_bytesStr (l := (t.take i ++ List.replicate (64 - i) 0)) Tryz.underlying114 Tryz.underlying5 Tryz.underlying9 rfl (H2.arrR (i := 0) rfl) rfl ?_)
      refine WL.op rfl rfl (op_assign rfl ?_)
      refine WL.nil ?_
      refine WQ.next ?_
      refine WC.ret ?_
      refine WQ.out (.tmp rfl .nil) ?_
      exact ⟨by rw [← blk_end hi1 hi2 (by omega)]; rfl, H2.fr⟩
  ·
    have hc3 := of_decide_eq_false hb3
    refine WL.no rfl rfl rfl hb3 rfl ?_
    refine WL.no rfl rfl rfl hb3 rfl ?_
    refine WL.no rfl rfl rfl hb3 rfl ?_
    refine WL.no rfl rfl rfl hb3 rfl ?_
    refine WL.op rfl rfl (op_pickF rfl hb3 rfl ?_)
    refine WL.nil ?_
    refine WQ.next ?_
    refine WC.no rfl rfl ?_
    refine WC.exit ?_
    refine WQ.thenExit ?_
    refine WQ.thenExit ?_
    refine WQ.inHere ?_
    refine WQ.next ?_
    refine WC.seq ?_
    refine WC.region ?_
    refine WL.op rfl rfl (op_move rfl ?_)
    refine WL.op rfl rfl (op_bytesStr (l := (t.take i ++ List.replicate (64 - i) 0)) Tryz.underlying114 Tryz.underlying5 Tryz.underlying9 rfl (H2.arrR (i := 0) rfl) rfl ?_)
    refine WL.op rfl rfl (op_assign rfl ?_)
    refine WL.nil ?_
    refine WQ.next ?_
    refine WC.ret ?_
    refine WQ.out (.tmp rfl .nil) ?_
    exact ⟨by rw [← blk_end hi1 hi2 (by omega)]; rfl, H2.fr⟩
end Go.Proofs.YtbjhccnffacbcaaGreat
/-! from WSlot12 -/
namespace Go.Proofs.YtbjhccnffacbcaaGreat
open Go.Owl Go.Spec
set_option maxRecDepth 100000 in
theorem rwrite_ok (r : Nat) (vb : Value) (key : List UInt8) (left : Int) (n : Nat) (B : List (List UInt8)) (p : Nat) (t : List UInt8) (T : List Nat) (w : World) (H : Own T w w [.blk r [vb, (str key), (vI left)] 61, .row vb 9 1 n (List.map str B)]) (hn : B.length = n) (hp : p < n) (hm : n < 2 ^ 20) (hL : left < 2 ^ 63) (ht : t.length ≤ 64) :
    Calls Tryz.prog 65 #[(ptr r 0), (vN p), (str t)] w (fun e w' => ∃ v', e = .returned (.bool (!decide (left = 0))) ∧ Own T w w' [.blk r [v', (str key), (vI (wrX (Sst.mk B left) (p, t)).left)] 61, .row v' 9 1 n (List.map str (wrX (Sst.mk B left) (p, t)).B)]) := by
  refine enter (args := [(ptr r 0), (vN p), (str t)]) Tryz.func65 rfl rfl ?_
  refine WC.seq ?_
  refine WC.region ?_
  refine WL.op rfl rfl (op_assign rfl ?_)
  refine WL.nil ?_
  refine WQ.next ?_
  refine WC.seq ?_
  refine WC.seq ?_
  refine WC.region ?_
  refine WL.op rfl rfl (op_move rfl ?_)
  refine WL.op rfl rfl (op_nilCheck rfl ?_)
  refine WL.op rfl rfl (op_fieldAddr rfl Fa.F61_2 ?_)
  refine WL.op rfl rfl (op_load rfl (H.cell (i := 0) rfl rfl) Tryz.underlying3 rfl ?_)
  refine WL.op rfl rfl (op_eqlI (b := (0 : Int)) rfl rfl ?_)
  refine WL.nil ?_
  refine WQ.next ?_
  refine WC.cond rfl (fun (hb1 : (decide (left = (0 : Int))) = true) => ?_) (fun (hb1 : (decide (left = (0 : Int))) = false) => ?_)
  ·
    have hc1 := of_decide_eq_true hb1
    refine WC.seq ?_
    refine WC.region ?_
    refine WL.op rfl rfl (op_assign rfl ?_)
    refine WL.nil ?_
    refine WQ.next ?_
    refine WC.ret ?_
    refine WQ.thenRet ?_
    refine WQ.out (.tmp rfl .nil) ?_
    rw [wrX_0 (of_decide_eq_true hb1), hb1]
    exact ⟨_, rfl, H⟩
  ·
    have hc1 := of_decide_eq_false hb1
    refine WC.skip ?_
    refine WQ.next ?_
    refine WC.seq ?_
    refine WC.seq ?_
    refine WC.region ?_
    refine WL.op rfl rfl (op_move rfl ?_)
    refine WL.op rfl rfl (op_nilCheck rfl ?_)
    refine WL.op rfl rfl (op_fieldAddr rfl Fa.F61_2 ?_)
    refine WL.op rfl rfl (op_load rfl (H.cell (i := 0) rfl rfl) Tryz.underlying3 rfl ?_)
    refine WL.op rfl rfl (op_gtrI (b := (0 : Int)) rfl rfl ?_)
    refine WL.nil ?_
    refine WQ.next ?_
    refine WC.cond rfl (fun (hb2 : (decide (left > (0 : Int))) = true) => ?_) (fun (hb2 : (decide (left > (0 : Int))) = false) => ?_)
    ·
      have hc2 := of_decide_eq_true hb2
      refine WC.region ?_
      refine WL.op rfl rfl (op_move rfl ?_)
      refine WL.op rfl rfl (op_nilCheck rfl ?_)
      refine WL.op rfl rfl (op_fieldAddr rfl Fa.F61_2 ?_)
      refine WL.op rfl rfl (op_load rfl (H.cell (i := 0) rfl rfl) Tryz.underlying3 rfl ?_)
      refine WL.op rfl rfl (op_subI (b := (1 : Int)) rfl rfl (by omega) ?_)
      refine WL.op rfl rfl (op_nilCheck rfl ?_)
      refine WL.op rfl rfl (op_fieldAddr rfl Fa.F61_2 ?_)
      refine WL.op rfl rfl (op_storeB (i := 0) H rfl rfl rfl rfl rfl Fa.I3 (fun w3 H3 => ?_))
      refine WL.nil ?_
      refine WQ.next ?_
      refine WC.seq ?_
      refine WC.region ?_
      refine WL.op rfl rfl (op_move rfl ?_)
      refine WL.op rfl rfl (op_nilCheck rfl ?_)
      refine WL.op rfl rfl (op_fieldAddr rfl Fa.F61_0 ?_)
      refine WL.op rfl rfl (op_load rfl (H3.cell (i := 0) rfl rfl) Tryz.underlying59 rfl ?_)
      have H5 := H3.nilRow 9 1
      refine WL.op rfl rfl (op_appendM (f := str) (l := []) (l' := B) (i := 2) H5 Tryz.underlying59 Fa.I9 rfl rfl rfl rfl (Src.ofArr Tryz.underlying59 (H5.arrR (i := 1) rfl)) (one_mapM (fun _ => rfl)) (by omega) (by omega) (fun v4 w4 H4 => ?_))
      refine WL.op rfl rfl (op_assign rfl ?_)
      refine WL.nil ?_
      refine WQ.next ?_
      refine WC.seq ?_
      refine WC.region ?_
      refine WL.op rfl rfl (op_move rfl ?_)
      refine WL.op rfl rfl (op_move rfl ?_)
      refine WL.op rfl rfl (op_move rfl ?_)
      refine WL.op rfl rfl (op_move rfl ?_)
      refine WL.op rfl rfl (op_lenStr Tryz.underlying9 rfl ?_)
      refine WL.op rfl rfl (op_subN (a := 64) rfl rfl (by omega) (by omega) ?_)
      refine WL.op rfl rfl (op_makeSliceM (f := vU8) (c := 0) H4 Tryz.underlying114 Fa.I5 rfl rfl (by omega) (by omega) (fun b6 w6 H6 => ?_))
      refine WL.op rfl rfl (op_bytesStr (l := (List.replicate (64 - t.length) 0)) Tryz.underlying114 Tryz.underlying5 Tryz.underlying9 rfl (H6.arrR (i := 3) rfl) rfl ?_)
      refine WL.op rfl rfl (op_addStr rfl rfl (by rw [List.length_replicate]; omega) ?_)
      refine WL.op rfl rfl (op_indexAddr1 Tryz.underlying59 Fa.I9 rfl (H6.arrR (i := 2) rfl) rfl (by omega) ?_)
      refine WL.op rfl rfl (op_storeRM (i := 2) (f := str) (l := ([] ++ B)) (c := (t ++ (List.replicate (64 - t.length) 0))) H6 rfl rfl rfl (by omega) rfl Fa.I9 (fun w7 H7 => ?_))
      refine WL.nil ?_
      refine WQ.next ?_
      refine WC.seq ?_
      refine WC.region ?_
      refine WL.op rfl rfl (op_move rfl ?_)
      refine WL.op rfl rfl (op_move rfl ?_)
      refine WL.op rfl rfl (op_nilCheck rfl ?_)
      refine WL.op rfl rfl (op_fieldAddr rfl Fa.F61_0 ?_)
      refine WL.op rfl rfl (op_storeB (i := 0) H7 rfl rfl rfl rfl (Arr.one (H7.arrR (i := 2) rfl)) Fa.I59 (fun w8 H8 => ?_))
      refine WL.nil ?_
      refine WQ.next ?_
      refine WC.seq ?_
      refine WC.region ?_
      refine WL.op rfl rfl (op_assign rfl ?_)
      refine WL.nil ?_
      refine WQ.next ?_
      refine WC.ret ?_
      refine WQ.out (.tmp rfl .nil) ?_
      rw [wrX_1 (of_decide_eq_false hb1) (of_decide_eq_true hb2), hb1]
      have h := H8.sel [0, 2] rfl rfl
      rw [show 0 + n = n from Nat.zero_add n] at h
      exact ⟨_, rfl, h⟩
    ·
      have hc2 := of_decide_eq_false hb2
      refine WC.skip ?_
      refine WQ.next ?_
      refine WC.seq ?_
      refine WC.region ?_
      refine WL.op rfl rfl (op_move rfl ?_)
      refine WL.op rfl rfl (op_nilCheck rfl ?_)
      refine WL.op rfl rfl (op_fieldAddr rfl Fa.F61_0 ?_)
      refine WL.op rfl rfl (op_load rfl (H.cell (i := 0) rfl rfl) Tryz.underlying59 rfl ?_)
      have H10 := H.nilRow 9 1
      refine WL.op rfl rfl (op_appendM (f := str) (l := []) (l' := B) (i := 2) H10 Tryz.underlying59 Fa.I9 rfl rfl rfl rfl (Src.ofArr Tryz.underlying59 (H10.arrR (i := 1) rfl)) (one_mapM (fun _ => rfl)) (by omega) (by omega) (fun v9 w9 H9 => ?_))
      refine WL.op rfl rfl (op_assign rfl ?_)
      refine WL.nil ?_
      refine WQ.next ?_
      refine WC.seq ?_
      refine WC.region ?_
      refine WL.op rfl rfl (op_move rfl ?_)
      refine WL.op rfl rfl (op_move rfl ?_)
      refine WL.op rfl rfl (op_move rfl ?_)
      refine WL.op rfl rfl (op_move rfl ?_)
      refine WL.op rfl rfl (op_lenStr Tryz.underlying9 rfl ?_)
      refine WL.op rfl rfl (op_subN (a := 64) rfl rfl (by omega) (by omega) ?_)
      refine WL.op rfl rfl (op_makeSliceM (f := vU8) (c := 0) H9 Tryz.underlying114 Fa.I5 rfl rfl (by omega) (by omega) (fun b11 w11 H11 => ?_))
      refine WL.op rfl rfl (op_bytesStr (l := (List.replicate (64 - t.length) 0)) Tryz.underlying114 Tryz.underlying5 Tryz.underlying9 rfl (H11.arrR (i := 3) rfl) rfl ?_)
      refine WL.op rfl rfl (op_addStr rfl rfl (by rw [List.length_replicate]; omega) ?_)
      refine WL.op rfl rfl (op_indexAddr1 Tryz.underlying59 Fa.I9 rfl (H11.arrR (i := 2) rfl) rfl (by omega) ?_)
      refine WL.op rfl rfl (op_storeRM (i := 2) (f := str) (l := ([] ++ B)) (c := (t ++ (List.replicate (64 - t.length) 0))) H11 rfl rfl rfl (by omega) rfl Fa.I9 (fun w12 H12 => ?_))
      refine WL.nil ?_
      refine WQ.next ?_
      refine WC.seq ?_
      refine WC.region ?_
      refine WL.op rfl rfl (op_move rfl ?_)
      refine WL.op rfl rfl (op_move rfl ?_)
      refine WL.op rfl rfl (op_nilCheck rfl ?_)
      refine WL.op rfl rfl (op_fieldAddr rfl Fa.F61_0 ?_)
      refine WL.op rfl rfl (op_storeB (i := 0) H12 rfl rfl rfl rfl (Arr.one (H12.arrR (i := 2) rfl)) Fa.I59 (fun w13 H13 => ?_))
      refine WL.nil ?_
      refine WQ.next ?_
      refine WC.seq ?_
      refine WC.region ?_
      refine WL.op rfl rfl (op_assign rfl ?_)
      refine WL.nil ?_
      refine WQ.next ?_
      refine WC.ret ?_
      refine WQ.out (.tmp rfl .nil) ?_
      rw [wrX_2 (of_decide_eq_false hb1) (of_decide_eq_false hb2), hb1]
      have h := H13.sel [0, 2] rfl rfl
      rw [show 0 + n = n from Nat.zero_add n] at h
      exact ⟨_, rfl, h⟩
set_option maxHeartbeats 4000000 in
set_option maxRecDepth 100000 in
theorem rupd_ok (r : Nat) (vb : Value) (key : List UInt8) (left : Int) (n : Nat) (B : List (List UInt8)) (v : UInt32) (t : List UInt8) (T : List Nat) (w : World) (H : Own T w w [.blk r [vb, (str key), (vI left)] 61, .row vb 9 1 n (List.map str B)]) (hn : B.length = n) (hB : ∀ b ∈ B, b.length = 64) (h4 : 4 ≤ n) (hm : n < 2 ^ 20) (hk : key.length < 2 ^ 40) (hL : left < 2 ^ 63) (ht : t.length < 2 ^ 31) :
    Calls Tryz.prog 25 #[(ptr r 0), (vU32 v), (str t)] w (fun e w' => ∃ v', e = .returned (vN (updE (Sst.mk B left) ((n - 2) / 2) key v t).2) ∧ Own T w w' [.blk r [v', (str key), (vI (updE (Sst.mk B left) ((n - 2) / 2) key v t).1.left)] 61, .row v' 9 1 n (List.map str (updE (Sst.mk B left) ((n - 2) / 2) key v t).1.B)]) := by
  refine enter (args := [(ptr r 0), (vU32 v), (str t)]) Tryz.func25 rfl rfl ?_
  refine WC.seq ?_
  refine WC.region ?_
  refine WL.op rfl rfl (op_assign rfl ?_)
  refine WL.nil ?_
  refine WQ.next ?_
  refine WC.seq ?_
  refine WC.region ?_
  refine WL.op rfl rfl (op_move rfl ?_)
  refine WL.op rfl rfl (op_callF Fa.C61 rfl ((rcurrent_ok r vb key left n B _ (H.cellsAt (i := 0) rfl) (H.arrR (i := 1) rfl) hn hB h4 hm hk).mono (fun e w1 hq => ?_)))
  obtain ⟨rfl, hf1⟩ := hq
  refine ⟨_, rfl, ?_⟩
  have H1 := H.fr' hf1
  refine WL.op rfl rfl (op_move rfl ?_)
  refine WL.op rfl rfl (op_extract rfl rfl ?_)
  refine WL.op rfl rfl (op_extract rfl rfl ?_)
  refine WL.op rfl rfl (op_extract rfl rfl ?_)
  refine WL.op rfl rfl (op_assign rfl ?_)
  refine WL.op rfl rfl (op_assign rfl ?_)
  refine WL.op rfl rfl (op_assign rfl ?_)
  refine WL.nil ?_
  refine WQ.next ?_
  refine WC.seq ?_
  refine WC.seq ?_
  refine WC.region ?_
  refine WL.op rfl rfl (op_move rfl ?_)
  refine WL.op rfl rfl (op_move rfl ?_)
  refine WL.op rfl rfl (op_leqU32 rfl rfl ?_)
  refine WL.nil ?_
  refine WQ.next ?_
  refine WC.cond rfl (fun (hb2 : (decide (v ≤ (curS B ((n - 2) / 2) key).v)) = true) => ?_) (fun (hb2 : (decide (v ≤ (curS B ((n - 2) / 2) key).v)) = false) => ?_)
  ·
    have hc2 := of_decide_eq_true hb2
    refine WC.seq ?_
    refine WC.region ?_
    refine WL.op rfl rfl (op_assign rfl ?_)
    refine WL.nil ?_
    refine WQ.next ?_
    refine WC.ret ?_
    refine WQ.thenRet ?_
    refine WQ.out (.tmp rfl .nil) ?_
    rw [updE_1 (of_decide_eq_true hb2)]
    exact ⟨_, rfl, H1.sel [0, 1] rfl rfl⟩
  ·
    have hc2 := of_decide_eq_false hb2
    refine WC.skip ?_
    refine WQ.next ?_
    refine WC.seq ?_
    refine WC.seq ?_
    refine WC.region ?_
    refine WL.op rfl rfl (op_move rfl ?_)
    refine WL.op rfl rfl (op_lenStr Tryz.underlying9 rfl ?_)
    refine WL.op rfl rfl (op_move rfl ?_)
    refine WL.op rfl rfl (op_callF Fa.C62 rfl ((rroom_ok r vb key left n B _ (H1.cellsAt (i := 0) rfl) (H1.arrR (i := 1) rfl) h4 hm).mono (fun e w3 hq => ?_)))
    obtain ⟨rfl, hf3⟩ := hq
    refine ⟨_, rfl, ?_⟩
    have H3 := H1.fr' hf3
    refine WL.op rfl rfl (op_gtrN rfl rfl ?_)
    refine WL.nil ?_
    refine WQ.next ?_
    refine WC.cond rfl (fun (hb4 : (decide (t.length > (((n - 2) / 2) * 64))) = true) => ?_) (fun (hb4 : (decide (t.length > (((n - 2) / 2) * 64))) = false) => ?_)
    ·
      have hc4 := of_decide_eq_true hb4
      refine WC.seq ?_
      refine WC.region ?_
      refine WL.op rfl rfl (op_assign rfl ?_)
      refine WL.nil ?_
      refine WQ.next ?_
      refine WC.ret ?_
      refine WQ.thenRet ?_
      refine WQ.out (.tmp rfl .nil) ?_
      rw [updE_2 (of_decide_eq_false hb2) (of_decide_eq_true hb4)]
      exact ⟨_, rfl, H3.sel [0, 1] rfl rfl⟩
    ·
      have hc4 := of_decide_eq_false hb4
      refine WC.skip ?_
      refine WQ.next ?_
      refine WC.seq ?_
      refine WC.region ?_
      refine WL.op rfl rfl (op_assign rfl ?_)
      refine WL.nil ?_
      refine WQ.next ?_
      refine WC.cut (α := Nat) (fun at_ => [(0, (ptr r 0)), (1, (vU32 v)), (2, (str t)), (10, (vN at_))]) (fun at_ w' => (at_ = (atS (slotN B ((n - 2) / 2) key 0) (slotN B ((n - 2) / 2) key 1))) ∧ Own T w w' [.blk r [vb, (str key), (vI left)] 61, .row vb 9 1 n (List.map str B)]) ?_ ?_
      ·
        refine WC.seq ?_
        refine WC.region ?_
        refine WL.op rfl rfl (op_move rfl ?_)
        refine WL.op rfl rfl (op_callF Fa.C63 rfl ((rcur_ok r vb key left n B _ (H3.cellsAt (i := 0) rfl) (H3.arrR (i := 1) rfl) hn hB h4 hm hk).mono (fun e w5 hq => ?_)))
        obtain ⟨rfl, hf5⟩ := hq
        refine ⟨_, rfl, ?_⟩
        have H5 := H3.fr' hf5
        refine WL.op rfl rfl (op_eqlI (b := (0 : Int)) rfl rfl ?_)
        refine WL.nil ?_
        refine WQ.next ?_
        refine WC.cond rfl (fun (hb6 : (decide ((rcur (slotN B ((n - 2) / 2) key 0) (slotN B ((n - 2) / 2) key 1)) = (0 : Int))) = true) => ?_) (fun (hb6 : (decide ((rcur (slotN B ((n - 2) / 2) key 0) (slotN B ((n - 2) / 2) key 1)) = (0 : Int))) = false) => ?_)
        ·
          have hc6 := of_decide_eq_true hb6
          refine WC.region ?_
          refine WL.op rfl rfl (op_assign rfl ?_)
          refine WL.nil ?_
          exact WQ.here 1 ⟨(atS_rcur (of_decide_eq_true hb6)).symm, H5⟩ ⟨rfl, rfl, rfl, rfl, trivial⟩
        ·
          have hc6 := of_decide_eq_false hb6
          refine WC.skip ?_
          exact WQ.here 0 ⟨(atS_rcur0 (of_decide_eq_false hb6)).symm, H5⟩ ⟨rfl, rfl, rfl, rfl, trivial⟩
      ·
        rintro at_ w7 ⟨hae, H7⟩
        show WC _ _ _ _ _ [(0, (ptr r 0)), (1, (vU32 v)), (2, (str t)), (10, (vN at_))] _
        refine WC.seq ?_
        refine WC.region ?_
        have hat : at_ = 0 ∨ at_ = 1 := by rw [hae]; exact atS_lt _ _
        have hcn : cntS t ≤ ((n - 2) / 2) := cntS_le (of_decide_eq_false hb4)
        have haE : at_ * ((n - 2) / 2) ≤ ((n - 2) / 2) := by rcases hat with h | h <;> rw [h] <;> omega
        have hU := updE_3 (left := left) (of_decide_eq_false hb2) (of_decide_eq_false hb4) hae
        rw [hU]
        refine WL.op rfl rfl (op_move rfl ?_)
        refine WL.op rfl rfl (op_move rfl ?_)
        refine WL.op rfl rfl (op_move rfl ?_)
        refine WL.op rfl rfl (op_callF Fa.C64 rfl ((rhead_ok r vb key left v t _ (H7.cellsAt (i := 0) rfl) hk (by omega)).mono (fun e w8 hq => ?_)))
        obtain ⟨rfl, hf8⟩ := hq
        refine ⟨_, rfl, ?_⟩
        have H8 := H7.fr' hf8
        refine WL.op rfl rfl (op_assign rfl ?_)
        refine WL.nil ?_
        refine WQ.next ?_
        refine WC.seq ?_
        refine WC.seq ?_
        refine WC.region ?_
        refine WL.op rfl rfl (op_move rfl ?_)
        refine WL.op rfl rfl (op_move rfl ?_)
        refine WL.op rfl rfl (op_callF Fa.C65 rfl ((rwrite_ok r vb key left n B at_ ([]) _ _ (H8.part [0, 1] rfl rfl) (by first | exact hn | exact hn1) (by omega) hm (by first | exact hL | exact hL1) (by first | exact pcT_len _ _ | (rw [hdrS_len]; exact Nat.le_refl _) | decide)).mono (fun e w9 hq => ?_)))
        obtain ⟨v9, rfl, hq9⟩ := hq
        refine ⟨_, rfl, ?_⟩
        have H9 : Own T w w9 [.blk r [v9, (str key), (vI (wrX (Sst.mk B left) (at_, [])).left)] 61, .row v9 9 1 n (List.map str (wrX (Sst.mk B left) (at_, [])).B)] := H8.splice [0, 1] [.blk r [v9, (str key), (vI (wrX (Sst.mk B left) (at_, [])).left)] 61, .row v9 9 1 n (List.map str (wrX (Sst.mk B left) (at_, [])).B)] [] rfl rfl hq9 (Fits.solid True.intro (Fits.solid True.intro Fits.nil))
        refine WL.op rfl rfl (op_not rfl ?_)
        refine WL.nil ?_
        refine WQ.next ?_
        refine WC.cond rfl (fun (hb10 : (!(!decide (left = 0))) = true) => ?_) (fun (hb10 : (!(!decide (left = 0))) = false) => ?_)
        ·
          have hn10 := (Bool.not_eq_true' _).mp hb10
          have hz0 : left = 0 := by simpa using hb10
          refine WC.seq ?_
          refine WC.region ?_
          refine WL.op rfl rfl (op_assign rfl ?_)
          refine WL.nil ?_
          refine WQ.next ?_
          refine WC.ret ?_
          refine WQ.thenRet ?_
          refine WQ.out (.tmp rfl .nil) ?_
          rw [wr_stop (k := 0) (s' := ⟨B, left⟩) (by rw [List.drop_zero]) wrs_first hz0]
          exact ⟨_, rfl, H9.sel [0, 1] rfl rfl⟩
        ·
          have hn10 := (Bool.not_eq_false' _).mp hb10
          have hl0 : ¬ left = 0 := by simpa using hb10
          refine WC.skip ?_
          refine WQ.next ?_
          refine WC.seq ?_
          refine WC.region ?_
          refine WL.op rfl rfl (op_move rfl ?_)
          refine WL.op rfl rfl (op_assign rfl ?_)
          refine WL.nil ?_
          refine WQ.next ?_
          refine WC.seq ?_
          refine WC.seq ?_
          refine WC.region ?_
          refine WL.op rfl rfl (op_assign rfl ?_)
          refine WL.nil ?_
          refine WQ.next ?_
          refine WC.block ?_
          refine WC.loop (α := Nat × Sst × Value) (fun (i, sq, vq) => [(0, (ptr r 0)), (1, (vU32 v)), (2, (str t)), (10, (vN at_)), (11, (str (hdrS key v t))), (12, (str (t.drop (i * 64)))), (13, (vN i))]) (fun (i, sq, vq) w' => (i ≤ cntS t ∧ wrA (Sst.mk B left) (wrs ((n - 2) / 2) key v t at_) = wrA sq ((wrs ((n - 2) / 2) key v t at_).drop (i + 1)) ∧ sq.left < 2 ^ 63 ∧ sq.B.length = n) ∧ Own T w w' [.blk r [vq, (str key), (vI sq.left)] 61, .row vq 9 1 n (List.map str sq.B)]) (fun (i, sq, vq) => cntS t - i) (0, (wrX (Sst.mk B left) (at_, [])), v9) ⟨⟨Nat.zero_le _, wr_next (k := 0) (s' := ⟨B, left⟩) (by rw [List.drop_zero]) wrs_first hl0, wrX_left _ hL, (wrX_len _ _).trans hn⟩, H9⟩ ⟨rfl, rfl, rfl, rfl, rfl, rfl, rfl, trivial⟩ ?_
          rintro ⟨i, sq, vq⟩ w11 ⟨⟨hi1, hw1, hL1, hn1⟩, H11⟩
          show WC _ _ _ _ _ [(0, (ptr r 0)), (1, (vU32 v)), (2, (str t)), (10, (vN at_)), (11, (str (hdrS key v t))), (12, (str (t.drop (i * 64)))), (13, (vN i))] _
          have hct : cntS t = (t.length + 63) / 64 := rfl
          refine WC.seq ?_
          refine WC.seq ?_
          refine WC.region ?_
          refine WL.op rfl rfl (op_move rfl ?_)
          refine WL.op rfl rfl (op_lenStr Tryz.underlying9 rfl ?_)
          refine WL.op rfl rfl (op_gtrN (b := 0) rfl rfl ?_)
          refine WL.nil ?_
          refine WQ.next ?_
          refine WC.cond rfl (fun (hb12 : (decide ((t.drop (i * 64)).length > 0)) = true) => ?_) (fun (hb12 : (decide ((t.drop (i * 64)).length > 0)) = false) => ?_)
          ·
            have hc12 := of_decide_eq_true hb12
            have hil := srest_lt (of_decide_eq_true hb12)
            refine WC.skip ?_
            refine WQ.next ?_
            refine WC.seq ?_
            refine WC.block ?_
            refine WC.seq ?_
            refine WC.region ?_
            refine WL.op rfl rfl (op_move rfl ?_)
            refine WL.op rfl rfl (op_lenStr Tryz.underlying9 rfl ?_)
            refine WL.op rfl rfl (op_minN (b := 64) rfl rfl ?_)
            refine WL.op rfl rfl (op_assign rfl ?_)
            refine WL.nil ?_
            refine WQ.next ?_
            refine WC.seq ?_
            refine WC.seq ?_
            refine WC.draw 11 Fa.M H11 (HW.op rfl (fun w1 H1 => op_move rfl ⟨rfl, Fr.refl _ _⟩) (HW.op rfl (fun w1 H1 => op_move rfl ⟨rfl, Fr.refl _ _⟩) (HW.op rfl (fun w1 H1 => op_move rfl ⟨rfl, Fr.refl _ _⟩) (HW.op rfl (fun w1 H1 => op_callF Fa.C66 rfl ((reach_ok r vq key sq.left n sq.B _ (H1.cellsAt (i := 0) rfl) (H1.arrR (i := 1) rfl) h4 hm).mono (fun e w2 hq => ⟨_, hq.1, rfl, hq.2⟩))) (HW.op rfl (fun w1 H1 => op_mulN rfl rfl (by omega) ⟨rfl, Fr.refl _ _⟩) (HW.op rfl (fun w1 H1 => op_addN (a := 2) rfl rfl (by omega) ⟨rfl, Fr.refl _ _⟩) (HW.op rfl (fun w1 H1 => op_move rfl ⟨rfl, Fr.refl _ _⟩) (HW.op rfl (fun w1 H1 => op_addN rfl rfl (by omega) ⟨rfl, Fr.refl _ _⟩) (HW.op rfl (fun w1 H1 => op_move rfl ⟨rfl, Fr.refl _ _⟩) (HW.op rfl (fun w1 H1 => op_move rfl ⟨rfl, Fr.refl _ _⟩) (HW.op rfl (fun w1 H1 => op_sliceStrHi Tryz.underlying9 rfl rfl (by omega) ⟨rfl, Fr.refl _ _⟩)  HW.nil))))))))))) (by kernel_rfl) ?_
            intro β14 w14 H14
            rw [srest_min]
            refine WL.op rfl rfl (op_callF Fa.C65 rfl ((rwrite_ok r vq key sq.left n sq.B ((2 + (at_ * ((n - 2) / 2))) + i) (pcT t i) _ _ (H14.part [0, 1] rfl rfl) (by first | exact hn | exact hn1) (by omega) hm (by first | exact hL | exact hL1) (by first | exact pcT_len _ _ | (rw [hdrS_len]; exact Nat.le_refl _) | decide)).mono (fun e w15 hq => ?_)))
            obtain ⟨v15, rfl, hq15⟩ := hq
            refine ⟨_, rfl, ?_⟩
            have H15 : Own T w w15 [.blk r [v15, (str key), (vI (wrX (Sst.mk sq.B sq.left) (((2 + (at_ * ((n - 2) / 2))) + i), (pcT t i))).left)] 61, .row v15 9 1 n (List.map str (wrX (Sst.mk sq.B sq.left) (((2 + (at_ * ((n - 2) / 2))) + i), (pcT t i))).B)] := H14.splice [0, 1] [.blk r [v15, (str key), (vI (wrX (Sst.mk sq.B sq.left) (((2 + (at_ * ((n - 2) / 2))) + i), (pcT t i))).left)] 61, .row v15 9 1 n (List.map str (wrX (Sst.mk sq.B sq.left) (((2 + (at_ * ((n - 2) / 2))) + i), (pcT t i))).B)] [] rfl rfl hq15 (Fits.solid True.intro (Fits.solid True.intro Fits.nil))
            refine WL.op rfl rfl (op_not rfl ?_)
            refine WL.nil ?_
            refine WQ.next ?_
            refine WC.cond rfl (fun (hb16 : (!(!decide (sq.left = 0))) = true) => ?_) (fun (hb16 : (!(!decide (sq.left = 0))) = false) => ?_)
            ·
              have hn16 := (Bool.not_eq_true' _).mp hb16
              have hz1 : sq.left = 0 := by simpa using hb16
              refine WC.seq ?_
              refine WC.region ?_
              refine WL.op rfl rfl (op_assign rfl ?_)
              refine WL.nil ?_
              refine WQ.next ?_
              refine WC.ret ?_
              refine WQ.thenRet ?_
              refine WQ.inRet ?_
              refine WQ.thenRet ?_
              refine WQ.thenRet ?_
              refine WQ.inRet ?_
              refine WQ.thenRet ?_
              refine WQ.out (.tmp rfl .nil) ?_
              rw [wr_stop hw1 (wrs_mid hil) hz1]
              exact ⟨_, rfl, H15.sel [0, 1] rfl rfl⟩
            ·
              have hn16 := (Bool.not_eq_false' _).mp hb16
              have hl1 : ¬ sq.left = 0 := by simpa using hb16
              refine WC.skip ?_
              refine WQ.next ?_
              refine WC.region ?_
              refine WL.op rfl rfl (op_move rfl ?_)
              refine WL.op rfl rfl (op_move rfl ?_)
              refine WL.op rfl rfl (op_sliceStrLo Tryz.underlying9 rfl rfl (by omega) ?_)
              rw [srest_drop]
              refine WL.op rfl rfl (op_assign rfl ?_)
              refine WL.nil ?_
              refine WQ.inNormal ?_
              refine WQ.next ?_
              refine WC.region ?_
              refine WL.op rfl rfl (op_move rfl ?_)
              refine WL.op rfl rfl (op_addN (b := 1) rfl rfl (by omega) ?_)
              refine WL.op rfl rfl (op_assign rfl ?_)
              refine WL.nil ?_
              exact WQ.round (i + 1, wrX sq (2 + at_ * ((n - 2) / 2) + i, pcT t i), v15) ⟨⟨by omega, wr_next hw1 (wrs_mid hil) hl1, wrX_left _ hL1, (wrX_len _ _).trans hn1⟩, (H15.sel [0, 1] rfl rfl)⟩ ⟨rfl, rfl, rfl, rfl, rfl, rfl, rfl, trivial⟩ (by show cntS t - (i + 1) < cntS t - i; omega)
          ·
            have hc12 := of_decide_eq_false hb12
            have hie := srest_end (of_decide_eq_false hb12) hi1
            rw [hie] at hw1
            refine WC.exit ?_
            refine WQ.thenExit ?_
            refine WQ.thenExit ?_
            refine WQ.inHere ?_
            refine WQ.next ?_
            refine WC.seq ?_
            refine WC.seq ?_
            refine WC.region ?_
            refine WL.op rfl rfl (op_move rfl ?_)
            refine WL.op rfl rfl (op_move rfl ?_)
            refine WL.op rfl rfl (op_move rfl ?_)
            refine WL.op rfl rfl (op_callF Fa.C65 rfl ((rwrite_ok r vq key sq.left n sq.B at_ (hdrS key v t) _ _ (H11.part [0, 1] rfl rfl) (by first | exact hn | exact hn1) (by omega) hm (by first | exact hL | exact hL1) (by first | exact pcT_len _ _ | (rw [hdrS_len]; exact Nat.le_refl _) | decide)).mono (fun e w17 hq => ?_)))
            obtain ⟨v17, rfl, hq17⟩ := hq
            refine ⟨_, rfl, ?_⟩
            have H17 : Own T w w17 [.blk r [v17, (str key), (vI (wrX (Sst.mk sq.B sq.left) (at_, (hdrS key v t))).left)] 61, .row v17 9 1 n (List.map str (wrX (Sst.mk sq.B sq.left) (at_, (hdrS key v t))).B)] := H11.splice [0, 1] [.blk r [v17, (str key), (vI (wrX (Sst.mk sq.B sq.left) (at_, (hdrS key v t))).left)] 61, .row v17 9 1 n (List.map str (wrX (Sst.mk sq.B sq.left) (at_, (hdrS key v t))).B)] [] rfl rfl hq17 (Fits.solid True.intro (Fits.solid True.intro Fits.nil))
            refine WL.op rfl rfl (op_not rfl ?_)
            refine WL.nil ?_
            refine WQ.next ?_
            refine WC.cond rfl (fun (hb18 : (!(!decide (sq.left = 0))) = true) => ?_) (fun (hb18 : (!(!decide (sq.left = 0))) = false) => ?_)
            ·
              have hn18 := (Bool.not_eq_true' _).mp hb18
              have hz2 : sq.left = 0 := by simpa using hb18
              refine WC.seq ?_
              refine WC.region ?_
              refine WL.op rfl rfl (op_assign rfl ?_)
              refine WL.nil ?_
              refine WQ.next ?_
              refine WC.ret ?_
              refine WQ.thenRet ?_
              refine WQ.out (.tmp rfl .nil) ?_
              rw [wr_stop hw1 wrs_last hz2]
              exact ⟨_, rfl, H17.sel [0, 1] rfl rfl⟩
            ·
              have hn18 := (Bool.not_eq_false' _).mp hb18
              have hl2 : ¬ sq.left = 0 := by simpa using hb18
              refine WC.skip ?_
              refine WQ.next ?_
              refine WC.seq ?_
              refine WC.region ?_
              refine WL.op rfl rfl (op_assign rfl ?_)
              refine WL.nil ?_
              refine WQ.next ?_
              refine WC.ret ?_
              refine WQ.out (.tmp rfl .nil) ?_
              rw [wr_end (wr_next hw1 wrs_last hl2)]
              exact ⟨_, rfl, H17.sel [0, 1] rfl rfl⟩
end Go.Proofs.YtbjhccnffacbcaaGreat
/-! from WSlot13 -/
namespace Go.Proofs.YtbjhccnffacbcaaGreat
open Go.Owl Go.Spec
set_option maxRecDepth 100000 in
theorem rnew_ok (n : Nat) (key : List UInt8) (w : World) (hn : n < 2 ^ 20) :
    Calls Tryz.prog 24 #[(vN n), (str key)] w (fun e w' => ∃ r v, e = .returned (ptr r 0) ∧ Own [] w w' [.blk r [v, (str key), (vI (-1))] 61, .row v 9 1 n (List.map str (List.replicate n (List.replicate 64 0)))]) := by
  refine enter (args := [(vN n), (str key)]) Tryz.func24 rfl rfl ?_
  have H0 : Own [] w w [] := Own.start w []
  refine WC.seq ?_
  refine WC.region ?_
  refine WL.op rfl rfl (op_assign rfl ?_)
  refine WL.nil ?_
  refine WQ.next ?_
  refine WC.seq ?_
  refine WC.region ?_
  refine WL.op rfl rfl (op_move rfl ?_)
  refine WL.op rfl rfl (op_build (cs := [_, _, _]) Fa.I61 Fa.PL61 rfl rfl ?_)
  refine WL.op rfl rfl (op_box H0 rfl rfl (fun b1 w1 H1 => ?_))
  refine WL.op rfl rfl (op_assign rfl ?_)
  refine WL.nil ?_
  refine WQ.next ?_
  refine WC.seq ?_
  refine WC.seq ?_
  refine WC.region ?_
  refine WL.op rfl rfl (op_assign rfl ?_)
  refine WL.nil ?_
  refine WQ.next ?_
  refine WC.block ?_
  have H2 : Own [] w w1 [.blk b1 [(.slice none 0 0), (str key), (vI (-1))] 61, .row (.slice none 0 0) 9 1 0 (List.map str [])] := H1.nilRow 9 1
  refine WC.loop (α := Nat × Value) (fun (i, v1) => [(0, (vN n)), (1, (str key)), (5, (ptr b1 0)), (6, (vN i))]) (fun (i, v1) w' => (i ≤ n) ∧ Own [] w w' [.blk b1 [v1, (str key), (vI (-1))] 61, .row v1 9 1 i (List.map str (List.replicate i (List.replicate 64 0)))]) (fun (i, v1) => n - i) (0, .slice none 0 0) ⟨(Nat.zero_le _), H2⟩ ⟨rfl, rfl, rfl, rfl, trivial⟩ ?_
  rintro ⟨i, v1⟩ w3 ⟨hi1, H3⟩
  show WC _ _ _ _ _ [(0, (vN n)), (1, (str key)), (5, (ptr b1 0)), (6, (vN i))] _
  refine WC.seq ?_
  refine WC.seq ?_
  refine WC.region ?_
  refine WL.op rfl rfl (op_move rfl ?_)
  refine WL.op rfl rfl (op_move rfl ?_)
  refine WL.op rfl rfl (op_lssN rfl rfl ?_)
  refine WL.nil ?_
  refine WQ.next ?_
  refine WC.cond rfl (fun (hb4 : (decide (i < n)) = true) => ?_) (fun (hb4 : (decide (i < n)) = false) => ?_)
  ·
    have hc4 := of_decide_eq_true hb4
    refine WC.skip ?_
    refine WQ.next ?_
    refine WC.seq ?_
    refine WC.block ?_
    refine WC.held 12 rfl Fa.M H3 (fun w' => ∃ L', Own [] w w' ([] ++ L')) ?_
    intro w5 H5
    refine WH.take (i := 0) (v := (ptr b1 0)) rfl rfl (.inl rfl) rfl (by kernel_rfl) ⟨[.blk b1 [v1, (str key), (vI (-1))] 61, .row v1 9 1 i (List.map str (List.replicate i (List.replicate 64 0)))], H5⟩ (fun wX hSX => hSX.elim fun LX HX => op_move rfl ⟨rfl, rfl⟩) ?_
    refine WH.take (i := 1) (v := (ptr b1 0)) rfl rfl (.inl rfl) rfl (by kernel_rfl) ⟨[.blk b1 [v1, (str key), (vI (-1))] 61, .row v1 9 1 i (List.map str (List.replicate i (List.replicate 64 0)))], H5⟩ (fun wX hSX => hSX.elim fun LX HX => op_move rfl ⟨rfl, rfl⟩) ?_
    refine WH.named (fun W hW => ?_)
    have st5_14 : ∀ (b16101 : Nat) (b16141 : Nat) (v16161 : Value) (wS : World), Own [] w wS [.blk b1 [v16161, (str key), (vI (-1))] 61, .row v16161 9 1 (i + 1) (List.map str ((List.replicate i (List.replicate 64 0)) ++ [(List.replicate 64 0)])), .row (.slice (some ⟨b16101, 0, none⟩) 64 64) 5 1 64 (List.map vU8 (List.replicate 64 0)), .row (.slice (some ⟨b16141, 0, none⟩) 1 1) 9 1 1 (List.map str [(List.replicate 64 0)])] → W 0 #[true, true, true, true, true, true, true, true, true, true, true, true] [(0, (vN n)), (1, (str key)), (5, (ptr b1 0)), (6, (vN i)), (10, (vN i)), (11, (vN n)), (12, (.bool (decide (i < n)))), (15, (ptr b1 0)), (16, (ptr b1 0)), (17, (ptr b1 0)), (18, (ptr b1 0)), (19, v1), (20, (.slice (some ⟨b16101, 0, none⟩) 64 64)), (21, (str (List.replicate 64 0))), (22, (.slice (some ⟨b16141, 0, none⟩) 1 1)), (23, v16161), (24, (ptr b1 0)), (25, (ptr b1 0))] wS := by
      intro b16101 b16141 v16161 wS HS
      rw [hW]
      refine WH.done (by kernel_rfl) ?_
      refine WQ.inNormal ?_
      refine WQ.next ?_
      refine WC.region ?_
      refine WL.op rfl rfl (op_move rfl ?_)
      refine WL.op rfl rfl (op_addN (b := 1) rfl rfl (by omega) ?_)
      refine WL.op rfl rfl (op_assign rfl ?_)
      refine WL.nil ?_
      exact WQ.round (i + 1, v16161) ⟨(by omega), (Own.rowEq (i := 1) (f := str) (HS.sel [0, 1] rfl rfl) rfl List.replicate_succ'.symm)⟩ ⟨rfl, rfl, rfl, rfl, trivial⟩ (by show n - (i + 1) < n - i; omega)
    have st5_13 : ∀ (b16101 : Nat) (b16141 : Nat) (v16161 : Value) (wS : World), Own [] w wS [.blk b1 [v1, (str key), (vI (-1))] 61, .row v16161 9 1 (i + 1) (List.map str ((List.replicate i (List.replicate 64 0)) ++ [(List.replicate 64 0)])), .row (.slice (some ⟨b16101, 0, none⟩) 64 64) 5 1 64 (List.map vU8 (List.replicate 64 0)), .row (.slice (some ⟨b16141, 0, none⟩) 1 1) 9 1 1 (List.map str [(List.replicate 64 0)])] → W 1 #[true, true, true, true, true, true, true, true, true, true, true, false] [(0, (vN n)), (1, (str key)), (5, (ptr b1 0)), (6, (vN i)), (10, (vN i)), (11, (vN n)), (12, (.bool (decide (i < n)))), (15, (ptr b1 0)), (16, (ptr b1 0)), (17, (ptr b1 0)), (18, (ptr b1 0)), (19, v1), (20, (.slice (some ⟨b16101, 0, none⟩) 64 64)), (21, (str (List.replicate 64 0))), (22, (.slice (some ⟨b16141, 0, none⟩) 1 1)), (23, v16161), (24, (ptr b1 0)), (25, (ptr b1 0))] wS := by
      intro b16101 b16141 v16161 wS HS
      rw [hW]
      refine WH.all1 (i := 11) (by kernel_rfl) ?_
      ·
        refine WHS.op (i := 11) rfl (.inl rfl) rfl (op_storeB (i := 0) HS rfl rfl rfl rfl (Arr.one (HS.arrR (i := 1) rfl)) Fa.I59 (fun w16221 H16221 => ?_))
        refine ⟨⟨[.blk b1 [v16161, (str key), (vI (-1))] 61, .row v16161 9 1 (i + 1) (List.map str ((List.replicate i (List.replicate 64 0)) ++ [(List.replicate 64 0)])), .row (.slice (some ⟨b16101, 0, none⟩) 64 64) 5 1 64 (List.map vU8 (List.replicate 64 0)), .row (.slice (some ⟨b16141, 0, none⟩) 1 1) 9 1 1 (List.map str [(List.replicate 64 0)])], H16221⟩, ?_⟩
        have hq := st5_14 b16101 b16141 v16161 w16221 H16221
        rw [hW] at hq
        refine WH.cov ?_ hq
        exact by repeat (first | exact trivial | refine ⟨rfl, ?_⟩)
    have st5_12 : ∀ (b16101 : Nat) (b16141 : Nat) (v16161 : Value) (wS : World), Own [] w wS [.blk b1 [v1, (str key), (vI (-1))] 61, .row v16161 9 1 (i + 1) (List.map str ((List.replicate i (List.replicate 64 0)) ++ [(List.replicate 64 0)])), .row (.slice (some ⟨b16101, 0, none⟩) 64 64) 5 1 64 (List.map vU8 (List.replicate 64 0)), .row (.slice (some ⟨b16141, 0, none⟩) 1 1) 9 1 1 (List.map str [(List.replicate 64 0)])] → W 3 #[true, true, true, true, true, true, true, true, true, false, false, false] [(0, (vN n)), (1, (str key)), (5, (ptr b1 0)), (6, (vN i)), (10, (vN i)), (11, (vN n)), (12, (.bool (decide (i < n)))), (15, (ptr b1 0)), (16, (ptr b1 0)), (17, (ptr b1 0)), (18, (ptr b1 0)), (19, v1), (20, (.slice (some ⟨b16101, 0, none⟩) 64 64)), (21, (str (List.replicate 64 0))), (22, (.slice (some ⟨b16141, 0, none⟩) 1 1)), (23, v16161)] wS := by
      intro b16101 b16141 v16161 wS HS
      rw [hW]
      refine WH.all1 (i := 9) (by kernel_rfl) ?_
      ·
        refine WHS.op (i := 9) rfl (.inl rfl) rfl (op_nilCheck rfl ?_)
        refine ⟨⟨[.blk b1 [v1, (str key), (vI (-1))] 61, .row v16161 9 1 (i + 1) (List.map str ((List.replicate i (List.replicate 64 0)) ++ [(List.replicate 64 0)])), .row (.slice (some ⟨b16101, 0, none⟩) 64 64) 5 1 64 (List.map vU8 (List.replicate 64 0)), .row (.slice (some ⟨b16141, 0, none⟩) 1 1) 9 1 1 (List.map str [(List.replicate 64 0)])], HS⟩, ?_⟩
        refine WH.take (i := 10) (v := (ptr b1 0)) rfl rfl (.inl rfl) rfl (by kernel_rfl) ⟨[.blk b1 [v1, (str key), (vI (-1))] 61, .row v16161 9 1 (i + 1) (List.map str ((List.replicate i (List.replicate 64 0)) ++ [(List.replicate 64 0)])), .row (.slice (some ⟨b16101, 0, none⟩) 64 64) 5 1 64 (List.map vU8 (List.replicate 64 0)), .row (.slice (some ⟨b16141, 0, none⟩) 1 1) 9 1 1 (List.map str [(List.replicate 64 0)])], HS⟩ (fun wX hSX => hSX.elim fun LX HX => op_fieldAddr rfl Fa.F61_0 ⟨rfl, rfl⟩) ?_
        have hq := st5_13 b16101 b16141 v16161 wS HS
        rw [hW] at hq
        refine WH.cov ?_ hq
        exact by repeat (first | exact trivial | refine ⟨rfl, ?_⟩)
    have st5_11 : ∀ (b16101 : Nat) (b16141 : Nat) (wS : World), Own [] w wS [.blk b1 [v1, (str key), (vI (-1))] 61, .row v1 9 1 i (List.map str (List.replicate i (List.replicate 64 0))), .row (.slice (some ⟨b16101, 0, none⟩) 64 64) 5 1 64 (List.map vU8 (List.replicate 64 0)), .row (.slice (some ⟨b16141, 0, none⟩) 1 1) 9 1 1 (List.map str [(List.replicate 64 0)])] → W 4 #[true, true, true, true, true, true, true, true, false, false, false, false] [(0, (vN n)), (1, (str key)), (5, (ptr b1 0)), (6, (vN i)), (10, (vN i)), (11, (vN n)), (12, (.bool (decide (i < n)))), (15, (ptr b1 0)), (16, (ptr b1 0)), (17, (ptr b1 0)), (18, (ptr b1 0)), (19, v1), (20, (.slice (some ⟨b16101, 0, none⟩) 64 64)), (21, (str (List.replicate 64 0))), (22, (.slice (some ⟨b16141, 0, none⟩) 1 1))] wS := by
      intro b16101 b16141 wS HS
      rw [hW]
      refine WH.all1 (i := 8) (by kernel_rfl) ?_
      ·
        refine WHS.op (i := 8) rfl (.inl rfl) rfl (op_appendM (f := str) (l := (List.replicate i (List.replicate 64 0))) (l' := [(List.replicate 64 0)]) (i := 1) HS Tryz.underlying59 Fa.I9 rfl rfl rfl rfl (Src.ofArr Tryz.underlying59 (HS.arrR (i := 3) rfl)) (one_mapM (fun _ => rfl)) (by omega) (by omega) (fun v16161 w16161 H16161 => ?_))
        refine ⟨⟨[.blk b1 [v1, (str key), (vI (-1))] 61, .row v16161 9 1 (i + 1) (List.map str ((List.replicate i (List.replicate 64 0)) ++ [(List.replicate 64 0)])), .row (.slice (some ⟨b16101, 0, none⟩) 64 64) 5 1 64 (List.map vU8 (List.replicate 64 0)), .row (.slice (some ⟨b16141, 0, none⟩) 1 1) 9 1 1 (List.map str [(List.replicate 64 0)])], H16161⟩, ?_⟩
        have hq := st5_12 b16101 b16141 v16161 w16161 H16161
        rw [hW] at hq
        refine WH.cov ?_ hq
        exact by repeat (first | exact trivial | refine ⟨rfl, ?_⟩)
    have st5_9 : ∀ (b16101 : Nat) (wS : World), Own [] w wS [.blk b1 [v1, (str key), (vI (-1))] 61, .row v1 9 1 i (List.map str (List.replicate i (List.replicate 64 0))), .row (.slice (some ⟨b16101, 0, none⟩) 64 64) 5 1 64 (List.map vU8 (List.replicate 64 0))] → W 5 #[true, true, true, true, true, true, true, false, false, false, false, false] [(0, (vN n)), (1, (str key)), (5, (ptr b1 0)), (6, (vN i)), (10, (vN i)), (11, (vN n)), (12, (.bool (decide (i < n)))), (15, (ptr b1 0)), (16, (ptr b1 0)), (17, (ptr b1 0)), (18, (ptr b1 0)), (19, v1), (20, (.slice (some ⟨b16101, 0, none⟩) 64 64)), (21, (str (List.replicate 64 0)))] wS := by
      intro b16101 wS HS
      rw [hW]
      refine WH.all1 (i := 7) (by kernel_rfl) ?_
      ·
        refine WHS.op (i := 7) rfl (.inl rfl) rfl (op_buildSlice (cs := [_]) HS Tryz.underlying59 Fa.I9 rfl rfl rfl rfl (by decide) (by decide) (fun b16141 w16141 H16141 => ?_))
        refine ⟨⟨[.blk b1 [v1, (str key), (vI (-1))] 61, .row v1 9 1 i (List.map str (List.replicate i (List.replicate 64 0))), .row (.slice (some ⟨b16101, 0, none⟩) 64 64) 5 1 64 (List.map vU8 (List.replicate 64 0)), .row (.slice (some ⟨b16141, 0, none⟩) 1 1) 9 1 1 (List.map str [(List.replicate 64 0)])], H16141⟩, ?_⟩
        have hq := st5_11 b16101 b16141 w16141 H16141
        rw [hW] at hq
        refine WH.cov ?_ hq
        exact by repeat (first | exact trivial | refine ⟨rfl, ?_⟩)
    have st5_10 : ∀ (b16101 : Nat) (b16141 : Nat) (wS : World), Own [] w wS [.blk b1 [v1, (str key), (vI (-1))] 61, .row v1 9 1 i (List.map str (List.replicate i (List.replicate 64 0))), .row (.slice (some ⟨b16101, 0, none⟩) 64 64) 5 1 64 (List.map vU8 (List.replicate 64 0)), .row (.slice (some ⟨b16141, 0, none⟩) 1 1) 9 1 1 (List.map str [(List.replicate 64 0)])] → W 5 #[true, true, true, true, false, true, true, true, false, false, false, false] [(0, (vN n)), (1, (str key)), (5, (ptr b1 0)), (6, (vN i)), (10, (vN i)), (11, (vN n)), (12, (.bool (decide (i < n)))), (15, (ptr b1 0)), (16, (ptr b1 0)), (17, (ptr b1 0)), (18, (ptr b1 0)), (20, (.slice (some ⟨b16101, 0, none⟩) 64 64)), (21, (str (List.replicate 64 0))), (22, (.slice (some ⟨b16141, 0, none⟩) 1 1))] wS := by
      intro b16101 b16141 wS HS
      rw [hW]
      refine WH.all1 (i := 4) (by kernel_rfl) ?_
      ·
        refine WHS.op (i := 4) rfl (.inl rfl) rfl (op_load rfl (HS.cell (i := 0) rfl rfl) Tryz.underlying59 rfl ?_)
        refine ⟨⟨[.blk b1 [v1, (str key), (vI (-1))] 61, .row v1 9 1 i (List.map str (List.replicate i (List.replicate 64 0))), .row (.slice (some ⟨b16101, 0, none⟩) 64 64) 5 1 64 (List.map vU8 (List.replicate 64 0)), .row (.slice (some ⟨b16141, 0, none⟩) 1 1) 9 1 1 (List.map str [(List.replicate 64 0)])], HS⟩, ?_⟩
        have hq := st5_11 b16101 b16141 wS HS
        rw [hW] at hq
        refine WH.cov ?_ hq
        exact by repeat (first | exact trivial | refine ⟨rfl, ?_⟩)
    have st5_6 : ∀ (b16101 : Nat) (wS : World), Own [] w wS [.blk b1 [v1, (str key), (vI (-1))] 61, .row v1 9 1 i (List.map str (List.replicate i (List.replicate 64 0))), .row (.slice (some ⟨b16101, 0, none⟩) 64 64) 5 1 64 (List.map vU8 (List.replicate 64 0))] → W 6 #[true, true, true, true, true, true, false, false, false, false, false, false] [(0, (vN n)), (1, (str key)), (5, (ptr b1 0)), (6, (vN i)), (10, (vN i)), (11, (vN n)), (12, (.bool (decide (i < n)))), (15, (ptr b1 0)), (16, (ptr b1 0)), (17, (ptr b1 0)), (18, (ptr b1 0)), (19, v1), (20, (.slice (some ⟨b16101, 0, none⟩) 64 64))] wS := by
      intro b16101 wS HS
      rw [hW]
      refine WH.all1 (i := 6) (by kernel_rfl) ?_
      ·
        refine WHS.op (i := 6) rfl (.inl rfl) rfl (op_bytesStr (l := (List.replicate 64 0)) Tryz.underlying114 Tryz.underlying5 Tryz.underlying9 rfl (HS.arrR (i := 2) rfl) rfl ?_)
        refine ⟨⟨[.blk b1 [v1, (str key), (vI (-1))] 61, .row v1 9 1 i (List.map str (List.replicate i (List.replicate 64 0))), .row (.slice (some ⟨b16101, 0, none⟩) 64 64) 5 1 64 (List.map vU8 (List.replicate 64 0))], HS⟩, ?_⟩
        have hq := st5_9 b16101 wS HS
        rw [hW] at hq
        refine WH.cov ?_ hq
        exact by repeat (first | exact trivial | refine ⟨rfl, ?_⟩)
    have st5_7 : ∀ (b16101 : Nat) (wS : World), Own [] w wS [.blk b1 [v1, (str key), (vI (-1))] 61, .row v1 9 1 i (List.map str (List.replicate i (List.replicate 64 0))), .row (.slice (some ⟨b16101, 0, none⟩) 64 64) 5 1 64 (List.map vU8 (List.replicate 64 0))] → W 6 #[true, true, true, true, false, true, true, false, false, false, false, false] [(0, (vN n)), (1, (str key)), (5, (ptr b1 0)), (6, (vN i)), (10, (vN i)), (11, (vN n)), (12, (.bool (decide (i < n)))), (15, (ptr b1 0)), (16, (ptr b1 0)), (17, (ptr b1 0)), (18, (ptr b1 0)), (20, (.slice (some ⟨b16101, 0, none⟩) 64 64)), (21, (str (List.replicate 64 0)))] wS := by
      intro b16101 wS HS
      rw [hW]
      refine WH.all2 (i := 4) (j := 7) (by kernel_rfl) ?_ ?_
      ·
        refine WHS.op (i := 4) rfl (.inl rfl) rfl (op_load rfl (HS.cell (i := 0) rfl rfl) Tryz.underlying59 rfl ?_)
        refine ⟨⟨[.blk b1 [v1, (str key), (vI (-1))] 61, .row v1 9 1 i (List.map str (List.replicate i (List.replicate 64 0))), .row (.slice (some ⟨b16101, 0, none⟩) 64 64) 5 1 64 (List.map vU8 (List.replicate 64 0))], HS⟩, ?_⟩
        have hq := st5_9 b16101 wS HS
        rw [hW] at hq
        refine WH.cov ?_ hq
        exact by repeat (first | exact trivial | refine ⟨rfl, ?_⟩)
      ·
        refine WHS.op (i := 7) rfl (.inl rfl) rfl (op_buildSlice (cs := [_]) HS Tryz.underlying59 Fa.I9 rfl rfl rfl rfl (by decide) (by decide) (fun b16141 w16141 H16141 => ?_))
        refine ⟨⟨[.blk b1 [v1, (str key), (vI (-1))] 61, .row v1 9 1 i (List.map str (List.replicate i (List.replicate 64 0))), .row (.slice (some ⟨b16101, 0, none⟩) 64 64) 5 1 64 (List.map vU8 (List.replicate 64 0)), .row (.slice (some ⟨b16141, 0, none⟩) 1 1) 9 1 1 (List.map str [(List.replicate 64 0)])], H16141⟩, ?_⟩
        have hq := st5_10 b16101 b16141 w16141 H16141
        rw [hW] at hq
        refine WH.cov ?_ hq
        exact by repeat (first | exact trivial | refine ⟨rfl, ?_⟩)
    have st5_3 : ∀ (wS : World), Own [] w wS [.blk b1 [v1, (str key), (vI (-1))] 61, .row v1 9 1 i (List.map str (List.replicate i (List.replicate 64 0)))] → W 7 #[true, true, true, true, true, false, false, false, false, false, false, false] [(0, (vN n)), (1, (str key)), (5, (ptr b1 0)), (6, (vN i)), (10, (vN i)), (11, (vN n)), (12, (.bool (decide (i < n)))), (15, (ptr b1 0)), (16, (ptr b1 0)), (17, (ptr b1 0)), (18, (ptr b1 0)), (19, v1)] wS := by
      intro wS HS
      rw [hW]
      refine WH.all1 (i := 5) (by kernel_rfl) ?_
      ·
        refine WHS.op (i := 5) rfl (.inl rfl) rfl (op_makeSliceM (f := vU8) (c := 0) (m := 64) HS Tryz.underlying114 Fa.I5 rfl rfl (by omega) (by omega) (fun b16101 w16101 H16101 => ?_))
        refine ⟨⟨[.blk b1 [v1, (str key), (vI (-1))] 61, .row v1 9 1 i (List.map str (List.replicate i (List.replicate 64 0))), .row (.slice (some ⟨b16101, 0, none⟩) 64 64) 5 1 64 (List.map vU8 (List.replicate 64 0))], H16101⟩, ?_⟩
        have hq := st5_6 b16101 w16101 H16101
        rw [hW] at hq
        refine WH.cov ?_ hq
        exact by repeat (first | exact trivial | refine ⟨rfl, ?_⟩)
    have st5_4 : ∀ (b16101 : Nat) (wS : World), Own [] w wS [.blk b1 [v1, (str key), (vI (-1))] 61, .row v1 9 1 i (List.map str (List.replicate i (List.replicate 64 0))), .row (.slice (some ⟨b16101, 0, none⟩) 64 64) 5 1 64 (List.map vU8 (List.replicate 64 0))] → W 7 #[true, true, true, true, false, true, false, false, false, false, false, false] [(0, (vN n)), (1, (str key)), (5, (ptr b1 0)), (6, (vN i)), (10, (vN i)), (11, (vN n)), (12, (.bool (decide (i < n)))), (15, (ptr b1 0)), (16, (ptr b1 0)), (17, (ptr b1 0)), (18, (ptr b1 0)), (20, (.slice (some ⟨b16101, 0, none⟩) 64 64))] wS := by
      intro b16101 wS HS
      rw [hW]
      refine WH.all2 (i := 4) (j := 6) (by kernel_rfl) ?_ ?_
      ·
        refine WHS.op (i := 4) rfl (.inl rfl) rfl (op_load rfl (HS.cell (i := 0) rfl rfl) Tryz.underlying59 rfl ?_)
        refine ⟨⟨[.blk b1 [v1, (str key), (vI (-1))] 61, .row v1 9 1 i (List.map str (List.replicate i (List.replicate 64 0))), .row (.slice (some ⟨b16101, 0, none⟩) 64 64) 5 1 64 (List.map vU8 (List.replicate 64 0))], HS⟩, ?_⟩
        have hq := st5_6 b16101 wS HS
        rw [hW] at hq
        refine WH.cov ?_ hq
        exact by repeat (first | exact trivial | refine ⟨rfl, ?_⟩)
      ·
        refine WHS.op (i := 6) rfl (.inl rfl) rfl (op_bytesStr (l := (List.replicate 64 0)) Tryz.underlying114 Tryz.underlying5 Tryz.underlying9 rfl (HS.arrR (i := 2) rfl) rfl ?_)
        refine ⟨⟨[.blk b1 [v1, (str key), (vI (-1))] 61, .row v1 9 1 i (List.map str (List.replicate i (List.replicate 64 0))), .row (.slice (some ⟨b16101, 0, none⟩) 64 64) 5 1 64 (List.map vU8 (List.replicate 64 0))], HS⟩, ?_⟩
        have hq := st5_7 b16101 wS HS
        rw [hW] at hq
        refine WH.cov ?_ hq
        exact by repeat (first | exact trivial | refine ⟨rfl, ?_⟩)
    have st5_8 : ∀ (b16101 : Nat) (b16141 : Nat) (wS : World), Own [] w wS [.blk b1 [v1, (str key), (vI (-1))] 61, .row v1 9 1 i (List.map str (List.replicate i (List.replicate 64 0))), .row (.slice (some ⟨b16101, 0, none⟩) 64 64) 5 1 64 (List.map vU8 (List.replicate 64 0)), .row (.slice (some ⟨b16141, 0, none⟩) 1 1) 9 1 1 (List.map str [(List.replicate 64 0)])] → W 7 #[true, true, false, false, false, true, true, true, false, false, false, false] [(0, (vN n)), (1, (str key)), (5, (ptr b1 0)), (6, (vN i)), (10, (vN i)), (11, (vN n)), (12, (.bool (decide (i < n)))), (15, (ptr b1 0)), (16, (ptr b1 0)), (20, (.slice (some ⟨b16101, 0, none⟩) 64 64)), (21, (str (List.replicate 64 0))), (22, (.slice (some ⟨b16141, 0, none⟩) 1 1))] wS := by
      intro b16101 b16141 wS HS
      rw [hW]
      refine WH.all1 (i := 2) (by kernel_rfl) ?_
      ·
        refine WHS.op (i := 2) rfl (.inl rfl) rfl (op_nilCheck rfl ?_)
        refine ⟨⟨[.blk b1 [v1, (str key), (vI (-1))] 61, .row v1 9 1 i (List.map str (List.replicate i (List.replicate 64 0))), .row (.slice (some ⟨b16101, 0, none⟩) 64 64) 5 1 64 (List.map vU8 (List.replicate 64 0)), .row (.slice (some ⟨b16141, 0, none⟩) 1 1) 9 1 1 (List.map str [(List.replicate 64 0)])], HS⟩, ?_⟩
        refine WH.take (i := 3) (v := (ptr b1 0)) rfl rfl (.inl rfl) rfl (by kernel_rfl) ⟨[.blk b1 [v1, (str key), (vI (-1))] 61, .row v1 9 1 i (List.map str (List.replicate i (List.replicate 64 0))), .row (.slice (some ⟨b16101, 0, none⟩) 64 64) 5 1 64 (List.map vU8 (List.replicate 64 0)), .row (.slice (some ⟨b16141, 0, none⟩) 1 1) 9 1 1 (List.map str [(List.replicate 64 0)])], HS⟩ (fun wX hSX => hSX.elim fun LX HX => op_fieldAddr rfl Fa.F61_0 ⟨rfl, rfl⟩) ?_
        have hq := st5_10 b16101 b16141 wS HS
        rw [hW] at hq
        refine WH.cov ?_ hq
        exact by repeat (first | exact trivial | refine ⟨rfl, ?_⟩)
    have st5_1 : ∀ (wS : World), Own [] w wS [.blk b1 [v1, (str key), (vI (-1))] 61, .row v1 9 1 i (List.map str (List.replicate i (List.replicate 64 0)))] → W 8 #[true, true, true, true, false, false, false, false, false, false, false, false] [(0, (vN n)), (1, (str key)), (5, (ptr b1 0)), (6, (vN i)), (10, (vN i)), (11, (vN n)), (12, (.bool (decide (i < n)))), (15, (ptr b1 0)), (16, (ptr b1 0)), (17, (ptr b1 0)), (18, (ptr b1 0))] wS := by
      intro wS HS
      rw [hW]
      refine WH.all2 (i := 4) (j := 5) (by kernel_rfl) ?_ ?_
      ·
        refine WHS.op (i := 4) rfl (.inl rfl) rfl (op_load rfl (HS.cell (i := 0) rfl rfl) Tryz.underlying59 rfl ?_)
        refine ⟨⟨[.blk b1 [v1, (str key), (vI (-1))] 61, .row v1 9 1 i (List.map str (List.replicate i (List.replicate 64 0)))], HS⟩, ?_⟩
        have hq := st5_3 wS HS
        rw [hW] at hq
        refine WH.cov ?_ hq
        exact by repeat (first | exact trivial | refine ⟨rfl, ?_⟩)
      ·
        refine WHS.op (i := 5) rfl (.inl rfl) rfl (op_makeSliceM (f := vU8) (c := 0) (m := 64) HS Tryz.underlying114 Fa.I5 rfl rfl (by omega) (by omega) (fun b16101 w16101 H16101 => ?_))
        refine ⟨⟨[.blk b1 [v1, (str key), (vI (-1))] 61, .row v1 9 1 i (List.map str (List.replicate i (List.replicate 64 0))), .row (.slice (some ⟨b16101, 0, none⟩) 64 64) 5 1 64 (List.map vU8 (List.replicate 64 0))], H16101⟩, ?_⟩
        have hq := st5_4 b16101 w16101 H16101
        rw [hW] at hq
        refine WH.cov ?_ hq
        exact by repeat (first | exact trivial | refine ⟨rfl, ?_⟩)
    have st5_5 : ∀ (b16101 : Nat) (wS : World), Own [] w wS [.blk b1 [v1, (str key), (vI (-1))] 61, .row v1 9 1 i (List.map str (List.replicate i (List.replicate 64 0))), .row (.slice (some ⟨b16101, 0, none⟩) 64 64) 5 1 64 (List.map vU8 (List.replicate 64 0))] → W 8 #[true, true, false, false, false, true, true, false, false, false, false, false] [(0, (vN n)), (1, (str key)), (5, (ptr b1 0)), (6, (vN i)), (10, (vN i)), (11, (vN n)), (12, (.bool (decide (i < n)))), (15, (ptr b1 0)), (16, (ptr b1 0)), (20, (.slice (some ⟨b16101, 0, none⟩) 64 64)), (21, (str (List.replicate 64 0)))] wS := by
      intro b16101 wS HS
      rw [hW]
      refine WH.all2 (i := 2) (j := 7) (by kernel_rfl) ?_ ?_
      ·
        refine WHS.op (i := 2) rfl (.inl rfl) rfl (op_nilCheck rfl ?_)
        refine ⟨⟨[.blk b1 [v1, (str key), (vI (-1))] 61, .row v1 9 1 i (List.map str (List.replicate i (List.replicate 64 0))), .row (.slice (some ⟨b16101, 0, none⟩) 64 64) 5 1 64 (List.map vU8 (List.replicate 64 0))], HS⟩, ?_⟩
        refine WH.take (i := 3) (v := (ptr b1 0)) rfl rfl (.inl rfl) rfl (by kernel_rfl) ⟨[.blk b1 [v1, (str key), (vI (-1))] 61, .row v1 9 1 i (List.map str (List.replicate i (List.replicate 64 0))), .row (.slice (some ⟨b16101, 0, none⟩) 64 64) 5 1 64 (List.map vU8 (List.replicate 64 0))], HS⟩ (fun wX hSX => hSX.elim fun LX HX => op_fieldAddr rfl Fa.F61_0 ⟨rfl, rfl⟩) ?_
        have hq := st5_7 b16101 wS HS
        rw [hW] at hq
        refine WH.cov ?_ hq
        exact by repeat (first | exact trivial | refine ⟨rfl, ?_⟩)
      ·
        refine WHS.op (i := 7) rfl (.inl rfl) rfl (op_buildSlice (cs := [_]) HS Tryz.underlying59 Fa.I9 rfl rfl rfl rfl (by decide) (by decide) (fun b16141 w16141 H16141 => ?_))
        refine ⟨⟨[.blk b1 [v1, (str key), (vI (-1))] 61, .row v1 9 1 i (List.map str (List.replicate i (List.replicate 64 0))), .row (.slice (some ⟨b16101, 0, none⟩) 64 64) 5 1 64 (List.map vU8 (List.replicate 64 0)), .row (.slice (some ⟨b16141, 0, none⟩) 1 1) 9 1 1 (List.map str [(List.replicate 64 0)])], H16141⟩, ?_⟩
        have hq := st5_8 b16101 b16141 w16141 H16141
        rw [hW] at hq
        refine WH.cov ?_ hq
        exact by repeat (first | exact trivial | refine ⟨rfl, ?_⟩)
    have st5_2 : ∀ (b16101 : Nat) (wS : World), Own [] w wS [.blk b1 [v1, (str key), (vI (-1))] 61, .row v1 9 1 i (List.map str (List.replicate i (List.replicate 64 0))), .row (.slice (some ⟨b16101, 0, none⟩) 64 64) 5 1 64 (List.map vU8 (List.replicate 64 0))] → W 9 #[true, true, false, false, false, true, false, false, false, false, false, false] [(0, (vN n)), (1, (str key)), (5, (ptr b1 0)), (6, (vN i)), (10, (vN i)), (11, (vN n)), (12, (.bool (decide (i < n)))), (15, (ptr b1 0)), (16, (ptr b1 0)), (20, (.slice (some ⟨b16101, 0, none⟩) 64 64))] wS := by
      intro b16101 wS HS
      rw [hW]
      refine WH.all2 (i := 2) (j := 6) (by kernel_rfl) ?_ ?_
      ·
        refine WHS.op (i := 2) rfl (.inl rfl) rfl (op_nilCheck rfl ?_)
        refine ⟨⟨[.blk b1 [v1, (str key), (vI (-1))] 61, .row v1 9 1 i (List.map str (List.replicate i (List.replicate 64 0))), .row (.slice (some ⟨b16101, 0, none⟩) 64 64) 5 1 64 (List.map vU8 (List.replicate 64 0))], HS⟩, ?_⟩
        refine WH.take (i := 3) (v := (ptr b1 0)) rfl rfl (.inl rfl) rfl (by kernel_rfl) ⟨[.blk b1 [v1, (str key), (vI (-1))] 61, .row v1 9 1 i (List.map str (List.replicate i (List.replicate 64 0))), .row (.slice (some ⟨b16101, 0, none⟩) 64 64) 5 1 64 (List.map vU8 (List.replicate 64 0))], HS⟩ (fun wX hSX => hSX.elim fun LX HX => op_fieldAddr rfl Fa.F61_0 ⟨rfl, rfl⟩) ?_
        have hq := st5_4 b16101 wS HS
        rw [hW] at hq
        refine WH.cov ?_ hq
        exact by repeat (first | exact trivial | refine ⟨rfl, ?_⟩)
      ·
        refine WHS.op (i := 6) rfl (.inl rfl) rfl (op_bytesStr (l := (List.replicate 64 0)) Tryz.underlying114 Tryz.underlying5 Tryz.underlying9 rfl (HS.arrR (i := 2) rfl) rfl ?_)
        refine ⟨⟨[.blk b1 [v1, (str key), (vI (-1))] 61, .row v1 9 1 i (List.map str (List.replicate i (List.replicate 64 0))), .row (.slice (some ⟨b16101, 0, none⟩) 64 64) 5 1 64 (List.map vU8 (List.replicate 64 0))], HS⟩, ?_⟩
        have hq := st5_5 b16101 wS HS
        rw [hW] at hq
        refine WH.cov ?_ hq
        exact by repeat (first | exact trivial | refine ⟨rfl, ?_⟩)
    have st5_0 : ∀ (wS : World), Own [] w wS [.blk b1 [v1, (str key), (vI (-1))] 61, .row v1 9 1 i (List.map str (List.replicate i (List.replicate 64 0)))] → W 10 #[true, true, false, false, false, false, false, false, false, false, false, false] [(0, (vN n)), (1, (str key)), (5, (ptr b1 0)), (6, (vN i)), (10, (vN i)), (11, (vN n)), (12, (.bool (decide (i < n)))), (15, (ptr b1 0)), (16, (ptr b1 0))] wS := by
      intro wS HS
      rw [hW]
      refine WH.all2 (i := 2) (j := 5) (by kernel_rfl) ?_ ?_
      ·
        refine WHS.op (i := 2) rfl (.inl rfl) rfl (op_nilCheck rfl ?_)
        refine ⟨⟨[.blk b1 [v1, (str key), (vI (-1))] 61, .row v1 9 1 i (List.map str (List.replicate i (List.replicate 64 0)))], HS⟩, ?_⟩
        refine WH.take (i := 3) (v := (ptr b1 0)) rfl rfl (.inl rfl) rfl (by kernel_rfl) ⟨[.blk b1 [v1, (str key), (vI (-1))] 61, .row v1 9 1 i (List.map str (List.replicate i (List.replicate 64 0)))], HS⟩ (fun wX hSX => hSX.elim fun LX HX => op_fieldAddr rfl Fa.F61_0 ⟨rfl, rfl⟩) ?_
        have hq := st5_1 wS HS
        rw [hW] at hq
        refine WH.cov ?_ hq
        exact by repeat (first | exact trivial | refine ⟨rfl, ?_⟩)
      ·
        refine WHS.op (i := 5) rfl (.inl rfl) rfl (op_makeSliceM (f := vU8) (c := 0) (m := 64) HS Tryz.underlying114 Fa.I5 rfl rfl (by omega) (by omega) (fun b16101 w16101 H16101 => ?_))
        refine ⟨⟨[.blk b1 [v1, (str key), (vI (-1))] 61, .row v1 9 1 i (List.map str (List.replicate i (List.replicate 64 0))), .row (.slice (some ⟨b16101, 0, none⟩) 64 64) 5 1 64 (List.map vU8 (List.replicate 64 0))], H16101⟩, ?_⟩
        have hq := st5_2 b16101 w16101 H16101
        rw [hW] at hq
        refine WH.cov ?_ hq
        exact by repeat (first | exact trivial | refine ⟨rfl, ?_⟩)
    have hq := st5_0 w5 H5
    rw [hW] at hq ⊢
    refine WH.cov ?_ hq
    exact by repeat (first | exact trivial | refine ⟨rfl, ?_⟩)
  ·
    have hc4 := of_decide_eq_false hb4
    refine WC.exit ?_
    refine WQ.thenExit ?_
    refine WQ.thenExit ?_
    refine WQ.inHere ?_
    refine WQ.next ?_
    refine WC.seq ?_
    refine WC.region ?_
    refine WL.op rfl rfl (op_move rfl ?_)
    refine WL.op rfl rfl (op_assign rfl ?_)
    refine WL.nil ?_
    refine WQ.next ?_
    refine WC.ret ?_
    refine WQ.out (.tmp rfl .nil) ?_
    obtain rfl : i = n := by omega
    exact ⟨_, _, rfl, H3.sel [0, 1] rfl rfl⟩
set_option maxRecDepth 100000 in
theorem same_ok (s : Nat) (id : UInt32) (key : List UInt8) (left : Int) (x : Nat) (k : Nat) (bv ev xv cv nv : Value) (pg : UInt32) (m n : Nat) (es : List Value) (B : List (List UInt8)) (r : Nat) (vb : Value) (rl : Int) (w : World) (hS : cellsAt w s [(ptr x 0), (vU32 id), (str key), (vN ((n - 2) / 2)), (vI left)]) (hX : cellsAt w x [(ptr k 0)]) (hK : cellsAt w k [(vU32 pg), xv, cv, nv, bv]) (hV : Arr w bv 1 m es) (hE : Arr w ev 1 n (List.map str B)) (hR : cellsAt w r [vb, (str key), (vI rl)]) (hRB : Arr w vb 1 n (List.map str B)) (hid : id.toNat < m) (hev : es[id.toNat]? = some ev) (hn : B.length = n) (hB : ∀ b ∈ B, b.length = 64) (h4 : 4 ≤ n) (hm : n < 2 ^ 20) (hk : key.length < 2 ^ 40) :
    Calls Tryz.prog 28 #[(ptr s 0), (ptr r 0)] w (fun e w' => e = .returned (.bool true) ∧ Fr [] w w') := by
  refine enter (args := [(ptr s 0), (ptr r 0)]) Tryz.func28 rfl rfl ?_
  have H0 : Own [] w w [Ent.bo s [(ptr x 0), (vU32 id), (str key), (vN ((n - 2) / 2)), (vI left)], Ent.bo x [(ptr k 0)], Ent.bo k [(vU32 pg), xv, cv, nv, bv], Ent.ar bv 1 m es, Ent.ar ev 1 n (List.map str B), Ent.bo r [vb, (str key), (vI rl)], Ent.ar vb 1 n (List.map str B)] := ((((((((Own.start w []).oldB hS).oldB hX).oldB hK).oldA hV).oldA hE).oldB hR).oldA hRB)
  refine WC.seq ?_
  refine WC.region ?_
  refine WL.op rfl rfl (op_assign rfl ?_)
  refine WL.nil ?_
  refine WQ.next ?_
  refine WC.seq ?_
  refine WC.seq ?_
  refine WC.region ?_
  refine WL.op rfl rfl (op_assign rfl ?_)
  refine WL.nil ?_
  refine WQ.next ?_
  refine WC.block ?_
  refine WC.loop (α := Int) (fun i => [(0, (ptr s 0)), (1, (ptr r 0)), (5, (vI i))]) (fun i w' => (-1 ≤ i ∧ i ≤ 3) ∧ Own [] w w' [Ent.bo s [(ptr x 0), (vU32 id), (str key), (vN ((n - 2) / 2)), (vI left)], Ent.bo x [(ptr k 0)], Ent.bo k [(vU32 pg), xv, cv, nv, bv], Ent.ar bv 1 m es, Ent.ar ev 1 n (List.map str B), Ent.bo r [vb, (str key), (vI rl)], Ent.ar vb 1 n (List.map str B)]) (fun i => (3 - i).toNat) (-1) ⟨⟨by omega, by omega⟩, H0⟩ ⟨rfl, rfl, rfl, trivial⟩ ?_
  rintro i w1 ⟨⟨hi1, hi2⟩, H1⟩
  show WC _ _ _ _ _ [(0, (ptr s 0)), (1, (ptr r 0)), (5, (vI i))] _
  refine WC.seq ?_
  refine WC.seq ?_
  refine WC.region ?_
  refine WL.op rfl rfl (op_move rfl ?_)
  refine WL.op rfl rfl (op_leqI (b := (2 : Int)) rfl rfl ?_)
  refine WL.nil ?_
  refine WQ.next ?_
  refine WC.cond rfl (fun (hb2 : (decide (i ≤ (2 : Int))) = true) => ?_) (fun (hb2 : (decide (i ≤ (2 : Int))) = false) => ?_)
  ·
    have hc2 := of_decide_eq_true hb2
    refine WC.skip ?_
    refine WQ.next ?_
    refine WC.seq ?_
    refine WC.block ?_
    refine WC.seq ?_
    refine WC.region ?_
    refine WL.op rfl rfl (op_move rfl ?_)
    refine WL.op rfl rfl (op_move rfl ?_)
    refine WL.op rfl rfl (op_callF Fa.C12 rfl ((slotI_ok s id key ((n - 2) / 2) left x k bv ev xv cv nv pg m n es B i _ (H1.cellsAtO (i := 0) rfl) (H1.cellsAtO (i := 1) rfl) (H1.cellsAtO (i := 2) rfl) (H1.arrO (i := 3) rfl) (H1.arrO (i := 4) rfl) hid hev hn hB (by omega) hm hk).mono (fun e w3 hq => ?_)))
    obtain ⟨rfl, hf3⟩ := hq
    refine ⟨_, rfl, ?_⟩
    have H3 := H1.fr' hf3
    refine WL.op rfl rfl (op_move rfl ?_)
    refine WL.op rfl rfl (op_extract rfl rfl ?_)
    refine WL.op rfl rfl (op_extract rfl rfl ?_)
    refine WL.op rfl rfl (op_extract rfl rfl ?_)
    refine WL.op rfl rfl (op_assign rfl ?_)
    refine WL.op rfl rfl (op_assign rfl ?_)
    refine WL.op rfl rfl (op_assign rfl ?_)
    refine WL.nil ?_
    refine WQ.next ?_
    refine WC.seq ?_
    refine WC.region ?_
    refine WL.op rfl rfl (op_move rfl ?_)
    refine WL.op rfl rfl (op_move rfl ?_)
    refine WL.op rfl rfl (op_callF Fa.C68 rfl ((rslotI_ok r vb key rl n B i _ (H3.cellsAtO (i := 5) rfl) (H3.arrO (i := 6) rfl) hn hB h4 hm hk).mono (fun e w4 hq => ?_)))
    obtain ⟨rfl, hf4⟩ := hq
    refine ⟨_, rfl, ?_⟩
    have H4 := H3.fr' hf4
    refine WL.op rfl rfl (op_move rfl ?_)
    refine WL.op rfl rfl (op_extract rfl rfl ?_)
    refine WL.op rfl rfl (op_extract rfl rfl ?_)
    refine WL.op rfl rfl (op_extract rfl rfl ?_)
    refine WL.op rfl rfl (op_assign rfl ?_)
    refine WL.op rfl rfl (op_assign rfl ?_)
    refine WL.op rfl rfl (op_assign rfl ?_)
    refine WL.nil ?_
    refine WQ.next ?_
    refine WC.seq ?_
    refine WC.region ?_
    refine WL.op rfl rfl (op_move rfl ?_)
    refine WL.op rfl rfl (op_move rfl ?_)
    refine WL.op rfl rfl (op_neqU32 rfl rfl ?_)
    refine WL.op rfl rfl (op_move rfl ?_)
    refine WL.yes rfl rfl rfl (decide_eq_false (fun h => h rfl)) rfl (op_move rfl ?_)
    refine WL.yes rfl rfl rfl (decide_eq_false (fun h => h rfl)) rfl (op_move rfl ?_)
    refine WL.yes rfl rfl rfl (decide_eq_false (fun h => h rfl)) rfl (op_neqStr rfl rfl ?_)
    refine WL.op rfl rfl (op_pickF rfl (decide_eq_false (fun h => h rfl)) rfl ?_)
    refine WL.op rfl rfl (op_move rfl ?_)
    refine WL.yes rfl rfl rfl (decide_eq_false (fun h => h rfl)) rfl (op_move rfl ?_)
    refine WL.yes rfl rfl rfl (decide_eq_false (fun h => h rfl)) rfl (op_move rfl ?_)
    refine WL.yes rfl rfl rfl (decide_eq_false (fun h => h rfl)) rfl (op_neqB Tryz.underlying4 rfl rfl ?_)
    refine WL.op rfl rfl (op_pickF rfl (decide_eq_false (fun h => h rfl)) rfl ?_)
    refine WL.nil ?_
    refine WQ.next ?_
    refine WC.no rfl (by rw [beq_self_eq_true]; rfl) ?_
    refine WC.skip ?_
    refine WQ.inNormal ?_
    refine WQ.next ?_
    refine WC.region ?_
    refine WL.op rfl rfl (op_move rfl ?_)
    refine WL.op rfl rfl (op_addI (b := (1 : Int)) rfl rfl (by omega) ?_)
    refine WL.op rfl rfl (op_assign rfl ?_)
    refine WL.nil ?_
    exact WQ.round (i + 1) ⟨⟨by omega, by omega⟩, H4⟩ ⟨rfl, rfl, rfl, trivial⟩ (by omega)
  ·
    have hc2 := of_decide_eq_false hb2
    refine WC.exit ?_
    refine WQ.thenExit ?_
    refine WQ.thenExit ?_
    refine WQ.inHere ?_
    refine WQ.next ?_
    refine WC.seq ?_
    refine WC.region ?_
    refine WL.op rfl rfl (op_move rfl ?_)
    refine WL.op rfl rfl (op_callF Fa.C13 rfl ((current_ok s id key ((n - 2) / 2) left x k bv ev xv cv nv pg m n es B _ (H1.cellsAtO (i := 0) rfl) (H1.cellsAtO (i := 1) rfl) (H1.cellsAtO (i := 2) rfl) (H1.arrO (i := 3) rfl) (H1.arrO (i := 4) rfl) hid hev hn hB (by omega) hm hk).mono (fun e w5 hq => ?_)))
    obtain ⟨rfl, hf5⟩ := hq
    refine ⟨_, rfl, ?_⟩
    have H5 := H1.fr' hf5
    refine WL.op rfl rfl (op_move rfl ?_)
    refine WL.op rfl rfl (op_extract rfl rfl ?_)
    refine WL.op rfl rfl (op_extract rfl rfl ?_)
    refine WL.op rfl rfl (op_extract rfl rfl ?_)
    refine WL.op rfl rfl (op_assign rfl ?_)
    refine WL.op rfl rfl (op_assign rfl ?_)
    refine WL.op rfl rfl (op_assign rfl ?_)
    refine WL.nil ?_
    refine WQ.next ?_
    refine WC.seq ?_
    refine WC.region ?_
    refine WL.op rfl rfl (op_move rfl ?_)
    refine WL.op rfl rfl (op_callF Fa.C61 rfl ((rcurrent_ok r vb key rl n B _ (H5.cellsAtO (i := 5) rfl) (H5.arrO (i := 6) rfl) hn hB h4 hm hk).mono (fun e w6 hq => ?_)))
    obtain ⟨rfl, hf6⟩ := hq
    refine ⟨_, rfl, ?_⟩
    have H6 := H5.fr' hf6
    refine WL.op rfl rfl (op_move rfl ?_)
    refine WL.op rfl rfl (op_extract rfl rfl ?_)
    refine WL.op rfl rfl (op_extract rfl rfl ?_)
    refine WL.op rfl rfl (op_extract rfl rfl ?_)
    refine WL.op rfl rfl (op_assign rfl ?_)
    refine WL.op rfl rfl (op_assign rfl ?_)
    refine WL.op rfl rfl (op_assign rfl ?_)
    refine WL.nil ?_
    refine WQ.next ?_
    refine WC.seq ?_
    refine WC.region ?_
    refine WL.op rfl rfl (op_move rfl ?_)
    refine WL.op rfl rfl (op_move rfl ?_)
    refine WL.op rfl rfl (op_eqlU32 rfl rfl ?_)
    refine WL.op rfl rfl (op_move rfl ?_)
    refine WL.yes rfl rfl rfl (decide_eq_true rfl) rfl (op_move rfl ?_)
    refine WL.yes rfl rfl rfl (decide_eq_true rfl) rfl (op_move rfl ?_)
    refine WL.yes rfl rfl rfl (decide_eq_true rfl) rfl (op_eqlStr rfl rfl ?_)
    refine WL.op rfl rfl (op_pickT rfl (decide_eq_true rfl) rfl ?_)
    refine WL.op rfl rfl (op_move rfl ?_)
    refine WL.yes rfl rfl rfl (decide_eq_true rfl) rfl (op_move rfl ?_)
    refine WL.yes rfl rfl rfl (decide_eq_true rfl) rfl (op_move rfl ?_)
    refine WL.yes rfl rfl rfl (decide_eq_true rfl) rfl (op_eqlB Tryz.underlying4 rfl rfl ?_)
    refine WL.op rfl rfl (op_pickT rfl (decide_eq_true rfl) rfl ?_)
    refine WL.op rfl rfl (op_move rfl ?_)
    refine WL.yes rfl rfl rfl (beq_self_eq_true _) rfl (op_move rfl ?_)
    refine WL.yes rfl rfl rfl (beq_self_eq_true _) rfl (op_callF Fa.C15 rfl ((room_ok s (ptr x 0) id key ((n - 2) / 2) left _ (H6.cellsAtO (i := 0) rfl) (by omega)).mono (fun e w7 hq => ?_)))
    obtain ⟨rfl, hf7⟩ := hq
    refine ⟨_, rfl, ?_⟩
    have H7 := H6.fr' hf7
    refine WL.yes rfl rfl rfl (beq_self_eq_true _) rfl (op_move rfl ?_)
    refine WL.yes rfl rfl rfl (beq_self_eq_true _) rfl (op_callF Fa.C62 rfl ((rroom_ok r vb key rl n B _ (H7.cellsAtO (i := 5) rfl) (H7.arrO (i := 6) rfl) h4 hm).mono (fun e w8 hq => ?_)))
    obtain ⟨rfl, hf8⟩ := hq
    refine ⟨_, rfl, ?_⟩
    have H8 := H7.fr' hf8
    refine WL.yes rfl rfl rfl (beq_self_eq_true _) rfl (op_eqlN rfl rfl ?_)
    refine WL.op rfl rfl (op_pickT rfl (beq_self_eq_true _) rfl ?_)
    refine WL.op rfl rfl (op_assign rfl ?_)
    refine WL.nil ?_
    refine WQ.next ?_
    refine WC.ret ?_
    refine WQ.out (.tmp rfl .nil) ?_
    exact ⟨by rw [decide_eq_true (rfl : (n - 2) / 2 * 64 = (n - 2) / 2 * 64)]; rfl, H8.fr⟩
theorem xsetI_ok (x : Nat) (k : Nat) (bv ev xv cv nv : Value) (pg : UInt32) (m n : Nat) (es : List Value) (B : List (List UInt8)) (id : UInt32) (i : Int) (t : List UInt8) (T : List Nat) (w : World) (H : Own T w w [Ent.bo x [(ptr k 0)], Ent.bo k [(vU32 pg), xv, cv, nv, bv], Ent.ar bv 1 m es, .row ev 9 1 n (List.map str B)]) (hid : id.toNat < m) (hev : es[id.toNat]? = some ev) (h0 : 0 ≤ i) (h1 : i < n) (h2 : n < 2 ^ 32) (ht : t.length = 64) :
    Calls Tryz.prog 27 #[ptr x 0, vU32 id, vU32 (u32I i), str t] w (fun e w' => e = .returned (vN 0) ∧ Own T w w' [Ent.bo x [(ptr k 0)], Ent.bo k [(vU32 pg), xv, cv, nv, bv], Ent.ar bv 1 m es, .row ev 9 1 n (List.map str (B.set i.toNat t))]) := by
  rw [u32I_nat h0 h1 h2]
  exact xset_ok x k bv ev xv cv nv pg m n es B id i.toNat t T w H hid hev (by omega) (by omega) ht
set_option maxRecDepth 100000 in
theorem made_no (nb : UInt32) (key : List UInt8) (w : World) (h4 : nb.toNat < 4) (hm : nb.toNat ≤ 1024) :
    Calls Tryz.prog 20 #[(vU32 nb), (str key)] w (fun e w' => ∃ x, e = .returned (.tuple #[ptr x 0, .pointer none]) ∧ Own [] w w' []) := by
  refine enter (args := [(vU32 nb), (str key)]) Tryz.func20 rfl rfl ?_
  have H0 : Own [] w w [] := Own.start w []
  refine WC.seq ?_
  refine WC.region ?_
  refine WL.op rfl rfl (op_assign rfl ?_)
  refine WL.op rfl rfl (op_assign rfl ?_)
  refine WL.nil ?_
  refine WQ.next ?_
  refine WC.seq ?_
  refine WC.region ?_
  refine WL.op rfl rfl (op_move rfl ?_)
  refine WL.op rfl rfl (op_buildSlice (cs := [_, _]) H0 Tryz.underlying73 Fa.I22 rfl rfl rfl rfl (by decide) (by decide) (fun b1 w1 H1 => ?_))
  refine WL.op rfl rfl (op_build (cs := [_, _]) Fa.I75 Fa.PL75 rfl rfl ?_)
  refine WL.op rfl rfl (op_callF Fa.C37 rfl ((exoNew_ok 40 _ 1 nb _ (H1.arrR (i := 0) rfl) (hard_made hm)).mono (fun e w2 hq => ?_)))
  obtain ⟨x2, k2, bv2, e02, e12, xv2, cv2, nv2, rfl, hf02, hf12, hf22, hf32, hq2⟩ := hq
  refine ⟨_, rfl, ?_⟩
  have H2 : Own [] w w2 [.row (.slice (some ⟨b1, 0, none⟩) 2 2) 22 1 2 (List.map vU32 [1, nb]), Ent.bo x2 [(ptr k2 0)], Ent.bo k2 [(vU32 40), xv2, cv2, nv2, bv2], Ent.ar bv2 1 2 [e02, e12], .row e12 9 1 nb.toNat (List.map str (List.replicate nb.toNat (List.replicate 64 0))), Ent.ar e02 1 (1 : UInt32).toNat (List.map str (List.replicate (1 : UInt32).toNat (List.replicate 64 0)))] := H1.splice [] [] [Ent.bo x2 [(ptr k2 0)], Ent.bo k2 [(vU32 40), xv2, cv2, nv2, bv2], Ent.ar bv2 1 2 [e02, e12], .row e12 9 1 nb.toNat (List.map str (List.replicate nb.toNat (List.replicate 64 0))), Ent.ar e02 1 (1 : UInt32).toNat (List.map str (List.replicate (1 : UInt32).toNat (List.replicate 64 0)))] rfl rfl hq2 (Fits.fresh hf32 (Fits.fresh hf02 (Fits.fresh hf12 (Fits.solid True.intro (Fits.fresh hf22 Fits.nil)))))
  refine WL.op rfl rfl (op_move rfl ?_)
  refine WL.op rfl rfl (op_extract rfl rfl ?_)
  refine WL.op rfl rfl (op_extract rfl rfl ?_)
  refine WL.op rfl rfl (op_assign rfl ?_)
  refine WL.op rfl rfl (op_assign rfl ?_)
  refine WL.nil ?_
  refine WQ.next ?_
  refine WC.seq ?_
  refine WC.seq ?_
  refine WC.region ?_
  refine WL.op rfl rfl (op_move rfl ?_)
  refine WL.op rfl rfl (op_neqN (b := 0) rfl rfl ?_)
  refine WL.op rfl rfl (op_move rfl ?_)
  refine WL.yes rfl rfl rfl (by decide) rfl (op_move rfl ?_)
  refine WL.yes rfl rfl rfl (by decide) rfl (op_eqlPN Fa.PT47 rfl rfl ?_)
  refine WL.op rfl rfl (op_pickF rfl (by decide) rfl ?_)
  refine WL.nil ?_
  refine WQ.next ?_
  refine WC.no rfl rfl ?_
  refine WC.skip ?_
  refine WQ.next ?_
  refine WC.seq ?_
  refine WC.region ?_
  refine WL.op rfl rfl (op_move rfl ?_)
  refine WL.op rfl rfl (op_move rfl ?_)
  refine WL.op rfl rfl (op_callF Fa.C11 rfl ((new44_no x2 k2 bv2 e12 xv2 cv2 nv2 40 2 nb.toNat ([e02, e12]) (List.replicate nb.toNat (List.replicate 64 0)) 1 key _ (H2.cellsAtO (i := 1) rfl) (H2.cellsAtO (i := 2) rfl) (H2.arrO (i := 3) rfl) (H2.arrR (i := 4) rfl) (by decide) rfl (by omega) (by omega)).mono (fun e w3 hq => ?_)))
  obtain ⟨rfl, hf3⟩ := hq
  refine ⟨_, rfl, ?_⟩
  have H3 := H2.fr' hf3
  refine WL.op rfl rfl (op_move rfl ?_)
  refine WL.op rfl rfl (op_extract rfl rfl ?_)
  refine WL.op rfl rfl (op_extract rfl rfl ?_)
  refine WL.op rfl rfl (op_assign rfl ?_)
  refine WL.op rfl rfl (op_assign rfl ?_)
  refine WL.nil ?_
  refine WQ.next ?_
  refine WC.seq ?_
  refine WC.seq ?_
  refine WC.region ?_
  refine WL.op rfl rfl (op_move rfl ?_)
  refine WL.op rfl rfl (op_neqN (b := 0) rfl rfl ?_)
  refine WL.nil ?_
  refine WQ.next ?_
  refine WC.yes rfl (by decide) ?_
  refine WC.seq ?_
  refine WC.region ?_
  refine WL.op rfl rfl (op_move rfl ?_)
  refine WL.op rfl rfl (op_assign rfl ?_)
  refine WL.op rfl rfl (op_assign rfl ?_)
  refine WL.nil ?_
  refine WQ.next ?_
  refine WC.ret ?_
  refine WQ.thenRet ?_
  refine WQ.out (.tmp rfl (.tmp rfl .nil)) ?_
  exact ⟨_, rfl, H3.sel [] rfl rfl⟩
end Go.Proofs.YtbjhccnffacbcaaGreat
