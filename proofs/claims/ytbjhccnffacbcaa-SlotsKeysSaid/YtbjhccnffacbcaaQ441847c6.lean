/- General lemmas and walks: WSlot8, WSlot9. No condition but what each theorem names. -/
import Derived.Test.YtbjhccnffacbcaaQ097ca9f9
import Derived.Test.YtbjhccnffacbcaaQ4dc7d17f
import Derived.Test.YtbjhccnffacbcaaQdf79d389
/-! from WSlot8 -/
namespace Go.Proofs.Ytbjhccnffacbcaa
open Go.Owl Go.Spec
set_option maxRecDepth 100000 in
theorem made_ok (nb : UInt32) (key : List UInt8) (w : World) (h4 : 4 ≤ nb.toNat) (hm : nb.toNat ≤ 1024) :
    Calls Try.prog 10 #[(vU32 nb), (str key)] w (fun e w' => ∃ s x k bv e0 e1 xv cv nv, e = .returned (.tuple #[ptr x 0, ptr s 0]) ∧ (∀ b' ∈ [k], w.heap.size ≤ b') ∧ (∀ b' ∈ footA bv [e0, e1], w.heap.size ≤ b') ∧ (∀ b' ∈ footA e0 (List.map str (List.replicate (1 : UInt32).toNat (List.replicate 64 0))), w.heap.size ≤ b') ∧ (∀ b' ∈ [x], w.heap.size ≤ b') ∧ Own [] w w' [.blk s [(ptr x 0), (vU32 1), (str key), (vN ((nb.toNat - 2) / 2)), (vI (-1))] 98, Ent.bo x [(ptr k 0)], Ent.bo k [(vU32 40), xv, cv, nv, bv], Ent.ar bv 1 2 [e0, e1], .row e1 9 1 nb.toNat (List.map str (List.replicate nb.toNat (List.replicate 64 0))), Ent.ar e0 1 (1 : UInt32).toNat (List.map str (List.replicate (1 : UInt32).toNat (List.replicate 64 0)))]) := by
  refine enter (args := [(vU32 nb), (str key)]) Try.func10 rfl rfl ?_
  have H0 : Own [] w w [] := Own.start w []
  refine WC.seq ?_
  refine WC.region ?_
  refine WL.op rfl rfl (op_assign rfl ?_)
  refine WL.op rfl rfl (op_assign rfl ?_)
  refine WL.nil ?_
  refine WQ.next ?_
  refine WC.seq ?_
  refine WC.region ?_
  refine WL.op rfl rfl (op_move rfl ?_)
  refine WL.op rfl rfl (op_buildSlice (cs := [_, _]) H0 Try.underlying46 Fa.I29 rfl rfl rfl rfl (by decide) (by decide) (fun b1 w1 H1 => ?_))
  refine WL.op rfl rfl (op_build (cs := [_, _]) Fa.I48 Fa.PL48 rfl rfl ?_)
  refine WL.op rfl rfl (op_callF Fa.C42 rfl ((exoNew_ok 40 _ 1 nb _ (H1.arrR (i := 0) rfl) (hard_made hm)).mono (fun e w2 hq => ?_)))
  obtain ⟨x2, k2, bv2, e02, e12, xv2, cv2, nv2, rfl, hf02, hf12, hf22, hf32, hq2⟩ := hq
  refine ⟨_, rfl, ?_⟩
  have H2 : Own [] w w2 [.row (.slice (some ⟨b1, 0, none⟩) 2 2) 29 1 2 (List.map vU32 [1, nb]), Ent.bo x2 [(ptr k2 0)], Ent.bo k2 [(vU32 40), xv2, cv2, nv2, bv2], Ent.ar bv2 1 2 [e02, e12], .row e12 9 1 nb.toNat (List.map str (List.replicate nb.toNat (List.replicate 64 0))), Ent.ar e02 1 (1 : UInt32).toNat (List.map str (List.replicate (1 : UInt32).toNat (List.replicate 64 0)))] := H1.splice [] [] [Ent.bo x2 [(ptr k2 0)], Ent.bo k2 [(vU32 40), xv2, cv2, nv2, bv2], Ent.ar bv2 1 2 [e02, e12], .row e12 9 1 nb.toNat (List.map str (List.replicate nb.toNat (List.replicate 64 0))), Ent.ar e02 1 (1 : UInt32).toNat (List.map str (List.replicate (1 : UInt32).toNat (List.replicate 64 0)))] rfl rfl hq2 (Fits.fresh hf32 (Fits.fresh hf02 (Fits.fresh hf12 (Fits.solid True.intro (Fits.fresh hf22 Fits.nil)))))
  refine WL.op rfl rfl (op_move rfl ?_)
  refine WL.op rfl rfl (op_extract rfl rfl ?_)
  refine WL.op rfl rfl (op_extract rfl rfl ?_)
  refine WL.op rfl rfl (op_assign rfl ?_)
  refine WL.op rfl rfl (op_assign rfl ?_)
  refine WL.nil ?_
  refine WQ.next ?_
  refine WC.seq ?_
  refine WC.seq ?_
  refine WC.region ?_
  have hs : w.heap.size ≤ w1.heap.size := H1.fr.size
  refine WL.op rfl rfl (op_move rfl ?_)
  refine WL.op rfl rfl (op_neqN (b := 0) rfl rfl ?_)
  refine WL.op rfl rfl (op_move rfl ?_)
  refine WL.yes rfl rfl rfl (by decide) rfl (op_move rfl ?_)
  refine WL.yes rfl rfl rfl (by decide) rfl (op_eqlPN Fa.PT25 rfl rfl ?_)
  refine WL.op rfl rfl (op_pickF rfl (by decide) rfl ?_)
  refine WL.nil ?_
  refine WQ.next ?_
  refine WC.no rfl rfl ?_
  refine WC.skip ?_
  refine WQ.next ?_
  refine WC.seq ?_
  refine WC.region ?_
  refine WL.op rfl rfl (op_move rfl ?_)
  refine WL.op rfl rfl (op_move rfl ?_)
  refine WL.op rfl rfl (op_callF Fa.C14 rfl ((new44_ok x2 k2 bv2 e12 xv2 cv2 nv2 40 2 nb.toNat ([e02, e12]) (List.replicate nb.toNat (List.replicate 64 0)) 1 key _ (H2.cellsAtO (i := 1) rfl) (H2.cellsAtO (i := 2) rfl) (H2.arrO (i := 3) rfl) (H2.arrR (i := 4) rfl) (by decide) rfl (by omega) (by omega)).mono (fun e w3 hq => ?_)))
  obtain ⟨s3, rfl, hq3⟩ := hq
  refine ⟨_, rfl, ?_⟩
  have H3 : Own [] w w3 [.row (.slice (some ⟨b1, 0, none⟩) 2 2) 29 1 2 (List.map vU32 [1, nb]), Ent.bo x2 [(ptr k2 0)], Ent.bo k2 [(vU32 40), xv2, cv2, nv2, bv2], Ent.ar bv2 1 2 [e02, e12], .row e12 9 1 nb.toNat (List.map str (List.replicate nb.toNat (List.replicate 64 0))), Ent.ar e02 1 (1 : UInt32).toNat (List.map str (List.replicate (1 : UInt32).toNat (List.replicate 64 0))), .blk s3 [(ptr x2 0), (vU32 1), (str key), (vN ((nb.toNat - 2) / 2)), (vI (-1))] 98] := H2.splice [] [] [.blk s3 [(ptr x2 0), (vU32 1), (str key), (vN ((nb.toNat - 2) / 2)), (vI (-1))] 98] rfl rfl hq3 (Fits.solid True.intro Fits.nil)
  refine WL.op rfl rfl (op_move rfl ?_)
  refine WL.op rfl rfl (op_extract rfl rfl ?_)
  refine WL.op rfl rfl (op_extract rfl rfl ?_)
  refine WL.op rfl rfl (op_assign rfl ?_)
  refine WL.op rfl rfl (op_assign rfl ?_)
  refine WL.nil ?_
  refine WQ.next ?_
  refine WC.seq ?_
  refine WC.seq ?_
  refine WC.region ?_
  refine WL.op rfl rfl (op_move rfl ?_)
  refine WL.op rfl rfl (op_neqN (b := 0) rfl rfl ?_)
  refine WL.nil ?_
  refine WQ.next ?_
  refine WC.no rfl (by decide) ?_
  refine WC.skip ?_
  refine WQ.next ?_
  refine WC.seq ?_
  refine WC.region ?_
  refine WL.op rfl rfl (op_move rfl ?_)
  refine WL.op rfl rfl (op_move rfl ?_)
  refine WL.op rfl rfl (op_assign rfl ?_)
  refine WL.op rfl rfl (op_assign rfl ?_)
  refine WL.nil ?_
  refine WQ.next ?_
  refine WC.ret ?_
  refine WQ.out (.tmp rfl (.tmp rfl .nil)) ?_
  exact ⟨_, _, _, _, _, _, _, _, _, rfl, up hf02 hs, up hf12 hs, up hf22 hs, up hf32 hs, H3.sel [6, 1, 2, 3, 4, 5] rfl rfl⟩
set_option maxHeartbeats 4000000 in
set_option maxRecDepth 100000 in
theorem alive44_ok  (w : World) :
    Calls Try.prog 9 #[] w (fun e w' => e = .returned (.bool true) ∧ Fr [] w w') := by
  refine enter (args := []) Try.func9 rfl rfl ?_
  have H0 : Own [] w w [] := Own.start w []
  refine WC.seq ?_
  refine WC.region ?_
  refine WL.op rfl rfl (op_assign rfl ?_)
  refine WL.nil ?_
  refine WQ.next ?_
  refine WC.seq ?_
  refine WC.region ?_
  refine WL.op rfl rfl (op_callF Fa.C10 rfl ((made_ok 6 ([107]) _ (by decide) (by decide)).mono (fun e w1 hq => ?_)))
  obtain ⟨s1, x1, k1, bv1, e01, e11, xv1, cv1, nv1, rfl, hf01, hf11, hf21, hf31, hq1⟩ := hq
  refine ⟨_, rfl, ?_⟩
  have H1 : Own [] w w1 [.blk s1 [(ptr x1 0), (vU32 1), (str [107]), (vN (((6 : UInt32).toNat - 2) / 2)), (vI (-1))] 98, Ent.bo x1 [(ptr k1 0)], Ent.bo k1 [(vU32 40), xv1, cv1, nv1, bv1], Ent.ar bv1 1 2 [e01, e11], .row e11 9 1 (6 : UInt32).toNat (List.map str (List.replicate (6 : UInt32).toNat (List.replicate 64 0))), Ent.ar e01 1 (1 : UInt32).toNat (List.map str (List.replicate (1 : UInt32).toNat (List.replicate 64 0)))] := H0.splice [] [] [.blk s1 [(ptr x1 0), (vU32 1), (str [107]), (vN (((6 : UInt32).toNat - 2) / 2)), (vI (-1))] 98, Ent.bo x1 [(ptr k1 0)], Ent.bo k1 [(vU32 40), xv1, cv1, nv1, bv1], Ent.ar bv1 1 2 [e01, e11], .row e11 9 1 (6 : UInt32).toNat (List.map str (List.replicate (6 : UInt32).toNat (List.replicate 64 0))), Ent.ar e01 1 (1 : UInt32).toNat (List.map str (List.replicate (1 : UInt32).toNat (List.replicate 64 0)))] rfl rfl hq1 (Fits.solid True.intro (Fits.fresh hf31 (Fits.fresh hf01 (Fits.fresh hf11 (Fits.solid True.intro (Fits.fresh hf21 Fits.nil))))))
  refine WL.op rfl rfl (op_move rfl ?_)
  refine WL.op rfl rfl (op_extract rfl rfl ?_)
  refine WL.op rfl rfl (op_extract rfl rfl ?_)
  refine WL.op rfl rfl (op_assign rfl ?_)
  refine WL.op rfl rfl (op_assign rfl ?_)
  refine WL.nil ?_
  refine WQ.next ?_
  refine WC.seq ?_
  refine WC.seq ?_
  refine WC.region ?_
  refine WL.op rfl rfl (op_move rfl ?_)
  refine WL.op rfl rfl (op_eqlPN Fa.PT26 rfl rfl ?_)
  refine WL.nil ?_
  refine WQ.next ?_
  refine WC.no rfl rfl ?_
  refine WC.skip ?_
  refine WQ.next ?_
  refine WC.seq ?_
  refine WC.region ?_
  refine WL.op rfl rfl (op_move rfl ?_)
  refine WL.op rfl rfl (op_callF Fa.C13 rfl ((update_ok s1 1 ([107]) (((6 : UInt32).toNat - 2) / 2) (-1) x1 k1 bv1 e11 xv1 cv1 nv1 40 2 ((6 : UInt32).toNat) ([e01, e11]) (List.replicate (6 : UInt32).toNat (List.replicate 64 0)) 1 ([97]) _ _ (H1.part [0, 1, 2, 3, 4] rfl rfl) (by decide) rfl ((SOK.new (6 : UInt32).toNat)).len ((SOK.new (6 : UInt32).toNat)).all (by decide) (by decide) (by decide) (by decide) (by decide) (by decide)).mono (fun e w2 hq => ?_)))
  obtain ⟨rfl, hq2⟩ := hq
  refine ⟨_, rfl, ?_⟩
  have H2 : Own [] w w2 [.blk s1 [(ptr x1 0), (vU32 1), (str [107]), (vN (((6 : UInt32).toNat - 2) / 2)), (vI (updE (Sst.mk (List.replicate (6 : UInt32).toNat (List.replicate 64 0)) (-1)) (((6 : UInt32).toNat - 2) / 2) ([107]) 1 ([97])).1.left)] 98, Ent.bo x1 [(ptr k1 0)], Ent.bo k1 [(vU32 40), xv1, cv1, nv1, bv1], Ent.ar bv1 1 2 [e01, e11], .row e11 9 1 (6 : UInt32).toNat (List.map str (updE (Sst.mk (List.replicate (6 : UInt32).toNat (List.replicate 64 0)) (-1)) (((6 : UInt32).toNat - 2) / 2) ([107]) 1 ([97])).1.B), Ent.ar e01 1 (1 : UInt32).toNat (List.map str (List.replicate (1 : UInt32).toNat (List.replicate 64 0)))] := H1.splice [0, 1, 2, 3, 4] [.blk s1 [(ptr x1 0), (vU32 1), (str [107]), (vN (((6 : UInt32).toNat - 2) / 2)), (vI (updE (Sst.mk (List.replicate (6 : UInt32).toNat (List.replicate 64 0)) (-1)) (((6 : UInt32).toNat - 2) / 2) ([107]) 1 ([97])).1.left)] 98, Ent.bo x1 [(ptr k1 0)], Ent.bo k1 [(vU32 40), xv1, cv1, nv1, bv1], Ent.ar bv1 1 2 [e01, e11], .row e11 9 1 (6 : UInt32).toNat (List.map str (updE (Sst.mk (List.replicate (6 : UInt32).toNat (List.replicate 64 0)) (-1)) (((6 : UInt32).toNat - 2) / 2) ([107]) 1 ([97])).1.B)] [] rfl rfl hq2 (Fits.solid True.intro (Fits.same (j := 1) rfl (Fits.same (j := 2) rfl (Fits.same (j := 3) rfl (Fits.solid True.intro Fits.nil)))))
  refine WL.op rfl rfl (op_move rfl ?_)
  refine WL.op rfl rfl (op_callF Fa.C13 rfl ((update_ok s1 1 ([107]) (((6 : UInt32).toNat - 2) / 2) ((updE (Sst.mk (List.replicate (6 : UInt32).toNat (List.replicate 64 0)) (-1)) (((6 : UInt32).toNat - 2) / 2) ([107]) 1 ([97])).1.left) x1 k1 bv1 e11 xv1 cv1 nv1 40 2 ((6 : UInt32).toNat) ([e01, e11]) ((updE (Sst.mk (List.replicate (6 : UInt32).toNat (List.replicate 64 0)) (-1)) (((6 : UInt32).toNat - 2) / 2) ([107]) 1 ([97])).1.B) 1 ([98]) _ _ (H2.part [0, 1, 2, 3, 4] rfl rfl) (by decide) rfl ((SOK.upd (SOK.new (6 : UInt32).toNat))).len ((SOK.upd (SOK.new (6 : UInt32).toNat))).all (by decide) (by decide) (by decide) (by decide) (updE_left (by decide)) (by decide)).mono (fun e w3 hq => ?_)))
  obtain ⟨rfl, hq3⟩ := hq
  refine ⟨_, rfl, ?_⟩
  have H3 : Own [] w w3 [.blk s1 [(ptr x1 0), (vU32 1), (str [107]), (vN (((6 : UInt32).toNat - 2) / 2)), (vI (updE (Sst.mk ((updE (Sst.mk (List.replicate (6 : UInt32).toNat (List.replicate 64 0)) (-1)) (((6 : UInt32).toNat - 2) / 2) ([107]) 1 ([97])).1.B) ((updE (Sst.mk (List.replicate (6 : UInt32).toNat (List.replicate 64 0)) (-1)) (((6 : UInt32).toNat - 2) / 2) ([107]) 1 ([97])).1.left)) (((6 : UInt32).toNat - 2) / 2) ([107]) 1 ([98])).1.left)] 98, Ent.bo x1 [(ptr k1 0)], Ent.bo k1 [(vU32 40), xv1, cv1, nv1, bv1], Ent.ar bv1 1 2 [e01, e11], .row e11 9 1 (6 : UInt32).toNat (List.map str (updE (Sst.mk ((updE (Sst.mk (List.replicate (6 : UInt32).toNat (List.replicate 64 0)) (-1)) (((6 : UInt32).toNat - 2) / 2) ([107]) 1 ([97])).1.B) ((updE (Sst.mk (List.replicate (6 : UInt32).toNat (List.replicate 64 0)) (-1)) (((6 : UInt32).toNat - 2) / 2) ([107]) 1 ([97])).1.left)) (((6 : UInt32).toNat - 2) / 2) ([107]) 1 ([98])).1.B), Ent.ar e01 1 (1 : UInt32).toNat (List.map str (List.replicate (1 : UInt32).toNat (List.replicate 64 0)))] := H2.splice [0, 1, 2, 3, 4] [.blk s1 [(ptr x1 0), (vU32 1), (str [107]), (vN (((6 : UInt32).toNat - 2) / 2)), (vI (updE (Sst.mk ((updE (Sst.mk (List.replicate (6 : UInt32).toNat (List.replicate 64 0)) (-1)) (((6 : UInt32).toNat - 2) / 2) ([107]) 1 ([97])).1.B) ((updE (Sst.mk (List.replicate (6 : UInt32).toNat (List.replicate 64 0)) (-1)) (((6 : UInt32).toNat - 2) / 2) ([107]) 1 ([97])).1.left)) (((6 : UInt32).toNat - 2) / 2) ([107]) 1 ([98])).1.left)] 98, Ent.bo x1 [(ptr k1 0)], Ent.bo k1 [(vU32 40), xv1, cv1, nv1, bv1], Ent.ar bv1 1 2 [e01, e11], .row e11 9 1 (6 : UInt32).toNat (List.map str (updE (Sst.mk ((updE (Sst.mk (List.replicate (6 : UInt32).toNat (List.replicate 64 0)) (-1)) (((6 : UInt32).toNat - 2) / 2) ([107]) 1 ([97])).1.B) ((updE (Sst.mk (List.replicate (6 : UInt32).toNat (List.replicate 64 0)) (-1)) (((6 : UInt32).toNat - 2) / 2) ([107]) 1 ([97])).1.left)) (((6 : UInt32).toNat - 2) / 2) ([107]) 1 ([98])).1.B)] [] rfl rfl hq3 (Fits.solid True.intro (Fits.same (j := 1) rfl (Fits.same (j := 2) rfl (Fits.same (j := 3) rfl (Fits.solid True.intro Fits.nil)))))
  refine WL.op rfl rfl (op_assign rfl ?_)
  refine WL.op rfl rfl (op_assign rfl ?_)
  refine WL.nil ?_
  refine WQ.next ?_
  refine WC.seq ?_
  refine WC.region ?_
  refine WL.op rfl rfl (op_move rfl ?_)
  refine WL.op rfl rfl (op_callF Fa.C12 rfl ((fuse_ok s1 (ptr x1 0) rfl 1 ([107]) (((6 : UInt32).toNat - 2) / 2) ((updE (Sst.mk ((updE (Sst.mk (List.replicate (6 : UInt32).toNat (List.replicate 64 0)) (-1)) (((6 : UInt32).toNat - 2) / 2) ([107]) 1 ([97])).1.B) ((updE (Sst.mk (List.replicate (6 : UInt32).toNat (List.replicate 64 0)) (-1)) (((6 : UInt32).toNat - 2) / 2) ([107]) 1 ([97])).1.left)) (((6 : UInt32).toNat - 2) / 2) ([107]) 1 ([98])).1.left) (2 : Int) _ _ (H3.part [0] rfl rfl)).mono (fun e w4 hq => ?_)))
  obtain ⟨rfl, hq4⟩ := hq
  refine ⟨_, rfl, ?_⟩
  have H4 : Own [] w w4 [.blk s1 [(ptr x1 0), (vU32 1), (str [107]), (vN (((6 : UInt32).toNat - 2) / 2)), (vI (max (2 : Int) (-1)))] 98, Ent.bo x1 [(ptr k1 0)], Ent.bo k1 [(vU32 40), xv1, cv1, nv1, bv1], Ent.ar bv1 1 2 [e01, e11], .row e11 9 1 (6 : UInt32).toNat (List.map str (updE (Sst.mk ((updE (Sst.mk (List.replicate (6 : UInt32).toNat (List.replicate 64 0)) (-1)) (((6 : UInt32).toNat - 2) / 2) ([107]) 1 ([97])).1.B) ((updE (Sst.mk (List.replicate (6 : UInt32).toNat (List.replicate 64 0)) (-1)) (((6 : UInt32).toNat - 2) / 2) ([107]) 1 ([97])).1.left)) (((6 : UInt32).toNat - 2) / 2) ([107]) 1 ([98])).1.B), Ent.ar e01 1 (1 : UInt32).toNat (List.map str (List.replicate (1 : UInt32).toNat (List.replicate 64 0)))] := H3.splice [0] [.blk s1 [(ptr x1 0), (vU32 1), (str [107]), (vN (((6 : UInt32).toNat - 2) / 2)), (vI (max (2 : Int) (-1)))] 98] [] rfl rfl hq4 (Fits.solid True.intro Fits.nil)
  refine WL.nil ?_
  refine WQ.next ?_
  refine WC.seq ?_
  refine WC.region ?_
  refine WL.op rfl rfl (op_move rfl ?_)
  refine WL.op rfl rfl (op_callF Fa.C13 rfl ((update_ok s1 1 ([107]) (((6 : UInt32).toNat - 2) / 2) (max (2 : Int) (-1)) x1 k1 bv1 e11 xv1 cv1 nv1 40 2 ((6 : UInt32).toNat) ([e01, e11]) ((updE (Sst.mk ((updE (Sst.mk (List.replicate (6 : UInt32).toNat (List.replicate 64 0)) (-1)) (((6 : UInt32).toNat - 2) / 2) ([107]) 1 ([97])).1.B) ((updE (Sst.mk (List.replicate (6 : UInt32).toNat (List.replicate 64 0)) (-1)) (((6 : UInt32).toNat - 2) / 2) ([107]) 1 ([97])).1.left)) (((6 : UInt32).toNat - 2) / 2) ([107]) 1 ([98])).1.B) 2 ([98]) _ _ (H4.part [0, 1, 2, 3, 4] rfl rfl) (by decide) rfl ((SOK.upd (SOK.upd (SOK.new (6 : UInt32).toNat)))).len ((SOK.upd (SOK.upd (SOK.new (6 : UInt32).toNat)))).all (by decide) (by decide) (by decide) (by decide) (max_left (by decide)) (by decide)).mono (fun e w5 hq => ?_)))
  obtain ⟨rfl, hq5⟩ := hq
  refine ⟨_, rfl, ?_⟩
  have H5 : Own [] w w5 [.blk s1 [(ptr x1 0), (vU32 1), (str [107]), (vN (((6 : UInt32).toNat - 2) / 2)), (vI (updE (Sst.mk ((updE (Sst.mk ((updE (Sst.mk (List.replicate (6 : UInt32).toNat (List.replicate 64 0)) (-1)) (((6 : UInt32).toNat - 2) / 2) ([107]) 1 ([97])).1.B) ((updE (Sst.mk (List.replicate (6 : UInt32).toNat (List.replicate 64 0)) (-1)) (((6 : UInt32).toNat - 2) / 2) ([107]) 1 ([97])).1.left)) (((6 : UInt32).toNat - 2) / 2) ([107]) 1 ([98])).1.B) (max (2 : Int) (-1))) (((6 : UInt32).toNat - 2) / 2) ([107]) 2 ([98])).1.left)] 98, Ent.bo x1 [(ptr k1 0)], Ent.bo k1 [(vU32 40), xv1, cv1, nv1, bv1], Ent.ar bv1 1 2 [e01, e11], .row e11 9 1 (6 : UInt32).toNat (List.map str (updE (Sst.mk ((updE (Sst.mk ((updE (Sst.mk (List.replicate (6 : UInt32).toNat (List.replicate 64 0)) (-1)) (((6 : UInt32).toNat - 2) / 2) ([107]) 1 ([97])).1.B) ((updE (Sst.mk (List.replicate (6 : UInt32).toNat (List.replicate 64 0)) (-1)) (((6 : UInt32).toNat - 2) / 2) ([107]) 1 ([97])).1.left)) (((6 : UInt32).toNat - 2) / 2) ([107]) 1 ([98])).1.B) (max (2 : Int) (-1))) (((6 : UInt32).toNat - 2) / 2) ([107]) 2 ([98])).1.B), Ent.ar e01 1 (1 : UInt32).toNat (List.map str (List.replicate (1 : UInt32).toNat (List.replicate 64 0)))] := H4.splice [0, 1, 2, 3, 4] [.blk s1 [(ptr x1 0), (vU32 1), (str [107]), (vN (((6 : UInt32).toNat - 2) / 2)), (vI (updE (Sst.mk ((updE (Sst.mk ((updE (Sst.mk (List.replicate (6 : UInt32).toNat (List.replicate 64 0)) (-1)) (((6 : UInt32).toNat - 2) / 2) ([107]) 1 ([97])).1.B) ((updE (Sst.mk (List.replicate (6 : UInt32).toNat (List.replicate 64 0)) (-1)) (((6 : UInt32).toNat - 2) / 2) ([107]) 1 ([97])).1.left)) (((6 : UInt32).toNat - 2) / 2) ([107]) 1 ([98])).1.B) (max (2 : Int) (-1))) (((6 : UInt32).toNat - 2) / 2) ([107]) 2 ([98])).1.left)] 98, Ent.bo x1 [(ptr k1 0)], Ent.bo k1 [(vU32 40), xv1, cv1, nv1, bv1], Ent.ar bv1 1 2 [e01, e11], .row e11 9 1 (6 : UInt32).toNat (List.map str (updE (Sst.mk ((updE (Sst.mk ((updE (Sst.mk (List.replicate (6 : UInt32).toNat (List.replicate 64 0)) (-1)) (((6 : UInt32).toNat - 2) / 2) ([107]) 1 ([97])).1.B) ((updE (Sst.mk (List.replicate (6 : UInt32).toNat (List.replicate 64 0)) (-1)) (((6 : UInt32).toNat - 2) / 2) ([107]) 1 ([97])).1.left)) (((6 : UInt32).toNat - 2) / 2) ([107]) 1 ([98])).1.B) (max (2 : Int) (-1))) (((6 : UInt32).toNat - 2) / 2) ([107]) 2 ([98])).1.B)] [] rfl rfl hq5 (Fits.solid True.intro (Fits.same (j := 1) rfl (Fits.same (j := 2) rfl (Fits.same (j := 3) rfl (Fits.solid True.intro Fits.nil)))))
  refine WL.op rfl rfl (op_assign rfl ?_)
  refine WL.nil ?_
  refine WQ.next ?_
  refine WC.seq ?_
  refine WC.region ?_
  refine WL.op rfl rfl (op_move rfl ?_)
  refine WL.op rfl rfl (op_callF Fa.C11 rfl ((current_ok s1 1 ([107]) (((6 : UInt32).toNat - 2) / 2) ((updE (Sst.mk ((updE (Sst.mk ((updE (Sst.mk (List.replicate (6 : UInt32).toNat (List.replicate 64 0)) (-1)) (((6 : UInt32).toNat - 2) / 2) ([107]) 1 ([97])).1.B) ((updE (Sst.mk (List.replicate (6 : UInt32).toNat (List.replicate 64 0)) (-1)) (((6 : UInt32).toNat - 2) / 2) ([107]) 1 ([97])).1.left)) (((6 : UInt32).toNat - 2) / 2) ([107]) 1 ([98])).1.B) (max (2 : Int) (-1))) (((6 : UInt32).toNat - 2) / 2) ([107]) 2 ([98])).1.left) x1 k1 bv1 e11 xv1 cv1 nv1 40 2 ((6 : UInt32).toNat) ([e01, e11]) ((updE (Sst.mk ((updE (Sst.mk ((updE (Sst.mk (List.replicate (6 : UInt32).toNat (List.replicate 64 0)) (-1)) (((6 : UInt32).toNat - 2) / 2) ([107]) 1 ([97])).1.B) ((updE (Sst.mk (List.replicate (6 : UInt32).toNat (List.replicate 64 0)) (-1)) (((6 : UInt32).toNat - 2) / 2) ([107]) 1 ([97])).1.left)) (((6 : UInt32).toNat - 2) / 2) ([107]) 1 ([98])).1.B) (max (2 : Int) (-1))) (((6 : UInt32).toNat - 2) / 2) ([107]) 2 ([98])).1.B) _ (H5.cellsAt (i := 0) rfl) (H5.cellsAtO (i := 1) rfl) (H5.cellsAtO (i := 2) rfl) (H5.arrO (i := 3) rfl) (H5.arrR (i := 4) rfl) (by decide) rfl ((SOK.upd (SOK.upd (SOK.upd (SOK.new (6 : UInt32).toNat))))).len ((SOK.upd (SOK.upd (SOK.upd (SOK.new (6 : UInt32).toNat))))).all (by decide) (by decide) (by decide)).mono (fun e w6 hq => ?_)))
  obtain ⟨rfl, hf6⟩ := hq
  refine ⟨_, rfl, ?_⟩
  have H6 := H5.fr' hf6
  refine WL.op rfl rfl (op_move rfl ?_)
  refine WL.op rfl rfl (op_extract rfl rfl ?_)
  refine WL.op rfl rfl (op_extract rfl rfl ?_)
  refine WL.op rfl rfl (op_extract rfl rfl ?_)
  refine WL.op rfl rfl (op_assign rfl ?_)
  refine WL.op rfl rfl (op_assign rfl ?_)
  refine WL.op rfl rfl (op_assign rfl ?_)
  refine WL.nil ?_
  refine WQ.next ?_
  refine WC.seq ?_
  refine WC.region ?_
  refine WL.op rfl rfl (op_move rfl ?_)
  refine WL.op rfl rfl (op_callF Fa.C12 rfl ((fuse_ok s1 (ptr x1 0) rfl 1 ([107]) (((6 : UInt32).toNat - 2) / 2) ((updE (Sst.mk ((updE (Sst.mk ((updE (Sst.mk (List.replicate (6 : UInt32).toNat (List.replicate 64 0)) (-1)) (((6 : UInt32).toNat - 2) / 2) ([107]) 1 ([97])).1.B) ((updE (Sst.mk (List.replicate (6 : UInt32).toNat (List.replicate 64 0)) (-1)) (((6 : UInt32).toNat - 2) / 2) ([107]) 1 ([97])).1.left)) (((6 : UInt32).toNat - 2) / 2) ([107]) 1 ([98])).1.B) (max (2 : Int) (-1))) (((6 : UInt32).toNat - 2) / 2) ([107]) 2 ([98])).1.left) (-1) _ _ (H6.part [0] rfl rfl)).mono (fun e w7 hq => ?_)))
  obtain ⟨rfl, hq7⟩ := hq
  refine ⟨_, rfl, ?_⟩
  have H7 : Own [] w w7 [.blk s1 [(ptr x1 0), (vU32 1), (str [107]), (vN (((6 : UInt32).toNat - 2) / 2)), (vI (max (-1) (-1)))] 98, Ent.bo x1 [(ptr k1 0)], Ent.bo k1 [(vU32 40), xv1, cv1, nv1, bv1], Ent.ar bv1 1 2 [e01, e11], .row e11 9 1 (6 : UInt32).toNat (List.map str (updE (Sst.mk ((updE (Sst.mk ((updE (Sst.mk (List.replicate (6 : UInt32).toNat (List.replicate 64 0)) (-1)) (((6 : UInt32).toNat - 2) / 2) ([107]) 1 ([97])).1.B) ((updE (Sst.mk (List.replicate (6 : UInt32).toNat (List.replicate 64 0)) (-1)) (((6 : UInt32).toNat - 2) / 2) ([107]) 1 ([97])).1.left)) (((6 : UInt32).toNat - 2) / 2) ([107]) 1 ([98])).1.B) (max (2 : Int) (-1))) (((6 : UInt32).toNat - 2) / 2) ([107]) 2 ([98])).1.B), Ent.ar e01 1 (1 : UInt32).toNat (List.map str (List.replicate (1 : UInt32).toNat (List.replicate 64 0)))] := H6.splice [0] [.blk s1 [(ptr x1 0), (vU32 1), (str [107]), (vN (((6 : UInt32).toNat - 2) / 2)), (vI (max (-1) (-1)))] 98] [] rfl rfl hq7 (Fits.solid True.intro Fits.nil)
  refine WL.nil ?_
  refine WQ.next ?_
  refine WC.seq ?_
  refine WC.region ?_
  refine WL.op rfl rfl (op_move rfl ?_)
  refine WL.op rfl rfl (op_callF Fa.C13 rfl ((update_ok s1 1 ([107]) (((6 : UInt32).toNat - 2) / 2) (max (-1) (-1)) x1 k1 bv1 e11 xv1 cv1 nv1 40 2 ((6 : UInt32).toNat) ([e01, e11]) ((updE (Sst.mk ((updE (Sst.mk ((updE (Sst.mk (List.replicate (6 : UInt32).toNat (List.replicate 64 0)) (-1)) (((6 : UInt32).toNat - 2) / 2) ([107]) 1 ([97])).1.B) ((updE (Sst.mk (List.replicate (6 : UInt32).toNat (List.replicate 64 0)) (-1)) (((6 : UInt32).toNat - 2) / 2) ([107]) 1 ([97])).1.left)) (((6 : UInt32).toNat - 2) / 2) ([107]) 1 ([98])).1.B) (max (2 : Int) (-1))) (((6 : UInt32).toNat - 2) / 2) ([107]) 2 ([98])).1.B) 2 ([98]) _ _ (H7.part [0, 1, 2, 3, 4] rfl rfl) (by decide) rfl ((SOK.upd (SOK.upd (SOK.upd (SOK.new (6 : UInt32).toNat))))).len ((SOK.upd (SOK.upd (SOK.upd (SOK.new (6 : UInt32).toNat))))).all (by decide) (by decide) (by decide) (by decide) (max_left (by decide)) (by decide)).mono (fun e w8 hq => ?_)))
  obtain ⟨rfl, hq8⟩ := hq
  refine ⟨_, rfl, ?_⟩
  have H8 : Own [] w w8 [.blk s1 [(ptr x1 0), (vU32 1), (str [107]), (vN (((6 : UInt32).toNat - 2) / 2)), (vI (updE (Sst.mk ((updE (Sst.mk ((updE (Sst.mk ((updE (Sst.mk (List.replicate (6 : UInt32).toNat (List.replicate 64 0)) (-1)) (((6 : UInt32).toNat - 2) / 2) ([107]) 1 ([97])).1.B) ((updE (Sst.mk (List.replicate (6 : UInt32).toNat (List.replicate 64 0)) (-1)) (((6 : UInt32).toNat - 2) / 2) ([107]) 1 ([97])).1.left)) (((6 : UInt32).toNat - 2) / 2) ([107]) 1 ([98])).1.B) (max (2 : Int) (-1))) (((6 : UInt32).toNat - 2) / 2) ([107]) 2 ([98])).1.B) (max (-1) (-1))) (((6 : UInt32).toNat - 2) / 2) ([107]) 2 ([98])).1.left)] 98, Ent.bo x1 [(ptr k1 0)], Ent.bo k1 [(vU32 40), xv1, cv1, nv1, bv1], Ent.ar bv1 1 2 [e01, e11], .row e11 9 1 (6 : UInt32).toNat (List.map str (updE (Sst.mk ((updE (Sst.mk ((updE (Sst.mk ((updE (Sst.mk (List.replicate (6 : UInt32).toNat (List.replicate 64 0)) (-1)) (((6 : UInt32).toNat - 2) / 2) ([107]) 1 ([97])).1.B) ((updE (Sst.mk (List.replicate (6 : UInt32).toNat (List.replicate 64 0)) (-1)) (((6 : UInt32).toNat - 2) / 2) ([107]) 1 ([97])).1.left)) (((6 : UInt32).toNat - 2) / 2) ([107]) 1 ([98])).1.B) (max (2 : Int) (-1))) (((6 : UInt32).toNat - 2) / 2) ([107]) 2 ([98])).1.B) (max (-1) (-1))) (((6 : UInt32).toNat - 2) / 2) ([107]) 2 ([98])).1.B), Ent.ar e01 1 (1 : UInt32).toNat (List.map str (List.replicate (1 : UInt32).toNat (List.replicate 64 0)))] := H7.splice [0, 1, 2, 3, 4] [.blk s1 [(ptr x1 0), (vU32 1), (str [107]), (vN (((6 : UInt32).toNat - 2) / 2)), (vI (updE (Sst.mk ((updE (Sst.mk ((updE (Sst.mk ((updE (Sst.mk (List.replicate (6 : UInt32).toNat (List.replicate 64 0)) (-1)) (((6 : UInt32).toNat - 2) / 2) ([107]) 1 ([97])).1.B) ((updE (Sst.mk (List.replicate (6 : UInt32).toNat (List.replicate 64 0)) (-1)) (((6 : UInt32).toNat - 2) / 2) ([107]) 1 ([97])).1.left)) (((6 : UInt32).toNat - 2) / 2) ([107]) 1 ([98])).1.B) (max (2 : Int) (-1))) (((6 : UInt32).toNat - 2) / 2) ([107]) 2 ([98])).1.B) (max (-1) (-1))) (((6 : UInt32).toNat - 2) / 2) ([107]) 2 ([98])).1.left)] 98, Ent.bo x1 [(ptr k1 0)], Ent.bo k1 [(vU32 40), xv1, cv1, nv1, bv1], Ent.ar bv1 1 2 [e01, e11], .row e11 9 1 (6 : UInt32).toNat (List.map str (updE (Sst.mk ((updE (Sst.mk ((updE (Sst.mk ((updE (Sst.mk (List.replicate (6 : UInt32).toNat (List.replicate 64 0)) (-1)) (((6 : UInt32).toNat - 2) / 2) ([107]) 1 ([97])).1.B) ((updE (Sst.mk (List.replicate (6 : UInt32).toNat (List.replicate 64 0)) (-1)) (((6 : UInt32).toNat - 2) / 2) ([107]) 1 ([97])).1.left)) (((6 : UInt32).toNat - 2) / 2) ([107]) 1 ([98])).1.B) (max (2 : Int) (-1))) (((6 : UInt32).toNat - 2) / 2) ([107]) 2 ([98])).1.B) (max (-1) (-1))) (((6 : UInt32).toNat - 2) / 2) ([107]) 2 ([98])).1.B)] [] rfl rfl hq8 (Fits.solid True.intro (Fits.same (j := 1) rfl (Fits.same (j := 2) rfl (Fits.same (j := 3) rfl (Fits.solid True.intro Fits.nil)))))
  refine WL.op rfl rfl (op_assign rfl ?_)
  refine WL.nil ?_
  refine WQ.next ?_
  refine WC.seq ?_
  refine WC.region ?_
  refine WL.op rfl rfl (op_move rfl ?_)
  refine WL.op rfl rfl (op_callF Fa.C40 rfl ((slot_ok s1 1 ([107]) (((6 : UInt32).toNat - 2) / 2) ((updE (Sst.mk ((updE (Sst.mk ((updE (Sst.mk ((updE (Sst.mk (List.replicate (6 : UInt32).toNat (List.replicate 64 0)) (-1)) (((6 : UInt32).toNat - 2) / 2) ([107]) 1 ([97])).1.B) ((updE (Sst.mk (List.replicate (6 : UInt32).toNat (List.replicate 64 0)) (-1)) (((6 : UInt32).toNat - 2) / 2) ([107]) 1 ([97])).1.left)) (((6 : UInt32).toNat - 2) / 2) ([107]) 1 ([98])).1.B) (max (2 : Int) (-1))) (((6 : UInt32).toNat - 2) / 2) ([107]) 2 ([98])).1.B) (max (-1) (-1))) (((6 : UInt32).toNat - 2) / 2) ([107]) 2 ([98])).1.left) x1 k1 bv1 e11 xv1 cv1 nv1 40 2 ((6 : UInt32).toNat) ([e01, e11]) ((updE (Sst.mk ((updE (Sst.mk ((updE (Sst.mk ((updE (Sst.mk (List.replicate (6 : UInt32).toNat (List.replicate 64 0)) (-1)) (((6 : UInt32).toNat - 2) / 2) ([107]) 1 ([97])).1.B) ((updE (Sst.mk (List.replicate (6 : UInt32).toNat (List.replicate 64 0)) (-1)) (((6 : UInt32).toNat - 2) / 2) ([107]) 1 ([97])).1.left)) (((6 : UInt32).toNat - 2) / 2) ([107]) 1 ([98])).1.B) (max (2 : Int) (-1))) (((6 : UInt32).toNat - 2) / 2) ([107]) 2 ([98])).1.B) (max (-1) (-1))) (((6 : UInt32).toNat - 2) / 2) ([107]) 2 ([98])).1.B) 1 _ (H8.cellsAt (i := 0) rfl) (H8.cellsAtO (i := 1) rfl) (H8.cellsAtO (i := 2) rfl) (H8.arrO (i := 3) rfl) (H8.arrR (i := 4) rfl) (by decide) rfl ((SOK.upd (SOK.upd (SOK.upd (SOK.upd (SOK.new (6 : UInt32).toNat)))))).len ((SOK.upd (SOK.upd (SOK.upd (SOK.upd (SOK.new (6 : UInt32).toNat)))))).all (by decide) (by decide) (by decide) (by decide)).mono (fun e w9 hq => ?_)))
  obtain ⟨rfl, hf9⟩ := hq
  refine ⟨_, rfl, ?_⟩
  have H9 := H8.fr' hf9
  refine WL.op rfl rfl (op_move rfl ?_)
  refine WL.op rfl rfl (op_extract rfl rfl ?_)
  refine WL.op rfl rfl (op_extract rfl rfl ?_)
  refine WL.op rfl rfl (op_extract rfl rfl ?_)
  refine WL.op rfl rfl (op_assign rfl ?_)
  refine WL.op rfl rfl (op_assign rfl ?_)
  refine WL.op rfl rfl (op_assign rfl ?_)
  refine WL.nil ?_
  refine WQ.next ?_
  refine WC.seq ?_
  refine WC.region ?_
  refine WL.op rfl rfl (op_move rfl ?_)
  refine WL.op rfl rfl (op_callF Fa.C14 rfl ((new44_no x1 k1 bv1 e01 xv1 cv1 nv1 40 2 ((1 : UInt32).toNat) ([e01, e11]) (List.replicate (1 : UInt32).toNat (List.replicate 64 0)) 0 ([107]) _ (H9.cellsAtO (i := 1) rfl) (H9.cellsAtO (i := 2) rfl) (H9.arrO (i := 3) rfl) (H9.arrO (i := 5) rfl) (by decide) rfl (by decide) (by decide)).mono (fun e w10 hq => ?_)))
  obtain ⟨rfl, hf10⟩ := hq
  refine ⟨_, rfl, ?_⟩
  have H10 := H9.fr' hf10
  refine WL.op rfl rfl (op_move rfl ?_)
  refine WL.op rfl rfl (op_extract rfl rfl ?_)
  refine WL.op rfl rfl (op_extract rfl rfl ?_)
  refine WL.op rfl rfl (op_assign rfl ?_)
  refine WL.op rfl rfl (op_assign rfl ?_)
  refine WL.nil ?_
  refine WQ.next ?_
  refine WC.seq ?_
  refine WC.region ?_
  refine WL.op rfl rfl (op_move rfl ?_)
  refine WL.op rfl rfl (op_callF Fa.C41 rfl ((room_ok s1 (ptr x1 0) 1 ([107]) (((6 : UInt32).toNat - 2) / 2) ((updE (Sst.mk ((updE (Sst.mk ((updE (Sst.mk ((updE (Sst.mk (List.replicate (6 : UInt32).toNat (List.replicate 64 0)) (-1)) (((6 : UInt32).toNat - 2) / 2) ([107]) 1 ([97])).1.B) ((updE (Sst.mk (List.replicate (6 : UInt32).toNat (List.replicate 64 0)) (-1)) (((6 : UInt32).toNat - 2) / 2) ([107]) 1 ([97])).1.left)) (((6 : UInt32).toNat - 2) / 2) ([107]) 1 ([98])).1.B) (max (2 : Int) (-1))) (((6 : UInt32).toNat - 2) / 2) ([107]) 2 ([98])).1.B) (max (-1) (-1))) (((6 : UInt32).toNat - 2) / 2) ([107]) 2 ([98])).1.left) _ (H10.cellsAt (i := 0) rfl) (by decide)).mono (fun e w11 hq => ?_)))
  obtain ⟨rfl, hf11⟩ := hq
  refine ⟨_, rfl, ?_⟩
  have H11 := H10.fr' hf11
  refine WL.op rfl rfl (op_eqlN (b := 128) rfl rfl ?_)
  refine WL.op rfl rfl (op_move rfl ?_)
  refine WL.yes rfl rfl rfl rfl rfl (op_move rfl ?_)
  refine WL.yes rfl rfl rfl rfl rfl (op_eqlN (b := 0) rfl rfl ?_)
  refine WL.op rfl rfl (op_pickT rfl rfl rfl ?_)
  refine WL.op rfl rfl (op_move rfl ?_)
  refine WL.yes rfl rfl rfl (decide_eq_true (al44 (n := (6 : UInt32).toNat) (each := ((6 : UInt32).toNat - 2) / 2) (key := [107]) rfl rfl).1) rfl (op_move rfl ?_)
  refine WL.yes rfl rfl rfl (decide_eq_true (al44 (n := (6 : UInt32).toNat) (each := ((6 : UInt32).toNat - 2) / 2) (key := [107]) rfl rfl).1) rfl (op_eqlN (b := 440) rfl rfl ?_)
  refine WL.op rfl rfl (op_pickT rfl (decide_eq_true (al44 (n := (6 : UInt32).toNat) (each := ((6 : UInt32).toNat - 2) / 2) (key := [107]) rfl rfl).1) rfl ?_)
  refine WL.op rfl rfl (op_move rfl ?_)
  refine WL.yes rfl rfl rfl (decide_eq_true (al44 (n := (6 : UInt32).toNat) (each := ((6 : UInt32).toNat - 2) / 2) (key := [107]) rfl rfl).2.1) rfl (op_move rfl ?_)
  refine WL.yes rfl rfl rfl (decide_eq_true (al44 (n := (6 : UInt32).toNat) (each := ((6 : UInt32).toNat - 2) / 2) (key := [107]) rfl rfl).2.1) rfl (op_eqlN (b := 441) rfl rfl ?_)
  refine WL.op rfl rfl (op_pickT rfl (decide_eq_true (al44 (n := (6 : UInt32).toNat) (each := ((6 : UInt32).toNat - 2) / 2) (key := [107]) rfl rfl).2.1) rfl ?_)
  refine WL.op rfl rfl (op_move rfl ?_)
  refine WL.yes rfl rfl rfl (decide_eq_true (al44 (n := (6 : UInt32).toNat) (each := ((6 : UInt32).toNat - 2) / 2) (key := [107]) rfl rfl).2.2.1) rfl (op_move rfl ?_)
  refine WL.yes rfl rfl rfl (decide_eq_true (al44 (n := (6 : UInt32).toNat) (each := ((6 : UInt32).toNat - 2) / 2) (key := [107]) rfl rfl).2.2.1) rfl (op_eqlU32 (b := 1) rfl rfl ?_)
  refine WL.op rfl rfl (op_pickT rfl (decide_eq_true (al44 (n := (6 : UInt32).toNat) (each := ((6 : UInt32).toNat - 2) / 2) (key := [107]) rfl rfl).2.2.1) rfl ?_)
  refine WL.op rfl rfl (op_move rfl ?_)
  refine WL.yes rfl rfl rfl (decide_eq_true (by rw [(al44 (n := (6 : UInt32).toNat) (each := ((6 : UInt32).toNat - 2) / 2) (key := [107]) rfl rfl).2.2.2.1])) rfl (op_move rfl ?_)
  refine WL.yes rfl rfl rfl (decide_eq_true (by rw [(al44 (n := (6 : UInt32).toNat) (each := ((6 : UInt32).toNat - 2) / 2) (key := [107]) rfl rfl).2.2.2.1])) rfl (op_eqlStr rfl rfl ?_)
  refine WL.op rfl rfl (op_pickT rfl (decide_eq_true (by rw [(al44 (n := (6 : UInt32).toNat) (each := ((6 : UInt32).toNat - 2) / 2) (key := [107]) rfl rfl).2.2.2.1])) rfl ?_)
  refine WL.op rfl rfl (op_move rfl ?_)
  refine WL.yes rfl rfl rfl (decide_eq_true (by rw [(al44 (n := (6 : UInt32).toNat) (each := ((6 : UInt32).toNat - 2) / 2) (key := [107]) rfl rfl).2.2.2.1])) rfl (op_move rfl ?_)
  refine WL.op rfl rfl (op_pickT rfl (decide_eq_true (by rw [(al44 (n := (6 : UInt32).toNat) (each := ((6 : UInt32).toNat - 2) / 2) (key := [107]) rfl rfl).2.2.2.1])) rfl ?_)
  refine WL.op rfl rfl (op_move rfl ?_)
  refine WL.yes rfl rfl rfl (by rw [(al44 (n := (6 : UInt32).toNat) (each := ((6 : UInt32).toNat - 2) / 2) (key := [107]) rfl rfl).2.2.2.1]) rfl (op_move rfl ?_)
  refine WL.yes rfl rfl rfl (by rw [(al44 (n := (6 : UInt32).toNat) (each := ((6 : UInt32).toNat - 2) / 2) (key := [107]) rfl rfl).2.2.2.1]) rfl (op_eqlN (b := 0) rfl rfl ?_)
  refine WL.op rfl rfl (op_pickT rfl (by rw [(al44 (n := (6 : UInt32).toNat) (each := ((6 : UInt32).toNat - 2) / 2) (key := [107]) rfl rfl).2.2.2.1]) rfl ?_)
  refine WL.op rfl rfl (op_move rfl ?_)
  refine WL.yes rfl rfl rfl (decide_eq_true (al44 (n := (6 : UInt32).toNat) (each := ((6 : UInt32).toNat - 2) / 2) (key := [107]) rfl rfl).2.2.2.2.1) rfl (op_move rfl ?_)
  refine WL.yes rfl rfl rfl (decide_eq_true (al44 (n := (6 : UInt32).toNat) (each := ((6 : UInt32).toNat - 2) / 2) (key := [107]) rfl rfl).2.2.2.2.1) rfl (op_eqlU32 (b := 2) rfl rfl ?_)
  refine WL.op rfl rfl (op_pickT rfl (decide_eq_true (al44 (n := (6 : UInt32).toNat) (each := ((6 : UInt32).toNat - 2) / 2) (key := [107]) rfl rfl).2.2.2.2.1) rfl ?_)
  refine WL.op rfl rfl (op_move rfl ?_)
  refine WL.yes rfl rfl rfl (decide_eq_true (by rw [(al44 (n := (6 : UInt32).toNat) (each := ((6 : UInt32).toNat - 2) / 2) (key := [107]) rfl rfl).2.2.2.2.2])) rfl (op_move rfl ?_)
  refine WL.yes rfl rfl rfl (decide_eq_true (by rw [(al44 (n := (6 : UInt32).toNat) (each := ((6 : UInt32).toNat - 2) / 2) (key := [107]) rfl rfl).2.2.2.2.2])) rfl (op_eqlStr rfl rfl ?_)
  refine WL.op rfl rfl (op_pickT rfl (decide_eq_true (by rw [(al44 (n := (6 : UInt32).toNat) (each := ((6 : UInt32).toNat - 2) / 2) (key := [107]) rfl rfl).2.2.2.2.2])) rfl ?_)
  refine WL.op rfl rfl (op_move rfl ?_)
  refine WL.yes rfl rfl rfl (decide_eq_true (by rw [(al44 (n := (6 : UInt32).toNat) (each := ((6 : UInt32).toNat - 2) / 2) (key := [107]) rfl rfl).2.2.2.2.2])) rfl (op_move rfl ?_)
  refine WL.op rfl rfl (op_pickT rfl (decide_eq_true (by rw [(al44 (n := (6 : UInt32).toNat) (each := ((6 : UInt32).toNat - 2) / 2) (key := [107]) rfl rfl).2.2.2.2.2])) rfl ?_)
  refine WL.op rfl rfl (op_move rfl ?_)
  refine WL.yes rfl rfl rfl (by rw [(al44 (n := (6 : UInt32).toNat) (each := ((6 : UInt32).toNat - 2) / 2) (key := [107]) rfl rfl).2.2.2.2.2]) rfl (op_move rfl ?_)
  refine WL.yes rfl rfl rfl (by rw [(al44 (n := (6 : UInt32).toNat) (each := ((6 : UInt32).toNat - 2) / 2) (key := [107]) rfl rfl).2.2.2.2.2]) rfl (op_eqlN (b := 2) rfl rfl ?_)
  refine WL.op rfl rfl (op_pickT rfl (by rw [(al44 (n := (6 : UInt32).toNat) (each := ((6 : UInt32).toNat - 2) / 2) (key := [107]) rfl rfl).2.2.2.2.2]) rfl ?_)
  refine WL.op rfl rfl (op_assign rfl ?_)
  refine WL.nil ?_
  refine WQ.next ?_
  refine WC.ret ?_
  refine WQ.out (.tmp rfl .nil) ?_
  exact ⟨rfl, H11.fr⟩
set_option maxRecDepth 100000 in
theorem rhead_ok (r : Nat) (bv : Value) (key : List UInt8) (left : Int) (v : UInt32) (t : List UInt8) (w : World) (hR : cellsAt w r [bv, (str key), (vI left)]) (hk : key.length < 2 ^ 40) (ht : t.length < 2 ^ 32) :
    Calls Try.prog 15 #[(ptr r 0), (vU32 v), (str t)] w (fun e w' => e = .returned (str (hdrS key v t)) ∧ Fr [] w w') := by
  refine enter (args := [(ptr r 0), (vU32 v), (str t)]) Try.func15 rfl rfl ?_
  have H0 : Own [] w w [Ent.bo r [bv, (str key), (vI left)]] := ((Own.start w []).oldB hR)
  refine WC.seq ?_
  refine WC.region ?_
  refine WL.op rfl rfl (op_assign rfl ?_)
  refine WL.nil ?_
  refine WQ.next ?_
  refine WC.seq ?_
  refine WC.region ?_
  refine WL.op rfl rfl (op_move rfl ?_)
  refine WL.op rfl rfl (op_callF Fa.C52 rfl ((bytes_ok v 4 (by decide) _).mono (fun e w1 hq => ?_)))
  obtain ⟨rfl, hf1⟩ := hq
  refine ⟨_, rfl, ?_⟩
  have H1 := H0.fr' hf1
  refine WL.op rfl rfl (op_move rfl ?_)
  refine WL.op rfl rfl (op_lenStr Try.underlying9 rfl ?_)
  refine WL.op rfl rfl (op_convNU32 (hs := Try.underlying3) (hd := Try.underlying29) rfl ?_)
  refine WL.op rfl rfl (op_callF Fa.C52 rfl ((bytes_ok (UInt32.ofNat t.length) 4 (by decide) _).mono (fun e w2 hq => ?_)))
  obtain ⟨rfl, hf2⟩ := hq
  refine ⟨_, rfl, ?_⟩
  have H2 := H1.fr' hf2
  refine WL.op rfl rfl (op_addStr rfl rfl (by simp only [List.length_append, rB_length, mac_length, List.length_cons, List.length_nil, List.length_replicate] <;> omega) ?_)
  refine WL.op rfl rfl (op_assign rfl ?_)
  refine WL.nil ?_
  refine WQ.next ?_
  refine WC.seq ?_
  refine WC.region ?_
  refine WL.op rfl rfl (op_move rfl ?_)
  refine WL.op rfl rfl (op_addStr rfl rfl (by simp only [List.length_append, rB_length, mac_length, List.length_cons, List.length_nil, List.length_replicate] <;> omega) ?_)
  refine WL.op rfl rfl (op_move rfl ?_)
  refine WL.op rfl rfl (op_nilCheck rfl ?_)
  refine WL.op rfl rfl (op_fieldAddr rfl Fa.F43_1 ?_)
  refine WL.op rfl rfl (op_load rfl (H2.cellO (i := 0) rfl rfl) Try.underlying9 rfl ?_)
  refine WL.op rfl rfl (op_move rfl ?_)
  refine WL.op rfl rfl (op_move rfl ?_)
  refine WL.op rfl rfl (op_addStr rfl rfl (by simp only [List.length_append, rB_length, mac_length, List.length_cons, List.length_nil, List.length_replicate] <;> omega) ?_)
  refine WL.op rfl rfl (op_callF Fa.C53 rfl ((rmac_ok key (((rB v 4) ++ (rB (UInt32.ofNat t.length) 4)) ++ t) _ hk (by simp only [List.length_append, rB_length, mac_length, List.length_cons, List.length_nil] <;> omega)).mono (fun e w3 hq => ?_)))
  obtain ⟨rfl, hf3⟩ := hq
  refine ⟨_, rfl, ?_⟩
  have H3 := H2.fr' hf3
  refine WL.op rfl rfl (op_addStr rfl rfl (by simp only [List.length_append, rB_length, mac_length, List.length_cons, List.length_nil, List.length_replicate] <;> omega) ?_)
  refine WL.op rfl rfl (op_assign rfl ?_)
  refine WL.nil ?_
  refine WQ.next ?_
  refine WC.seq ?_
  refine WC.region ?_
  refine WL.op rfl rfl (op_move rfl ?_)
  refine WL.op rfl rfl (op_move rfl ?_)
  refine WL.op rfl rfl (op_lenStr Try.underlying9 rfl ?_)
  refine WL.op rfl rfl (op_subI (a := ((64 : Nat) : Int)) (b := (((([65, 83, 76, 49] ++ ((rB v 4) ++ (rB (UInt32.ofNat t.length) 4))) ++ (mac key (((rB v 4) ++ (rB (UInt32.ofNat t.length) 4)) ++ t))).length : Nat) : Int)) rfl rfl (by rw [rhead_len]; omega) ?_)
  rw [rhead_len]
  refine WL.op rfl rfl (op_makeSliceM (f := vU8) (c := 0) H3 Try.underlying106 Fa.I5 rfl rfl (by omega) (by omega) (fun b4 w4 H4 => ?_))
  refine WL.op rfl rfl (op_bytesStr (l := (List.replicate 20 0)) Try.underlying106 Try.underlying5 Try.underlying9 rfl (H4.arrR (i := 1) rfl) rfl ?_)
  refine WL.op rfl rfl (op_addStr rfl rfl (by simp only [List.length_append, rB_length, mac_length, List.length_cons, List.length_nil, List.length_replicate] <;> omega) ?_)
  refine WL.op rfl rfl (op_assign rfl ?_)
  refine WL.nil ?_
  refine WQ.next ?_
  refine WC.ret ?_
  refine WQ.out (.tmp rfl .nil) ?_
  exact ⟨by rw [← rhead_eq]; rfl, H4.fr⟩
end Go.Proofs.Ytbjhccnffacbcaa
/-! from WSlot9 -/
namespace Go.Proofs.Ytbjhccnffacbcaa
open Go.Owl Go.Spec
set_option maxHeartbeats 4000000 in
set_option maxRecDepth 100000 in
theorem slotsKeys_ok (one two text : List UInt8) (version : UInt32) (w : World) (h1 : one.length ≤ 140737488351232) (h2 : two.length ≤ 140737488351232) (h3 : text.length ≤ 140737488351232) :
    Calls Try.prog 4 #[(str one), (str two), (str text), (vU32 version)] w (fun e w' => e = .returned (.bool true) ∧ Fr [] w w') := by
  refine enter (args := [(str one), (str two), (str text), (vU32 version)]) Try.func4 rfl rfl ?_
  have H0 : Own [] w w [] := Own.start w []
  refine WC.seq ?_
  refine WC.region ?_
  refine WL.op rfl rfl (op_assign rfl ?_)
  refine WL.nil ?_
  refine WQ.next ?_
  refine WC.seq ?_
  refine WC.seq ?_
  refine WC.region ?_
  refine WL.op rfl rfl (op_move rfl ?_)
  refine WL.op rfl rfl (op_lenStr Try.underlying9 rfl ?_)
  refine WL.op rfl rfl (op_move rfl ?_)
  refine WL.op rfl rfl (op_lenStr Try.underlying9 rfl ?_)
  refine WL.op rfl rfl (op_addN rfl rfl (by omega) ?_)
  refine WL.op rfl rfl (op_gtrN (b := 300) rfl rfl ?_)
  refine WL.op rfl rfl (op_move rfl ?_)
  refine WL.split (t := 24) rfl (fun (hb1 : (decide ((one.length + two.length) > 300)) = true) => ?_) (fun (hb1 : (decide ((one.length + two.length) > 300)) = false) => ?_)
  ·
    have hc1 := of_decide_eq_true hb1
    refine WL.no rfl rfl rfl hb1 rfl ?_
    refine WL.no rfl rfl rfl hb1 rfl ?_
    refine WL.no rfl rfl rfl hb1 rfl ?_
    refine WL.op rfl rfl (op_pickT rfl hb1 rfl ?_)
    refine WL.op rfl rfl (op_move rfl ?_)
    refine WL.no rfl rfl rfl rfl rfl ?_
    refine WL.no rfl rfl rfl rfl rfl ?_
    refine WL.op rfl rfl (op_pickT rfl rfl rfl ?_)
    refine WL.nil ?_
    refine WQ.next ?_
    refine WC.yes rfl rfl ?_
    refine WC.seq ?_
    refine WC.region ?_
    refine WL.op rfl rfl (op_callF Fa.C9 rfl ((alive44_ok _).mono (fun e w2 hq => ?_)))
    obtain ⟨rfl, hf2⟩ := hq
    refine ⟨_, rfl, ?_⟩
    have H2 := H0.fr' hf2
    refine WL.op rfl rfl (op_assign rfl ?_)
    refine WL.nil ?_
    refine WQ.next ?_
    refine WC.ret ?_
    refine WQ.thenRet ?_
    refine WQ.out (.tmp rfl .nil) ?_
    exact ⟨rfl, H2.fr⟩
  ·
    have hc1 := of_decide_eq_false hb1
    refine WL.yes rfl rfl rfl hb1 rfl (op_move rfl ?_)
    refine WL.yes rfl rfl rfl hb1 rfl (op_lenStr Try.underlying9 rfl ?_)
    refine WL.yes rfl rfl rfl hb1 rfl (op_gtrN (b := 128) rfl rfl ?_)
    refine WL.op rfl rfl (op_pickF rfl hb1 rfl ?_)
    refine WL.op rfl rfl (op_move rfl ?_)
    refine WL.split (t := 29) rfl (fun (hb3 : (decide (text.length > 128)) = true) => ?_) (fun (hb3 : (decide (text.length > 128)) = false) => ?_)
    ·
      have hc3 := of_decide_eq_true hb3
      refine WL.no rfl rfl rfl hb3 rfl ?_
      refine WL.no rfl rfl rfl hb3 rfl ?_
      refine WL.op rfl rfl (op_pickT rfl hb3 rfl ?_)
      refine WL.nil ?_
      refine WQ.next ?_
      refine WC.yes rfl rfl ?_
      refine WC.seq ?_
      refine WC.region ?_
      refine WL.op rfl rfl (op_callF Fa.C9 rfl ((alive44_ok _).mono (fun e w4 hq => ?_)))
      obtain ⟨rfl, hf4⟩ := hq
      refine ⟨_, rfl, ?_⟩
      have H4 := H0.fr' hf4
      refine WL.op rfl rfl (op_assign rfl ?_)
      refine WL.nil ?_
      refine WQ.next ?_
      refine WC.ret ?_
      refine WQ.thenRet ?_
      refine WQ.out (.tmp rfl .nil) ?_
      exact ⟨rfl, H4.fr⟩
    ·
      have hc3 := of_decide_eq_false hb3
      refine WL.yes rfl rfl rfl hb3 rfl (op_move rfl ?_)
      refine WL.yes rfl rfl rfl hb3 rfl (op_eqlU32 (b := 0) rfl rfl ?_)
      refine WL.op rfl rfl (op_pickF rfl hb3 rfl ?_)
      refine WL.nil ?_
      refine WQ.next ?_
      refine WC.cond rfl (fun (hb5 : (decide (version = (0 : UInt32))) = true) => ?_) (fun (hb5 : (decide (version = (0 : UInt32))) = false) => ?_)
      ·
        have hc5 := of_decide_eq_true hb5
        refine WC.seq ?_
        refine WC.region ?_
        refine WL.op rfl rfl (op_callF Fa.C9 rfl ((alive44_ok _).mono (fun e w6 hq => ?_)))
        obtain ⟨rfl, hf6⟩ := hq
        refine ⟨_, rfl, ?_⟩
        have H6 := H0.fr' hf6
        refine WL.op rfl rfl (op_assign rfl ?_)
        refine WL.nil ?_
        refine WQ.next ?_
        refine WC.ret ?_
        refine WQ.thenRet ?_
        refine WQ.out (.tmp rfl .nil) ?_
        exact ⟨rfl, H6.fr⟩
      ·
        have hc5 := of_decide_eq_false hb5
        have hv : ¬ version = 0 := of_decide_eq_false hb5
        have hf6 : Fit (List.replicate (6 : UInt32).toNat (List.replicate 64 0)) 2 := (SOK.new 6).fit (by decide) (by decide) (by decide)
        have hz6 : ∀ j, j < 6 → ((List.replicate (6 : UInt32).toNat (List.replicate 64 0))).getD j [] = pad64 [] := fun j hj => by rw [List.getD, List.getElem?_replicate, if_pos (show j < (6 : UInt32).toNat from hj)]; rfl
        refine WC.skip ?_
        refine WQ.next ?_
        refine WC.seq ?_
        refine WC.region ?_
        refine WL.op rfl rfl (op_move rfl ?_)
        refine WL.op rfl rfl (op_callF Fa.C10 rfl ((made_ok 6 one _ (by decide) (by decide)).mono (fun e w7 hq => ?_)))
        obtain ⟨s7, x7, k7, bv7, e07, e17, xv7, cv7, nv7, rfl, hf07, hf17, hf27, hf37, hq7⟩ := hq
        refine ⟨_, rfl, ?_⟩
        have H7 : Own [] w w7 [.blk s7 [(ptr x7 0), (vU32 1), (str one), (vN (((6 : UInt32).toNat - 2) / 2)), (vI (-1))] 98, Ent.bo x7 [(ptr k7 0)], Ent.bo k7 [(vU32 40), xv7, cv7, nv7, bv7], Ent.ar bv7 1 2 [e07, e17], .row e17 9 1 (6 : UInt32).toNat (List.map str (List.replicate (6 : UInt32).toNat (List.replicate 64 0))), Ent.ar e07 1 (1 : UInt32).toNat (List.map str (List.replicate (1 : UInt32).toNat (List.replicate 64 0)))] := H0.splice [] [] [.blk s7 [(ptr x7 0), (vU32 1), (str one), (vN (((6 : UInt32).toNat - 2) / 2)), (vI (-1))] 98, Ent.bo x7 [(ptr k7 0)], Ent.bo k7 [(vU32 40), xv7, cv7, nv7, bv7], Ent.ar bv7 1 2 [e07, e17], .row e17 9 1 (6 : UInt32).toNat (List.map str (List.replicate (6 : UInt32).toNat (List.replicate 64 0))), Ent.ar e07 1 (1 : UInt32).toNat (List.map str (List.replicate (1 : UInt32).toNat (List.replicate 64 0)))] rfl rfl hq7 (Fits.solid True.intro (Fits.fresh hf37 (Fits.fresh hf07 (Fits.fresh hf17 (Fits.solid True.intro (Fits.fresh hf27 Fits.nil))))))
        refine WL.op rfl rfl (op_move rfl ?_)
        refine WL.op rfl rfl (op_extract rfl rfl ?_)
        refine WL.op rfl rfl (op_extract rfl rfl ?_)
        refine WL.op rfl rfl (op_assign rfl ?_)
        refine WL.op rfl rfl (op_assign rfl ?_)
        refine WL.nil ?_
        refine WQ.next ?_
        refine WC.seq ?_
        refine WC.seq ?_
        refine WC.region ?_
        refine WL.op rfl rfl (op_move rfl ?_)
        refine WL.op rfl rfl (op_eqlPN Fa.PT25 rfl rfl ?_)
        refine WL.op rfl rfl (op_move rfl ?_)
        refine WL.yes rfl rfl rfl rfl rfl (op_move rfl ?_)
        refine WL.yes rfl rfl rfl rfl rfl (op_eqlPN Fa.PT26 rfl rfl ?_)
        refine WL.op rfl rfl (op_pickF rfl rfl rfl ?_)
        refine WL.op rfl rfl (op_move rfl ?_)
        refine WL.yes rfl rfl rfl rfl rfl (op_move rfl ?_)
        refine WL.yes rfl rfl rfl rfl rfl (op_move rfl ?_)
        refine WL.yes rfl rfl rfl rfl rfl (op_move rfl ?_)
        refine WL.yes rfl rfl rfl rfl rfl (op_callF Fa.C13 rfl ((update_ok s7 1 one (((6 : UInt32).toNat - 2) / 2) (-1) x7 k7 bv7 e17 xv7 cv7 nv7 40 2 ((6 : UInt32).toNat) ([e07, e17]) (List.replicate (6 : UInt32).toNat (List.replicate 64 0)) version text _ _ (H7.part [0, 1, 2, 3, 4] rfl rfl) (by decide) rfl ((SOK.new (6 : UInt32).toNat)).len ((SOK.new (6 : UInt32).toNat)).all (by decide) (by decide) (by omega) (by decide) (by decide) (by omega)).mono (fun e w8 hq => ?_)))
        obtain ⟨rfl, hq8⟩ := hq
        refine ⟨_, rfl, ?_⟩
        have H8 : Own [] w w8 [.blk s7 [(ptr x7 0), (vU32 1), (str one), (vN (((6 : UInt32).toNat - 2) / 2)), (vI (updE (Sst.mk (List.replicate (6 : UInt32).toNat (List.replicate 64 0)) (-1)) (((6 : UInt32).toNat - 2) / 2) one version text).1.left)] 98, Ent.bo x7 [(ptr k7 0)], Ent.bo k7 [(vU32 40), xv7, cv7, nv7, bv7], Ent.ar bv7 1 2 [e07, e17], .row e17 9 1 (6 : UInt32).toNat (List.map str (updE (Sst.mk (List.replicate (6 : UInt32).toNat (List.replicate 64 0)) (-1)) (((6 : UInt32).toNat - 2) / 2) one version text).1.B), Ent.ar e07 1 (1 : UInt32).toNat (List.map str (List.replicate (1 : UInt32).toNat (List.replicate 64 0)))] := H7.splice [0, 1, 2, 3, 4] [.blk s7 [(ptr x7 0), (vU32 1), (str one), (vN (((6 : UInt32).toNat - 2) / 2)), (vI (updE (Sst.mk (List.replicate (6 : UInt32).toNat (List.replicate 64 0)) (-1)) (((6 : UInt32).toNat - 2) / 2) one version text).1.left)] 98, Ent.bo x7 [(ptr k7 0)], Ent.bo k7 [(vU32 40), xv7, cv7, nv7, bv7], Ent.ar bv7 1 2 [e07, e17], .row e17 9 1 (6 : UInt32).toNat (List.map str (updE (Sst.mk (List.replicate (6 : UInt32).toNat (List.replicate 64 0)) (-1)) (((6 : UInt32).toNat - 2) / 2) one version text).1.B)] [] rfl rfl hq8 (Fits.solid True.intro (Fits.same (j := 1) rfl (Fits.same (j := 2) rfl (Fits.same (j := 3) rfl (Fits.solid True.intro Fits.nil)))))
        refine WL.yes rfl rfl rfl rfl rfl (op_neqN (b := 0) rfl rfl ?_)
        refine WL.op rfl rfl (op_pickF rfl rfl rfl ?_)
        refine WL.nil ?_
        refine WQ.next ?_
        refine WC.no rfl (decide_eq_false (fun h => h (keys_cur (one := one) (two := two) (t := text) (v := version) hf6 hz6 (by omega) hv).1)) ?_
        refine WC.skip ?_
        refine WQ.next ?_
        refine WC.seq ?_
        refine WC.region ?_
        refine WL.op rfl rfl (op_move rfl ?_)
        refine WL.op rfl rfl (op_move rfl ?_)
        refine WL.op rfl rfl (op_callF Fa.C14 rfl ((new44_ok x7 k7 bv7 e17 xv7 cv7 nv7 40 2 ((6 : UInt32).toNat) ([e07, e17]) ((updE (Sst.mk (List.replicate (6 : UInt32).toNat (List.replicate 64 0)) (-1)) (((6 : UInt32).toNat - 2) / 2) one version text).1.B) 1 two _ (H8.cellsAtO (i := 1) rfl) (H8.cellsAtO (i := 2) rfl) (H8.arrO (i := 3) rfl) (H8.arrR (i := 4) rfl) (by decide) rfl (by decide) (by decide)).mono (fun e w9 hq => ?_)))
        obtain ⟨s9, rfl, hq9⟩ := hq
        refine ⟨_, rfl, ?_⟩
        have H9 : Own [] w w9 [.blk s7 [(ptr x7 0), (vU32 1), (str one), (vN (((6 : UInt32).toNat - 2) / 2)), (vI (updE (Sst.mk (List.replicate (6 : UInt32).toNat (List.replicate 64 0)) (-1)) (((6 : UInt32).toNat - 2) / 2) one version text).1.left)] 98, Ent.bo x7 [(ptr k7 0)], Ent.bo k7 [(vU32 40), xv7, cv7, nv7, bv7], Ent.ar bv7 1 2 [e07, e17], .row e17 9 1 (6 : UInt32).toNat (List.map str (updE (Sst.mk (List.replicate (6 : UInt32).toNat (List.replicate 64 0)) (-1)) (((6 : UInt32).toNat - 2) / 2) one version text).1.B), Ent.ar e07 1 (1 : UInt32).toNat (List.map str (List.replicate (1 : UInt32).toNat (List.replicate 64 0))), .blk s9 [(ptr x7 0), (vU32 1), (str two), (vN ((((6 : UInt32).toNat) - 2) / 2)), (vI (-1))] 98] := H8.splice [] [] [.blk s9 [(ptr x7 0), (vU32 1), (str two), (vN ((((6 : UInt32).toNat) - 2) / 2)), (vI (-1))] 98] rfl rfl hq9 (Fits.solid True.intro Fits.nil)
        refine WL.op rfl rfl (op_move rfl ?_)
        refine WL.op rfl rfl (op_extract rfl rfl ?_)
        refine WL.op rfl rfl (op_extract rfl rfl ?_)
        refine WL.op rfl rfl (op_assign rfl ?_)
        refine WL.op rfl rfl (op_assign rfl ?_)
        refine WL.nil ?_
        refine WQ.next ?_
        refine WC.seq ?_
        refine WC.seq ?_
        refine WC.region ?_
        refine WL.op rfl rfl (op_move rfl ?_)
        refine WL.op rfl rfl (op_neqN (b := 0) rfl rfl ?_)
        refine WL.op rfl rfl (op_move rfl ?_)
        refine WL.yes rfl rfl rfl (by decide) rfl (op_move rfl ?_)
        refine WL.yes rfl rfl rfl (by decide) rfl (op_eqlPN Fa.PT26 rfl rfl ?_)
        refine WL.op rfl rfl (op_pickF rfl (by decide) rfl ?_)
        refine WL.nil ?_
        refine WQ.next ?_
        refine WC.no rfl rfl ?_
        refine WC.skip ?_
        refine WQ.next ?_
        refine WC.seq ?_
        refine WC.region ?_
        refine WL.op rfl rfl (op_move rfl ?_)
        refine WL.op rfl rfl (op_build (cs := [_, _, _]) Fa.I43 Fa.PL43 rfl rfl ?_)
        refine WL.op rfl rfl (op_box H9 rfl rfl (fun b10 w10 H10 => ?_))
        refine WL.op rfl rfl (op_move rfl ?_)
        refine WL.op rfl rfl (op_build (cs := [_, _, _]) Fa.I43 Fa.PL43 rfl rfl ?_)
        refine WL.op rfl rfl (op_box H10 rfl rfl (fun b11 w11 H11 => ?_))
        refine WL.op rfl rfl (op_assign rfl ?_)
        refine WL.op rfl rfl (op_assign rfl ?_)
        refine WL.nil ?_
        refine WQ.next ?_
        refine WC.seq ?_
        refine WC.region ?_
        refine WL.op rfl rfl (op_move rfl ?_)
        refine WL.op rfl rfl (op_callF Fa.C11 rfl ((current_ok s9 1 two ((((6 : UInt32).toNat) - 2) / 2) (-1) x7 k7 bv7 e17 xv7 cv7 nv7 40 2 ((6 : UInt32).toNat) ([e07, e17]) ((updE (Sst.mk (List.replicate (6 : UInt32).toNat (List.replicate 64 0)) (-1)) (((6 : UInt32).toNat - 2) / 2) one version text).1.B) _ (H11.cellsAt (i := 6) rfl) (H11.cellsAtO (i := 1) rfl) (H11.cellsAtO (i := 2) rfl) (H11.arrO (i := 3) rfl) (H11.arrR (i := 4) rfl) (by decide) rfl ((SOK.upd (SOK.new (6 : UInt32).toNat))).len ((SOK.upd (SOK.new (6 : UInt32).toNat))).all (by decide) (by decide) (by omega)).mono (fun e w12 hq => ?_)))
        obtain ⟨rfl, hf12⟩ := hq
        refine ⟨_, rfl, ?_⟩
        have H12 := H11.fr' hf12
        refine WL.op rfl rfl (op_move rfl ?_)
        refine WL.op rfl rfl (op_extract rfl rfl ?_)
        refine WL.op rfl rfl (op_extract rfl rfl ?_)
        refine WL.op rfl rfl (op_extract rfl rfl ?_)
        refine WL.op rfl rfl (op_assign rfl ?_)
        refine WL.op rfl rfl (op_assign rfl ?_)
        refine WL.op rfl rfl (op_assign rfl ?_)
        refine WL.nil ?_
        refine WQ.next ?_
        refine WC.seq ?_
        refine WC.region ?_
        refine WL.op rfl rfl (op_move rfl ?_)
        refine WL.op rfl rfl (op_move rfl ?_)
        refine WL.op rfl rfl (op_move rfl ?_)
        refine WL.op rfl rfl (op_move rfl ?_)
        refine WL.op rfl rfl (op_callF Fa.C15 rfl ((rhead_ok b10 (.slice none 0 0) one (0 : Int) version text _ (H12.cellsAt (i := 7) rfl) (by omega) (by omega)).mono (fun e w13 hq => ?_)))
        obtain ⟨rfl, hf13⟩ := hq
        refine ⟨_, rfl, ?_⟩
        have H13 := H12.fr' hf13
        refine WL.op rfl rfl (op_move rfl ?_)
        refine WL.op rfl rfl (op_move rfl ?_)
        refine WL.op rfl rfl (op_move rfl ?_)
        refine WL.op rfl rfl (op_callF Fa.C15 rfl ((rhead_ok b11 (.slice none 0 0) two (0 : Int) version text _ (H13.cellsAt (i := 8) rfl) (by omega) (by omega)).mono (fun e w14 hq => ?_)))
        obtain ⟨rfl, hf14⟩ := hq
        refine ⟨_, rfl, ?_⟩
        have H14 := H13.fr' hf14
        refine WL.op rfl rfl (op_eqlStr rfl rfl ?_)
        refine WL.op rfl rfl (op_eqlB Try.underlying4 rfl rfl ?_)
        refine WL.op rfl rfl (op_move rfl ?_)
        refine WL.yes rfl rfl rfl (by rw [show (curS (updE (Sst.mk (List.replicate (6 : UInt32).toNat (List.replicate 64 0)) (-1)) (((6 : UInt32).toNat - 2) / 2) one version text).1.B (((6 : UInt32).toNat - 2) / 2) two).is = _ from (keys_cur (one := one) (two := two) (t := text) (v := version) hf6 hz6 (by omega) hv).2.1]; exact beq_self_eq_true _) rfl (op_move rfl ?_)
        refine WL.yes rfl rfl rfl (by rw [show (curS (updE (Sst.mk (List.replicate (6 : UInt32).toNat (List.replicate 64 0)) (-1)) (((6 : UInt32).toNat - 2) / 2) one version text).1.B (((6 : UInt32).toNat - 2) / 2) two).is = _ from (keys_cur (one := one) (two := two) (t := text) (v := version) hf6 hz6 (by omega) hv).2.1]; exact beq_self_eq_true _) rfl (op_not rfl ?_)
        refine WL.yes rfl rfl rfl (by rw [show (curS (updE (Sst.mk (List.replicate (6 : UInt32).toNat (List.replicate 64 0)) (-1)) (((6 : UInt32).toNat - 2) / 2) one version text).1.B (((6 : UInt32).toNat - 2) / 2) two).is = _ from (keys_cur (one := one) (two := two) (t := text) (v := version) hf6 hz6 (by omega) hv).2.1]; exact beq_self_eq_true _) rfl (op_move rfl ?_)
        refine WL.split (t := 90) rfl (fun (hb15 : (!(curS ((updE (Sst.mk (List.replicate (6 : UInt32).toNat (List.replicate 64 0)) (-1)) (((6 : UInt32).toNat - 2) / 2) one version text).1.B) ((((6 : UInt32).toNat) - 2) / 2) two).is) = true) => ?_) (fun (hb15 : (!(curS ((updE (Sst.mk (List.replicate (6 : UInt32).toNat (List.replicate 64 0)) (-1)) (((6 : UInt32).toNat - 2) / 2) one version text).1.B) ((((6 : UInt32).toNat) - 2) / 2) two).is) = false) => ?_)
        ·
          have hn15 := (Bool.not_eq_true' _).mp hb15
          refine WL.no rfl rfl rfl hb15 rfl ?_
          refine WL.no rfl rfl rfl hb15 rfl ?_
          refine WL.no rfl rfl rfl hb15 rfl ?_
          refine WL.no rfl rfl rfl hb15 rfl ?_
          refine WL.non rfl rfl rfl rfl ?_
          refine WL.non rfl rfl rfl rfl ?_
          refine WL.non rfl rfl rfl rfl ?_
          refine WL.no rfl rfl rfl hb15 rfl ?_
          refine WL.yes rfl rfl rfl (by rw [show (curS (updE (Sst.mk (List.replicate (6 : UInt32).toNat (List.replicate 64 0)) (-1)) (((6 : UInt32).toNat - 2) / 2) one version text).1.B (((6 : UInt32).toNat - 2) / 2) two).is = _ from (keys_cur (one := one) (two := two) (t := text) (v := version) hf6 hz6 (by omega) hv).2.1]; exact beq_self_eq_true _) rfl (op_pickT rfl hb15 rfl ?_)
          refine WL.op rfl rfl (op_pickT rfl (by rw [show (curS (updE (Sst.mk (List.replicate (6 : UInt32).toNat (List.replicate 64 0)) (-1)) (((6 : UInt32).toNat - 2) / 2) one version text).1.B (((6 : UInt32).toNat - 2) / 2) two).is = _ from (keys_cur (one := one) (two := two) (t := text) (v := version) hf6 hz6 (by omega) hv).2.1]; exact beq_self_eq_true _) rfl ?_)
          refine WL.op rfl rfl (op_move rfl ?_)
          refine WL.yes rfl rfl rfl rfl rfl (op_callF Fa.C9 rfl ((alive44_ok _).mono (fun e w16 hq => ?_)))
          obtain ⟨rfl, hf16⟩ := hq
          refine ⟨_, rfl, ?_⟩
          have H16 := H14.fr' hf16
          refine WL.op rfl rfl (op_pickT rfl rfl rfl ?_)
          refine WL.op rfl rfl (op_assign rfl ?_)
          refine WL.nil ?_
          refine WQ.next ?_
          refine WC.ret ?_
          refine WQ.out (.tmp rfl .nil) ?_
          exact ⟨rfl, H16.fr⟩
        ·
          have hn15 := (Bool.not_eq_false' _).mp hb15
          refine WL.yes rfl rfl rfl hb15 rfl (op_move rfl ?_)
          refine WL.yes rfl rfl rfl hb15 rfl (op_move rfl ?_)
          refine WL.yes rfl rfl rfl hb15 rfl (op_eqlU32 rfl rfl ?_)
          refine WL.yes rfl rfl rfl hb15 rfl (op_move rfl ?_)
          refine WL.yes rfl rfl rfl (decide_eq_true (congrArg Sl.v ((keys_cur (one := one) (two := two) (t := text) (v := version) hf6 hz6 (by omega) hv).2.2 ((Bool.not_eq_false' _).mp hb15)))) rfl (op_move rfl ?_)
          refine WL.yes rfl rfl rfl (decide_eq_true (congrArg Sl.v ((keys_cur (one := one) (two := two) (t := text) (v := version) hf6 hz6 (by omega) hv).2.2 ((Bool.not_eq_false' _).mp hb15)))) rfl (op_move rfl ?_)
          refine WL.yes rfl rfl rfl (decide_eq_true (congrArg Sl.v ((keys_cur (one := one) (two := two) (t := text) (v := version) hf6 hz6 (by omega) hv).2.2 ((Bool.not_eq_false' _).mp hb15)))) rfl (op_eqlStr rfl rfl ?_)
          refine WL.yes rfl rfl rfl hb15 rfl (op_pickT rfl (decide_eq_true (congrArg Sl.v ((keys_cur (one := one) (two := two) (t := text) (v := version) hf6 hz6 (by omega) hv).2.2 ((Bool.not_eq_false' _).mp hb15)))) rfl ?_)
          refine WL.yes rfl rfl rfl (by rw [show (curS (updE (Sst.mk (List.replicate (6 : UInt32).toNat (List.replicate 64 0)) (-1)) (((6 : UInt32).toNat - 2) / 2) one version text).1.B (((6 : UInt32).toNat - 2) / 2) two).is = _ from (keys_cur (one := one) (two := two) (t := text) (v := version) hf6 hz6 (by omega) hv).2.1]; exact beq_self_eq_true _) rfl (op_pickF rfl hb15 rfl ?_)
          refine WL.op rfl rfl (op_pickT rfl (by rw [show (curS (updE (Sst.mk (List.replicate (6 : UInt32).toNat (List.replicate 64 0)) (-1)) (((6 : UInt32).toNat - 2) / 2) one version text).1.B (((6 : UInt32).toNat - 2) / 2) two).is = _ from (keys_cur (one := one) (two := two) (t := text) (v := version) hf6 hz6 (by omega) hv).2.1]; exact beq_self_eq_true _) rfl ?_)
          refine WL.op rfl rfl (op_move rfl ?_)
          refine WL.yes rfl rfl rfl (decide_eq_true (congrArg Sl.t ((keys_cur (one := one) (two := two) (t := text) (v := version) hf6 hz6 (by omega) hv).2.2 ((Bool.not_eq_false' _).mp hb15)))) rfl (op_callF Fa.C9 rfl ((alive44_ok _).mono (fun e w17 hq => ?_)))
          obtain ⟨rfl, hf17⟩ := hq
          refine ⟨_, rfl, ?_⟩
          have H17 := H14.fr' hf17
          refine WL.op rfl rfl (op_pickT rfl (decide_eq_true (congrArg Sl.t ((keys_cur (one := one) (two := two) (t := text) (v := version) hf6 hz6 (by omega) hv).2.2 ((Bool.not_eq_false' _).mp hb15)))) rfl ?_)
          refine WL.op rfl rfl (op_assign rfl ?_)
          refine WL.nil ?_
          refine WQ.next ?_
          refine WC.ret ?_
          refine WQ.out (.tmp rfl .nil) ?_
          exact ⟨rfl, H17.fr⟩
end Go.Proofs.Ytbjhccnffacbcaa
