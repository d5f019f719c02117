/- General lemmas and walks: WSlot8, WSlot9, WSlot10. No condition but what each theorem names. -/
import Derived.Test.YtbjhccnffacbcaaGreatQ9de1cf82
import Derived.Test.YtbjhccnffacbcaaGreatQaa23668f
import Derived.Test.YtbjhccnffacbcaaGreatQ8b9fd1b2
/-! from WSlot8 -/
namespace Go.Proofs.YtbjhccnffacbcaaGreat
open Go.Owl Go.Spec
set_option maxRecDepth 100000 in
theorem made_ok (nb : UInt32) (key : List UInt8) (w : World) (h4 : 4 ≤ nb.toNat) (hm : nb.toNat ≤ 1024) :
    Calls Tryz.prog 20 #[(vU32 nb), (str key)] w (fun e w' => ∃ s x k bv e0 e1 xv cv nv, e = .returned (.tuple #[ptr x 0, ptr s 0]) ∧ (∀ b' ∈ [k], w.heap.size ≤ b') ∧ (∀ b' ∈ footA bv [e0, e1], w.heap.size ≤ b') ∧ (∀ b' ∈ footA e0 (List.map str (List.replicate (1 : UInt32).toNat (List.replicate 64 0))), w.heap.size ≤ b') ∧ (∀ b' ∈ [x], w.heap.size ≤ b') ∧ Own [] w w' [.blk s [(ptr x 0), (vU32 1), (str key), (vN ((nb.toNat - 2) / 2)), (vI (-1))] 95, Ent.bo x [(ptr k 0)], Ent.bo k [(vU32 40), xv, cv, nv, bv], Ent.ar bv 1 2 [e0, e1], .row e1 9 1 nb.toNat (List.map str (List.replicate nb.toNat (List.replicate 64 0))), Ent.ar e0 1 (1 : UInt32).toNat (List.map str (List.replicate (1 : UInt32).toNat (List.replicate 64 0)))]) := by
  refine enter (args := [(vU32 nb), (str key)]) Tryz.func20 rfl rfl ?_
  have H0 : Own [] w w [] := Own.start w []
  refine WC.seq ?_
  refine WC.region ?_
  refine WL.op rfl rfl (op_assign rfl ?_)
  refine WL.op rfl rfl (op_assign rfl ?_)
  refine WL.nil ?_
  refine WQ.next ?_
  refine WC.seq ?_
  refine WC.region ?_
  refine WL.op rfl rfl (op_move rfl ?_)
  refine WL.op rfl rfl (op_buildSlice (cs := [_, _]) H0 Tryz.underlying73 Fa.I22 rfl rfl rfl rfl (by decide) (by decide) (fun b1 w1 H1 => ?_))
  refine WL.op rfl rfl (op_build (cs := [_, _]) Fa.I75 Fa.PL75 rfl rfl ?_)
  refine WL.op rfl rfl (op_callF Fa.C37 rfl ((exoNew_ok 40 _ 1 nb _ (H1.arrR (i := 0) rfl) (hard_made hm)).mono (fun e w2 hq => ?_)))
  obtain ⟨x2, k2, bv2, e02, e12, xv2, cv2, nv2, rfl, hf02, hf12, hf22, hf32, hq2⟩ := hq
  refine ⟨_, rfl, ?_⟩
  have H2 : Own [] w w2 [.row (.slice (some ⟨b1, 0, none⟩) 2 2) 22 1 2 (List.map vU32 [1, nb]), Ent.bo x2 [(ptr k2 0)], Ent.bo k2 [(vU32 40), xv2, cv2, nv2, bv2], Ent.ar bv2 1 2 [e02, e12], .row e12 9 1 nb.toNat (List.map str (List.replicate nb.toNat (List.replicate 64 0))), Ent.ar e02 1 (1 : UInt32).toNat (List.map str (List.replicate (1 : UInt32).toNat (List.replicate 64 0)))] := H1.splice [] [] [Ent.bo x2 [(ptr k2 0)], Ent.bo k2 [(vU32 40), xv2, cv2, nv2, bv2], Ent.ar bv2 1 2 [e02, e12], .row e12 9 1 nb.toNat (List.map str (List.replicate nb.toNat (List.replicate 64 0))), Ent.ar e02 1 (1 : UInt32).toNat (List.map str (List.replicate (1 : UInt32).toNat (List.replicate 64 0)))] rfl rfl hq2 (Fits.fresh hf32 (Fits.fresh hf02 (Fits.fresh hf12 (Fits.solid True.intro (Fits.fresh hf22 Fits.nil)))))
  refine WL.op rfl rfl (op_move rfl ?_)
  refine WL.op rfl rfl (op_extract rfl rfl ?_)
  refine WL.op rfl rfl (op_extract rfl rfl ?_)
  refine WL.op rfl rfl (op_assign rfl ?_)
  refine WL.op rfl rfl (op_assign rfl ?_)
  refine WL.nil ?_
  refine WQ.next ?_
  refine WC.seq ?_
  refine WC.seq ?_
  refine WC.region ?_
  have hs : w.heap.size ≤ w1.heap.size := H1.fr.size
  refine WL.op rfl rfl (op_move rfl ?_)
  refine WL.op rfl rfl (op_neqN (b := 0) rfl rfl ?_)
  refine WL.op rfl rfl (op_move rfl ?_)
  refine WL.yes rfl rfl rfl (by decide) rfl (op_move rfl ?_)
  refine WL.yes rfl rfl rfl (by decide) rfl (op_eqlPN Fa.PT47 rfl rfl ?_)
  refine WL.op rfl rfl (op_pickF rfl (by decide) rfl ?_)
  refine WL.nil ?_
  refine WQ.next ?_
  refine WC.no rfl rfl ?_
  refine WC.skip ?_
  refine WQ.next ?_
  refine WC.seq ?_
  refine WC.region ?_
  refine WL.op rfl rfl (op_move rfl ?_)
  refine WL.op rfl rfl (op_move rfl ?_)
  refine WL.op rfl rfl (op_callF Fa.C11 rfl ((new44_ok x2 k2 bv2 e12 xv2 cv2 nv2 40 2 nb.toNat ([e02, e12]) (List.replicate nb.toNat (List.replicate 64 0)) 1 key _ (H2.cellsAtO (i := 1) rfl) (H2.cellsAtO (i := 2) rfl) (H2.arrO (i := 3) rfl) (H2.arrR (i := 4) rfl) (by decide) rfl (by omega) (by omega)).mono (fun e w3 hq => ?_)))
  obtain ⟨s3, rfl, hq3⟩ := hq
  refine ⟨_, rfl, ?_⟩
  have H3 : Own [] w w3 [.row (.slice (some ⟨b1, 0, none⟩) 2 2) 22 1 2 (List.map vU32 [1, nb]), Ent.bo x2 [(ptr k2 0)], Ent.bo k2 [(vU32 40), xv2, cv2, nv2, bv2], Ent.ar bv2 1 2 [e02, e12], .row e12 9 1 nb.toNat (List.map str (List.replicate nb.toNat (List.replicate 64 0))), Ent.ar e02 1 (1 : UInt32).toNat (List.map str (List.replicate (1 : UInt32).toNat (List.replicate 64 0))), .blk s3 [(ptr x2 0), (vU32 1), (str key), (vN ((nb.toNat - 2) / 2)), (vI (-1))] 95] := H2.splice [] [] [.blk s3 [(ptr x2 0), (vU32 1), (str key), (vN ((nb.toNat - 2) / 2)), (vI (-1))] 95] rfl rfl hq3 (Fits.solid True.intro Fits.nil)
  refine WL.op rfl rfl (op_move rfl ?_)
  refine WL.op rfl rfl (op_extract rfl rfl ?_)
  refine WL.op rfl rfl (op_extract rfl rfl ?_)
  refine WL.op rfl rfl (op_assign rfl ?_)
  refine WL.op rfl rfl (op_assign rfl ?_)
  refine WL.nil ?_
  refine WQ.next ?_
  refine WC.seq ?_
  refine WC.seq ?_
  refine WC.region ?_
  refine WL.op rfl rfl (op_move rfl ?_)
  refine WL.op rfl rfl (op_neqN (b := 0) rfl rfl ?_)
  refine WL.nil ?_
  refine WQ.next ?_
  refine WC.no rfl (by decide) ?_
  refine WC.skip ?_
  refine WQ.next ?_
  refine WC.seq ?_
  refine WC.region ?_
  refine WL.op rfl rfl (op_move rfl ?_)
  refine WL.op rfl rfl (op_move rfl ?_)
  refine WL.op rfl rfl (op_assign rfl ?_)
  refine WL.op rfl rfl (op_assign rfl ?_)
  refine WL.nil ?_
  refine WQ.next ?_
  refine WC.ret ?_
  refine WQ.out (.tmp rfl (.tmp rfl .nil)) ?_
  exact ⟨_, _, _, _, _, _, _, _, _, rfl, up hf02 hs, up hf12 hs, up hf22 hs, up hf32 hs, H3.sel [6, 1, 2, 3, 4, 5] rfl rfl⟩
set_option maxHeartbeats 4000000 in
set_option maxRecDepth 100000 in
theorem alive44_ok  (w : World) :
    Calls Tryz.prog 10 #[] w (fun e w' => e = .returned (.bool true) ∧ Fr [] w w') := by
  refine enter (args := []) Tryz.func10 rfl rfl ?_
  have H0 : Own [] w w [] := Own.start w []
  refine WC.seq ?_
  refine WC.region ?_
  refine WL.op rfl rfl (op_assign rfl ?_)
  refine WL.nil ?_
  refine WQ.next ?_
  refine WC.seq ?_
  refine WC.region ?_
  refine WL.op rfl rfl (op_callF Fa.C20 rfl ((made_ok 6 ([107]) _ (by decide) (by decide)).mono (fun e w1 hq => ?_)))
  obtain ⟨s1, x1, k1, bv1, e01, e11, xv1, cv1, nv1, rfl, hf01, hf11, hf21, hf31, hq1⟩ := hq
  refine ⟨_, rfl, ?_⟩
  have H1 : Own [] w w1 [.blk s1 [(ptr x1 0), (vU32 1), (str [107]), (vN (((6 : UInt32).toNat - 2) / 2)), (vI (-1))] 95, Ent.bo x1 [(ptr k1 0)], Ent.bo k1 [(vU32 40), xv1, cv1, nv1, bv1], Ent.ar bv1 1 2 [e01, e11], .row e11 9 1 (6 : UInt32).toNat (List.map str (List.replicate (6 : UInt32).toNat (List.replicate 64 0))), Ent.ar e01 1 (1 : UInt32).toNat (List.map str (List.replicate (1 : UInt32).toNat (List.replicate 64 0)))] := H0.splice [] [] [.blk s1 [(ptr x1 0), (vU32 1), (str [107]), (vN (((6 : UInt32).toNat - 2) / 2)), (vI (-1))] 95, Ent.bo x1 [(ptr k1 0)], Ent.bo k1 [(vU32 40), xv1, cv1, nv1, bv1], Ent.ar bv1 1 2 [e01, e11], .row e11 9 1 (6 : UInt32).toNat (List.map str (List.replicate (6 : UInt32).toNat (List.replicate 64 0))), Ent.ar e01 1 (1 : UInt32).toNat (List.map str (List.replicate (1 : UInt32).toNat (List.replicate 64 0)))] rfl rfl hq1 (Fits.solid True.intro (Fits.fresh hf31 (Fits.fresh hf01 (Fits.fresh hf11 (Fits.solid True.intro (Fits.fresh hf21 Fits.nil))))))
  refine WL.op rfl rfl (op_move rfl ?_)
  refine WL.op rfl rfl (op_extract rfl rfl ?_)
  refine WL.op rfl rfl (op_extract rfl rfl ?_)
  refine WL.op rfl rfl (op_assign rfl ?_)
  refine WL.op rfl rfl (op_assign rfl ?_)
  refine WL.nil ?_
  refine WQ.next ?_
  refine WC.seq ?_
  refine WC.seq ?_
  refine WC.region ?_
  refine WL.op rfl rfl (op_move rfl ?_)
  refine WL.op rfl rfl (op_eqlPN Fa.PT24 rfl rfl ?_)
  refine WL.nil ?_
  refine WQ.next ?_
  refine WC.no rfl rfl ?_
  refine WC.skip ?_
  refine WQ.next ?_
  refine WC.seq ?_
  refine WC.region ?_
  refine WL.op rfl rfl (op_move rfl ?_)
  refine WL.op rfl rfl (op_callF Fa.C17 rfl ((update_ok s1 1 ([107]) (((6 : UInt32).toNat - 2) / 2) (-1) x1 k1 bv1 e11 xv1 cv1 nv1 40 2 ((6 : UInt32).toNat) ([e01, e11]) (List.replicate (6 : UInt32).toNat (List.replicate 64 0)) 1 ([97]) _ _ (H1.part [0, 1, 2, 3, 4] rfl rfl) (by decide) rfl ((SOK.new (6 : UInt32).toNat)).len ((SOK.new (6 : UInt32).toNat)).all (by decide) (by decide) (by decide) (by decide) (by decide) (by decide)).mono (fun e w2 hq => ?_)))
  obtain ⟨rfl, hq2⟩ := hq
  refine ⟨_, rfl, ?_⟩
  have H2 : Own [] w w2 [.blk s1 [(ptr x1 0), (vU32 1), (str [107]), (vN (((6 : UInt32).toNat - 2) / 2)), (vI (updE (Sst.mk (List.replicate (6 : UInt32).toNat (List.replicate 64 0)) (-1)) (((6 : UInt32).toNat - 2) / 2) ([107]) 1 ([97])).1.left)] 95, Ent.bo x1 [(ptr k1 0)], Ent.bo k1 [(vU32 40), xv1, cv1, nv1, bv1], Ent.ar bv1 1 2 [e01, e11], .row e11 9 1 (6 : UInt32).toNat (List.map str (updE (Sst.mk (List.replicate (6 : UInt32).toNat (List.replicate 64 0)) (-1)) (((6 : UInt32).toNat - 2) / 2) ([107]) 1 ([97])).1.B), Ent.ar e01 1 (1 : UInt32).toNat (List.map str (List.replicate (1 : UInt32).toNat (List.replicate 64 0)))] := H1.splice [0, 1, 2, 3, 4] [.blk s1 [(ptr x1 0), (vU32 1), (str [107]), (vN (((6 : UInt32).toNat - 2) / 2)), (vI (updE (Sst.mk (List.replicate (6 : UInt32).toNat (List.replicate 64 0)) (-1)) (((6 : UInt32).toNat - 2) / 2) ([107]) 1 ([97])).1.left)] 95, Ent.bo x1 [(ptr k1 0)], Ent.bo k1 [(vU32 40), xv1, cv1, nv1, bv1], Ent.ar bv1 1 2 [e01, e11], .row e11 9 1 (6 : UInt32).toNat (List.map str (updE (Sst.mk (List.replicate (6 : UInt32).toNat (List.replicate 64 0)) (-1)) (((6 : UInt32).toNat - 2) / 2) ([107]) 1 ([97])).1.B)] [] rfl rfl hq2 (Fits.solid True.intro (Fits.same (j := 1) rfl (Fits.same (j := 2) rfl (Fits.same (j := 3) rfl (Fits.solid True.intro Fits.nil)))))
  refine WL.op rfl rfl (op_move rfl ?_)
  refine WL.op rfl rfl (op_callF Fa.C17 rfl ((update_ok s1 1 ([107]) (((6 : UInt32).toNat - 2) / 2) ((updE (Sst.mk (List.replicate (6 : UInt32).toNat (List.replicate 64 0)) (-1)) (((6 : UInt32).toNat - 2) / 2) ([107]) 1 ([97])).1.left) x1 k1 bv1 e11 xv1 cv1 nv1 40 2 ((6 : UInt32).toNat) ([e01, e11]) ((updE (Sst.mk (List.replicate (6 : UInt32).toNat (List.replicate 64 0)) (-1)) (((6 : UInt32).toNat - 2) / 2) ([107]) 1 ([97])).1.B) 1 ([98]) _ _ (H2.part [0, 1, 2, 3, 4] rfl rfl) (by decide) rfl ((SOK.upd (SOK.new (6 : UInt32).toNat))).len ((SOK.upd (SOK.new (6 : UInt32).toNat))).all (by decide) (by decide) (by decide) (by decide) (updE_left (by decide)) (by decide)).mono (fun e w3 hq => ?_)))
  obtain ⟨rfl, hq3⟩ := hq
  refine ⟨_, rfl, ?_⟩
  have H3 : Own [] w w3 [.blk s1 [(ptr x1 0), (vU32 1), (str [107]), (vN (((6 : UInt32).toNat - 2) / 2)), (vI (updE (Sst.mk ((updE (Sst.mk (List.replicate (6 : UInt32).toNat (List.replicate 64 0)) (-1)) (((6 : UInt32).toNat - 2) / 2) ([107]) 1 ([97])).1.B) ((updE (Sst.mk (List.replicate (6 : UInt32).toNat (List.replicate 64 0)) (-1)) (((6 : UInt32).toNat - 2) / 2) ([107]) 1 ([97])).1.left)) (((6 : UInt32).toNat - 2) / 2) ([107]) 1 ([98])).1.left)] 95, Ent.bo x1 [(ptr k1 0)], Ent.bo k1 [(vU32 40), xv1, cv1, nv1, bv1], Ent.ar bv1 1 2 [e01, e11], .row e11 9 1 (6 : UInt32).toNat (List.map str (updE (Sst.mk ((updE (Sst.mk (List.replicate (6 : UInt32).toNat (List.replicate 64 0)) (-1)) (((6 : UInt32).toNat - 2) / 2) ([107]) 1 ([97])).1.B) ((updE (Sst.mk (List.replicate (6 : UInt32).toNat (List.replicate 64 0)) (-1)) (((6 : UInt32).toNat - 2) / 2) ([107]) 1 ([97])).1.left)) (((6 : UInt32).toNat - 2) / 2) ([107]) 1 ([98])).1.B), Ent.ar e01 1 (1 : UInt32).toNat (List.map str (List.replicate (1 : UInt32).toNat (List.replicate 64 0)))] := H2.splice [0, 1, 2, 3, 4] [.blk s1 [(ptr x1 0), (vU32 1), (str [107]), (vN (((6 : UInt32).toNat - 2) / 2)), (vI (updE (Sst.mk ((updE (Sst.mk (List.replicate (6 : UInt32).toNat (List.replicate 64 0)) (-1)) (((6 : UInt32).toNat - 2) / 2) ([107]) 1 ([97])).1.B) ((updE (Sst.mk (List.replicate (6 : UInt32).toNat (List.replicate 64 0)) (-1)) (((6 : UInt32).toNat - 2) / 2) ([107]) 1 ([97])).1.left)) (((6 : UInt32).toNat - 2) / 2) ([107]) 1 ([98])).1.left)] 95, Ent.bo x1 [(ptr k1 0)], Ent.bo k1 [(vU32 40), xv1, cv1, nv1, bv1], Ent.ar bv1 1 2 [e01, e11], .row e11 9 1 (6 : UInt32).toNat (List.map str (updE (Sst.mk ((updE (Sst.mk (List.replicate (6 : UInt32).toNat (List.replicate 64 0)) (-1)) (((6 : UInt32).toNat - 2) / 2) ([107]) 1 ([97])).1.B) ((updE (Sst.mk (List.replicate (6 : UInt32).toNat (List.replicate 64 0)) (-1)) (((6 : UInt32).toNat - 2) / 2) ([107]) 1 ([97])).1.left)) (((6 : UInt32).toNat - 2) / 2) ([107]) 1 ([98])).1.B)] [] rfl rfl hq3 (Fits.solid True.intro (Fits.same (j := 1) rfl (Fits.same (j := 2) rfl (Fits.same (j := 3) rfl (Fits.solid True.intro Fits.nil)))))
  refine WL.op rfl rfl (op_assign rfl ?_)
  refine WL.op rfl rfl (op_assign rfl ?_)
  refine WL.nil ?_
  refine WQ.next ?_
  refine WC.seq ?_
  refine WC.region ?_
  refine WL.op rfl rfl (op_move rfl ?_)
  refine WL.op rfl rfl (op_callF Fa.C16 rfl ((fuse_ok s1 (ptr x1 0) rfl 1 ([107]) (((6 : UInt32).toNat - 2) / 2) ((updE (Sst.mk ((updE (Sst.mk (List.replicate (6 : UInt32).toNat (List.replicate 64 0)) (-1)) (((6 : UInt32).toNat - 2) / 2) ([107]) 1 ([97])).1.B) ((updE (Sst.mk (List.replicate (6 : UInt32).toNat (List.replicate 64 0)) (-1)) (((6 : UInt32).toNat - 2) / 2) ([107]) 1 ([97])).1.left)) (((6 : UInt32).toNat - 2) / 2) ([107]) 1 ([98])).1.left) (2 : Int) _ _ (H3.part [0] rfl rfl)).mono (fun e w4 hq => ?_)))
  obtain ⟨rfl, hq4⟩ := hq
  refine ⟨_, rfl, ?_⟩
  have H4 : Own [] w w4 [.blk s1 [(ptr x1 0), (vU32 1), (str [107]), (vN (((6 : UInt32).toNat - 2) / 2)), (vI (max (2 : Int) (-1)))] 95, Ent.bo x1 [(ptr k1 0)], Ent.bo k1 [(vU32 40), xv1, cv1, nv1, bv1], Ent.ar bv1 1 2 [e01, e11], .row e11 9 1 (6 : UInt32).toNat (List.map str (updE (Sst.mk ((updE (Sst.mk (List.replicate (6 : UInt32).toNat (List.replicate 64 0)) (-1)) (((6 : UInt32).toNat - 2) / 2) ([107]) 1 ([97])).1.B) ((updE (Sst.mk (List.replicate (6 : UInt32).toNat (List.replicate 64 0)) (-1)) (((6 : UInt32).toNat - 2) / 2) ([107]) 1 ([97])).1.left)) (((6 : UInt32).toNat - 2) / 2) ([107]) 1 ([98])).1.B), Ent.ar e01 1 (1 : UInt32).toNat (List.map str (List.replicate (1 : UInt32).toNat (List.replicate 64 0)))] := H3.splice [0] [.blk s1 [(ptr x1 0), (vU32 1), (str [107]), (vN (((6 : UInt32).toNat - 2) / 2)), (vI (max (2 : Int) (-1)))] 95] [] rfl rfl hq4 (Fits.solid True.intro Fits.nil)
  refine WL.nil ?_
  refine WQ.next ?_
  refine WC.seq ?_
  refine WC.region ?_
  refine WL.op rfl rfl (op_move rfl ?_)
  refine WL.op rfl rfl (op_callF Fa.C17 rfl ((update_ok s1 1 ([107]) (((6 : UInt32).toNat - 2) / 2) (max (2 : Int) (-1)) x1 k1 bv1 e11 xv1 cv1 nv1 40 2 ((6 : UInt32).toNat) ([e01, e11]) ((updE (Sst.mk ((updE (Sst.mk (List.replicate (6 : UInt32).toNat (List.replicate 64 0)) (-1)) (((6 : UInt32).toNat - 2) / 2) ([107]) 1 ([97])).1.B) ((updE (Sst.mk (List.replicate (6 : UInt32).toNat (List.replicate 64 0)) (-1)) (((6 : UInt32).toNat - 2) / 2) ([107]) 1 ([97])).1.left)) (((6 : UInt32).toNat - 2) / 2) ([107]) 1 ([98])).1.B) 2 ([98]) _ _ (H4.part [0, 1, 2, 3, 4] rfl rfl) (by decide) rfl ((SOK.upd (SOK.upd (SOK.new (6 : UInt32).toNat)))).len ((SOK.upd (SOK.upd (SOK.new (6 : UInt32).toNat)))).all (by decide) (by decide) (by decide) (by decide) (max_left (by decide)) (by decide)).mono (fun e w5 hq => ?_)))
  obtain ⟨rfl, hq5⟩ := hq
  refine ⟨_, rfl, ?_⟩
  have H5 : Own [] w w5 [.blk s1 [(ptr x1 0), (vU32 1), (str [107]), (vN (((6 : UInt32).toNat - 2) / 2)), (vI (updE (Sst.mk ((updE (Sst.mk ((updE (Sst.mk (List.replicate (6 : UInt32).toNat (List.replicate 64 0)) (-1)) (((6 : UInt32).toNat - 2) / 2) ([107]) 1 ([97])).1.B) ((updE (Sst.mk (List.replicate (6 : UInt32).toNat (List.replicate 64 0)) (-1)) (((6 : UInt32).toNat - 2) / 2) ([107]) 1 ([97])).1.left)) (((6 : UInt32).toNat - 2) / 2) ([107]) 1 ([98])).1.B) (max (2 : Int) (-1))) (((6 : UInt32).toNat - 2) / 2) ([107]) 2 ([98])).1.left)] 95, Ent.bo x1 [(ptr k1 0)], Ent.bo k1 [(vU32 40), xv1, cv1, nv1, bv1], Ent.ar bv1 1 2 [e01, e11], .row e11 9 1 (6 : UInt32).toNat (List.map str (updE (Sst.mk ((updE (Sst.mk ((updE (Sst.mk (List.replicate (6 : UInt32).toNat (List.replicate 64 0)) (-1)) (((6 : UInt32).toNat - 2) / 2) ([107]) 1 ([97])).1.B) ((updE (Sst.mk (List.replicate (6 : UInt32).toNat (List.replicate 64 0)) (-1)) (((6 : UInt32).toNat - 2) / 2) ([107]) 1 ([97])).1.left)) (((6 : UInt32).toNat - 2) / 2) ([107]) 1 ([98])).1.B) (max (2 : Int) (-1))) (((6 : UInt32).toNat - 2) / 2) ([107]) 2 ([98])).1.B), Ent.ar e01 1 (1 : UInt32).toNat (List.map str (List.replicate (1 : UInt32).toNat (List.replicate 64 0)))] := H4.splice [0, 1, 2, 3, 4] [.blk s1 [(ptr x1 0), (vU32 1), (str [107]), (vN (((6 : UInt32).toNat - 2) / 2)), (vI (updE (Sst.mk ((updE (Sst.mk ((updE (Sst.mk (List.replicate (6 : UInt32).toNat (List.replicate 64 0)) (-1)) (((6 : UInt32).toNat - 2) / 2) ([107]) 1 ([97])).1.B) ((updE (Sst.mk (List.replicate (6 : UInt32).toNat (List.replicate 64 0)) (-1)) (((6 : UInt32).toNat - 2) / 2) ([107]) 1 ([97])).1.left)) (((6 : UInt32).toNat - 2) / 2) ([107]) 1 ([98])).1.B) (max (2 : Int) (-1))) (((6 : UInt32).toNat - 2) / 2) ([107]) 2 ([98])).1.left)] 95, Ent.bo x1 [(ptr k1 0)], Ent.bo k1 [(vU32 40), xv1, cv1, nv1, bv1], Ent.ar bv1 1 2 [e01, e11], .row e11 9 1 (6 : UInt32).toNat (List.map str (updE (Sst.mk ((updE (Sst.mk ((updE (Sst.mk (List.replicate (6 : UInt32).toNat (List.replicate 64 0)) (-1)) (((6 : UInt32).toNat - 2) / 2) ([107]) 1 ([97])).1.B) ((updE (Sst.mk (List.replicate (6 : UInt32).toNat (List.replicate 64 0)) (-1)) (((6 : UInt32).toNat - 2) / 2) ([107]) 1 ([97])).1.left)) (((6 : UInt32).toNat - 2) / 2) ([107]) 1 ([98])).1.B) (max (2 : Int) (-1))) (((6 : UInt32).toNat - 2) / 2) ([107]) 2 ([98])).1.B)] [] rfl rfl hq5 (Fits.solid True.intro (Fits.same (j := 1) rfl (Fits.same (j := 2) rfl (Fits.same (j := 3) rfl (Fits.solid True.intro Fits.nil)))))
  refine WL.op rfl rfl (op_assign rfl ?_)
  refine WL.nil ?_
  refine WQ.next ?_
  refine WC.seq ?_
  refine WC.region ?_
  refine WL.op rfl rfl (op_move rfl ?_)
  refine WL.op rfl rfl (op_callF Fa.C13 rfl ((current_ok s1 1 ([107]) (((6 : UInt32).toNat - 2) / 2) ((updE (Sst.mk ((updE (Sst.mk ((updE (Sst.mk (List.replicate (6 : UInt32).toNat (List.replicate 64 0)) (-1)) (((6 : UInt32).toNat - 2) / 2) ([107]) 1 ([97])).1.B) ((updE (Sst.mk (List.replicate (6 : UInt32).toNat (List.replicate 64 0)) (-1)) (((6 : UInt32).toNat - 2) / 2) ([107]) 1 ([97])).1.left)) (((6 : UInt32).toNat - 2) / 2) ([107]) 1 ([98])).1.B) (max (2 : Int) (-1))) (((6 : UInt32).toNat - 2) / 2) ([107]) 2 ([98])).1.left) x1 k1 bv1 e11 xv1 cv1 nv1 40 2 ((6 : UInt32).toNat) ([e01, e11]) ((updE (Sst.mk ((updE (Sst.mk ((updE (Sst.mk (List.replicate (6 : UInt32).toNat (List.replicate 64 0)) (-1)) (((6 : UInt32).toNat - 2) / 2) ([107]) 1 ([97])).1.B) ((updE (Sst.mk (List.replicate (6 : UInt32).toNat (List.replicate 64 0)) (-1)) (((6 : UInt32).toNat - 2) / 2) ([107]) 1 ([97])).1.left)) (((6 : UInt32).toNat - 2) / 2) ([107]) 1 ([98])).1.B) (max (2 : Int) (-1))) (((6 : UInt32).toNat - 2) / 2) ([107]) 2 ([98])).1.B) _ (H5.cellsAt (i := 0) rfl) (H5.cellsAtO (i := 1) rfl) (H5.cellsAtO (i := 2) rfl) (H5.arrO (i := 3) rfl) (H5.arrR (i := 4) rfl) (by decide) rfl ((SOK.upd (SOK.upd (SOK.upd (SOK.new (6 : UInt32).toNat))))).len ((SOK.upd (SOK.upd (SOK.upd (SOK.new (6 : UInt32).toNat))))).all (by decide) (by decide) (by decide)).mono (fun e w6 hq => ?_)))
  obtain ⟨rfl, hf6⟩ := hq
  refine ⟨_, rfl, ?_⟩
  have H6 := H5.fr' hf6
  refine WL.op rfl rfl (op_move rfl ?_)
  refine WL.op rfl rfl (op_extract rfl rfl ?_)
  refine WL.op rfl rfl (op_extract rfl rfl ?_)
  refine WL.op rfl rfl (op_extract rfl rfl ?_)
  refine WL.op rfl rfl (op_assign rfl ?_)
  refine WL.op rfl rfl (op_assign rfl ?_)
  refine WL.op rfl rfl (op_assign rfl ?_)
  refine WL.nil ?_
  refine WQ.next ?_
  refine WC.seq ?_
  refine WC.region ?_
  refine WL.op rfl rfl (op_move rfl ?_)
  refine WL.op rfl rfl (op_callF Fa.C16 rfl ((fuse_ok s1 (ptr x1 0) rfl 1 ([107]) (((6 : UInt32).toNat - 2) / 2) ((updE (Sst.mk ((updE (Sst.mk ((updE (Sst.mk (List.replicate (6 : UInt32).toNat (List.replicate 64 0)) (-1)) (((6 : UInt32).toNat - 2) / 2) ([107]) 1 ([97])).1.B) ((updE (Sst.mk (List.replicate (6 : UInt32).toNat (List.replicate 64 0)) (-1)) (((6 : UInt32).toNat - 2) / 2) ([107]) 1 ([97])).1.left)) (((6 : UInt32).toNat - 2) / 2) ([107]) 1 ([98])).1.B) (max (2 : Int) (-1))) (((6 : UInt32).toNat - 2) / 2) ([107]) 2 ([98])).1.left) (-1) _ _ (H6.part [0] rfl rfl)).mono (fun e w7 hq => ?_)))
  obtain ⟨rfl, hq7⟩ := hq
  refine ⟨_, rfl, ?_⟩
  have H7 : Own [] w w7 [.blk s1 [(ptr x1 0), (vU32 1), (str [107]), (vN (((6 : UInt32).toNat - 2) / 2)), (vI (max (-1) (-1)))] 95, Ent.bo x1 [(ptr k1 0)], Ent.bo k1 [(vU32 40), xv1, cv1, nv1, bv1], Ent.ar bv1 1 2 [e01, e11], .row e11 9 1 (6 : UInt32).toNat (List.map str (updE (Sst.mk ((updE (Sst.mk ((updE (Sst.mk (List.replicate (6 : UInt32).toNat (List.replicate 64 0)) (-1)) (((6 : UInt32).toNat - 2) / 2) ([107]) 1 ([97])).1.B) ((updE (Sst.mk (List.replicate (6 : UInt32).toNat (List.replicate 64 0)) (-1)) (((6 : UInt32).toNat - 2) / 2) ([107]) 1 ([97])).1.left)) (((6 : UInt32).toNat - 2) / 2) ([107]) 1 ([98])).1.B) (max (2 : Int) (-1))) (((6 : UInt32).toNat - 2) / 2) ([107]) 2 ([98])).1.B), Ent.ar e01 1 (1 : UInt32).toNat (List.map str (List.replicate (1 : UInt32).toNat (List.replicate 64 0)))] := H6.splice [0] [.blk s1 [(ptr x1 0), (vU32 1), (str [107]), (vN (((6 : UInt32).toNat - 2) / 2)), (vI (max (-1) (-1)))] 95] [] rfl rfl hq7 (Fits.solid True.intro Fits.nil)
  refine WL.nil ?_
  refine WQ.next ?_
  refine WC.seq ?_
  refine WC.region ?_
  refine WL.op rfl rfl (op_move rfl ?_)
  refine WL.op rfl rfl (op_callF Fa.C17 rfl ((update_ok s1 1 ([107]) (((6 : UInt32).toNat - 2) / 2) (max (-1) (-1)) x1 k1 bv1 e11 xv1 cv1 nv1 40 2 ((6 : UInt32).toNat) ([e01, e11]) ((updE (Sst.mk ((updE (Sst.mk ((updE (Sst.mk (List.replicate (6 : UInt32).toNat (List.replicate 64 0)) (-1)) (((6 : UInt32).toNat - 2) / 2) ([107]) 1 ([97])).1.B) ((updE (Sst.mk (List.replicate (6 : UInt32).toNat (List.replicate 64 0)) (-1)) (((6 : UInt32).toNat - 2) / 2) ([107]) 1 ([97])).1.left)) (((6 : UInt32).toNat - 2) / 2) ([107]) 1 ([98])).1.B) (max (2 : Int) (-1))) (((6 : UInt32).toNat - 2) / 2) ([107]) 2 ([98])).1.B) 2 ([98]) _ _ (H7.part [0, 1, 2, 3, 4] rfl rfl) (by decide) rfl ((SOK.upd (SOK.upd (SOK.upd (SOK.new (6 : UInt32).toNat))))).len ((SOK.upd (SOK.upd (SOK.upd (SOK.new (6 : UInt32).toNat))))).all (by decide) (by decide) (by decide) (by decide) (max_left (by decide)) (by decide)).mono (fun e w8 hq => ?_)))
  obtain ⟨rfl, hq8⟩ := hq
  refine ⟨_, rfl, ?_⟩
  have H8 : Own [] w w8 [.blk s1 [(ptr x1 0), (vU32 1), (str [107]), (vN (((6 : UInt32).toNat - 2) / 2)), (vI (updE (Sst.mk ((updE (Sst.mk ((updE (Sst.mk ((updE (Sst.mk (List.replicate (6 : UInt32).toNat (List.replicate 64 0)) (-1)) (((6 : UInt32).toNat - 2) / 2) ([107]) 1 ([97])).1.B) ((updE (Sst.mk (List.replicate (6 : UInt32).toNat (List.replicate 64 0)) (-1)) (((6 : UInt32).toNat - 2) / 2) ([107]) 1 ([97])).1.left)) (((6 : UInt32).toNat - 2) / 2) ([107]) 1 ([98])).1.B) (max (2 : Int) (-1))) (((6 : UInt32).toNat - 2) / 2) ([107]) 2 ([98])).1.B) (max (-1) (-1))) (((6 : UInt32).toNat - 2) / 2) ([107]) 2 ([98])).1.left)] 95, Ent.bo x1 [(ptr k1 0)], Ent.bo k1 [(vU32 40), xv1, cv1, nv1, bv1], Ent.ar bv1 1 2 [e01, e11], .row e11 9 1 (6 : UInt32).toNat (List.map str (updE (Sst.mk ((updE (Sst.mk ((updE (Sst.mk ((updE (Sst.mk (List.replicate (6 : UInt32).toNat (List.replicate 64 0)) (-1)) (((6 : UInt32).toNat - 2) / 2) ([107]) 1 ([97])).1.B) ((updE (Sst.mk (List.replicate (6 : UInt32).toNat (List.replicate 64 0)) (-1)) (((6 : UInt32).toNat - 2) / 2) ([107]) 1 ([97])).1.left)) (((6 : UInt32).toNat - 2) / 2) ([107]) 1 ([98])).1.B) (max (2 : Int) (-1))) (((6 : UInt32).toNat - 2) / 2) ([107]) 2 ([98])).1.B) (max (-1) (-1))) (((6 : UInt32).toNat - 2) / 2) ([107]) 2 ([98])).1.B), Ent.ar e01 1 (1 : UInt32).toNat (List.map str (List.replicate (1 : UInt32).toNat (List.replicate 64 0)))] := H7.splice [0, 1, 2, 3, 4] [.blk s1 [(ptr x1 0), (vU32 1), (str [107]), (vN (((6 : UInt32).toNat - 2) / 2)), (vI (updE (Sst.mk ((updE (Sst.mk ((updE (Sst.mk ((updE (Sst.mk (List.replicate (6 : UInt32).toNat (List.replicate 64 0)) (-1)) (((6 : UInt32).toNat - 2) / 2) ([107]) 1 ([97])).1.B) ((updE (Sst.mk (List.replicate (6 : UInt32).toNat (List.replicate 64 0)) (-1)) (((6 : UInt32).toNat - 2) / 2) ([107]) 1 ([97])).1.left)) (((6 : UInt32).toNat - 2) / 2) ([107]) 1 ([98])).1.B) (max (2 : Int) (-1))) (((6 : UInt32).toNat - 2) / 2) ([107]) 2 ([98])).1.B) (max (-1) (-1))) (((6 : UInt32).toNat - 2) / 2) ([107]) 2 ([98])).1.left)] 95, Ent.bo x1 [(ptr k1 0)], Ent.bo k1 [(vU32 40), xv1, cv1, nv1, bv1], Ent.ar bv1 1 2 [e01, e11], .row e11 9 1 (6 : UInt32).toNat (List.map str (updE (Sst.mk ((updE (Sst.mk ((updE (Sst.mk ((updE (Sst.mk (List.replicate (6 : UInt32).toNat (List.replicate 64 0)) (-1)) (((6 : UInt32).toNat - 2) / 2) ([107]) 1 ([97])).1.B) ((updE (Sst.mk (List.replicate (6 : UInt32).toNat (List.replicate 64 0)) (-1)) (((6 : UInt32).toNat - 2) / 2) ([107]) 1 ([97])).1.left)) (((6 : UInt32).toNat - 2) / 2) ([107]) 1 ([98])).1.B) (max (2 : Int) (-1))) (((6 : UInt32).toNat - 2) / 2) ([107]) 2 ([98])).1.B) (max (-1) (-1))) (((6 : UInt32).toNat - 2) / 2) ([107]) 2 ([98])).1.B)] [] rfl rfl hq8 (Fits.solid True.intro (Fits.same (j := 1) rfl (Fits.same (j := 2) rfl (Fits.same (j := 3) rfl (Fits.solid True.intro Fits.nil)))))
  refine WL.op rfl rfl (op_assign rfl ?_)
  refine WL.nil ?_
  refine WQ.next ?_
  refine WC.seq ?_
  refine WC.region ?_
  refine WL.op rfl rfl (op_move rfl ?_)
  refine WL.op rfl rfl (op_callF Fa.C12 rfl ((slot_ok s1 1 ([107]) (((6 : UInt32).toNat - 2) / 2) ((updE (Sst.mk ((updE (Sst.mk ((updE (Sst.mk ((updE (Sst.mk (List.replicate (6 : UInt32).toNat (List.replicate 64 0)) (-1)) (((6 : UInt32).toNat - 2) / 2) ([107]) 1 ([97])).1.B) ((updE (Sst.mk (List.replicate (6 : UInt32).toNat (List.replicate 64 0)) (-1)) (((6 : UInt32).toNat - 2) / 2) ([107]) 1 ([97])).1.left)) (((6 : UInt32).toNat - 2) / 2) ([107]) 1 ([98])).1.B) (max (2 : Int) (-1))) (((6 : UInt32).toNat - 2) / 2) ([107]) 2 ([98])).1.B) (max (-1) (-1))) (((6 : UInt32).toNat - 2) / 2) ([107]) 2 ([98])).1.left) x1 k1 bv1 e11 xv1 cv1 nv1 40 2 ((6 : UInt32).toNat) ([e01, e11]) ((updE (Sst.mk ((updE (Sst.mk ((updE (Sst.mk ((updE (Sst.mk (List.replicate (6 : UInt32).toNat (List.replicate 64 0)) (-1)) (((6 : UInt32).toNat - 2) / 2) ([107]) 1 ([97])).1.B) ((updE (Sst.mk (List.replicate (6 : UInt32).toNat (List.replicate 64 0)) (-1)) (((6 : UInt32).toNat - 2) / 2) ([107]) 1 ([97])).1.left)) (((6 : UInt32).toNat - 2) / 2) ([107]) 1 ([98])).1.B) (max (2 : Int) (-1))) (((6 : UInt32).toNat - 2) / 2) ([107]) 2 ([98])).1.B) (max (-1) (-1))) (((6 : UInt32).toNat - 2) / 2) ([107]) 2 ([98])).1.B) 1 _ (H8.cellsAt (i := 0) rfl) (H8.cellsAtO (i := 1) rfl) (H8.cellsAtO (i := 2) rfl) (H8.arrO (i := 3) rfl) (H8.arrR (i := 4) rfl) (by decide) rfl ((SOK.upd (SOK.upd (SOK.upd (SOK.upd (SOK.new (6 : UInt32).toNat)))))).len ((SOK.upd (SOK.upd (SOK.upd (SOK.upd (SOK.new (6 : UInt32).toNat)))))).all (by decide) (by decide) (by decide) (by decide)).mono (fun e w9 hq => ?_)))
  obtain ⟨rfl, hf9⟩ := hq
  refine ⟨_, rfl, ?_⟩
  have H9 := H8.fr' hf9
  refine WL.op rfl rfl (op_move rfl ?_)
  refine WL.op rfl rfl (op_extract rfl rfl ?_)
  refine WL.op rfl rfl (op_extract rfl rfl ?_)
  refine WL.op rfl rfl (op_extract rfl rfl ?_)
  refine WL.op rfl rfl (op_assign rfl ?_)
  refine WL.op rfl rfl (op_assign rfl ?_)
  refine WL.op rfl rfl (op_assign rfl ?_)
  refine WL.nil ?_
  refine WQ.next ?_
  refine WC.seq ?_
  refine WC.region ?_
  refine WL.op rfl rfl (op_move rfl ?_)
  refine WL.op rfl rfl (op_callF Fa.C11 rfl ((new44_no x1 k1 bv1 e01 xv1 cv1 nv1 40 2 ((1 : UInt32).toNat) ([e01, e11]) (List.replicate (1 : UInt32).toNat (List.replicate 64 0)) 0 ([107]) _ (H9.cellsAtO (i := 1) rfl) (H9.cellsAtO (i := 2) rfl) (H9.arrO (i := 3) rfl) (H9.arrO (i := 5) rfl) (by decide) rfl (by decide) (by decide)).mono (fun e w10 hq => ?_)))
  obtain ⟨rfl, hf10⟩ := hq
  refine ⟨_, rfl, ?_⟩
  have H10 := H9.fr' hf10
  refine WL.op rfl rfl (op_move rfl ?_)
  refine WL.op rfl rfl (op_extract rfl rfl ?_)
  refine WL.op rfl rfl (op_extract rfl rfl ?_)
  refine WL.op rfl rfl (op_assign rfl ?_)
  refine WL.op rfl rfl (op_assign rfl ?_)
  refine WL.nil ?_
  refine WQ.next ?_
  refine WC.seq ?_
  refine WC.region ?_
  refine WL.op rfl rfl (op_move rfl ?_)
  refine WL.op rfl rfl (op_callF Fa.C15 rfl ((room_ok s1 (ptr x1 0) 1 ([107]) (((6 : UInt32).toNat - 2) / 2) ((updE (Sst.mk ((updE (Sst.mk ((updE (Sst.mk ((updE (Sst.mk (List.replicate (6 : UInt32).toNat (List.replicate 64 0)) (-1)) (((6 : UInt32).toNat - 2) / 2) ([107]) 1 ([97])).1.B) ((updE (Sst.mk (List.replicate (6 : UInt32).toNat (List.replicate 64 0)) (-1)) (((6 : UInt32).toNat - 2) / 2) ([107]) 1 ([97])).1.left)) (((6 : UInt32).toNat - 2) / 2) ([107]) 1 ([98])).1.B) (max (2 : Int) (-1))) (((6 : UInt32).toNat - 2) / 2) ([107]) 2 ([98])).1.B) (max (-1) (-1))) (((6 : UInt32).toNat - 2) / 2) ([107]) 2 ([98])).1.left) _ (H10.cellsAt (i := 0) rfl) (by decide)).mono (fun e w11 hq => ?_)))
  obtain ⟨rfl, hf11⟩ := hq
  refine ⟨_, rfl, ?_⟩
  have H11 := H10.fr' hf11
  refine WL.op rfl rfl (op_eqlN (b := 128) rfl rfl ?_)
  refine WL.op rfl rfl (op_move rfl ?_)
  refine WL.yes rfl rfl rfl rfl rfl (op_move rfl ?_)
  refine WL.yes rfl rfl rfl rfl rfl (op_eqlN (b := 0) rfl rfl ?_)
  refine WL.op rfl rfl (op_pickT rfl rfl rfl ?_)
  refine WL.op rfl rfl (op_move rfl ?_)
  refine WL.yes rfl rfl rfl (decide_eq_true (al44 (n := (6 : UInt32).toNat) (each := ((6 : UInt32).toNat - 2) / 2) (key := [107]) rfl rfl).1) rfl (op_move rfl ?_)
  refine WL.yes rfl rfl rfl (decide_eq_true (al44 (n := (6 : UInt32).toNat) (each := ((6 : UInt32).toNat - 2) / 2) (key := [107]) rfl rfl).1) rfl (op_eqlN (b := 440) rfl rfl ?_)
  refine WL.op rfl rfl (op_pickT rfl (decide_eq_true (al44 (n := (6 : UInt32).toNat) (each := ((6 : UInt32).toNat - 2) / 2) (key := [107]) rfl rfl).1) rfl ?_)
  refine WL.op rfl rfl (op_move rfl ?_)
  refine WL.yes rfl rfl rfl (decide_eq_true (al44 (n := (6 : UInt32).toNat) (each := ((6 : UInt32).toNat - 2) / 2) (key := [107]) rfl rfl).2.1) rfl (op_move rfl ?_)
  refine WL.yes rfl rfl rfl (decide_eq_true (al44 (n := (6 : UInt32).toNat) (each := ((6 : UInt32).toNat - 2) / 2) (key := [107]) rfl rfl).2.1) rfl (op_eqlN (b := 441) rfl rfl ?_)
  refine WL.op rfl rfl (op_pickT rfl (decide_eq_true (al44 (n := (6 : UInt32).toNat) (each := ((6 : UInt32).toNat - 2) / 2) (key := [107]) rfl rfl).2.1) rfl ?_)
  refine WL.op rfl rfl (op_move rfl ?_)
  refine WL.yes rfl rfl rfl (decide_eq_true (al44 (n := (6 : UInt32).toNat) (each := ((6 : UInt32).toNat - 2) / 2) (key := [107]) rfl rfl).2.2.1) rfl (op_move rfl ?_)
  refine WL.yes rfl rfl rfl (decide_eq_true (al44 (n := (6 : UInt32).toNat) (each := ((6 : UInt32).toNat - 2) / 2) (key := [107]) rfl rfl).2.2.1) rfl (op_eqlU32 (b := 1) rfl rfl ?_)
  refine WL.op rfl rfl (op_pickT rfl (decide_eq_true (al44 (n := (6 : UInt32).toNat) (each := ((6 : UInt32).toNat - 2) / 2) (key := [107]) rfl rfl).2.2.1) rfl ?_)
  refine WL.op rfl rfl (op_move rfl ?_)
  refine WL.yes rfl rfl rfl (decide_eq_true (by rw [(al44 (n := (6 : UInt32).toNat) (each := ((6 : UInt32).toNat - 2) / 2) (key := [107]) rfl rfl).2.2.2.1])) rfl (op_move rfl ?_)
  refine WL.yes rfl rfl rfl (decide_eq_true (by rw [(al44 (n := (6 : UInt32).toNat) (each := ((6 : UInt32).toNat - 2) / 2) (key := [107]) rfl rfl).2.2.2.1])) rfl (op_eqlStr rfl rfl ?_)
  refine WL.op rfl rfl (op_pickT rfl (decide_eq_true (by rw [(al44 (n := (6 : UInt32).toNat) (each := ((6 : UInt32).toNat - 2) / 2) (key := [107]) rfl rfl).2.2.2.1])) rfl ?_)
  refine WL.op rfl rfl (op_move rfl ?_)
  refine WL.yes rfl rfl rfl (decide_eq_true (by rw [(al44 (n := (6 : UInt32).toNat) (each := ((6 : UInt32).toNat - 2) / 2) (key := [107]) rfl rfl).2.2.2.1])) rfl (op_move rfl ?_)
  refine WL.op rfl rfl (op_pickT rfl (decide_eq_true (by rw [(al44 (n := (6 : UInt32).toNat) (each := ((6 : UInt32).toNat - 2) / 2) (key := [107]) rfl rfl).2.2.2.1])) rfl ?_)
  refine WL.op rfl rfl (op_move rfl ?_)
  refine WL.yes rfl rfl rfl (by rw [(al44 (n := (6 : UInt32).toNat) (each := ((6 : UInt32).toNat - 2) / 2) (key := [107]) rfl rfl).2.2.2.1]) rfl (op_move rfl ?_)
  refine WL.yes rfl rfl rfl (by rw [(al44 (n := (6 : UInt32).toNat) (each := ((6 : UInt32).toNat - 2) / 2) (key := [107]) rfl rfl).2.2.2.1]) rfl (op_eqlN (b := 0) rfl rfl ?_)
  refine WL.op rfl rfl (op_pickT rfl (by rw [(al44 (n := (6 : UInt32).toNat) (each := ((6 : UInt32).toNat - 2) / 2) (key := [107]) rfl rfl).2.2.2.1]) rfl ?_)
  refine WL.op rfl rfl (op_move rfl ?_)
  refine WL.yes rfl rfl rfl (decide_eq_true (al44 (n := (6 : UInt32).toNat) (each := ((6 : UInt32).toNat - 2) / 2) (key := [107]) rfl rfl).2.2.2.2.1) rfl (op_move rfl ?_)
  refine WL.yes rfl rfl rfl (decide_eq_true (al44 (n := (6 : UInt32).toNat) (each := ((6 : UInt32).toNat - 2) / 2) (key := [107]) rfl rfl).2.2.2.2.1) rfl (op_eqlU32 (b := 2) rfl rfl ?_)
  refine WL.op rfl rfl (op_pickT rfl (decide_eq_true (al44 (n := (6 : UInt32).toNat) (each := ((6 : UInt32).toNat - 2) / 2) (key := [107]) rfl rfl).2.2.2.2.1) rfl ?_)
  refine WL.op rfl rfl (op_move rfl ?_)
  refine WL.yes rfl rfl rfl (decide_eq_true (by rw [(al44 (n := (6 : UInt32).toNat) (each := ((6 : UInt32).toNat - 2) / 2) (key := [107]) rfl rfl).2.2.2.2.2])) rfl (op_move rfl ?_)
  refine WL.yes rfl rfl rfl (decide_eq_true (by rw [(al44 (n := (6 : UInt32).toNat) (each := ((6 : UInt32).toNat - 2) / 2) (key := [107]) rfl rfl).2.2.2.2.2])) rfl (op_eqlStr rfl rfl ?_)
  refine WL.op rfl rfl (op_pickT rfl (decide_eq_true (by rw [(al44 (n := (6 : UInt32).toNat) (each := ((6 : UInt32).toNat - 2) / 2) (key := [107]) rfl rfl).2.2.2.2.2])) rfl ?_)
  refine WL.op rfl rfl (op_move rfl ?_)
  refine WL.yes rfl rfl rfl (decide_eq_true (by rw [(al44 (n := (6 : UInt32).toNat) (each := ((6 : UInt32).toNat - 2) / 2) (key := [107]) rfl rfl).2.2.2.2.2])) rfl (op_move rfl ?_)
  refine WL.op rfl rfl (op_pickT rfl (decide_eq_true (by rw [(al44 (n := (6 : UInt32).toNat) (each := ((6 : UInt32).toNat - 2) / 2) (key := [107]) rfl rfl).2.2.2.2.2])) rfl ?_)
  refine WL.op rfl rfl (op_move rfl ?_)
  refine WL.yes rfl rfl rfl (by rw [(al44 (n := (6 : UInt32).toNat) (each := ((6 : UInt32).toNat - 2) / 2) (key := [107]) rfl rfl).2.2.2.2.2]) rfl (op_move rfl ?_)
  refine WL.yes rfl rfl rfl (by rw [(al44 (n := (6 : UInt32).toNat) (each := ((6 : UInt32).toNat - 2) / 2) (key := [107]) rfl rfl).2.2.2.2.2]) rfl (op_eqlN (b := 2) rfl rfl ?_)
  refine WL.op rfl rfl (op_pickT rfl (by rw [(al44 (n := (6 : UInt32).toNat) (each := ((6 : UInt32).toNat - 2) / 2) (key := [107]) rfl rfl).2.2.2.2.2]) rfl ?_)
  refine WL.op rfl rfl (op_assign rfl ?_)
  refine WL.nil ?_
  refine WQ.next ?_
  refine WC.ret ?_
  refine WQ.out (.tmp rfl .nil) ?_
  exact ⟨rfl, H11.fr⟩
end Go.Proofs.YtbjhccnffacbcaaGreat
/-! from WSlot9 -/
namespace Go.Proofs.YtbjhccnffacbcaaGreat
open Go.Owl Go.Spec
end Go.Proofs.YtbjhccnffacbcaaGreat
/-! from WSlot10 -/
namespace Go.Proofs.YtbjhccnffacbcaaGreat
open Go.Owl Go.Spec
set_option maxRecDepth 100000 in
theorem new44N_ok (id : UInt32) (key : List UInt8) (w : World) :
    Calls Tryz.prog 11 #[(.pointer none), (vU32 id), (str key)] w (fun e w' => e = .returned (.tuple #[.pointer none, vN 1]) ∧ Fr [] w w') := by
  refine enter (args := [(.pointer none), (vU32 id), (str key)]) Tryz.func11 rfl rfl ?_
  have H0 : Own [] w w [] := Own.start w []
  refine WC.seq ?_
  refine WC.region ?_
  refine WL.op rfl rfl (op_assign rfl ?_)
  refine WL.op rfl rfl (op_assign rfl ?_)
  refine WL.nil ?_
  refine WQ.next ?_
  refine WC.seq ?_
  refine WC.seq ?_
  refine WC.region ?_
  refine WL.op rfl rfl (op_move rfl ?_)
  refine WL.op rfl rfl (op_eqlPN Fa.PT47 rfl rfl ?_)
  refine WL.nil ?_
  refine WQ.next ?_
  refine WC.yes rfl rfl ?_
  refine WC.seq ?_
  refine WC.region ?_
  refine WL.op rfl rfl (op_assign rfl ?_)
  refine WL.op rfl rfl (op_assign rfl ?_)
  refine WL.nil ?_
  refine WQ.next ?_
  refine WC.ret ?_
  refine WQ.thenRet ?_
  refine WQ.out (.tmp rfl (.tmp rfl .nil)) ?_
  exact ⟨rfl, H0.fr⟩
set_option maxRecDepth 100000 in
theorem slotN_ok (n : Int) (w : World) :
    Calls Tryz.prog 12 #[(.pointer none), (vI n)] w (fun e w' => e = .returned (.tuple #[vU32 0, str [], .bool false]) ∧ Fr [] w w') := by
  refine enter (args := [(.pointer none), (vI n)]) Tryz.func12 rfl rfl ?_
  have H0 : Own [] w w [] := Own.start w []
  refine WC.seq ?_
  refine WC.region ?_
  refine WL.op rfl rfl (op_assign rfl ?_)
  refine WL.op rfl rfl (op_assign rfl ?_)
  refine WL.op rfl rfl (op_assign rfl ?_)
  refine WL.nil ?_
  refine WQ.next ?_
  refine WC.seq ?_
  refine WC.seq ?_
  refine WC.region ?_
  refine WL.op rfl rfl (op_move rfl ?_)
  refine WL.op rfl rfl (op_eqlPN Fa.PT24 rfl rfl ?_)
  refine WL.op rfl rfl (op_move rfl ?_)
  refine WL.no rfl rfl rfl rfl rfl ?_
  refine WL.no rfl rfl rfl rfl rfl ?_
  refine WL.op rfl rfl (op_pickT rfl rfl rfl ?_)
  refine WL.op rfl rfl (op_move rfl ?_)
  refine WL.no rfl rfl rfl rfl rfl ?_
  refine WL.no rfl rfl rfl rfl rfl ?_
  refine WL.op rfl rfl (op_pickT rfl rfl rfl ?_)
  refine WL.nil ?_
  refine WQ.next ?_
  refine WC.yes rfl rfl ?_
  refine WC.seq ?_
  refine WC.region ?_
  refine WL.op rfl rfl (op_assign rfl ?_)
  refine WL.op rfl rfl (op_assign rfl ?_)
  refine WL.op rfl rfl (op_assign rfl ?_)
  refine WL.nil ?_
  refine WQ.next ?_
  refine WC.ret ?_
  refine WQ.thenRet ?_
  refine WQ.out (.tmp rfl (.tmp rfl (.tmp rfl .nil))) ?_
  exact ⟨rfl, H0.fr⟩
set_option maxRecDepth 100000 in
theorem curN_ok  (w : World) :
    Calls Tryz.prog 48 #[(.pointer none)] w (fun e w' => e = .returned (.tuple #[.agg #[.pointer none, vN 0], .bool false]) ∧ Fr [] w w') := by
  refine enter (args := [(.pointer none)]) Tryz.func48 rfl rfl ?_
  have H0 : Own [] w w [] := Own.start w []
  refine WC.seq ?_
  refine WC.region ?_
  refine WL.op rfl rfl (op_alloc H0 Fa.I97 (fun b1 w1 H1 => ?_))
  refine WL.op rfl rfl (op_assign rfl ?_)
  refine WL.nil ?_
  refine WQ.next ?_
  refine WC.seq ?_
  refine WC.region ?_
  refine WL.op rfl rfl (op_move rfl ?_)
  refine WL.op rfl rfl (op_callF Fa.C12 rfl ((slotN_ok (0 : Int) _).mono (fun e w2 hq => ?_)))
  obtain ⟨rfl, hf2⟩ := hq
  refine ⟨_, rfl, ?_⟩
  have H2 := H1.fr' hf2
  refine WL.op rfl rfl (op_move rfl ?_)
  refine WL.op rfl rfl (op_extract rfl rfl ?_)
  refine WL.op rfl rfl (op_extract rfl rfl ?_)
  refine WL.op rfl rfl (op_extract rfl rfl ?_)
  refine WL.op rfl rfl (op_assign rfl ?_)
  refine WL.op rfl rfl (op_assign rfl ?_)
  refine WL.op rfl rfl (op_assign rfl ?_)
  refine WL.nil ?_
  refine WQ.next ?_
  refine WC.seq ?_
  refine WC.region ?_
  refine WL.op rfl rfl (op_move rfl ?_)
  refine WL.op rfl rfl (op_callF Fa.C12 rfl ((slotN_ok (1 : Int) _).mono (fun e w3 hq => ?_)))
  obtain ⟨rfl, hf3⟩ := hq
  refine ⟨_, rfl, ?_⟩
  have H3 := H2.fr' hf3
  refine WL.op rfl rfl (op_move rfl ?_)
  refine WL.op rfl rfl (op_extract rfl rfl ?_)
  refine WL.op rfl rfl (op_extract rfl rfl ?_)
  refine WL.op rfl rfl (op_extract rfl rfl ?_)
  refine WL.op rfl rfl (op_assign rfl ?_)
  refine WL.op rfl rfl (op_assign rfl ?_)
  refine WL.op rfl rfl (op_assign rfl ?_)
  refine WL.nil ?_
  refine WQ.next ?_
  refine WC.seq ?_
  refine WC.seq ?_
  refine WC.region ?_
  refine WL.op rfl rfl (op_move rfl ?_)
  refine WL.op rfl rfl (op_move rfl ?_)
  refine WL.no rfl rfl rfl rfl rfl ?_
  refine WL.no rfl rfl rfl rfl rfl ?_
  refine WL.no rfl rfl rfl rfl rfl ?_
  refine WL.non rfl rfl rfl rfl ?_
  refine WL.non rfl rfl rfl rfl ?_
  refine WL.non rfl rfl rfl rfl ?_
  refine WL.no rfl rfl rfl rfl rfl ?_
  refine WL.op rfl rfl (op_pickF rfl rfl rfl ?_)
  refine WL.nil ?_
  refine WQ.next ?_
  refine WC.no rfl rfl ?_
  refine WC.skip ?_
  refine WQ.next ?_
  refine WC.seq ?_
  refine WC.region ?_
  refine WL.op rfl rfl (op_move rfl ?_)
  refine WL.op rfl rfl (op_build (cs := [_, _]) Fa.I97 Fa.PL97 rfl rfl ?_)
  refine WL.op rfl rfl (op_move rfl ?_)
  refine WL.op rfl rfl (op_storeBW (i := 0) H3 rfl rfl rfl rfl rfl Fa.I97 (fun w4 H4 => ?_))
  refine WL.op rfl rfl (op_assign rfl ?_)
  refine WL.nil ?_
  refine WQ.next ?_
  refine WC.ret ?_
  refine WQ.out (.cell rfl (run_loadVarS (vs := [_, _]) (H4.cells (i := 0) rfl rfl) Tryz.underlying97 rfl Fa.I97 rfl) (.tmp rfl .nil)) ?_
  exact ⟨rfl, H4.fr⟩
set_option maxRecDepth 100000 in
theorem currentN_ok  (w : World) :
    Calls Tryz.prog 13 #[(.pointer none)] w (fun e w' => e = .returned (.tuple #[vU32 0, str [], .bool false]) ∧ Fr [] w w') := by
  refine enter (args := [(.pointer none)]) Tryz.func13 rfl rfl ?_
  have H0 : Own [] w w [] := Own.start w []
  refine WC.seq ?_
  refine WC.region ?_
  refine WL.op rfl rfl (op_assign rfl ?_)
  refine WL.op rfl rfl (op_assign rfl ?_)
  refine WL.op rfl rfl (op_assign rfl ?_)
  refine WL.nil ?_
  refine WQ.next ?_
  refine WC.seq ?_
  refine WC.region ?_
  refine WL.op rfl rfl (op_move rfl ?_)
  refine WL.op rfl rfl (op_callF Fa.C48 rfl ((curN_ok  _).mono (fun e w1 hq => ?_)))
  obtain ⟨rfl, hf1⟩ := hq
  refine ⟨_, rfl, ?_⟩
  have H1 := H0.fr' hf1
  refine WL.op rfl rfl (op_move rfl ?_)
  refine WL.op rfl rfl (op_extract rfl rfl ?_)
  refine WL.op rfl rfl (op_extract rfl rfl ?_)
  refine WL.op rfl rfl (op_alloc H1 Fa.I97 (fun b2 w2 H2 => ?_))
  refine WL.op rfl rfl (op_storeBW (i := 0) H2 rfl rfl rfl rfl rfl Fa.I97 (fun w3 H3 => ?_))
  refine WL.op rfl rfl (op_assign rfl ?_)
  refine WL.nil ?_
  refine WQ.next ?_
  refine WC.seq ?_
  refine WC.seq ?_
  refine WC.region ?_
  refine WL.op rfl rfl (op_move rfl ?_)
  refine WL.op rfl rfl (op_not rfl ?_)
  refine WL.nil ?_
  refine WQ.next ?_
  refine WC.yes rfl (congrArg Bool.not rfl) ?_
  refine WC.seq ?_
  refine WC.region ?_
  refine WL.op rfl rfl (op_assign rfl ?_)
  refine WL.op rfl rfl (op_assign rfl ?_)
  refine WL.op rfl rfl (op_assign rfl ?_)
  refine WL.nil ?_
  refine WQ.next ?_
  refine WC.ret ?_
  refine WQ.thenRet ?_
  refine WQ.out (.tmp rfl (.tmp rfl (.tmp rfl .nil))) ?_
  exact ⟨rfl, H3.fr⟩
set_option maxRecDepth 100000 in
theorem bootN_ok (key : List UInt8) (w : World) :
    Calls Tryz.prog 14 #[(.pointer none), (str key)] w (fun e w' => e = .returned (.tuple #[vN 0, vN 1]) ∧ Fr [] w w') := by
  refine enter (args := [(.pointer none), (str key)]) Tryz.func14 rfl rfl ?_
  have H0 : Own [] w w [] := Own.start w []
  refine WC.seq ?_
  refine WC.region ?_
  refine WL.op rfl rfl (op_assign rfl ?_)
  refine WL.op rfl rfl (op_assign rfl ?_)
  refine WL.nil ?_
  refine WQ.next ?_
  refine WC.seq ?_
  refine WC.seq ?_
  refine WC.region ?_
  refine WL.op rfl rfl (op_move rfl ?_)
  refine WL.op rfl rfl (op_eqlPN Fa.PT24 rfl rfl ?_)
  refine WL.nil ?_
  refine WQ.next ?_
  refine WC.yes rfl rfl ?_
  refine WC.seq ?_
  refine WC.region ?_
  refine WL.op rfl rfl (op_assign rfl ?_)
  refine WL.op rfl rfl (op_assign rfl ?_)
  refine WL.nil ?_
  refine WQ.next ?_
  refine WC.ret ?_
  refine WQ.thenRet ?_
  refine WQ.out (.tmp rfl (.tmp rfl .nil)) ?_
  exact ⟨rfl, H0.fr⟩
set_option maxRecDepth 100000 in
theorem roomN_ok  (w : World) :
    Calls Tryz.prog 15 #[(.pointer none)] w (fun e w' => e = .returned (vN 0) ∧ Fr [] w w') := by
  refine enter (args := [(.pointer none)]) Tryz.func15 rfl rfl ?_
  have H0 : Own [] w w [] := Own.start w []
  refine WC.seq ?_
  refine WC.region ?_
  refine WL.op rfl rfl (op_assign rfl ?_)
  refine WL.nil ?_
  refine WQ.next ?_
  refine WC.seq ?_
  refine WC.seq ?_
  refine WC.region ?_
  refine WL.op rfl rfl (op_move rfl ?_)
  refine WL.op rfl rfl (op_eqlPN Fa.PT24 rfl rfl ?_)
  refine WL.nil ?_
  refine WQ.next ?_
  refine WC.yes rfl rfl ?_
  refine WC.seq ?_
  refine WC.region ?_
  refine WL.op rfl rfl (op_assign rfl ?_)
  refine WL.nil ?_
  refine WQ.next ?_
  refine WC.ret ?_
  refine WQ.thenRet ?_
  refine WQ.out (.tmp rfl .nil) ?_
  exact ⟨rfl, H0.fr⟩
set_option maxRecDepth 100000 in
theorem fuseN_ok (n : Int) (w : World) :
    Calls Tryz.prog 16 #[(.pointer none), (vI n)] w (fun e w' => e = .returned (vN 1) ∧ Fr [] w w') := by
  refine enter (args := [(.pointer none), (vI n)]) Tryz.func16 rfl rfl ?_
  have H0 : Own [] w w [] := Own.start w []
  refine WC.seq ?_
  refine WC.region ?_
  refine WL.op rfl rfl (op_assign rfl ?_)
  refine WL.nil ?_
  refine WQ.next ?_
  refine WC.seq ?_
  refine WC.seq ?_
  refine WC.region ?_
  refine WL.op rfl rfl (op_move rfl ?_)
  refine WL.op rfl rfl (op_eqlPN Fa.PT24 rfl rfl ?_)
  refine WL.nil ?_
  refine WQ.next ?_
  refine WC.yes rfl rfl ?_
  refine WC.seq ?_
  refine WC.region ?_
  refine WL.op rfl rfl (op_assign rfl ?_)
  refine WL.nil ?_
  refine WQ.next ?_
  refine WC.ret ?_
  refine WQ.thenRet ?_
  refine WQ.out (.tmp rfl .nil) ?_
  exact ⟨rfl, H0.fr⟩
set_option maxRecDepth 100000 in
theorem updateN_ok (v : UInt32) (t : List UInt8) (w : World) :
    Calls Tryz.prog 17 #[(.pointer none), (vU32 v), (str t)] w (fun e w' => e = .returned (vN 1) ∧ Fr [] w w') := by
  refine enter (args := [(.pointer none), (vU32 v), (str t)]) Tryz.func17 rfl rfl ?_
  have H0 : Own [] w w [] := Own.start w []
  refine WC.seq ?_
  refine WC.region ?_
  refine WL.op rfl rfl (op_box H0 rfl rfl (fun b1 w1 H1 => ?_))
  refine WL.op rfl rfl (op_assign rfl ?_)
  refine WL.nil ?_
  refine WQ.next ?_
  refine WC.seq ?_
  refine WC.seq ?_
  refine WC.region ?_
  refine WL.op rfl rfl (op_load rfl (H1.cell (i := 0) rfl rfl) Tryz.underlying24 rfl ?_)
  refine WL.op rfl rfl (op_eqlPN Fa.PT24 rfl rfl ?_)
  refine WL.nil ?_
  refine WQ.next ?_
  refine WC.yes rfl rfl ?_
  refine WC.seq ?_
  refine WC.region ?_
  refine WL.op rfl rfl (op_assign rfl ?_)
  refine WL.nil ?_
  refine WQ.next ?_
  refine WC.ret ?_
  refine WQ.thenRet ?_
  refine WQ.out (.tmp rfl .nil) ?_
  exact ⟨rfl, H1.fr⟩
set_option maxRecDepth 100000 in
theorem slotsNil_ok (n : Int) (version : UInt32) (text : List UInt8) (w : World) (h1 : text.length ≤ 140737488351232) :
    Calls Tryz.prog 3 #[(vI n), (vU32 version), (str text)] w (fun e w' => e = .returned (.bool true) ∧ Fr [] w w') := by
  refine enter (args := [(vI n), (vU32 version), (str text)]) Tryz.func3 rfl rfl ?_
  have H0 : Own [] w w [] := Own.start w []
  refine WC.seq ?_
  refine WC.region ?_
  refine WL.op rfl rfl (op_assign rfl ?_)
  refine WL.nil ?_
  refine WQ.next ?_
  refine WC.seq ?_
  refine WC.seq ?_
  refine WC.region ?_
  refine WL.op rfl rfl (op_move rfl ?_)
  refine WL.op rfl rfl (op_lenStr Tryz.underlying9 rfl ?_)
  refine WL.op rfl rfl (op_gtrN (b := 4096) rfl rfl ?_)
  refine WL.nil ?_
  refine WQ.next ?_
  refine WC.cond rfl (fun (hb1 : (decide (text.length > 4096)) = true) => ?_) (fun (hb1 : (decide (text.length > 4096)) = false) => ?_)
  ·
    have hc1 := of_decide_eq_true hb1
    refine WC.seq ?_
    refine WC.region ?_
    refine WL.op rfl rfl (op_callF Fa.C10 rfl ((alive44_ok _).mono (fun e w2 hq => ?_)))
    obtain ⟨rfl, hf2⟩ := hq
    refine ⟨_, rfl, ?_⟩
    have H2 := H0.fr' hf2
    refine WL.op rfl rfl (op_assign rfl ?_)
    refine WL.nil ?_
    refine WQ.next ?_
    refine WC.ret ?_
    refine WQ.thenRet ?_
    refine WQ.out (.tmp rfl .nil) ?_
    exact ⟨rfl, H2.fr⟩
  ·
    have hc1 := of_decide_eq_false hb1
    refine WC.skip ?_
    refine WQ.next ?_
    refine WC.seq ?_
    refine WC.region ?_
    refine WL.op rfl rfl (op_assign rfl ?_)
    refine WL.nil ?_
    refine WQ.next ?_
    refine WC.seq ?_
    refine WC.region ?_
    refine WL.op rfl rfl (op_move rfl ?_)
    refine WL.op rfl rfl (op_move rfl ?_)
    refine WL.op rfl rfl (op_callF Fa.C11 rfl ((new44N_ok version text _).mono (fun e w3 hq => ?_)))
    obtain ⟨rfl, hf3⟩ := hq
    refine ⟨_, rfl, ?_⟩
    have H3 := H0.fr' hf3
    refine WL.op rfl rfl (op_move rfl ?_)
    refine WL.op rfl rfl (op_extract rfl rfl ?_)
    refine WL.op rfl rfl (op_extract rfl rfl ?_)
    refine WL.op rfl rfl (op_assign rfl ?_)
    refine WL.op rfl rfl (op_assign rfl ?_)
    refine WL.nil ?_
    refine WQ.next ?_
    refine WC.seq ?_
    refine WC.region ?_
    refine WL.op rfl rfl (op_move rfl ?_)
    refine WL.op rfl rfl (op_move rfl ?_)
    refine WL.op rfl rfl (op_callF Fa.C12 rfl ((slotN_ok n _).mono (fun e w4 hq => ?_)))
    obtain ⟨rfl, hf4⟩ := hq
    refine ⟨_, rfl, ?_⟩
    have H4 := H3.fr' hf4
    refine WL.op rfl rfl (op_move rfl ?_)
    refine WL.op rfl rfl (op_extract rfl rfl ?_)
    refine WL.op rfl rfl (op_extract rfl rfl ?_)
    refine WL.op rfl rfl (op_extract rfl rfl ?_)
    refine WL.op rfl rfl (op_assign rfl ?_)
    refine WL.op rfl rfl (op_assign rfl ?_)
    refine WL.op rfl rfl (op_assign rfl ?_)
    refine WL.nil ?_
    refine WQ.next ?_
    refine WC.seq ?_
    refine WC.region ?_
    refine WL.op rfl rfl (op_move rfl ?_)
    refine WL.op rfl rfl (op_callF Fa.C13 rfl ((currentN_ok  _).mono (fun e w5 hq => ?_)))
    obtain ⟨rfl, hf5⟩ := hq
    refine ⟨_, rfl, ?_⟩
    have H5 := H4.fr' hf5
    refine WL.op rfl rfl (op_move rfl ?_)
    refine WL.op rfl rfl (op_extract rfl rfl ?_)
    refine WL.op rfl rfl (op_extract rfl rfl ?_)
    refine WL.op rfl rfl (op_extract rfl rfl ?_)
    refine WL.op rfl rfl (op_assign rfl ?_)
    refine WL.op rfl rfl (op_assign rfl ?_)
    refine WL.op rfl rfl (op_assign rfl ?_)
    refine WL.nil ?_
    refine WQ.next ?_
    refine WC.seq ?_
    refine WC.region ?_
    refine WL.op rfl rfl (op_move rfl ?_)
    refine WL.op rfl rfl (op_move rfl ?_)
    refine WL.op rfl rfl (op_callF Fa.C14 rfl ((bootN_ok text _).mono (fun e w6 hq => ?_)))
    obtain ⟨rfl, hf6⟩ := hq
    refine ⟨_, rfl, ?_⟩
    have H6 := H5.fr' hf6
    refine WL.op rfl rfl (op_move rfl ?_)
    refine WL.op rfl rfl (op_extract rfl rfl ?_)
    refine WL.op rfl rfl (op_extract rfl rfl ?_)
    refine WL.op rfl rfl (op_assign rfl ?_)
    refine WL.op rfl rfl (op_assign rfl ?_)
    refine WL.nil ?_
    refine WQ.next ?_
    refine WC.seq ?_
    refine WC.region ?_
    refine WL.op rfl rfl (op_move rfl ?_)
    refine WL.op rfl rfl (op_eqlPN Fa.PT24 rfl rfl ?_)
    refine WL.op rfl rfl (op_move rfl ?_)
    refine WL.yes rfl rfl rfl rfl rfl (op_move rfl ?_)
    refine WL.yes rfl rfl rfl rfl rfl (op_eqlN (b := 1) rfl rfl ?_)
    refine WL.op rfl rfl (op_pickT rfl rfl rfl ?_)
    refine WL.op rfl rfl (op_move rfl ?_)
    refine WL.yes rfl rfl rfl (by decide) rfl (op_move rfl ?_)
    refine WL.yes rfl rfl rfl (by decide) rfl (op_eqlU32 (a := 0) (b := 0) rfl rfl ?_)
    refine WL.op rfl rfl (op_pickT rfl (by decide) rfl ?_)
    refine WL.op rfl rfl (op_move rfl ?_)
    refine WL.yes rfl rfl rfl (decide_eq_true rfl) rfl (op_move rfl ?_)
    refine WL.yes rfl rfl rfl (decide_eq_true rfl) rfl (op_eqlStr rfl rfl ?_)
    refine WL.op rfl rfl (op_pickT rfl (decide_eq_true rfl) rfl ?_)
    refine WL.op rfl rfl (op_move rfl ?_)
    refine WL.yes rfl rfl rfl (decide_eq_true rfl) rfl (op_move rfl ?_)
    refine WL.yes rfl rfl rfl (decide_eq_true rfl) rfl (op_not rfl ?_)
    refine WL.op rfl rfl (op_pickT rfl (decide_eq_true rfl) rfl ?_)
    refine WL.op rfl rfl (op_move rfl ?_)
    refine WL.yes rfl rfl rfl (congrArg Bool.not rfl) rfl (op_move rfl ?_)
    refine WL.yes rfl rfl rfl (congrArg Bool.not rfl) rfl (op_eqlU32 (a := 0) (b := 0) rfl rfl ?_)
    refine WL.op rfl rfl (op_pickT rfl (congrArg Bool.not rfl) rfl ?_)
    refine WL.op rfl rfl (op_move rfl ?_)
    refine WL.yes rfl rfl rfl (decide_eq_true rfl) rfl (op_move rfl ?_)
    refine WL.yes rfl rfl rfl (decide_eq_true rfl) rfl (op_eqlStr rfl rfl ?_)
    refine WL.op rfl rfl (op_pickT rfl (decide_eq_true rfl) rfl ?_)
    refine WL.op rfl rfl (op_move rfl ?_)
    refine WL.yes rfl rfl rfl (decide_eq_true rfl) rfl (op_move rfl ?_)
    refine WL.yes rfl rfl rfl (decide_eq_true rfl) rfl (op_not rfl ?_)
    refine WL.op rfl rfl (op_pickT rfl (decide_eq_true rfl) rfl ?_)
    refine WL.op rfl rfl (op_move rfl ?_)
    refine WL.yes rfl rfl rfl (congrArg Bool.not rfl) rfl (op_move rfl ?_)
    refine WL.yes rfl rfl rfl (congrArg Bool.not rfl) rfl (op_eqlN (b := 0) rfl rfl ?_)
    refine WL.op rfl rfl (op_pickT rfl (congrArg Bool.not rfl) rfl ?_)
    refine WL.op rfl rfl (op_move rfl ?_)
    refine WL.yes rfl rfl rfl (by decide) rfl (op_move rfl ?_)
    refine WL.yes rfl rfl rfl (by decide) rfl (op_eqlN (b := 1) rfl rfl ?_)
    refine WL.op rfl rfl (op_pickT rfl (by decide) rfl ?_)
    refine WL.op rfl rfl (op_move rfl ?_)
    refine WL.yes rfl rfl rfl (by decide) rfl (op_move rfl ?_)
    refine WL.yes rfl rfl rfl (by decide) rfl (op_callF Fa.C15 rfl ((roomN_ok  _).mono (fun e w7 hq => ?_)))
    obtain ⟨rfl, hf7⟩ := hq
    refine ⟨_, rfl, ?_⟩
    have H7 := H6.fr' hf7
    refine WL.yes rfl rfl rfl (by decide) rfl (op_eqlN (b := 0) rfl rfl ?_)
    refine WL.op rfl rfl (op_pickT rfl (by decide) rfl ?_)
    refine WL.op rfl rfl (op_move rfl ?_)
    refine WL.yes rfl rfl rfl (by decide) rfl (op_move rfl ?_)
    refine WL.yes rfl rfl rfl (by decide) rfl (op_move rfl ?_)
    refine WL.yes rfl rfl rfl (by decide) rfl (op_callF Fa.C16 rfl ((fuseN_ok n _).mono (fun e w8 hq => ?_)))
    obtain ⟨rfl, hf8⟩ := hq
    refine ⟨_, rfl, ?_⟩
    have H8 := H7.fr' hf8
    refine WL.yes rfl rfl rfl (by decide) rfl (op_eqlN (b := 1) rfl rfl ?_)
    refine WL.op rfl rfl (op_pickT rfl (by decide) rfl ?_)
    refine WL.op rfl rfl (op_move rfl ?_)
    refine WL.yes rfl rfl rfl (by decide) rfl (op_move rfl ?_)
    refine WL.yes rfl rfl rfl (by decide) rfl (op_move rfl ?_)
    refine WL.yes rfl rfl rfl (by decide) rfl (op_move rfl ?_)
    refine WL.yes rfl rfl rfl (by decide) rfl (op_callF Fa.C17 rfl ((updateN_ok version text _).mono (fun e w9 hq => ?_)))
    obtain ⟨rfl, hf9⟩ := hq
    refine ⟨_, rfl, ?_⟩
    have H9 := H8.fr' hf9
    refine WL.yes rfl rfl rfl (by decide) rfl (op_eqlN (b := 1) rfl rfl ?_)
    refine WL.op rfl rfl (op_pickT rfl (by decide) rfl ?_)
    refine WL.op rfl rfl (op_move rfl ?_)
    refine WL.yes rfl rfl rfl (by decide) rfl (op_callF Fa.C10 rfl ((alive44_ok _).mono (fun e w10 hq => ?_)))
    obtain ⟨rfl, hf10⟩ := hq
    refine ⟨_, rfl, ?_⟩
    have H10 := H9.fr' hf10
    refine WL.op rfl rfl (op_pickT rfl (by decide) rfl ?_)
    refine WL.op rfl rfl (op_assign rfl ?_)
    refine WL.nil ?_
    refine WQ.next ?_
    refine WC.ret ?_
    refine WQ.out (.tmp rfl .nil) ?_
    exact ⟨rfl, H10.fr⟩
end Go.Proofs.YtbjhccnffacbcaaGreat
