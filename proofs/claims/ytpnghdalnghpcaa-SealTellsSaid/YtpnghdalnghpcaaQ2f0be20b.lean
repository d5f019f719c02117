/- General lemmas and walks: WImg11, WImg12. No condition but what each theorem names. -/
import Derived.Test.YtpnghdalnghpcaaQcf708baf
import Derived.Test.YtpnghdalnghpcaaQc5c8783e
import Derived.Test.YtpnghdalnghpcaaQ8b1839b4
/-! from WImg11 -/
namespace Go.Proofs.Ytpnghdalnghpcaa
open Go.Owl Go.Spec
theorem iget_fin {s : List UInt8} (hb : gBad s = false) {e : Ending} {w w' : World} {x y z : Value} (he : e = .returned (.tuple #[.agg #[vU32 (g2 s).1.1, x, y, .bool (decide ((g7 s).1.1 = 1)), vU32 (g8 s).1.1, z], vN 0]))
    (H : Own [] w w' [.row x 130 2 (g3 s).1.1.toNat (List.flatMap xtc (gX s)), .row y 92 1 (g5 s).1.1.toNat (List.map vU16 (gP s)), .row z 111 3 (g9 s).1.1.toNat (List.flatMap sgc (gS s))]) :
    ∃ v u q, e = .returned (.tuple #[.agg #[vU32 (imG s).pg, v, u, .bool (imG s).c, vU32 (imG s).en, q], vN (imGE s)]) ∧ Own [] w w' [.row v 130 2 (imG s).xs.length (List.flatMap xtc (imG s).xs), .row u 92 1 (imG s).ps.length (List.map vU16 (imG s).ps), .row q 111 3 (imG s).sg.length (List.flatMap sgc (imG s).sg)] := by
  rw [← gX_len, ← gP_len, ← gS_len] at H
  rw [(get_good hb).1, (get_good hb).2]
  dsimp only
  exact ⟨x, y, z, he, H⟩
set_option maxHeartbeats 2000000 in
set_option maxRecDepth 100000 in
theorem iget_ok (s : List UInt8) (w : World) (hs : s.length < 2 ^ 47) :
    Calls Try.prog 49 #[(str s)] w (fun e w' => ∃ v u q, e = .returned (.tuple #[.agg #[vU32 (imG s).pg, v, u, .bool (imG s).c, vU32 (imG s).en, q], vN (imGE s)]) ∧ Own [] w w' [.row v 130 2 (imG s).xs.length (List.flatMap xtc (imG s).xs), .row u 92 1 (imG s).ps.length (List.map vU16 (imG s).ps), .row q 111 3 (imG s).sg.length (List.flatMap sgc (imG s).sg)]) := by
  refine enter (args := [(str s)]) Try.func49 rfl rfl ?_
  have H0 : Own [] w w [] := Own.start w []
  refine WC.seq ?_
  refine WC.region ?_
  refine WL.op rfl rfl (op_alloc H0 Fa.I59 (fun b1 w1 H1 => ?_))
  refine WL.op rfl rfl (op_assign rfl ?_)
  refine WL.nil ?_
  refine WQ.next ?_
  refine WC.seq ?_
  refine WC.region ?_
  refine WL.op rfl rfl (op_move rfl ?_)
  refine WL.op rfl rfl (op_callF Fa.C24 rfl ((rdnew_ok s _).mono (fun e w2 hq => ?_)))
  obtain ⟨q2, rfl, hq2⟩ := hq
  refine ⟨_, rfl, ?_⟩
  have H2 : Own [] w w2 [.blk b1 [(vU32 0), (.slice none 0 0), (.slice none 0 0), (.bool false), (vU32 0), (.slice none 0 0)] 59, .blk q2 [(str s), (vN 0), (vN 0)] 107] := H1.splice [] [] [.blk q2 [(str s), (vN 0), (vN 0)] 107] rfl rfl hq2 (Fits.solid True.intro Fits.nil)
  refine WL.op rfl rfl (op_build (cs := [_]) Fa.I138 Fa.PL138 rfl rfl ?_)
  refine WL.op rfl rfl (op_alloc H2 Fa.I138 (fun b3 w3 H3 => ?_))
  refine WL.op rfl rfl (op_storeBW (i := 2) H3 rfl rfl rfl rfl rfl Fa.I138 (fun w4 H4 => ?_))
  refine WL.nil ?_
  refine WQ.next ?_
  refine WC.seq ?_
  refine WC.region ?_
  refine WL.op rfl rfl (op_fieldAddr rfl Fa.F138_0 ?_)
  refine WL.op rfl rfl (op_load rfl (H4.cell (i := 2) rfl rfl) Try.underlying34 rfl ?_)
  refine WL.op rfl rfl (op_callF Fa.C30 rfl ((take_ok q2 (Rd.mk s 0 0 (Nat.zero_le _)) (4) 107 _ _ (H4.part [1] rfl rfl) (by first | (rw [g1_t]; exact hs) | (rw [g2_t]; exact hs) | (rw [g4_t]; exact hs) | (rw [g6_t]; exact hs) | (rw [g7_t]; exact hs) | (rw [g8_t]; exact hs) | (rw [g10_t]; exact hs) | (rw [xsD_t, g3_t]; exact hs) | (rw [numR_s, xsD_t, g3_t]; exact hs) | (rw [psD_t, g5_t]; exact hs) | (rw [sgD_t, g9_t]; exact hs) | exact hs)).mono (fun e w5 hq => ?_)))
  obtain ⟨rfl, hq5⟩ := hq
  refine ⟨_, rfl, ?_⟩
  have H5 : Own [] w w5 [.blk b1 [(vU32 0), (.slice none 0 0), (.slice none 0 0), (.bool false), (vU32 0), (.slice none 0 0)] 59, .blk q2 [(str ((takeR (Rd.mk s 0 0 (Nat.zero_le _)) 4).2).s), (vN ((takeR (Rd.mk s 0 0 (Nat.zero_le _)) 4).2).at_), (vN ((takeR (Rd.mk s 0 0 (Nat.zero_le _)) 4).2).f)] 107, .blk b3 [(ptr q2 0)] 138] := H4.splice [1] [.blk q2 [(str ((takeR (Rd.mk s 0 0 (Nat.zero_le _)) 4).2).s), (vN ((takeR (Rd.mk s 0 0 (Nat.zero_le _)) 4).2).at_), (vN ((takeR (Rd.mk s 0 0 (Nat.zero_le _)) 4).2).f)] 107] [] rfl rfl hq5 (Fits.solid True.intro Fits.nil)
  refine WL.op rfl rfl (op_move rfl ?_)
  refine WL.op rfl rfl (op_extract rfl rfl ?_)
  refine WL.op rfl rfl (op_extract rfl rfl ?_)
  refine WL.op rfl rfl (op_assign rfl ?_)
  refine WL.op rfl rfl (op_assign rfl ?_)
  refine WL.nil ?_
  refine WQ.next ?_
  refine WC.seq ?_
  refine WC.region ?_
  have H6 : Own [] w w5 [.blk b1 [(vU32 0), (.slice none 0 0), (.slice none 0 0), (.bool false), (vU32 0), (.slice none 0 0)] 59, .blk q2 [(str ((g1 s).2).s), (vN ((g1 s).2).at_), (vN ((g1 s).2).f)] 107, .blk b3 [(ptr q2 0)] 138] := by have h := H5; rw [show takeR (Rd.mk s 0 0 (Nat.zero_le _)) 4 = g1 s from rfl] at h; exact h
  rw [show takeR (Rd.mk s 0 0 (Nat.zero_le _)) 4 = g1 s from rfl]
  refine WL.op rfl rfl (op_alloc H6 Fa.I59 (fun b7 w7 H7 => ?_))
  refine WL.nil ?_
  refine WQ.next ?_
  refine WC.seq ?_
  refine WC.region ?_
  refine WL.op rfl rfl (op_loadS (vs := [_]) rfl (H7.cells (i := 2) rfl rfl) Try.underlying138 rfl Fa.I138 rfl ?_)
  refine WL.op rfl rfl (op_callF Fa.C96 rfl ((inum_ok q2 ((g1 s).2) (4) 107 _ _ (H7.part [1] rfl rfl) (by first | (rw [g1_t]; exact hs) | (rw [g2_t]; exact hs) | (rw [g4_t]; exact hs) | (rw [g6_t]; exact hs) | (rw [g7_t]; exact hs) | (rw [g8_t]; exact hs) | (rw [g10_t]; exact hs) | (rw [xsD_t, g3_t]; exact hs) | (rw [numR_s, xsD_t, g3_t]; exact hs) | (rw [psD_t, g5_t]; exact hs) | (rw [sgD_t, g9_t]; exact hs) | exact hs)).mono (fun e w8 hq => ?_)))
  obtain ⟨rfl, hq8⟩ := hq
  refine ⟨_, rfl, ?_⟩
  have H8 : Own [] w w8 [.blk b1 [(vU32 0), (.slice none 0 0), (.slice none 0 0), (.bool false), (vU32 0), (.slice none 0 0)] 59, .blk q2 [(str ((numR ((g1 s).2) 4).2).s), (vN ((numR ((g1 s).2) 4).2).at_), (vN ((numR ((g1 s).2) 4).2).f)] 107, .blk b3 [(ptr q2 0)] 138, .blk b7 [(vU32 0), (.slice none 0 0), (.slice none 0 0), (.bool false), (vU32 0), (.slice none 0 0)] 59] := H7.splice [1] [.blk q2 [(str ((numR ((g1 s).2) 4).2).s), (vN ((numR ((g1 s).2) 4).2).at_), (vN ((numR ((g1 s).2) 4).2).f)] 107] [] rfl rfl hq8 (Fits.solid True.intro Fits.nil)
  refine WL.op rfl rfl (op_fieldAddr rfl Fa.F59_0 ?_)
  refine WL.op rfl rfl (op_fieldAddr rfl Fa.F56_0 ?_)
  refine WL.op rfl rfl (op_storeB (i := 3) H8 rfl rfl rfl rfl rfl Fa.I22 (fun w9 H9 => ?_))
  refine WL.nil ?_
  refine WQ.next ?_
  refine WC.seq ?_
  refine WC.seq ?_
  refine WC.region ?_
  have H10 : Own [] w w9 [.blk b1 [(vU32 0), (.slice none 0 0), (.slice none 0 0), (.bool false), (vU32 0), (.slice none 0 0)] 59, .blk q2 [(str ((g2 s).2).s), (vN ((g2 s).2).at_), (vN ((g2 s).2).f)] 107, .blk b3 [(ptr q2 0)] 138, .blk b7 [(vU32 (g2 s).1.1), (.slice none 0 0), (.slice none 0 0), (.bool false), (vU32 0), (.slice none 0 0)] 59] := by have h := H9; rw [show numR (g1 s).2 4 = g2 s from rfl] at h; exact h
  have H11 : Own [] w w9 [.blk b1 [(vU32 0), (.slice none 0 0), (.slice none 0 0), (.bool false), (vU32 0), (.slice none 0 0)] 59, .blk q2 [(str ((g2 s).2).s), (vN ((g2 s).2).at_), (vN ((g2 s).2).f)] 107, .blk b3 [(ptr q2 0)] 138, .blk b7 [(vU32 (g2 s).1.1), (.slice none 0 0), (.slice none 0 0), (.bool false), (vU32 0), (.slice none 0 0)] 59, .row (.slice none 0 0) 130 2 0 (List.flatMap xtc [])] := H10.nilRow 130 2
  have H12 : Own [] w w9 [.blk b1 [(vU32 0), (.slice none 0 0), (.slice none 0 0), (.bool false), (vU32 0), (.slice none 0 0)] 59, .blk q2 [(str ((g2 s).2).s), (vN ((g2 s).2).at_), (vN ((g2 s).2).f)] 107, .blk b3 [(ptr q2 0)] 138, .blk b7 [(vU32 (g2 s).1.1), (.slice none 0 0), (.slice none 0 0), (.bool false), (vU32 0), (.slice none 0 0)] 59, .row (.slice none 0 0) 130 2 0 (List.flatMap xtc []), .row (.slice none 0 0) 92 1 0 (List.map vU16 [])] := H11.nilRow 92 1
  have H13 : Own [] w w9 [.blk b1 [(vU32 0), (.slice none 0 0), (.slice none 0 0), (.bool false), (vU32 0), (.slice none 0 0)] 59, .blk q2 [(str ((g2 s).2).s), (vN ((g2 s).2).at_), (vN ((g2 s).2).f)] 107, .blk b3 [(ptr q2 0)] 138, .blk b7 [(vU32 (g2 s).1.1), (.slice none 0 0), (.slice none 0 0), (.bool false), (vU32 0), (.slice none 0 0)] 59, .row (.slice none 0 0) 130 2 0 (List.flatMap xtc []), .row (.slice none 0 0) 92 1 0 (List.map vU16 []), .row (.slice none 0 0) 111 3 0 (List.flatMap sgc [])] := H12.nilRow 111 3
  refine WL.op rfl rfl (op_loadS (vs := [_]) rfl (H13.cells (i := 2) rfl rfl) Try.underlying138 rfl Fa.I138 rfl ?_)
  refine WL.op rfl rfl (op_callF Fa.C96 rfl ((inum_ok q2 ((g2 s).2) (1) 107 _ _ (H13.part [1] rfl rfl) (by first | (rw [g1_t]; exact hs) | (rw [g2_t]; exact hs) | (rw [g4_t]; exact hs) | (rw [g6_t]; exact hs) | (rw [g7_t]; exact hs) | (rw [g8_t]; exact hs) | (rw [g10_t]; exact hs) | (rw [xsD_t, g3_t]; exact hs) | (rw [numR_s, xsD_t, g3_t]; exact hs) | (rw [psD_t, g5_t]; exact hs) | (rw [sgD_t, g9_t]; exact hs) | exact hs)).mono (fun e w14 hq => ?_)))
  obtain ⟨rfl, hq14⟩ := hq
  refine ⟨_, rfl, ?_⟩
  have H14 : Own [] w w14 [.blk b1 [(vU32 0), (.slice none 0 0), (.slice none 0 0), (.bool false), (vU32 0), (.slice none 0 0)] 59, .blk q2 [(str ((numR ((g2 s).2) 1).2).s), (vN ((numR ((g2 s).2) 1).2).at_), (vN ((numR ((g2 s).2) 1).2).f)] 107, .blk b3 [(ptr q2 0)] 138, .blk b7 [(vU32 (g2 s).1.1), (.slice none 0 0), (.slice none 0 0), (.bool false), (vU32 0), (.slice none 0 0)] 59, .row (.slice none 0 0) 130 2 0 (List.flatMap xtc []), .row (.slice none 0 0) 92 1 0 (List.map vU16 []), .row (.slice none 0 0) 111 3 0 (List.flatMap sgc [])] := H13.splice [1] [.blk q2 [(str ((numR ((g2 s).2) 1).2).s), (vN ((numR ((g2 s).2) 1).2).at_), (vN ((numR ((g2 s).2) 1).2).f)] 107] [] rfl rfl hq14 (Fits.solid True.intro Fits.nil)
  have H15 : Own [] w w14 [.blk b1 [(vU32 0), (.slice none 0 0), (.slice none 0 0), (.bool false), (vU32 0), (.slice none 0 0)] 59, .blk q2 [(str ((g3 s).2).s), (vN ((g3 s).2).at_), (vN ((g3 s).2).f)] 107, .blk b3 [(ptr q2 0)] 138, .blk b7 [(vU32 (g2 s).1.1), (.slice none 0 0), (.slice none 0 0), (.bool false), (vU32 0), (.slice none 0 0)] 59, .row (.slice none 0 0) 130 2 0 (List.flatMap xtc []), .row (.slice none 0 0) 92 1 0 (List.map vU16 []), .row (.slice none 0 0) 111 3 0 (List.flatMap sgc [])] := by have h := H14; rw [show numR (g2 s).2 1 = g3 s from rfl] at h; exact h
  rw [show numR (g2 s).2 1 = g3 s from rfl]
  refine WL.op rfl rfl (op_assign rfl ?_)
  refine WL.nil ?_
  refine WQ.next ?_
  refine WC.block ?_
  refine WC.loop (α := Nat × Value) (fun (k, x) => [(2, (ptr b1 0)), (4, (ptr b3 0)), (5, (str (g1 s).1.1)), (7, (ptr b7 0)), (8, (vU32 ((g3 s).1.1 - UInt32.ofNat k)))]) (fun (k, x) w' => (k ≤ (g3 s).1.1.toNat) ∧ Own [] w w' [.blk b1 [(vU32 0), (.slice none 0 0), (.slice none 0 0), (.bool false), (vU32 0), (.slice none 0 0)] 59, .blk q2 [(str (xsD (g3 s).2 k).s), (vN (xsD (g3 s).2 k).at_), (vN (xsD (g3 s).2 k).f)] 107, .blk b3 [(ptr q2 0)] 138, .blk b7 [(vU32 (g2 s).1.1), x, (.slice none 0 0), (.bool false), (vU32 0), (.slice none 0 0)] 59, .row x 130 2 k (List.flatMap xtc (xsL (g3 s).2 k)), .row (.slice none 0 0) 92 1 0 (List.map vU16 []), .row (.slice none 0 0) 111 3 0 (List.flatMap sgc [])]) (fun (k, x) => (g3 s).1.1.toNat - k) (0, (.slice none 0 0)) ⟨(Nat.zero_le _), (by rw [xsD_0]; exact H15)⟩ ⟨rfl, rfl, rfl, rfl, (congrArg (fun n => some (vU32 n)) (u32_sub0 _)), trivial⟩ ?_
  rintro ⟨k, x⟩ w16 ⟨hk1, H16⟩
  show WC _ _ _ _ _ [(2, (ptr b1 0)), (4, (ptr b3 0)), (5, (str (g1 s).1.1)), (7, (ptr b7 0)), (8, (vU32 ((g3 s).1.1 - UInt32.ofNat k)))] _
  have hct := u32_gt hk1
  have hnl := (g3 s).1.1.toNat_lt
  refine WC.seq ?_
  refine WC.seq ?_
  refine WC.region ?_
  refine WL.op rfl rfl (op_move rfl ?_)
  refine WL.op rfl rfl (op_gtrU32 (b := 0) rfl rfl ?_)
  refine WL.nil ?_
  refine WQ.next ?_
  refine WC.cond rfl (fun (hb17 : (decide (((g3 s).1.1 - UInt32.ofNat k) > (0 : UInt32))) = true) => ?_) (fun (hb17 : (decide (((g3 s).1.1 - UInt32.ofNat k) > (0 : UInt32))) = false) => ?_)
  ·
    have hc17 := of_decide_eq_true hb17
    have hkn := hct.1 hc17
    refine WC.skip ?_
    refine WQ.next ?_
    refine WC.seq ?_
    refine WC.block ?_
    refine WC.drawn 13 rfl Fa.M H16 ?_
    intro w18 H18
    refine WD.named (fun W hW => ?_)
    let e8 : List (Nat × Value) → List (Nat × Value) := fun r => (2, (ptr b1 0)) :: (4, (ptr b3 0)) :: (5, (str (g1 s).1.1)) :: (7, (ptr b7 0)) :: (8, (vU32 ((g3 s).1.1 - UInt32.ofNat k))) :: (27, (vU32 ((g3 s).1.1 - UInt32.ofNat k))) :: (28, (.bool (decide (((g3 s).1.1 - UInt32.ofNat k) > (0 : UInt32))))) :: r
    let l8 : List Ent → List Ent := fun r => (.blk b1 [(vU32 0), (.slice none 0 0), (.slice none 0 0), (.bool false), (vU32 0), (.slice none 0 0)] 59) :: (.blk q2 [(str (xsD (g3 s).2 k).s), (vN (xsD (g3 s).2 k).at_), (vN (xsD (g3 s).2 k).f)] 107) :: (.blk b3 [(ptr q2 0)] 138) :: (.blk b7 [(vU32 (g2 s).1.1), x, (.slice none 0 0), (.bool false), (vU32 0), (.slice none 0 0)] 59) :: (.row x 130 2 k (List.flatMap xtc (xsL (g3 s).2 k))) :: (.row (.slice none 0 0) 92 1 0 (List.map vU16 [])) :: (.row (.slice none 0 0) 111 3 0 (List.flatMap sgc [])) :: r
    have st8_39 : ∀ (b29161 : _) (v29181 : _) (wS : World), Own [] w wS [.blk b1 [(vU32 0), (.slice none 0 0), (.slice none 0 0), (.bool false), (vU32 0), (.slice none 0 0)] 59, .blk q2 [(str ((numR ((numR (xsD (g3 s).2 k) 1).2) 2).2).s), (vN ((numR ((numR (xsD (g3 s).2 k) 1).2) 2).2).at_), (vN ((numR ((numR (xsD (g3 s).2 k) 1).2) 2).2).f)] 107, .blk b3 [(ptr q2 0)] 138, .blk b7 [(vU32 (g2 s).1.1), v29181, (.slice none 0 0), (.bool false), (vU32 0), (.slice none 0 0)] 59, .row v29181 130 2 (k + 1) (List.flatMap xtc ((xsL (g3 s).2 k) ++ [(Xt.mk ((numR (xsD (g3 s).2 k) 1).1.1) ((numR ((numR (xsD (g3 s).2 k) 1).2) 2).1.1))])), .row (.slice none 0 0) 92 1 0 (List.map vU16 []), .row (.slice none 0 0) 111 3 0 (List.flatMap sgc []), .row (.slice (some ⟨b29161, 0, none⟩) 1 1) 130 2 1 (List.map vU32 [(numR (xsD (g3 s).2 k) 1).1.1, (numR ((numR (xsD (g3 s).2 k) 1).2) 2).1.1])] → W 0 #[true, true, true, true, true, true, true, true, true, true, true, true, true] (e8 [(31, (ptr b7 0)), (32, (ptr b7 1)), (33, x), (34, (.agg #[(ptr q2 0)])), (35, (vU32 (numR (xsD (g3 s).2 k) 1).1.1)), (36, (.agg #[(ptr q2 0)])), (37, (vU32 (numR ((numR (xsD (g3 s).2 k) 1).2) 2).1.1)), (38, (.agg #[(vU32 (numR (xsD (g3 s).2 k) 1).1.1), (vU32 (numR ((numR (xsD (g3 s).2 k) 1).2) 2).1.1)])), (39, (.slice (some ⟨b29161, 0, none⟩) 1 1)), (40, v29181), (41, (ptr b7 0)), (42, (ptr b7 1))]) wS := by
      intro b29161 v29181 wS HS
      rw [hW]
      refine WD.done (by kernel_rfl) ?_
      refine WQ.inNormal ?_
      refine WQ.next ?_
      refine WC.region ?_
      refine WL.op rfl rfl (op_move rfl ?_)
      refine WL.op rfl rfl (op_subU32 (b := 1) rfl rfl ?_)
      refine WL.op rfl rfl (op_assign rfl ?_)
      refine WL.nil ?_
      exact WQ.round (k + 1, v29181) ⟨(by omega), (by rw [xsD_s, xsL_s]; exact (HS.take 7))⟩ ⟨rfl, rfl, rfl, rfl, (congrArg (fun n => some (vU32 n)) (u32_dec hkn)), trivial⟩ (by show (g3 s).1.1.toNat - (k + 1) < (g3 s).1.1.toNat - k; omega)
    have st8_38 : ∀ (b29161 : _) (v29181 : _) (wS : World), Own [] w wS [.blk b1 [(vU32 0), (.slice none 0 0), (.slice none 0 0), (.bool false), (vU32 0), (.slice none 0 0)] 59, .blk q2 [(str ((numR ((numR (xsD (g3 s).2 k) 1).2) 2).2).s), (vN ((numR ((numR (xsD (g3 s).2 k) 1).2) 2).2).at_), (vN ((numR ((numR (xsD (g3 s).2 k) 1).2) 2).2).f)] 107, .blk b3 [(ptr q2 0)] 138, .blk b7 [(vU32 (g2 s).1.1), x, (.slice none 0 0), (.bool false), (vU32 0), (.slice none 0 0)] 59, .row v29181 130 2 (k + 1) (List.flatMap xtc ((xsL (g3 s).2 k) ++ [(Xt.mk ((numR (xsD (g3 s).2 k) 1).1.1) ((numR ((numR (xsD (g3 s).2 k) 1).2) 2).1.1))])), .row (.slice none 0 0) 92 1 0 (List.map vU16 []), .row (.slice none 0 0) 111 3 0 (List.flatMap sgc []), .row (.slice (some ⟨b29161, 0, none⟩) 1 1) 130 2 1 (List.map vU32 [(numR (xsD (g3 s).2 k) 1).1.1, (numR ((numR (xsD (g3 s).2 k) 1).2) 2).1.1])] → W 1 #[true, true, true, true, true, true, true, true, true, true, true, true, false] (e8 [(31, (ptr b7 0)), (32, (ptr b7 1)), (33, x), (34, (.agg #[(ptr q2 0)])), (35, (vU32 (numR (xsD (g3 s).2 k) 1).1.1)), (36, (.agg #[(ptr q2 0)])), (37, (vU32 (numR ((numR (xsD (g3 s).2 k) 1).2) 2).1.1)), (38, (.agg #[(vU32 (numR (xsD (g3 s).2 k) 1).1.1), (vU32 (numR ((numR (xsD (g3 s).2 k) 1).2) 2).1.1)])), (39, (.slice (some ⟨b29161, 0, none⟩) 1 1)), (40, v29181), (41, (ptr b7 0)), (42, (ptr b7 1))]) wS := by
      intro b29161 v29181 wS HS
      rw [hW]
      refine WD.all1 (i := 12) (by kernel_rfl) ?_
      ·
        refine WS.op (i := 12) rfl rfl rfl (op_storeB (i := 3) HS rfl rfl rfl rfl (Arr.one (HS.arrR (i := 4) rfl)) Fa.I53 (fun w29241 H29241 => ?_))
        have hq := st8_39 b29161 v29181 w29241 H29241
        rw [hW] at hq
        refine WD.cov ?_ hq
        exact by repeat (first | exact trivial | refine ⟨rfl, ?_⟩)
    have st8_37 : ∀ (b29161 : _) (v29181 : _) (wS : World), Own [] w wS [.blk b1 [(vU32 0), (.slice none 0 0), (.slice none 0 0), (.bool false), (vU32 0), (.slice none 0 0)] 59, .blk q2 [(str ((numR ((numR (xsD (g3 s).2 k) 1).2) 2).2).s), (vN ((numR ((numR (xsD (g3 s).2 k) 1).2) 2).2).at_), (vN ((numR ((numR (xsD (g3 s).2 k) 1).2) 2).2).f)] 107, .blk b3 [(ptr q2 0)] 138, .blk b7 [(vU32 (g2 s).1.1), x, (.slice none 0 0), (.bool false), (vU32 0), (.slice none 0 0)] 59, .row v29181 130 2 (k + 1) (List.flatMap xtc ((xsL (g3 s).2 k) ++ [(Xt.mk ((numR (xsD (g3 s).2 k) 1).1.1) ((numR ((numR (xsD (g3 s).2 k) 1).2) 2).1.1))])), .row (.slice none 0 0) 92 1 0 (List.map vU16 []), .row (.slice none 0 0) 111 3 0 (List.flatMap sgc []), .row (.slice (some ⟨b29161, 0, none⟩) 1 1) 130 2 1 (List.map vU32 [(numR (xsD (g3 s).2 k) 1).1.1, (numR ((numR (xsD (g3 s).2 k) 1).2) 2).1.1])] → W 2 #[true, true, true, true, true, true, true, true, true, true, true, false, false] (e8 [(31, (ptr b7 0)), (32, (ptr b7 1)), (33, x), (34, (.agg #[(ptr q2 0)])), (35, (vU32 (numR (xsD (g3 s).2 k) 1).1.1)), (36, (.agg #[(ptr q2 0)])), (37, (vU32 (numR ((numR (xsD (g3 s).2 k) 1).2) 2).1.1)), (38, (.agg #[(vU32 (numR (xsD (g3 s).2 k) 1).1.1), (vU32 (numR ((numR (xsD (g3 s).2 k) 1).2) 2).1.1)])), (39, (.slice (some ⟨b29161, 0, none⟩) 1 1)), (40, v29181), (41, (ptr b7 0))]) wS := by
      intro b29161 v29181 wS HS
      rw [hW]
      refine WD.all1 (i := 11) (by kernel_rfl) ?_
      ·
        refine WS.op (i := 11) rfl rfl rfl (op_fieldAddr rfl Fa.F56_1 ?_)
        have hq := st8_38 b29161 v29181 wS HS
        rw [hW] at hq
        refine WD.cov ?_ hq
        exact by repeat (first | exact trivial | refine ⟨rfl, ?_⟩)
    have st8_36 : ∀ (b29161 : _) (v29181 : _) (wS : World), Own [] w wS [.blk b1 [(vU32 0), (.slice none 0 0), (.slice none 0 0), (.bool false), (vU32 0), (.slice none 0 0)] 59, .blk q2 [(str ((numR ((numR (xsD (g3 s).2 k) 1).2) 2).2).s), (vN ((numR ((numR (xsD (g3 s).2 k) 1).2) 2).2).at_), (vN ((numR ((numR (xsD (g3 s).2 k) 1).2) 2).2).f)] 107, .blk b3 [(ptr q2 0)] 138, .blk b7 [(vU32 (g2 s).1.1), x, (.slice none 0 0), (.bool false), (vU32 0), (.slice none 0 0)] 59, .row v29181 130 2 (k + 1) (List.flatMap xtc ((xsL (g3 s).2 k) ++ [(Xt.mk ((numR (xsD (g3 s).2 k) 1).1.1) ((numR ((numR (xsD (g3 s).2 k) 1).2) 2).1.1))])), .row (.slice none 0 0) 92 1 0 (List.map vU16 []), .row (.slice none 0 0) 111 3 0 (List.flatMap sgc []), .row (.slice (some ⟨b29161, 0, none⟩) 1 1) 130 2 1 (List.map vU32 [(numR (xsD (g3 s).2 k) 1).1.1, (numR ((numR (xsD (g3 s).2 k) 1).2) 2).1.1])] → W 3 #[true, true, true, true, true, true, true, true, true, true, false, false, false] (e8 [(31, (ptr b7 0)), (32, (ptr b7 1)), (33, x), (34, (.agg #[(ptr q2 0)])), (35, (vU32 (numR (xsD (g3 s).2 k) 1).1.1)), (36, (.agg #[(ptr q2 0)])), (37, (vU32 (numR ((numR (xsD (g3 s).2 k) 1).2) 2).1.1)), (38, (.agg #[(vU32 (numR (xsD (g3 s).2 k) 1).1.1), (vU32 (numR ((numR (xsD (g3 s).2 k) 1).2) 2).1.1)])), (39, (.slice (some ⟨b29161, 0, none⟩) 1 1)), (40, v29181)]) wS := by
      intro b29161 v29181 wS HS
      rw [hW]
      refine WD.all1 (i := 10) (by kernel_rfl) ?_
      ·
        refine WS.op (i := 10) rfl rfl rfl (op_fieldAddr rfl Fa.F59_0 ?_)
        have hq := st8_37 b29161 v29181 wS HS
        rw [hW] at hq
        refine WD.cov ?_ hq
        exact by repeat (first | exact trivial | refine ⟨rfl, ?_⟩)
    have st8_35 : ∀ (b29161 : _) (wS : World), Own [] w wS [.blk b1 [(vU32 0), (.slice none 0 0), (.slice none 0 0), (.bool false), (vU32 0), (.slice none 0 0)] 59, .blk q2 [(str ((numR ((numR (xsD (g3 s).2 k) 1).2) 2).2).s), (vN ((numR ((numR (xsD (g3 s).2 k) 1).2) 2).2).at_), (vN ((numR ((numR (xsD (g3 s).2 k) 1).2) 2).2).f)] 107, .blk b3 [(ptr q2 0)] 138, .blk b7 [(vU32 (g2 s).1.1), x, (.slice none 0 0), (.bool false), (vU32 0), (.slice none 0 0)] 59, .row x 130 2 k (List.flatMap xtc (xsL (g3 s).2 k)), .row (.slice none 0 0) 92 1 0 (List.map vU16 []), .row (.slice none 0 0) 111 3 0 (List.flatMap sgc []), .row (.slice (some ⟨b29161, 0, none⟩) 1 1) 130 2 1 (List.map vU32 [(numR (xsD (g3 s).2 k) 1).1.1, (numR ((numR (xsD (g3 s).2 k) 1).2) 2).1.1])] → W 4 #[true, true, true, true, true, true, true, true, true, false, false, false, false] (e8 [(31, (ptr b7 0)), (32, (ptr b7 1)), (33, x), (34, (.agg #[(ptr q2 0)])), (35, (vU32 (numR (xsD (g3 s).2 k) 1).1.1)), (36, (.agg #[(ptr q2 0)])), (37, (vU32 (numR ((numR (xsD (g3 s).2 k) 1).2) 2).1.1)), (38, (.agg #[(vU32 (numR (xsD (g3 s).2 k) 1).1.1), (vU32 (numR ((numR (xsD (g3 s).2 k) 1).2) 2).1.1)])), (39, (.slice (some ⟨b29161, 0, none⟩) 1 1))]) wS := by
      intro b29161 wS HS
      rw [hW]
      refine WD.all1 (i := 9) (by kernel_rfl) ?_
      ·
        refine WS.op (i := 9) rfl rfl rfl (op_appendF (f := xtc) (l := (xsL (g3 s).2 k)) (l' := [(Xt.mk ((numR (xsD (g3 s).2 k) 1).1.1) ((numR ((numR (xsD (g3 s).2 k) 1).2) 2).1.1))]) (i := 4) HS Try.underlying53 Fa.I130 rfl rfl rfl rfl (Src.ofArr Try.underlying53 (HS.arrR (i := 7) rfl)) (one_flat (fun _ => by simp [xtc, Value.oneCell'])) (by omega) (by omega) (fun v29181 w29181 H29181 => ?_))
        have hq := st8_36 b29161 v29181 w29181 H29181
        rw [hW] at hq
        refine WD.cov ?_ hq
        exact by repeat (first | exact trivial | refine ⟨rfl, ?_⟩)
    have st8_33 : ∀ (wS : World), Own [] w wS [.blk b1 [(vU32 0), (.slice none 0 0), (.slice none 0 0), (.bool false), (vU32 0), (.slice none 0 0)] 59, .blk q2 [(str ((numR ((numR (xsD (g3 s).2 k) 1).2) 2).2).s), (vN ((numR ((numR (xsD (g3 s).2 k) 1).2) 2).2).at_), (vN ((numR ((numR (xsD (g3 s).2 k) 1).2) 2).2).f)] 107, .blk b3 [(ptr q2 0)] 138, .blk b7 [(vU32 (g2 s).1.1), x, (.slice none 0 0), (.bool false), (vU32 0), (.slice none 0 0)] 59, .row x 130 2 k (List.flatMap xtc (xsL (g3 s).2 k)), .row (.slice none 0 0) 92 1 0 (List.map vU16 []), .row (.slice none 0 0) 111 3 0 (List.flatMap sgc [])] → W 5 #[true, true, true, true, true, true, true, true, false, false, false, false, false] (e8 [(31, (ptr b7 0)), (32, (ptr b7 1)), (33, x), (34, (.agg #[(ptr q2 0)])), (35, (vU32 (numR (xsD (g3 s).2 k) 1).1.1)), (36, (.agg #[(ptr q2 0)])), (37, (vU32 (numR ((numR (xsD (g3 s).2 k) 1).2) 2).1.1)), (38, (.agg #[(vU32 (numR (xsD (g3 s).2 k) 1).1.1), (vU32 (numR ((numR (xsD (g3 s).2 k) 1).2) 2).1.1)]))]) wS := by
      intro wS HS
      rw [hW]
      refine WD.all1 (i := 8) (by kernel_rfl) ?_
      ·
        refine WS.op (i := 8) rfl rfl rfl (op_buildSlice (cs := [_, _]) HS Try.underlying53 Fa.I130 rfl rfl rfl rfl (by decide) (by decide) (fun b29161 w29161 H29161 => ?_))
        have hq := st8_35 b29161 w29161 H29161
        rw [hW] at hq
        refine WD.cov ?_ hq
        exact by repeat (first | exact trivial | refine ⟨rfl, ?_⟩)
    have st8_34 : ∀ (b29161 : _) (wS : World), Own [] w wS [.blk b1 [(vU32 0), (.slice none 0 0), (.slice none 0 0), (.bool false), (vU32 0), (.slice none 0 0)] 59, .blk q2 [(str ((numR ((numR (xsD (g3 s).2 k) 1).2) 2).2).s), (vN ((numR ((numR (xsD (g3 s).2 k) 1).2) 2).2).at_), (vN ((numR ((numR (xsD (g3 s).2 k) 1).2) 2).2).f)] 107, .blk b3 [(ptr q2 0)] 138, .blk b7 [(vU32 (g2 s).1.1), x, (.slice none 0 0), (.bool false), (vU32 0), (.slice none 0 0)] 59, .row x 130 2 k (List.flatMap xtc (xsL (g3 s).2 k)), .row (.slice none 0 0) 92 1 0 (List.map vU16 []), .row (.slice none 0 0) 111 3 0 (List.flatMap sgc []), .row (.slice (some ⟨b29161, 0, none⟩) 1 1) 130 2 1 (List.map vU32 [(numR (xsD (g3 s).2 k) 1).1.1, (numR ((numR (xsD (g3 s).2 k) 1).2) 2).1.1])] → W 5 #[true, true, false, true, true, true, true, true, true, false, false, false, false] (e8 [(31, (ptr b7 0)), (32, (ptr b7 1)), (34, (.agg #[(ptr q2 0)])), (35, (vU32 (numR (xsD (g3 s).2 k) 1).1.1)), (36, (.agg #[(ptr q2 0)])), (37, (vU32 (numR ((numR (xsD (g3 s).2 k) 1).2) 2).1.1)), (38, (.agg #[(vU32 (numR (xsD (g3 s).2 k) 1).1.1), (vU32 (numR ((numR (xsD (g3 s).2 k) 1).2) 2).1.1)])), (39, (.slice (some ⟨b29161, 0, none⟩) 1 1))]) wS := by
      intro b29161 wS HS
      rw [hW]
      refine WD.all1 (i := 2) (by kernel_rfl) ?_
      ·
        refine WS.op (i := 2) rfl rfl rfl (op_load rfl (HS.cell (i := 3) rfl rfl) Try.underlying53 rfl ?_)
        have hq := st8_35 b29161 wS HS
        rw [hW] at hq
        refine WD.cov ?_ hq
        exact by repeat (first | exact trivial | refine ⟨rfl, ?_⟩)
    have st8_30 : ∀ (wS : World), Own [] w wS [.blk b1 [(vU32 0), (.slice none 0 0), (.slice none 0 0), (.bool false), (vU32 0), (.slice none 0 0)] 59, .blk q2 [(str ((numR ((numR (xsD (g3 s).2 k) 1).2) 2).2).s), (vN ((numR ((numR (xsD (g3 s).2 k) 1).2) 2).2).at_), (vN ((numR ((numR (xsD (g3 s).2 k) 1).2) 2).2).f)] 107, .blk b3 [(ptr q2 0)] 138, .blk b7 [(vU32 (g2 s).1.1), x, (.slice none 0 0), (.bool false), (vU32 0), (.slice none 0 0)] 59, .row x 130 2 k (List.flatMap xtc (xsL (g3 s).2 k)), .row (.slice none 0 0) 92 1 0 (List.map vU16 []), .row (.slice none 0 0) 111 3 0 (List.flatMap sgc [])] → W 6 #[true, true, true, true, true, true, true, false, false, false, false, false, false] (e8 [(31, (ptr b7 0)), (32, (ptr b7 1)), (33, x), (34, (.agg #[(ptr q2 0)])), (35, (vU32 (numR (xsD (g3 s).2 k) 1).1.1)), (36, (.agg #[(ptr q2 0)])), (37, (vU32 (numR ((numR (xsD (g3 s).2 k) 1).2) 2).1.1))]) wS := by
      intro wS HS
      rw [hW]
      refine WD.all1 (i := 7) (by kernel_rfl) ?_
      ·
        refine WS.op (i := 7) rfl rfl rfl (op_build (cs := [_, _]) Fa.I130 Fa.PL130 rfl rfl ?_)
        have hq := st8_33 wS HS
        rw [hW] at hq
        refine WD.cov ?_ hq
        exact by repeat (first | exact trivial | refine ⟨rfl, ?_⟩)
    have st8_31 : ∀ (wS : World), Own [] w wS [.blk b1 [(vU32 0), (.slice none 0 0), (.slice none 0 0), (.bool false), (vU32 0), (.slice none 0 0)] 59, .blk q2 [(str ((numR ((numR (xsD (g3 s).2 k) 1).2) 2).2).s), (vN ((numR ((numR (xsD (g3 s).2 k) 1).2) 2).2).at_), (vN ((numR ((numR (xsD (g3 s).2 k) 1).2) 2).2).f)] 107, .blk b3 [(ptr q2 0)] 138, .blk b7 [(vU32 (g2 s).1.1), x, (.slice none 0 0), (.bool false), (vU32 0), (.slice none 0 0)] 59, .row x 130 2 k (List.flatMap xtc (xsL (g3 s).2 k)), .row (.slice none 0 0) 92 1 0 (List.map vU16 []), .row (.slice none 0 0) 111 3 0 (List.flatMap sgc [])] → W 6 #[true, true, false, true, true, true, true, true, false, false, false, false, false] (e8 [(31, (ptr b7 0)), (32, (ptr b7 1)), (34, (.agg #[(ptr q2 0)])), (35, (vU32 (numR (xsD (g3 s).2 k) 1).1.1)), (36, (.agg #[(ptr q2 0)])), (37, (vU32 (numR ((numR (xsD (g3 s).2 k) 1).2) 2).1.1)), (38, (.agg #[(vU32 (numR (xsD (g3 s).2 k) 1).1.1), (vU32 (numR ((numR (xsD (g3 s).2 k) 1).2) 2).1.1)]))]) wS := by
      intro wS HS
      rw [hW]
      refine WD.all2 (i := 2) (j := 8) (by kernel_rfl) ?_ ?_
      ·
        refine WS.op (i := 2) rfl rfl rfl (op_load rfl (HS.cell (i := 3) rfl rfl) Try.underlying53 rfl ?_)
        have hq := st8_33 wS HS
        rw [hW] at hq
        refine WD.cov ?_ hq
        exact by repeat (first | exact trivial | refine ⟨rfl, ?_⟩)
      ·
        refine WS.op (i := 8) rfl rfl rfl (op_buildSlice (cs := [_, _]) HS Try.underlying53 Fa.I130 rfl rfl rfl rfl (by decide) (by decide) (fun b29161 w29161 H29161 => ?_))
        have hq := st8_34 b29161 w29161 H29161
        rw [hW] at hq
        refine WD.cov ?_ hq
        exact by repeat (first | exact trivial | refine ⟨rfl, ?_⟩)
    have st8_32 : ∀ (b29161 : _) (wS : World), Own [] w wS [.blk b1 [(vU32 0), (.slice none 0 0), (.slice none 0 0), (.bool false), (vU32 0), (.slice none 0 0)] 59, .blk q2 [(str ((numR ((numR (xsD (g3 s).2 k) 1).2) 2).2).s), (vN ((numR ((numR (xsD (g3 s).2 k) 1).2) 2).2).at_), (vN ((numR ((numR (xsD (g3 s).2 k) 1).2) 2).2).f)] 107, .blk b3 [(ptr q2 0)] 138, .blk b7 [(vU32 (g2 s).1.1), x, (.slice none 0 0), (.bool false), (vU32 0), (.slice none 0 0)] 59, .row x 130 2 k (List.flatMap xtc (xsL (g3 s).2 k)), .row (.slice none 0 0) 92 1 0 (List.map vU16 []), .row (.slice none 0 0) 111 3 0 (List.flatMap sgc []), .row (.slice (some ⟨b29161, 0, none⟩) 1 1) 130 2 1 (List.map vU32 [(numR (xsD (g3 s).2 k) 1).1.1, (numR ((numR (xsD (g3 s).2 k) 1).2) 2).1.1])] → W 6 #[true, false, false, true, true, true, true, true, true, false, false, false, false] (e8 [(31, (ptr b7 0)), (34, (.agg #[(ptr q2 0)])), (35, (vU32 (numR (xsD (g3 s).2 k) 1).1.1)), (36, (.agg #[(ptr q2 0)])), (37, (vU32 (numR ((numR (xsD (g3 s).2 k) 1).2) 2).1.1)), (38, (.agg #[(vU32 (numR (xsD (g3 s).2 k) 1).1.1), (vU32 (numR ((numR (xsD (g3 s).2 k) 1).2) 2).1.1)])), (39, (.slice (some ⟨b29161, 0, none⟩) 1 1))]) wS := by
      intro b29161 wS HS
      rw [hW]
      refine WD.all1 (i := 1) (by kernel_rfl) ?_
      ·
        refine WS.op (i := 1) rfl rfl rfl (op_fieldAddr rfl Fa.F56_1 ?_)
        have hq := st8_34 b29161 wS HS
        rw [hW] at hq
        refine WD.cov ?_ hq
        exact by repeat (first | exact trivial | refine ⟨rfl, ?_⟩)
    have st8_26 : ∀ (wS : World), Own [] w wS [.blk b1 [(vU32 0), (.slice none 0 0), (.slice none 0 0), (.bool false), (vU32 0), (.slice none 0 0)] 59, .blk q2 [(str ((numR (xsD (g3 s).2 k) 1).2).s), (vN ((numR (xsD (g3 s).2 k) 1).2).at_), (vN ((numR (xsD (g3 s).2 k) 1).2).f)] 107, .blk b3 [(ptr q2 0)] 138, .blk b7 [(vU32 (g2 s).1.1), x, (.slice none 0 0), (.bool false), (vU32 0), (.slice none 0 0)] 59, .row x 130 2 k (List.flatMap xtc (xsL (g3 s).2 k)), .row (.slice none 0 0) 92 1 0 (List.map vU16 []), .row (.slice none 0 0) 111 3 0 (List.flatMap sgc [])] → W 7 #[true, true, true, true, true, true, false, false, false, false, false, false, false] (e8 [(31, (ptr b7 0)), (32, (ptr b7 1)), (33, x), (34, (.agg #[(ptr q2 0)])), (35, (vU32 (numR (xsD (g3 s).2 k) 1).1.1)), (36, (.agg #[(ptr q2 0)]))]) wS := by
      intro wS HS
      rw [hW]
      refine WD.all1 (i := 6) (by kernel_rfl) ?_
      ·
        refine WS.op (i := 6) rfl rfl rfl (op_callF Fa.C96 rfl ((inum_ok q2 ((numR (xsD (g3 s).2 k) 1).2) (2) 107 _ _ (HS.part [1] rfl rfl) (by first | (rw [g1_t]; exact hs) | (rw [g2_t]; exact hs) | (rw [g4_t]; exact hs) | (rw [g6_t]; exact hs) | (rw [g7_t]; exact hs) | (rw [g8_t]; exact hs) | (rw [g10_t]; exact hs) | (rw [xsD_t, g3_t]; exact hs) | (rw [numR_s, xsD_t, g3_t]; exact hs) | (rw [psD_t, g5_t]; exact hs) | (rw [sgD_t, g9_t]; exact hs) | exact hs)).mono (fun e w29121 hq => ?_)))
        obtain ⟨rfl, hq29121⟩ := hq
        refine ⟨_, rfl, ?_⟩
        have H29121 : Own [] w w29121 [.blk b1 [(vU32 0), (.slice none 0 0), (.slice none 0 0), (.bool false), (vU32 0), (.slice none 0 0)] 59, .blk q2 [(str ((numR ((numR (xsD (g3 s).2 k) 1).2) 2).2).s), (vN ((numR ((numR (xsD (g3 s).2 k) 1).2) 2).2).at_), (vN ((numR ((numR (xsD (g3 s).2 k) 1).2) 2).2).f)] 107, .blk b3 [(ptr q2 0)] 138, .blk b7 [(vU32 (g2 s).1.1), x, (.slice none 0 0), (.bool false), (vU32 0), (.slice none 0 0)] 59, .row x 130 2 k (List.flatMap xtc (xsL (g3 s).2 k)), .row (.slice none 0 0) 92 1 0 (List.map vU16 []), .row (.slice none 0 0) 111 3 0 (List.flatMap sgc [])] := HS.splice [1] [.blk q2 [(str ((numR ((numR (xsD (g3 s).2 k) 1).2) 2).2).s), (vN ((numR ((numR (xsD (g3 s).2 k) 1).2) 2).2).at_), (vN ((numR ((numR (xsD (g3 s).2 k) 1).2) 2).2).f)] 107] [] rfl rfl hq29121 (Fits.solid True.intro Fits.nil)
        have hq := st8_30 w29121 H29121
        rw [hW] at hq
        refine WD.cov ?_ hq
        exact by repeat (first | exact trivial | refine ⟨rfl, ?_⟩)
    have st8_27 : ∀ (wS : World), Own [] w wS [.blk b1 [(vU32 0), (.slice none 0 0), (.slice none 0 0), (.bool false), (vU32 0), (.slice none 0 0)] 59, .blk q2 [(str ((numR ((numR (xsD (g3 s).2 k) 1).2) 2).2).s), (vN ((numR ((numR (xsD (g3 s).2 k) 1).2) 2).2).at_), (vN ((numR ((numR (xsD (g3 s).2 k) 1).2) 2).2).f)] 107, .blk b3 [(ptr q2 0)] 138, .blk b7 [(vU32 (g2 s).1.1), x, (.slice none 0 0), (.bool false), (vU32 0), (.slice none 0 0)] 59, .row x 130 2 k (List.flatMap xtc (xsL (g3 s).2 k)), .row (.slice none 0 0) 92 1 0 (List.map vU16 []), .row (.slice none 0 0) 111 3 0 (List.flatMap sgc [])] → W 7 #[true, true, false, true, true, true, true, false, false, false, false, false, false] (e8 [(31, (ptr b7 0)), (32, (ptr b7 1)), (34, (.agg #[(ptr q2 0)])), (35, (vU32 (numR (xsD (g3 s).2 k) 1).1.1)), (36, (.agg #[(ptr q2 0)])), (37, (vU32 (numR ((numR (xsD (g3 s).2 k) 1).2) 2).1.1))]) wS := by
      intro wS HS
      rw [hW]
      refine WD.all2 (i := 2) (j := 7) (by kernel_rfl) ?_ ?_
      ·
        refine WS.op (i := 2) rfl rfl rfl (op_load rfl (HS.cell (i := 3) rfl rfl) Try.underlying53 rfl ?_)
        have hq := st8_30 wS HS
        rw [hW] at hq
        refine WD.cov ?_ hq
        exact by repeat (first | exact trivial | refine ⟨rfl, ?_⟩)
      ·
        refine WS.op (i := 7) rfl rfl rfl (op_build (cs := [_, _]) Fa.I130 Fa.PL130 rfl rfl ?_)
        have hq := st8_31 wS HS
        rw [hW] at hq
        refine WD.cov ?_ hq
        exact by repeat (first | exact trivial | refine ⟨rfl, ?_⟩)
    have st8_28 : ∀ (wS : World), Own [] w wS [.blk b1 [(vU32 0), (.slice none 0 0), (.slice none 0 0), (.bool false), (vU32 0), (.slice none 0 0)] 59, .blk q2 [(str ((numR ((numR (xsD (g3 s).2 k) 1).2) 2).2).s), (vN ((numR ((numR (xsD (g3 s).2 k) 1).2) 2).2).at_), (vN ((numR ((numR (xsD (g3 s).2 k) 1).2) 2).2).f)] 107, .blk b3 [(ptr q2 0)] 138, .blk b7 [(vU32 (g2 s).1.1), x, (.slice none 0 0), (.bool false), (vU32 0), (.slice none 0 0)] 59, .row x 130 2 k (List.flatMap xtc (xsL (g3 s).2 k)), .row (.slice none 0 0) 92 1 0 (List.map vU16 []), .row (.slice none 0 0) 111 3 0 (List.flatMap sgc [])] → W 7 #[true, false, false, true, true, true, true, true, false, false, false, false, false] (e8 [(31, (ptr b7 0)), (34, (.agg #[(ptr q2 0)])), (35, (vU32 (numR (xsD (g3 s).2 k) 1).1.1)), (36, (.agg #[(ptr q2 0)])), (37, (vU32 (numR ((numR (xsD (g3 s).2 k) 1).2) 2).1.1)), (38, (.agg #[(vU32 (numR (xsD (g3 s).2 k) 1).1.1), (vU32 (numR ((numR (xsD (g3 s).2 k) 1).2) 2).1.1)]))]) wS := by
      intro wS HS
      rw [hW]
      refine WD.all2 (i := 1) (j := 8) (by kernel_rfl) ?_ ?_
      ·
        refine WS.op (i := 1) rfl rfl rfl (op_fieldAddr rfl Fa.F56_1 ?_)
        have hq := st8_31 wS HS
        rw [hW] at hq
        refine WD.cov ?_ hq
        exact by repeat (first | exact trivial | refine ⟨rfl, ?_⟩)
      ·
        refine WS.op (i := 8) rfl rfl rfl (op_buildSlice (cs := [_, _]) HS Try.underlying53 Fa.I130 rfl rfl rfl rfl (by decide) (by decide) (fun b29161 w29161 H29161 => ?_))
        have hq := st8_32 b29161 w29161 H29161
        rw [hW] at hq
        refine WD.cov ?_ hq
        exact by repeat (first | exact trivial | refine ⟨rfl, ?_⟩)
    have st8_29 : ∀ (b29161 : _) (wS : World), Own [] w wS [.blk b1 [(vU32 0), (.slice none 0 0), (.slice none 0 0), (.bool false), (vU32 0), (.slice none 0 0)] 59, .blk q2 [(str ((numR ((numR (xsD (g3 s).2 k) 1).2) 2).2).s), (vN ((numR ((numR (xsD (g3 s).2 k) 1).2) 2).2).at_), (vN ((numR ((numR (xsD (g3 s).2 k) 1).2) 2).2).f)] 107, .blk b3 [(ptr q2 0)] 138, .blk b7 [(vU32 (g2 s).1.1), x, (.slice none 0 0), (.bool false), (vU32 0), (.slice none 0 0)] 59, .row x 130 2 k (List.flatMap xtc (xsL (g3 s).2 k)), .row (.slice none 0 0) 92 1 0 (List.map vU16 []), .row (.slice none 0 0) 111 3 0 (List.flatMap sgc []), .row (.slice (some ⟨b29161, 0, none⟩) 1 1) 130 2 1 (List.map vU32 [(numR (xsD (g3 s).2 k) 1).1.1, (numR ((numR (xsD (g3 s).2 k) 1).2) 2).1.1])] → W 7 #[false, false, false, true, true, true, true, true, true, false, false, false, false] (e8 [(34, (.agg #[(ptr q2 0)])), (35, (vU32 (numR (xsD (g3 s).2 k) 1).1.1)), (36, (.agg #[(ptr q2 0)])), (37, (vU32 (numR ((numR (xsD (g3 s).2 k) 1).2) 2).1.1)), (38, (.agg #[(vU32 (numR (xsD (g3 s).2 k) 1).1.1), (vU32 (numR ((numR (xsD (g3 s).2 k) 1).2) 2).1.1)])), (39, (.slice (some ⟨b29161, 0, none⟩) 1 1))]) wS := by
      intro b29161 wS HS
      rw [hW]
      refine WD.all1 (i := 0) (by kernel_rfl) ?_
      ·
        refine WS.op (i := 0) rfl rfl rfl (op_fieldAddr rfl Fa.F59_0 ?_)
        have hq := st8_32 b29161 wS HS
        rw [hW] at hq
        refine WD.cov ?_ hq
        exact by repeat (first | exact trivial | refine ⟨rfl, ?_⟩)
    have st8_21 : ∀ (wS : World), Own [] w wS [.blk b1 [(vU32 0), (.slice none 0 0), (.slice none 0 0), (.bool false), (vU32 0), (.slice none 0 0)] 59, .blk q2 [(str ((numR (xsD (g3 s).2 k) 1).2).s), (vN ((numR (xsD (g3 s).2 k) 1).2).at_), (vN ((numR (xsD (g3 s).2 k) 1).2).f)] 107, .blk b3 [(ptr q2 0)] 138, .blk b7 [(vU32 (g2 s).1.1), x, (.slice none 0 0), (.bool false), (vU32 0), (.slice none 0 0)] 59, .row x 130 2 k (List.flatMap xtc (xsL (g3 s).2 k)), .row (.slice none 0 0) 92 1 0 (List.map vU16 []), .row (.slice none 0 0) 111 3 0 (List.flatMap sgc [])] → W 8 #[true, true, true, true, true, false, false, false, false, false, false, false, false] (e8 [(31, (ptr b7 0)), (32, (ptr b7 1)), (33, x), (34, (.agg #[(ptr q2 0)])), (35, (vU32 (numR (xsD (g3 s).2 k) 1).1.1))]) wS := by
      intro wS HS
      rw [hW]
      refine WD.all1 (i := 5) (by kernel_rfl) ?_
      ·
        refine WS.op (i := 5) rfl rfl rfl (op_loadS (vs := [_]) rfl (HS.cells (i := 2) rfl rfl) Try.underlying138 rfl Fa.I138 rfl ?_)
        have hq := st8_26 wS HS
        rw [hW] at hq
        refine WD.cov ?_ hq
        exact by repeat (first | exact trivial | refine ⟨rfl, ?_⟩)
    have st8_22 : ∀ (wS : World), Own [] w wS (l8 []) → W 8 #[true, true, true, true, false, true, false, false, false, false, false, false, false] (e8 [(31, (ptr b7 0)), (32, (ptr b7 1)), (33, x), (34, (.agg #[(ptr q2 0)])), (36, (.agg #[(ptr q2 0)]))]) wS := by
      intro wS HS
      rw [hW]
      refine WD.all1 (i := 4) (by kernel_rfl) ?_
      ·
        refine WS.op (i := 4) rfl rfl rfl (op_callF Fa.C96 rfl ((inum_ok q2 (xsD (g3 s).2 k) (1) 107 _ _ (HS.part [1] rfl rfl) (by first | (rw [g1_t]; exact hs) | (rw [g2_t]; exact hs) | (rw [g4_t]; exact hs) | (rw [g6_t]; exact hs) | (rw [g7_t]; exact hs) | (rw [g8_t]; exact hs) | (rw [g10_t]; exact hs) | (rw [xsD_t, g3_t]; exact hs) | (rw [numR_s, xsD_t, g3_t]; exact hs) | (rw [psD_t, g5_t]; exact hs) | (rw [sgD_t, g9_t]; exact hs) | exact hs)).mono (fun e w29081 hq => ?_)))
        obtain ⟨rfl, hq29081⟩ := hq
        refine ⟨_, rfl, ?_⟩
        have H29081 : Own [] w w29081 [.blk b1 [(vU32 0), (.slice none 0 0), (.slice none 0 0), (.bool false), (vU32 0), (.slice none 0 0)] 59, .blk q2 [(str ((numR (xsD (g3 s).2 k) 1).2).s), (vN ((numR (xsD (g3 s).2 k) 1).2).at_), (vN ((numR (xsD (g3 s).2 k) 1).2).f)] 107, .blk b3 [(ptr q2 0)] 138, .blk b7 [(vU32 (g2 s).1.1), x, (.slice none 0 0), (.bool false), (vU32 0), (.slice none 0 0)] 59, .row x 130 2 k (List.flatMap xtc (xsL (g3 s).2 k)), .row (.slice none 0 0) 92 1 0 (List.map vU16 []), .row (.slice none 0 0) 111 3 0 (List.flatMap sgc [])] := HS.splice [1] [.blk q2 [(str ((numR (xsD (g3 s).2 k) 1).2).s), (vN ((numR (xsD (g3 s).2 k) 1).2).at_), (vN ((numR (xsD (g3 s).2 k) 1).2).f)] 107] [] rfl rfl hq29081 (Fits.solid True.intro Fits.nil)
        have hq := st8_26 w29081 H29081
        rw [hW] at hq
        refine WD.cov ?_ hq
        exact by repeat (first | exact trivial | refine ⟨rfl, ?_⟩)
    have st8_23 : ∀ (wS : World), Own [] w wS [.blk b1 [(vU32 0), (.slice none 0 0), (.slice none 0 0), (.bool false), (vU32 0), (.slice none 0 0)] 59, .blk q2 [(str ((numR (xsD (g3 s).2 k) 1).2).s), (vN ((numR (xsD (g3 s).2 k) 1).2).at_), (vN ((numR (xsD (g3 s).2 k) 1).2).f)] 107, .blk b3 [(ptr q2 0)] 138, .blk b7 [(vU32 (g2 s).1.1), x, (.slice none 0 0), (.bool false), (vU32 0), (.slice none 0 0)] 59, .row x 130 2 k (List.flatMap xtc (xsL (g3 s).2 k)), .row (.slice none 0 0) 92 1 0 (List.map vU16 []), .row (.slice none 0 0) 111 3 0 (List.flatMap sgc [])] → W 8 #[true, true, false, true, true, true, false, false, false, false, false, false, false] (e8 [(31, (ptr b7 0)), (32, (ptr b7 1)), (34, (.agg #[(ptr q2 0)])), (35, (vU32 (numR (xsD (g3 s).2 k) 1).1.1)), (36, (.agg #[(ptr q2 0)]))]) wS := by
      intro wS HS
      rw [hW]
      refine WD.all2 (i := 2) (j := 6) (by kernel_rfl) ?_ ?_
      ·
        refine WS.op (i := 2) rfl rfl rfl (op_load rfl (HS.cell (i := 3) rfl rfl) Try.underlying53 rfl ?_)
        have hq := st8_26 wS HS
        rw [hW] at hq
        refine WD.cov ?_ hq
        exact by repeat (first | exact trivial | refine ⟨rfl, ?_⟩)
      ·
        refine WS.op (i := 6) rfl rfl rfl (op_callF Fa.C96 rfl ((inum_ok q2 ((numR (xsD (g3 s).2 k) 1).2) (2) 107 _ _ (HS.part [1] rfl rfl) (by first | (rw [g1_t]; exact hs) | (rw [g2_t]; exact hs) | (rw [g4_t]; exact hs) | (rw [g6_t]; exact hs) | (rw [g7_t]; exact hs) | (rw [g8_t]; exact hs) | (rw [g10_t]; exact hs) | (rw [xsD_t, g3_t]; exact hs) | (rw [numR_s, xsD_t, g3_t]; exact hs) | (rw [psD_t, g5_t]; exact hs) | (rw [sgD_t, g9_t]; exact hs) | exact hs)).mono (fun e w29121 hq => ?_)))
        obtain ⟨rfl, hq29121⟩ := hq
        refine ⟨_, rfl, ?_⟩
        have H29121 : Own [] w w29121 [.blk b1 [(vU32 0), (.slice none 0 0), (.slice none 0 0), (.bool false), (vU32 0), (.slice none 0 0)] 59, .blk q2 [(str ((numR ((numR (xsD (g3 s).2 k) 1).2) 2).2).s), (vN ((numR ((numR (xsD (g3 s).2 k) 1).2) 2).2).at_), (vN ((numR ((numR (xsD (g3 s).2 k) 1).2) 2).2).f)] 107, .blk b3 [(ptr q2 0)] 138, .blk b7 [(vU32 (g2 s).1.1), x, (.slice none 0 0), (.bool false), (vU32 0), (.slice none 0 0)] 59, .row x 130 2 k (List.flatMap xtc (xsL (g3 s).2 k)), .row (.slice none 0 0) 92 1 0 (List.map vU16 []), .row (.slice none 0 0) 111 3 0 (List.flatMap sgc [])] := HS.splice [1] [.blk q2 [(str ((numR ((numR (xsD (g3 s).2 k) 1).2) 2).2).s), (vN ((numR ((numR (xsD (g3 s).2 k) 1).2) 2).2).at_), (vN ((numR ((numR (xsD (g3 s).2 k) 1).2) 2).2).f)] 107] [] rfl rfl hq29121 (Fits.solid True.intro Fits.nil)
        have hq := st8_27 w29121 H29121
        rw [hW] at hq
        refine WD.cov ?_ hq
        exact by repeat (first | exact trivial | refine ⟨rfl, ?_⟩)
    have st8_24 : ∀ (wS : World), Own [] w wS [.blk b1 [(vU32 0), (.slice none 0 0), (.slice none 0 0), (.bool false), (vU32 0), (.slice none 0 0)] 59, .blk q2 [(str ((numR ((numR (xsD (g3 s).2 k) 1).2) 2).2).s), (vN ((numR ((numR (xsD (g3 s).2 k) 1).2) 2).2).at_), (vN ((numR ((numR (xsD (g3 s).2 k) 1).2) 2).2).f)] 107, .blk b3 [(ptr q2 0)] 138, .blk b7 [(vU32 (g2 s).1.1), x, (.slice none 0 0), (.bool false), (vU32 0), (.slice none 0 0)] 59, .row x 130 2 k (List.flatMap xtc (xsL (g3 s).2 k)), .row (.slice none 0 0) 92 1 0 (List.map vU16 []), .row (.slice none 0 0) 111 3 0 (List.flatMap sgc [])] → W 8 #[true, false, false, true, true, true, true, false, false, false, false, false, false] (e8 [(31, (ptr b7 0)), (34, (.agg #[(ptr q2 0)])), (35, (vU32 (numR (xsD (g3 s).2 k) 1).1.1)), (36, (.agg #[(ptr q2 0)])), (37, (vU32 (numR ((numR (xsD (g3 s).2 k) 1).2) 2).1.1))]) wS := by
      intro wS HS
      rw [hW]
      refine WD.all2 (i := 1) (j := 7) (by kernel_rfl) ?_ ?_
      ·
        refine WS.op (i := 1) rfl rfl rfl (op_fieldAddr rfl Fa.F56_1 ?_)
        have hq := st8_27 wS HS
        rw [hW] at hq
        refine WD.cov ?_ hq
        exact by repeat (first | exact trivial | refine ⟨rfl, ?_⟩)
      ·
        refine WS.op (i := 7) rfl rfl rfl (op_build (cs := [_, _]) Fa.I130 Fa.PL130 rfl rfl ?_)
        have hq := st8_28 wS HS
        rw [hW] at hq
        refine WD.cov ?_ hq
        exact by repeat (first | exact trivial | refine ⟨rfl, ?_⟩)
    have st8_25 : ∀ (wS : World), Own [] w wS [.blk b1 [(vU32 0), (.slice none 0 0), (.slice none 0 0), (.bool false), (vU32 0), (.slice none 0 0)] 59, .blk q2 [(str ((numR ((numR (xsD (g3 s).2 k) 1).2) 2).2).s), (vN ((numR ((numR (xsD (g3 s).2 k) 1).2) 2).2).at_), (vN ((numR ((numR (xsD (g3 s).2 k) 1).2) 2).2).f)] 107, .blk b3 [(ptr q2 0)] 138, .blk b7 [(vU32 (g2 s).1.1), x, (.slice none 0 0), (.bool false), (vU32 0), (.slice none 0 0)] 59, .row x 130 2 k (List.flatMap xtc (xsL (g3 s).2 k)), .row (.slice none 0 0) 92 1 0 (List.map vU16 []), .row (.slice none 0 0) 111 3 0 (List.flatMap sgc [])] → W 8 #[false, false, false, true, true, true, true, true, false, false, false, false, false] (e8 [(34, (.agg #[(ptr q2 0)])), (35, (vU32 (numR (xsD (g3 s).2 k) 1).1.1)), (36, (.agg #[(ptr q2 0)])), (37, (vU32 (numR ((numR (xsD (g3 s).2 k) 1).2) 2).1.1)), (38, (.agg #[(vU32 (numR (xsD (g3 s).2 k) 1).1.1), (vU32 (numR ((numR (xsD (g3 s).2 k) 1).2) 2).1.1)]))]) wS := by
      intro wS HS
      rw [hW]
      refine WD.all2 (i := 0) (j := 8) (by kernel_rfl) ?_ ?_
      ·
        refine WS.op (i := 0) rfl rfl rfl (op_fieldAddr rfl Fa.F59_0 ?_)
        have hq := st8_28 wS HS
        rw [hW] at hq
        refine WD.cov ?_ hq
        exact by repeat (first | exact trivial | refine ⟨rfl, ?_⟩)
      ·
        refine WS.op (i := 8) rfl rfl rfl (op_buildSlice (cs := [_, _]) HS Try.underlying53 Fa.I130 rfl rfl rfl rfl (by decide) (by decide) (fun b29161 w29161 H29161 => ?_))
        have hq := st8_29 b29161 w29161 H29161
        rw [hW] at hq
        refine WD.cov ?_ hq
        exact by repeat (first | exact trivial | refine ⟨rfl, ?_⟩)
    have st8_15 : ∀ (wS : World), Own [] w wS (l8 []) → W 9 #[true, true, true, true, false, false, false, false, false, false, false, false, false] (e8 [(31, (ptr b7 0)), (32, (ptr b7 1)), (33, x), (34, (.agg #[(ptr q2 0)]))]) wS := by
      intro wS HS
      rw [hW]
      refine WD.all2 (i := 4) (j := 5) (by kernel_rfl) ?_ ?_
      ·
        refine WS.op (i := 4) rfl rfl rfl (op_callF Fa.C96 rfl ((inum_ok q2 (xsD (g3 s).2 k) (1) 107 _ _ (HS.part [1] rfl rfl) (by first | (rw [g1_t]; exact hs) | (rw [g2_t]; exact hs) | (rw [g4_t]; exact hs) | (rw [g6_t]; exact hs) | (rw [g7_t]; exact hs) | (rw [g8_t]; exact hs) | (rw [g10_t]; exact hs) | (rw [xsD_t, g3_t]; exact hs) | (rw [numR_s, xsD_t, g3_t]; exact hs) | (rw [psD_t, g5_t]; exact hs) | (rw [sgD_t, g9_t]; exact hs) | exact hs)).mono (fun e w29081 hq => ?_)))
        obtain ⟨rfl, hq29081⟩ := hq
        refine ⟨_, rfl, ?_⟩
        have H29081 : Own [] w w29081 [.blk b1 [(vU32 0), (.slice none 0 0), (.slice none 0 0), (.bool false), (vU32 0), (.slice none 0 0)] 59, .blk q2 [(str ((numR (xsD (g3 s).2 k) 1).2).s), (vN ((numR (xsD (g3 s).2 k) 1).2).at_), (vN ((numR (xsD (g3 s).2 k) 1).2).f)] 107, .blk b3 [(ptr q2 0)] 138, .blk b7 [(vU32 (g2 s).1.1), x, (.slice none 0 0), (.bool false), (vU32 0), (.slice none 0 0)] 59, .row x 130 2 k (List.flatMap xtc (xsL (g3 s).2 k)), .row (.slice none 0 0) 92 1 0 (List.map vU16 []), .row (.slice none 0 0) 111 3 0 (List.flatMap sgc [])] := HS.splice [1] [.blk q2 [(str ((numR (xsD (g3 s).2 k) 1).2).s), (vN ((numR (xsD (g3 s).2 k) 1).2).at_), (vN ((numR (xsD (g3 s).2 k) 1).2).f)] 107] [] rfl rfl hq29081 (Fits.solid True.intro Fits.nil)
        have hq := st8_21 w29081 H29081
        rw [hW] at hq
        refine WD.cov ?_ hq
        exact by repeat (first | exact trivial | refine ⟨rfl, ?_⟩)
      ·
        refine WS.op (i := 5) rfl rfl rfl (op_loadS (vs := [_]) rfl (HS.cells (i := 2) rfl rfl) Try.underlying138 rfl Fa.I138 rfl ?_)
        have hq := st8_22 wS HS
        rw [hW] at hq
        refine WD.cov ?_ hq
        exact by repeat (first | exact trivial | refine ⟨rfl, ?_⟩)
    have st8_16 : ∀ (wS : World), Own [] w wS (l8 []) → W 9 #[true, true, true, false, false, true, false, false, false, false, false, false, false] (e8 [(31, (ptr b7 0)), (32, (ptr b7 1)), (33, x), (36, (.agg #[(ptr q2 0)]))]) wS := by
      intro wS HS
      rw [hW]
      refine WD.all1 (i := 3) (by kernel_rfl) ?_
      ·
        refine WS.op (i := 3) rfl rfl rfl (op_loadS (vs := [_]) rfl (HS.cells (i := 2) rfl rfl) Try.underlying138 rfl Fa.I138 rfl ?_)
        have hq := st8_22 wS HS
        rw [hW] at hq
        refine WD.cov ?_ hq
        exact by repeat (first | exact trivial | refine ⟨rfl, ?_⟩)
    have st8_17 : ∀ (wS : World), Own [] w wS [.blk b1 [(vU32 0), (.slice none 0 0), (.slice none 0 0), (.bool false), (vU32 0), (.slice none 0 0)] 59, .blk q2 [(str ((numR (xsD (g3 s).2 k) 1).2).s), (vN ((numR (xsD (g3 s).2 k) 1).2).at_), (vN ((numR (xsD (g3 s).2 k) 1).2).f)] 107, .blk b3 [(ptr q2 0)] 138, .blk b7 [(vU32 (g2 s).1.1), x, (.slice none 0 0), (.bool false), (vU32 0), (.slice none 0 0)] 59, .row x 130 2 k (List.flatMap xtc (xsL (g3 s).2 k)), .row (.slice none 0 0) 92 1 0 (List.map vU16 []), .row (.slice none 0 0) 111 3 0 (List.flatMap sgc [])] → W 9 #[true, true, false, true, true, false, false, false, false, false, false, false, false] (e8 [(31, (ptr b7 0)), (32, (ptr b7 1)), (34, (.agg #[(ptr q2 0)])), (35, (vU32 (numR (xsD (g3 s).2 k) 1).1.1))]) wS := by
      intro wS HS
      rw [hW]
      refine WD.all2 (i := 2) (j := 5) (by kernel_rfl) ?_ ?_
      ·
        refine WS.op (i := 2) rfl rfl rfl (op_load rfl (HS.cell (i := 3) rfl rfl) Try.underlying53 rfl ?_)
        have hq := st8_21 wS HS
        rw [hW] at hq
        refine WD.cov ?_ hq
        exact by repeat (first | exact trivial | refine ⟨rfl, ?_⟩)
      ·
        refine WS.op (i := 5) rfl rfl rfl (op_loadS (vs := [_]) rfl (HS.cells (i := 2) rfl rfl) Try.underlying138 rfl Fa.I138 rfl ?_)
        have hq := st8_23 wS HS
        rw [hW] at hq
        refine WD.cov ?_ hq
        exact by repeat (first | exact trivial | refine ⟨rfl, ?_⟩)
    have st8_18 : ∀ (wS : World), Own [] w wS (l8 []) → W 9 #[true, true, false, true, false, true, false, false, false, false, false, false, false] (e8 [(31, (ptr b7 0)), (32, (ptr b7 1)), (34, (.agg #[(ptr q2 0)])), (36, (.agg #[(ptr q2 0)]))]) wS := by
      intro wS HS
      rw [hW]
      refine WD.all2 (i := 2) (j := 4) (by kernel_rfl) ?_ ?_
      ·
        refine WS.op (i := 2) rfl rfl rfl (op_load rfl (HS.cell (i := 3) rfl rfl) Try.underlying53 rfl ?_)
        have hq := st8_22 wS HS
        rw [hW] at hq
        refine WD.cov ?_ hq
        exact by repeat (first | exact trivial | refine ⟨rfl, ?_⟩)
      ·
        refine WS.op (i := 4) rfl rfl rfl (op_callF Fa.C96 rfl ((inum_ok q2 (xsD (g3 s).2 k) (1) 107 _ _ (HS.part [1] rfl rfl) (by first | (rw [g1_t]; exact hs) | (rw [g2_t]; exact hs) | (rw [g4_t]; exact hs) | (rw [g6_t]; exact hs) | (rw [g7_t]; exact hs) | (rw [g8_t]; exact hs) | (rw [g10_t]; exact hs) | (rw [xsD_t, g3_t]; exact hs) | (rw [numR_s, xsD_t, g3_t]; exact hs) | (rw [psD_t, g5_t]; exact hs) | (rw [sgD_t, g9_t]; exact hs) | exact hs)).mono (fun e w29081 hq => ?_)))
        obtain ⟨rfl, hq29081⟩ := hq
        refine ⟨_, rfl, ?_⟩
        have H29081 : Own [] w w29081 [.blk b1 [(vU32 0), (.slice none 0 0), (.slice none 0 0), (.bool false), (vU32 0), (.slice none 0 0)] 59, .blk q2 [(str ((numR (xsD (g3 s).2 k) 1).2).s), (vN ((numR (xsD (g3 s).2 k) 1).2).at_), (vN ((numR (xsD (g3 s).2 k) 1).2).f)] 107, .blk b3 [(ptr q2 0)] 138, .blk b7 [(vU32 (g2 s).1.1), x, (.slice none 0 0), (.bool false), (vU32 0), (.slice none 0 0)] 59, .row x 130 2 k (List.flatMap xtc (xsL (g3 s).2 k)), .row (.slice none 0 0) 92 1 0 (List.map vU16 []), .row (.slice none 0 0) 111 3 0 (List.flatMap sgc [])] := HS.splice [1] [.blk q2 [(str ((numR (xsD (g3 s).2 k) 1).2).s), (vN ((numR (xsD (g3 s).2 k) 1).2).at_), (vN ((numR (xsD (g3 s).2 k) 1).2).f)] 107] [] rfl rfl hq29081 (Fits.solid True.intro Fits.nil)
        have hq := st8_23 w29081 H29081
        rw [hW] at hq
        refine WD.cov ?_ hq
        exact by repeat (first | exact trivial | refine ⟨rfl, ?_⟩)
    have st8_19 : ∀ (wS : World), Own [] w wS [.blk b1 [(vU32 0), (.slice none 0 0), (.slice none 0 0), (.bool false), (vU32 0), (.slice none 0 0)] 59, .blk q2 [(str ((numR (xsD (g3 s).2 k) 1).2).s), (vN ((numR (xsD (g3 s).2 k) 1).2).at_), (vN ((numR (xsD (g3 s).2 k) 1).2).f)] 107, .blk b3 [(ptr q2 0)] 138, .blk b7 [(vU32 (g2 s).1.1), x, (.slice none 0 0), (.bool false), (vU32 0), (.slice none 0 0)] 59, .row x 130 2 k (List.flatMap xtc (xsL (g3 s).2 k)), .row (.slice none 0 0) 92 1 0 (List.map vU16 []), .row (.slice none 0 0) 111 3 0 (List.flatMap sgc [])] → W 9 #[true, false, false, true, true, true, false, false, false, false, false, false, false] (e8 [(31, (ptr b7 0)), (34, (.agg #[(ptr q2 0)])), (35, (vU32 (numR (xsD (g3 s).2 k) 1).1.1)), (36, (.agg #[(ptr q2 0)]))]) wS := by
      intro wS HS
      rw [hW]
      refine WD.all2 (i := 1) (j := 6) (by kernel_rfl) ?_ ?_
      ·
        refine WS.op (i := 1) rfl rfl rfl (op_fieldAddr rfl Fa.F56_1 ?_)
        have hq := st8_23 wS HS
        rw [hW] at hq
        refine WD.cov ?_ hq
        exact by repeat (first | exact trivial | refine ⟨rfl, ?_⟩)
      ·
        refine WS.op (i := 6) rfl rfl rfl (op_callF Fa.C96 rfl ((inum_ok q2 ((numR (xsD (g3 s).2 k) 1).2) (2) 107 _ _ (HS.part [1] rfl rfl) (by first | (rw [g1_t]; exact hs) | (rw [g2_t]; exact hs) | (rw [g4_t]; exact hs) | (rw [g6_t]; exact hs) | (rw [g7_t]; exact hs) | (rw [g8_t]; exact hs) | (rw [g10_t]; exact hs) | (rw [xsD_t, g3_t]; exact hs) | (rw [numR_s, xsD_t, g3_t]; exact hs) | (rw [psD_t, g5_t]; exact hs) | (rw [sgD_t, g9_t]; exact hs) | exact hs)).mono (fun e w29121 hq => ?_)))
        obtain ⟨rfl, hq29121⟩ := hq
        refine ⟨_, rfl, ?_⟩
        have H29121 : Own [] w w29121 [.blk b1 [(vU32 0), (.slice none 0 0), (.slice none 0 0), (.bool false), (vU32 0), (.slice none 0 0)] 59, .blk q2 [(str ((numR ((numR (xsD (g3 s).2 k) 1).2) 2).2).s), (vN ((numR ((numR (xsD (g3 s).2 k) 1).2) 2).2).at_), (vN ((numR ((numR (xsD (g3 s).2 k) 1).2) 2).2).f)] 107, .blk b3 [(ptr q2 0)] 138, .blk b7 [(vU32 (g2 s).1.1), x, (.slice none 0 0), (.bool false), (vU32 0), (.slice none 0 0)] 59, .row x 130 2 k (List.flatMap xtc (xsL (g3 s).2 k)), .row (.slice none 0 0) 92 1 0 (List.map vU16 []), .row (.slice none 0 0) 111 3 0 (List.flatMap sgc [])] := HS.splice [1] [.blk q2 [(str ((numR ((numR (xsD (g3 s).2 k) 1).2) 2).2).s), (vN ((numR ((numR (xsD (g3 s).2 k) 1).2) 2).2).at_), (vN ((numR ((numR (xsD (g3 s).2 k) 1).2) 2).2).f)] 107] [] rfl rfl hq29121 (Fits.solid True.intro Fits.nil)
        have hq := st8_24 w29121 H29121
        rw [hW] at hq
        refine WD.cov ?_ hq
        exact by repeat (first | exact trivial | refine ⟨rfl, ?_⟩)
    have st8_20 : ∀ (wS : World), Own [] w wS [.blk b1 [(vU32 0), (.slice none 0 0), (.slice none 0 0), (.bool false), (vU32 0), (.slice none 0 0)] 59, .blk q2 [(str ((numR ((numR (xsD (g3 s).2 k) 1).2) 2).2).s), (vN ((numR ((numR (xsD (g3 s).2 k) 1).2) 2).2).at_), (vN ((numR ((numR (xsD (g3 s).2 k) 1).2) 2).2).f)] 107, .blk b3 [(ptr q2 0)] 138, .blk b7 [(vU32 (g2 s).1.1), x, (.slice none 0 0), (.bool false), (vU32 0), (.slice none 0 0)] 59, .row x 130 2 k (List.flatMap xtc (xsL (g3 s).2 k)), .row (.slice none 0 0) 92 1 0 (List.map vU16 []), .row (.slice none 0 0) 111 3 0 (List.flatMap sgc [])] → W 9 #[false, false, false, true, true, true, true, false, false, false, false, false, false] (e8 [(34, (.agg #[(ptr q2 0)])), (35, (vU32 (numR (xsD (g3 s).2 k) 1).1.1)), (36, (.agg #[(ptr q2 0)])), (37, (vU32 (numR ((numR (xsD (g3 s).2 k) 1).2) 2).1.1))]) wS := by
      intro wS HS
      rw [hW]
      refine WD.all2 (i := 0) (j := 7) (by kernel_rfl) ?_ ?_
      ·
        refine WS.op (i := 0) rfl rfl rfl (op_fieldAddr rfl Fa.F59_0 ?_)
        have hq := st8_24 wS HS
        rw [hW] at hq
        refine WD.cov ?_ hq
        exact by repeat (first | exact trivial | refine ⟨rfl, ?_⟩)
      ·
        refine WS.op (i := 7) rfl rfl rfl (op_build (cs := [_, _]) Fa.I130 Fa.PL130 rfl rfl ?_)
        have hq := st8_25 wS HS
        rw [hW] at hq
        refine WD.cov ?_ hq
        exact by repeat (first | exact trivial | refine ⟨rfl, ?_⟩)
    have st8_9 : ∀ (wS : World), Own [] w wS (l8 []) → W 10 #[true, true, true, false, false, false, false, false, false, false, false, false, false] (e8 [(31, (ptr b7 0)), (32, (ptr b7 1)), (33, x)]) wS := by
      intro wS HS
      rw [hW]
      refine WD.all2 (i := 3) (j := 5) (by kernel_rfl) ?_ ?_
      ·
        refine WS.op (i := 3) rfl rfl rfl (op_loadS (vs := [_]) rfl (HS.cells (i := 2) rfl rfl) Try.underlying138 rfl Fa.I138 rfl ?_)
        have hq := st8_15 wS HS
        rw [hW] at hq
        refine WD.cov ?_ hq
        exact by repeat (first | exact trivial | refine ⟨rfl, ?_⟩)
      ·
        refine WS.op (i := 5) rfl rfl rfl (op_loadS (vs := [_]) rfl (HS.cells (i := 2) rfl rfl) Try.underlying138 rfl Fa.I138 rfl ?_)
        have hq := st8_16 wS HS
        rw [hW] at hq
        refine WD.cov ?_ hq
        exact by repeat (first | exact trivial | refine ⟨rfl, ?_⟩)
    have st8_10 : ∀ (wS : World), Own [] w wS (l8 []) → W 10 #[true, true, false, true, false, false, false, false, false, false, false, false, false] (e8 [(31, (ptr b7 0)), (32, (ptr b7 1)), (34, (.agg #[(ptr q2 0)]))]) wS := by
      intro wS HS
      rw [hW]
      refine WD.all3 (i := 2) (j := 4) (m := 5) (by kernel_rfl) ?_ ?_ ?_
      ·
        refine WS.op (i := 2) rfl rfl rfl (op_load rfl (HS.cell (i := 3) rfl rfl) Try.underlying53 rfl ?_)
        have hq := st8_15 wS HS
        rw [hW] at hq
        refine WD.cov ?_ hq
        exact by repeat (first | exact trivial | refine ⟨rfl, ?_⟩)
      ·
        refine WS.op (i := 4) rfl rfl rfl (op_callF Fa.C96 rfl ((inum_ok q2 (xsD (g3 s).2 k) (1) 107 _ _ (HS.part [1] rfl rfl) (by first | (rw [g1_t]; exact hs) | (rw [g2_t]; exact hs) | (rw [g4_t]; exact hs) | (rw [g6_t]; exact hs) | (rw [g7_t]; exact hs) | (rw [g8_t]; exact hs) | (rw [g10_t]; exact hs) | (rw [xsD_t, g3_t]; exact hs) | (rw [numR_s, xsD_t, g3_t]; exact hs) | (rw [psD_t, g5_t]; exact hs) | (rw [sgD_t, g9_t]; exact hs) | exact hs)).mono (fun e w29081 hq => ?_)))
        obtain ⟨rfl, hq29081⟩ := hq
        refine ⟨_, rfl, ?_⟩
        have H29081 : Own [] w w29081 [.blk b1 [(vU32 0), (.slice none 0 0), (.slice none 0 0), (.bool false), (vU32 0), (.slice none 0 0)] 59, .blk q2 [(str ((numR (xsD (g3 s).2 k) 1).2).s), (vN ((numR (xsD (g3 s).2 k) 1).2).at_), (vN ((numR (xsD (g3 s).2 k) 1).2).f)] 107, .blk b3 [(ptr q2 0)] 138, .blk b7 [(vU32 (g2 s).1.1), x, (.slice none 0 0), (.bool false), (vU32 0), (.slice none 0 0)] 59, .row x 130 2 k (List.flatMap xtc (xsL (g3 s).2 k)), .row (.slice none 0 0) 92 1 0 (List.map vU16 []), .row (.slice none 0 0) 111 3 0 (List.flatMap sgc [])] := HS.splice [1] [.blk q2 [(str ((numR (xsD (g3 s).2 k) 1).2).s), (vN ((numR (xsD (g3 s).2 k) 1).2).at_), (vN ((numR (xsD (g3 s).2 k) 1).2).f)] 107] [] rfl rfl hq29081 (Fits.solid True.intro Fits.nil)
        have hq := st8_17 w29081 H29081
        rw [hW] at hq
        refine WD.cov ?_ hq
        exact by repeat (first | exact trivial | refine ⟨rfl, ?_⟩)
      ·
        refine WS.op (i := 5) rfl rfl rfl (op_loadS (vs := [_]) rfl (HS.cells (i := 2) rfl rfl) Try.underlying138 rfl Fa.I138 rfl ?_)
        have hq := st8_18 wS HS
        rw [hW] at hq
        refine WD.cov ?_ hq
        exact by repeat (first | exact trivial | refine ⟨rfl, ?_⟩)
    have st8_11 : ∀ (wS : World), Own [] w wS (l8 []) → W 10 #[true, true, false, false, false, true, false, false, false, false, false, false, false] (e8 [(31, (ptr b7 0)), (32, (ptr b7 1)), (36, (.agg #[(ptr q2 0)]))]) wS := by
      intro wS HS
      rw [hW]
      refine WD.all2 (i := 2) (j := 3) (by kernel_rfl) ?_ ?_
      ·
        refine WS.op (i := 2) rfl rfl rfl (op_load rfl (HS.cell (i := 3) rfl rfl) Try.underlying53 rfl ?_)
        have hq := st8_16 wS HS
        rw [hW] at hq
        refine WD.cov ?_ hq
        exact by repeat (first | exact trivial | refine ⟨rfl, ?_⟩)
      ·
        refine WS.op (i := 3) rfl rfl rfl (op_loadS (vs := [_]) rfl (HS.cells (i := 2) rfl rfl) Try.underlying138 rfl Fa.I138 rfl ?_)
        have hq := st8_18 wS HS
        rw [hW] at hq
        refine WD.cov ?_ hq
        exact by repeat (first | exact trivial | refine ⟨rfl, ?_⟩)
    have st8_12 : ∀ (wS : World), Own [] w wS [.blk b1 [(vU32 0), (.slice none 0 0), (.slice none 0 0), (.bool false), (vU32 0), (.slice none 0 0)] 59, .blk q2 [(str ((numR (xsD (g3 s).2 k) 1).2).s), (vN ((numR (xsD (g3 s).2 k) 1).2).at_), (vN ((numR (xsD (g3 s).2 k) 1).2).f)] 107, .blk b3 [(ptr q2 0)] 138, .blk b7 [(vU32 (g2 s).1.1), x, (.slice none 0 0), (.bool false), (vU32 0), (.slice none 0 0)] 59, .row x 130 2 k (List.flatMap xtc (xsL (g3 s).2 k)), .row (.slice none 0 0) 92 1 0 (List.map vU16 []), .row (.slice none 0 0) 111 3 0 (List.flatMap sgc [])] → W 10 #[true, false, false, true, true, false, false, false, false, false, false, false, false] (e8 [(31, (ptr b7 0)), (34, (.agg #[(ptr q2 0)])), (35, (vU32 (numR (xsD (g3 s).2 k) 1).1.1))]) wS := by
      intro wS HS
      rw [hW]
      refine WD.all2 (i := 1) (j := 5) (by kernel_rfl) ?_ ?_
      ·
        refine WS.op (i := 1) rfl rfl rfl (op_fieldAddr rfl Fa.F56_1 ?_)
        have hq := st8_17 wS HS
        rw [hW] at hq
        refine WD.cov ?_ hq
        exact by repeat (first | exact trivial | refine ⟨rfl, ?_⟩)
      ·
        refine WS.op (i := 5) rfl rfl rfl (op_loadS (vs := [_]) rfl (HS.cells (i := 2) rfl rfl) Try.underlying138 rfl Fa.I138 rfl ?_)
        have hq := st8_19 wS HS
        rw [hW] at hq
        refine WD.cov ?_ hq
        exact by repeat (first | exact trivial | refine ⟨rfl, ?_⟩)
    have st8_13 : ∀ (wS : World), Own [] w wS (l8 []) → W 10 #[true, false, false, true, false, true, false, false, false, false, false, false, false] (e8 [(31, (ptr b7 0)), (34, (.agg #[(ptr q2 0)])), (36, (.agg #[(ptr q2 0)]))]) wS := by
      intro wS HS
      rw [hW]
      refine WD.all2 (i := 1) (j := 4) (by kernel_rfl) ?_ ?_
      ·
        refine WS.op (i := 1) rfl rfl rfl (op_fieldAddr rfl Fa.F56_1 ?_)
        have hq := st8_18 wS HS
        rw [hW] at hq
        refine WD.cov ?_ hq
        exact by repeat (first | exact trivial | refine ⟨rfl, ?_⟩)
      ·
        refine WS.op (i := 4) rfl rfl rfl (op_callF Fa.C96 rfl ((inum_ok q2 (xsD (g3 s).2 k) (1) 107 _ _ (HS.part [1] rfl rfl) (by first | (rw [g1_t]; exact hs) | (rw [g2_t]; exact hs) | (rw [g4_t]; exact hs) | (rw [g6_t]; exact hs) | (rw [g7_t]; exact hs) | (rw [g8_t]; exact hs) | (rw [g10_t]; exact hs) | (rw [xsD_t, g3_t]; exact hs) | (rw [numR_s, xsD_t, g3_t]; exact hs) | (rw [psD_t, g5_t]; exact hs) | (rw [sgD_t, g9_t]; exact hs) | exact hs)).mono (fun e w29081 hq => ?_)))
        obtain ⟨rfl, hq29081⟩ := hq
        refine ⟨_, rfl, ?_⟩
        have H29081 : Own [] w w29081 [.blk b1 [(vU32 0), (.slice none 0 0), (.slice none 0 0), (.bool false), (vU32 0), (.slice none 0 0)] 59, .blk q2 [(str ((numR (xsD (g3 s).2 k) 1).2).s), (vN ((numR (xsD (g3 s).2 k) 1).2).at_), (vN ((numR (xsD (g3 s).2 k) 1).2).f)] 107, .blk b3 [(ptr q2 0)] 138, .blk b7 [(vU32 (g2 s).1.1), x, (.slice none 0 0), (.bool false), (vU32 0), (.slice none 0 0)] 59, .row x 130 2 k (List.flatMap xtc (xsL (g3 s).2 k)), .row (.slice none 0 0) 92 1 0 (List.map vU16 []), .row (.slice none 0 0) 111 3 0 (List.flatMap sgc [])] := HS.splice [1] [.blk q2 [(str ((numR (xsD (g3 s).2 k) 1).2).s), (vN ((numR (xsD (g3 s).2 k) 1).2).at_), (vN ((numR (xsD (g3 s).2 k) 1).2).f)] 107] [] rfl rfl hq29081 (Fits.solid True.intro Fits.nil)
        have hq := st8_19 w29081 H29081
        rw [hW] at hq
        refine WD.cov ?_ hq
        exact by repeat (first | exact trivial | refine ⟨rfl, ?_⟩)
    have st8_14 : ∀ (wS : World), Own [] w wS [.blk b1 [(vU32 0), (.slice none 0 0), (.slice none 0 0), (.bool false), (vU32 0), (.slice none 0 0)] 59, .blk q2 [(str ((numR (xsD (g3 s).2 k) 1).2).s), (vN ((numR (xsD (g3 s).2 k) 1).2).at_), (vN ((numR (xsD (g3 s).2 k) 1).2).f)] 107, .blk b3 [(ptr q2 0)] 138, .blk b7 [(vU32 (g2 s).1.1), x, (.slice none 0 0), (.bool false), (vU32 0), (.slice none 0 0)] 59, .row x 130 2 k (List.flatMap xtc (xsL (g3 s).2 k)), .row (.slice none 0 0) 92 1 0 (List.map vU16 []), .row (.slice none 0 0) 111 3 0 (List.flatMap sgc [])] → W 10 #[false, false, false, true, true, true, false, false, false, false, false, false, false] (e8 [(34, (.agg #[(ptr q2 0)])), (35, (vU32 (numR (xsD (g3 s).2 k) 1).1.1)), (36, (.agg #[(ptr q2 0)]))]) wS := by
      intro wS HS
      rw [hW]
      refine WD.all2 (i := 0) (j := 6) (by kernel_rfl) ?_ ?_
      ·
        refine WS.op (i := 0) rfl rfl rfl (op_fieldAddr rfl Fa.F59_0 ?_)
        have hq := st8_19 wS HS
        rw [hW] at hq
        refine WD.cov ?_ hq
        exact by repeat (first | exact trivial | refine ⟨rfl, ?_⟩)
      ·
        refine WS.op (i := 6) rfl rfl rfl (op_callF Fa.C96 rfl ((inum_ok q2 ((numR (xsD (g3 s).2 k) 1).2) (2) 107 _ _ (HS.part [1] rfl rfl) (by first | (rw [g1_t]; exact hs) | (rw [g2_t]; exact hs) | (rw [g4_t]; exact hs) | (rw [g6_t]; exact hs) | (rw [g7_t]; exact hs) | (rw [g8_t]; exact hs) | (rw [g10_t]; exact hs) | (rw [xsD_t, g3_t]; exact hs) | (rw [numR_s, xsD_t, g3_t]; exact hs) | (rw [psD_t, g5_t]; exact hs) | (rw [sgD_t, g9_t]; exact hs) | exact hs)).mono (fun e w29121 hq => ?_)))
        obtain ⟨rfl, hq29121⟩ := hq
        refine ⟨_, rfl, ?_⟩
        have H29121 : Own [] w w29121 [.blk b1 [(vU32 0), (.slice none 0 0), (.slice none 0 0), (.bool false), (vU32 0), (.slice none 0 0)] 59, .blk q2 [(str ((numR ((numR (xsD (g3 s).2 k) 1).2) 2).2).s), (vN ((numR ((numR (xsD (g3 s).2 k) 1).2) 2).2).at_), (vN ((numR ((numR (xsD (g3 s).2 k) 1).2) 2).2).f)] 107, .blk b3 [(ptr q2 0)] 138, .blk b7 [(vU32 (g2 s).1.1), x, (.slice none 0 0), (.bool false), (vU32 0), (.slice none 0 0)] 59, .row x 130 2 k (List.flatMap xtc (xsL (g3 s).2 k)), .row (.slice none 0 0) 92 1 0 (List.map vU16 []), .row (.slice none 0 0) 111 3 0 (List.flatMap sgc [])] := HS.splice [1] [.blk q2 [(str ((numR ((numR (xsD (g3 s).2 k) 1).2) 2).2).s), (vN ((numR ((numR (xsD (g3 s).2 k) 1).2) 2).2).at_), (vN ((numR ((numR (xsD (g3 s).2 k) 1).2) 2).2).f)] 107] [] rfl rfl hq29121 (Fits.solid True.intro Fits.nil)
        have hq := st8_20 w29121 H29121
        rw [hW] at hq
        refine WD.cov ?_ hq
        exact by repeat (first | exact trivial | refine ⟨rfl, ?_⟩)
    have st8_4 : ∀ (wS : World), Own [] w wS (l8 []) → W 11 #[true, true, false, false, false, false, false, false, false, false, false, false, false] (e8 [(31, (ptr b7 0)), (32, (ptr b7 1))]) wS := by
      intro wS HS
      rw [hW]
      refine WD.all3 (i := 2) (j := 3) (m := 5) (by kernel_rfl) ?_ ?_ ?_
      ·
        refine WS.op (i := 2) rfl rfl rfl (op_load rfl (HS.cell (i := 3) rfl rfl) Try.underlying53 rfl ?_)
        have hq := st8_9 wS HS
        rw [hW] at hq
        refine WD.cov ?_ hq
        exact by repeat (first | exact trivial | refine ⟨rfl, ?_⟩)
      ·
        refine WS.op (i := 3) rfl rfl rfl (op_loadS (vs := [_]) rfl (HS.cells (i := 2) rfl rfl) Try.underlying138 rfl Fa.I138 rfl ?_)
        have hq := st8_10 wS HS
        rw [hW] at hq
        refine WD.cov ?_ hq
        exact by repeat (first | exact trivial | refine ⟨rfl, ?_⟩)
      ·
        refine WS.op (i := 5) rfl rfl rfl (op_loadS (vs := [_]) rfl (HS.cells (i := 2) rfl rfl) Try.underlying138 rfl Fa.I138 rfl ?_)
        have hq := st8_11 wS HS
        rw [hW] at hq
        refine WD.cov ?_ hq
        exact by repeat (first | exact trivial | refine ⟨rfl, ?_⟩)
    have st8_5 : ∀ (wS : World), Own [] w wS (l8 []) → W 11 #[true, false, false, true, false, false, false, false, false, false, false, false, false] (e8 [(31, (ptr b7 0)), (34, (.agg #[(ptr q2 0)]))]) wS := by
      intro wS HS
      rw [hW]
      refine WD.all3 (i := 1) (j := 4) (m := 5) (by kernel_rfl) ?_ ?_ ?_
      ·
        refine WS.op (i := 1) rfl rfl rfl (op_fieldAddr rfl Fa.F56_1 ?_)
        have hq := st8_10 wS HS
        rw [hW] at hq
        refine WD.cov ?_ hq
        exact by repeat (first | exact trivial | refine ⟨rfl, ?_⟩)
      ·
        refine WS.op (i := 4) rfl rfl rfl (op_callF Fa.C96 rfl ((inum_ok q2 (xsD (g3 s).2 k) (1) 107 _ _ (HS.part [1] rfl rfl) (by first | (rw [g1_t]; exact hs) | (rw [g2_t]; exact hs) | (rw [g4_t]; exact hs) | (rw [g6_t]; exact hs) | (rw [g7_t]; exact hs) | (rw [g8_t]; exact hs) | (rw [g10_t]; exact hs) | (rw [xsD_t, g3_t]; exact hs) | (rw [numR_s, xsD_t, g3_t]; exact hs) | (rw [psD_t, g5_t]; exact hs) | (rw [sgD_t, g9_t]; exact hs) | exact hs)).mono (fun e w29081 hq => ?_)))
        obtain ⟨rfl, hq29081⟩ := hq
        refine ⟨_, rfl, ?_⟩
        have H29081 : Own [] w w29081 [.blk b1 [(vU32 0), (.slice none 0 0), (.slice none 0 0), (.bool false), (vU32 0), (.slice none 0 0)] 59, .blk q2 [(str ((numR (xsD (g3 s).2 k) 1).2).s), (vN ((numR (xsD (g3 s).2 k) 1).2).at_), (vN ((numR (xsD (g3 s).2 k) 1).2).f)] 107, .blk b3 [(ptr q2 0)] 138, .blk b7 [(vU32 (g2 s).1.1), x, (.slice none 0 0), (.bool false), (vU32 0), (.slice none 0 0)] 59, .row x 130 2 k (List.flatMap xtc (xsL (g3 s).2 k)), .row (.slice none 0 0) 92 1 0 (List.map vU16 []), .row (.slice none 0 0) 111 3 0 (List.flatMap sgc [])] := HS.splice [1] [.blk q2 [(str ((numR (xsD (g3 s).2 k) 1).2).s), (vN ((numR (xsD (g3 s).2 k) 1).2).at_), (vN ((numR (xsD (g3 s).2 k) 1).2).f)] 107] [] rfl rfl hq29081 (Fits.solid True.intro Fits.nil)
        have hq := st8_12 w29081 H29081
        rw [hW] at hq
        refine WD.cov ?_ hq
        exact by repeat (first | exact trivial | refine ⟨rfl, ?_⟩)
      ·
        refine WS.op (i := 5) rfl rfl rfl (op_loadS (vs := [_]) rfl (HS.cells (i := 2) rfl rfl) Try.underlying138 rfl Fa.I138 rfl ?_)
        have hq := st8_13 wS HS
        rw [hW] at hq
        refine WD.cov ?_ hq
        exact by repeat (first | exact trivial | refine ⟨rfl, ?_⟩)
    have st8_6 : ∀ (wS : World), Own [] w wS (l8 []) → W 11 #[true, false, false, false, false, true, false, false, false, false, false, false, false] (e8 [(31, (ptr b7 0)), (36, (.agg #[(ptr q2 0)]))]) wS := by
      intro wS HS
      rw [hW]
      refine WD.all2 (i := 1) (j := 3) (by kernel_rfl) ?_ ?_
      ·
        refine WS.op (i := 1) rfl rfl rfl (op_fieldAddr rfl Fa.F56_1 ?_)
        have hq := st8_11 wS HS
        rw [hW] at hq
        refine WD.cov ?_ hq
        exact by repeat (first | exact trivial | refine ⟨rfl, ?_⟩)
      ·
        refine WS.op (i := 3) rfl rfl rfl (op_loadS (vs := [_]) rfl (HS.cells (i := 2) rfl rfl) Try.underlying138 rfl Fa.I138 rfl ?_)
        have hq := st8_13 wS HS
        rw [hW] at hq
        refine WD.cov ?_ hq
        exact by repeat (first | exact trivial | refine ⟨rfl, ?_⟩)
    have st8_7 : ∀ (wS : World), Own [] w wS [.blk b1 [(vU32 0), (.slice none 0 0), (.slice none 0 0), (.bool false), (vU32 0), (.slice none 0 0)] 59, .blk q2 [(str ((numR (xsD (g3 s).2 k) 1).2).s), (vN ((numR (xsD (g3 s).2 k) 1).2).at_), (vN ((numR (xsD (g3 s).2 k) 1).2).f)] 107, .blk b3 [(ptr q2 0)] 138, .blk b7 [(vU32 (g2 s).1.1), x, (.slice none 0 0), (.bool false), (vU32 0), (.slice none 0 0)] 59, .row x 130 2 k (List.flatMap xtc (xsL (g3 s).2 k)), .row (.slice none 0 0) 92 1 0 (List.map vU16 []), .row (.slice none 0 0) 111 3 0 (List.flatMap sgc [])] → W 11 #[false, false, false, true, true, false, false, false, false, false, false, false, false] (e8 [(34, (.agg #[(ptr q2 0)])), (35, (vU32 (numR (xsD (g3 s).2 k) 1).1.1))]) wS := by
      intro wS HS
      rw [hW]
      refine WD.all2 (i := 0) (j := 5) (by kernel_rfl) ?_ ?_
      ·
        refine WS.op (i := 0) rfl rfl rfl (op_fieldAddr rfl Fa.F59_0 ?_)
        have hq := st8_12 wS HS
        rw [hW] at hq
        refine WD.cov ?_ hq
        exact by repeat (first | exact trivial | refine ⟨rfl, ?_⟩)
      ·
        refine WS.op (i := 5) rfl rfl rfl (op_loadS (vs := [_]) rfl (HS.cells (i := 2) rfl rfl) Try.underlying138 rfl Fa.I138 rfl ?_)
        have hq := st8_14 wS HS
        rw [hW] at hq
        refine WD.cov ?_ hq
        exact by repeat (first | exact trivial | refine ⟨rfl, ?_⟩)
    have st8_8 : ∀ (wS : World), Own [] w wS (l8 []) → W 11 #[false, false, false, true, false, true, false, false, false, false, false, false, false] (e8 [(34, (.agg #[(ptr q2 0)])), (36, (.agg #[(ptr q2 0)]))]) wS := by
      intro wS HS
      rw [hW]
      refine WD.all2 (i := 0) (j := 4) (by kernel_rfl) ?_ ?_
      ·
        refine WS.op (i := 0) rfl rfl rfl (op_fieldAddr rfl Fa.F59_0 ?_)
        have hq := st8_13 wS HS
        rw [hW] at hq
        refine WD.cov ?_ hq
        exact by repeat (first | exact trivial | refine ⟨rfl, ?_⟩)
      ·
        refine WS.op (i := 4) rfl rfl rfl (op_callF Fa.C96 rfl ((inum_ok q2 (xsD (g3 s).2 k) (1) 107 _ _ (HS.part [1] rfl rfl) (by first | (rw [g1_t]; exact hs) | (rw [g2_t]; exact hs) | (rw [g4_t]; exact hs) | (rw [g6_t]; exact hs) | (rw [g7_t]; exact hs) | (rw [g8_t]; exact hs) | (rw [g10_t]; exact hs) | (rw [xsD_t, g3_t]; exact hs) | (rw [numR_s, xsD_t, g3_t]; exact hs) | (rw [psD_t, g5_t]; exact hs) | (rw [sgD_t, g9_t]; exact hs) | exact hs)).mono (fun e w29081 hq => ?_)))
        obtain ⟨rfl, hq29081⟩ := hq
        refine ⟨_, rfl, ?_⟩
        have H29081 : Own [] w w29081 [.blk b1 [(vU32 0), (.slice none 0 0), (.slice none 0 0), (.bool false), (vU32 0), (.slice none 0 0)] 59, .blk q2 [(str ((numR (xsD (g3 s).2 k) 1).2).s), (vN ((numR (xsD (g3 s).2 k) 1).2).at_), (vN ((numR (xsD (g3 s).2 k) 1).2).f)] 107, .blk b3 [(ptr q2 0)] 138, .blk b7 [(vU32 (g2 s).1.1), x, (.slice none 0 0), (.bool false), (vU32 0), (.slice none 0 0)] 59, .row x 130 2 k (List.flatMap xtc (xsL (g3 s).2 k)), .row (.slice none 0 0) 92 1 0 (List.map vU16 []), .row (.slice none 0 0) 111 3 0 (List.flatMap sgc [])] := HS.splice [1] [.blk q2 [(str ((numR (xsD (g3 s).2 k) 1).2).s), (vN ((numR (xsD (g3 s).2 k) 1).2).at_), (vN ((numR (xsD (g3 s).2 k) 1).2).f)] 107] [] rfl rfl hq29081 (Fits.solid True.intro Fits.nil)
        have hq := st8_14 w29081 H29081
        rw [hW] at hq
        refine WD.cov ?_ hq
        exact by repeat (first | exact trivial | refine ⟨rfl, ?_⟩)
    have st8_1 : ∀ (wS : World), Own [] w wS (l8 []) → W 12 #[true, false, false, false, false, false, false, false, false, false, false, false, false] (e8 [(31, (ptr b7 0))]) wS := by
      intro wS HS
      rw [hW]
      refine WD.all3 (i := 1) (j := 3) (m := 5) (by kernel_rfl) ?_ ?_ ?_
      ·
        refine WS.op (i := 1) rfl rfl rfl (op_fieldAddr rfl Fa.F56_1 ?_)
        have hq := st8_4 wS HS
        rw [hW] at hq
        refine WD.cov ?_ hq
        exact by repeat (first | exact trivial | refine ⟨rfl, ?_⟩)
      ·
        refine WS.op (i := 3) rfl rfl rfl (op_loadS (vs := [_]) rfl (HS.cells (i := 2) rfl rfl) Try.underlying138 rfl Fa.I138 rfl ?_)
        have hq := st8_5 wS HS
        rw [hW] at hq
        refine WD.cov ?_ hq
        exact by repeat (first | exact trivial | refine ⟨rfl, ?_⟩)
      ·
        refine WS.op (i := 5) rfl rfl rfl (op_loadS (vs := [_]) rfl (HS.cells (i := 2) rfl rfl) Try.underlying138 rfl Fa.I138 rfl ?_)
        have hq := st8_6 wS HS
        rw [hW] at hq
        refine WD.cov ?_ hq
        exact by repeat (first | exact trivial | refine ⟨rfl, ?_⟩)
    have st8_2 : ∀ (wS : World), Own [] w wS (l8 []) → W 12 #[false, false, false, true, false, false, false, false, false, false, false, false, false] (e8 [(34, (.agg #[(ptr q2 0)]))]) wS := by
      intro wS HS
      rw [hW]
      refine WD.all3 (i := 0) (j := 4) (m := 5) (by kernel_rfl) ?_ ?_ ?_
      ·
        refine WS.op (i := 0) rfl rfl rfl (op_fieldAddr rfl Fa.F59_0 ?_)
        have hq := st8_5 wS HS
        rw [hW] at hq
        refine WD.cov ?_ hq
        exact by repeat (first | exact trivial | refine ⟨rfl, ?_⟩)
      ·
        refine WS.op (i := 4) rfl rfl rfl (op_callF Fa.C96 rfl ((inum_ok q2 (xsD (g3 s).2 k) (1) 107 _ _ (HS.part [1] rfl rfl) (by first | (rw [g1_t]; exact hs) | (rw [g2_t]; exact hs) | (rw [g4_t]; exact hs) | (rw [g6_t]; exact hs) | (rw [g7_t]; exact hs) | (rw [g8_t]; exact hs) | (rw [g10_t]; exact hs) | (rw [xsD_t, g3_t]; exact hs) | (rw [numR_s, xsD_t, g3_t]; exact hs) | (rw [psD_t, g5_t]; exact hs) | (rw [sgD_t, g9_t]; exact hs) | exact hs)).mono (fun e w29081 hq => ?_)))
        obtain ⟨rfl, hq29081⟩ := hq
        refine ⟨_, rfl, ?_⟩
        have H29081 : Own [] w w29081 [.blk b1 [(vU32 0), (.slice none 0 0), (.slice none 0 0), (.bool false), (vU32 0), (.slice none 0 0)] 59, .blk q2 [(str ((numR (xsD (g3 s).2 k) 1).2).s), (vN ((numR (xsD (g3 s).2 k) 1).2).at_), (vN ((numR (xsD (g3 s).2 k) 1).2).f)] 107, .blk b3 [(ptr q2 0)] 138, .blk b7 [(vU32 (g2 s).1.1), x, (.slice none 0 0), (.bool false), (vU32 0), (.slice none 0 0)] 59, .row x 130 2 k (List.flatMap xtc (xsL (g3 s).2 k)), .row (.slice none 0 0) 92 1 0 (List.map vU16 []), .row (.slice none 0 0) 111 3 0 (List.flatMap sgc [])] := HS.splice [1] [.blk q2 [(str ((numR (xsD (g3 s).2 k) 1).2).s), (vN ((numR (xsD (g3 s).2 k) 1).2).at_), (vN ((numR (xsD (g3 s).2 k) 1).2).f)] 107] [] rfl rfl hq29081 (Fits.solid True.intro Fits.nil)
        have hq := st8_7 w29081 H29081
        rw [hW] at hq
        refine WD.cov ?_ hq
        exact by repeat (first | exact trivial | refine ⟨rfl, ?_⟩)
      ·
        refine WS.op (i := 5) rfl rfl rfl (op_loadS (vs := [_]) rfl (HS.cells (i := 2) rfl rfl) Try.underlying138 rfl Fa.I138 rfl ?_)
        have hq := st8_8 wS HS
        rw [hW] at hq
        refine WD.cov ?_ hq
        exact by repeat (first | exact trivial | refine ⟨rfl, ?_⟩)
    have st8_3 : ∀ (wS : World), Own [] w wS (l8 []) → W 12 #[false, false, false, false, false, true, false, false, false, false, false, false, false] (e8 [(36, (.agg #[(ptr q2 0)]))]) wS := by
      intro wS HS
      rw [hW]
      refine WD.all2 (i := 0) (j := 3) (by kernel_rfl) ?_ ?_
      ·
        refine WS.op (i := 0) rfl rfl rfl (op_fieldAddr rfl Fa.F59_0 ?_)
        have hq := st8_6 wS HS
        rw [hW] at hq
        refine WD.cov ?_ hq
        exact by repeat (first | exact trivial | refine ⟨rfl, ?_⟩)
      ·
        refine WS.op (i := 3) rfl rfl rfl (op_loadS (vs := [_]) rfl (HS.cells (i := 2) rfl rfl) Try.underlying138 rfl Fa.I138 rfl ?_)
        have hq := st8_8 wS HS
        rw [hW] at hq
        refine WD.cov ?_ hq
        exact by repeat (first | exact trivial | refine ⟨rfl, ?_⟩)
    have st8_0 : ∀ (wS : World), Own [] w wS (l8 []) → W 13 #[false, false, false, false, false, false, false, false, false, false, false, false, false] (e8 []) wS := by
      intro wS HS
      rw [hW]
      refine WD.all3 (i := 0) (j := 3) (m := 5) (by kernel_rfl) ?_ ?_ ?_
      ·
        refine WS.op (i := 0) rfl rfl rfl (op_fieldAddr rfl Fa.F59_0 ?_)
        have hq := st8_1 wS HS
        rw [hW] at hq
        refine WD.cov ?_ hq
        exact by repeat (first | exact trivial | refine ⟨rfl, ?_⟩)
      ·
        refine WS.op (i := 3) rfl rfl rfl (op_loadS (vs := [_]) rfl (HS.cells (i := 2) rfl rfl) Try.underlying138 rfl Fa.I138 rfl ?_)
        have hq := st8_2 wS HS
        rw [hW] at hq
        refine WD.cov ?_ hq
        exact by repeat (first | exact trivial | refine ⟨rfl, ?_⟩)
      ·
        refine WS.op (i := 5) rfl rfl rfl (op_loadS (vs := [_]) rfl (HS.cells (i := 2) rfl rfl) Try.underlying138 rfl Fa.I138 rfl ?_)
        have hq := st8_3 wS HS
        rw [hW] at hq
        refine WD.cov ?_ hq
        exact by repeat (first | exact trivial | refine ⟨rfl, ?_⟩)
    have hq := st8_0 w18 H18
    rw [hW] at hq ⊢
    refine WD.cov ?_ hq
    exact by repeat (first | exact trivial | refine ⟨rfl, ?_⟩)
  ·
    have hc17 := of_decide_eq_false hb17
    refine WC.exit ?_
    refine WQ.thenExit ?_
    refine WQ.thenExit ?_
    refine WQ.inHere ?_
    refine WQ.next ?_
    refine WC.seq ?_
    refine WC.seq ?_
    refine WC.region ?_
    have hkx : ¬ k < (g3 s).1.1.toNat := fun h => hc17 (hct.2 h)
    obtain rfl : k = (g3 s).1.1.toNat := by omega
    have H20 : Own [] w w16 [.blk b1 [(vU32 0), (.slice none 0 0), (.slice none 0 0), (.bool false), (vU32 0), (.slice none 0 0)] 59, .blk q2 [(str (g4 s).s), (vN (g4 s).at_), (vN (g4 s).f)] 107, .blk b3 [(ptr q2 0)] 138, .blk b7 [(vU32 (g2 s).1.1), x, (.slice none 0 0), (.bool false), (vU32 0), (.slice none 0 0)] 59, .row x 130 2 (g3 s).1.1.toNat (List.flatMap xtc (gX s)), .row (.slice none 0 0) 92 1 0 (List.map vU16 []), .row (.slice none 0 0) 111 3 0 (List.flatMap sgc [])] := by have h := H16; rw [show xsD (g3 s).2 (g3 s).1.1.toNat = g4 s from rfl] at h; rw [show xsL (g3 s).2 (g3 s).1.1.toNat = gX s from rfl] at h; exact h
    refine WL.op rfl rfl (op_loadS (vs := [_]) rfl (H20.cells (i := 2) rfl rfl) Try.underlying138 rfl Fa.I138 rfl ?_)
    refine WL.op rfl rfl (op_callF Fa.C96 rfl ((inum_ok q2 (g4 s) (1) 107 _ _ (H20.part [1] rfl rfl) (by first | (rw [g1_t]; exact hs) | (rw [g2_t]; exact hs) | (rw [g4_t]; exact hs) | (rw [g6_t]; exact hs) | (rw [g7_t]; exact hs) | (rw [g8_t]; exact hs) | (rw [g10_t]; exact hs) | (rw [xsD_t, g3_t]; exact hs) | (rw [numR_s, xsD_t, g3_t]; exact hs) | (rw [psD_t, g5_t]; exact hs) | (rw [sgD_t, g9_t]; exact hs) | exact hs)).mono (fun e w21 hq => ?_)))
    obtain ⟨rfl, hq21⟩ := hq
    refine ⟨_, rfl, ?_⟩
    have H21 : Own [] w w21 [.blk b1 [(vU32 0), (.slice none 0 0), (.slice none 0 0), (.bool false), (vU32 0), (.slice none 0 0)] 59, .blk q2 [(str ((numR (g4 s) 1).2).s), (vN ((numR (g4 s) 1).2).at_), (vN ((numR (g4 s) 1).2).f)] 107, .blk b3 [(ptr q2 0)] 138, .blk b7 [(vU32 (g2 s).1.1), x, (.slice none 0 0), (.bool false), (vU32 0), (.slice none 0 0)] 59, .row x 130 2 (g3 s).1.1.toNat (List.flatMap xtc (gX s)), .row (.slice none 0 0) 92 1 0 (List.map vU16 []), .row (.slice none 0 0) 111 3 0 (List.flatMap sgc [])] := H20.splice [1] [.blk q2 [(str ((numR (g4 s) 1).2).s), (vN ((numR (g4 s) 1).2).at_), (vN ((numR (g4 s) 1).2).f)] 107] [] rfl rfl hq21 (Fits.solid True.intro Fits.nil)
    have H22 : Own [] w w21 [.blk b1 [(vU32 0), (.slice none 0 0), (.slice none 0 0), (.bool false), (vU32 0), (.slice none 0 0)] 59, .blk q2 [(str ((g5 s).2).s), (vN ((g5 s).2).at_), (vN ((g5 s).2).f)] 107, .blk b3 [(ptr q2 0)] 138, .blk b7 [(vU32 (g2 s).1.1), x, (.slice none 0 0), (.bool false), (vU32 0), (.slice none 0 0)] 59, .row x 130 2 (g3 s).1.1.toNat (List.flatMap xtc (gX s)), .row (.slice none 0 0) 92 1 0 (List.map vU16 []), .row (.slice none 0 0) 111 3 0 (List.flatMap sgc [])] := by have h := H21; rw [show numR (g4 s) 1 = g5 s from rfl] at h; exact h
    rw [show numR (g4 s) 1 = g5 s from rfl]
    refine WL.op rfl rfl (op_assign rfl ?_)
    refine WL.nil ?_
    refine WQ.next ?_
    refine WC.block ?_
    refine WC.loop (α := Nat × Value) (fun (j, y) => [(2, (ptr b1 0)), (4, (ptr b3 0)), (5, (str (g1 s).1.1)), (7, (ptr b7 0)), (9, (vU32 ((g5 s).1.1 - UInt32.ofNat j)))]) (fun (j, y) w' => (j ≤ (g5 s).1.1.toNat) ∧ Own [] w w' [.blk b1 [(vU32 0), (.slice none 0 0), (.slice none 0 0), (.bool false), (vU32 0), (.slice none 0 0)] 59, .blk q2 [(str (psD (g5 s).2 j).s), (vN (psD (g5 s).2 j).at_), (vN (psD (g5 s).2 j).f)] 107, .blk b3 [(ptr q2 0)] 138, .blk b7 [(vU32 (g2 s).1.1), x, y, (.bool false), (vU32 0), (.slice none 0 0)] 59, .row x 130 2 (g3 s).1.1.toNat (List.flatMap xtc (gX s)), .row y 92 1 j (List.map vU16 (psL (g5 s).2 j)), .row (.slice none 0 0) 111 3 0 (List.flatMap sgc [])]) (fun (j, y) => (g5 s).1.1.toNat - j) (0, (.slice none 0 0)) ⟨(Nat.zero_le _), (by rw [psD_0]; exact H22)⟩ ⟨rfl, rfl, rfl, rfl, (congrArg (fun n => some (vU32 n)) (u32_sub0 _)), trivial⟩ ?_
    rintro ⟨j, y⟩ w23 ⟨hj1, H23⟩
    show WC _ _ _ _ _ [(2, (ptr b1 0)), (4, (ptr b3 0)), (5, (str (g1 s).1.1)), (7, (ptr b7 0)), (9, (vU32 ((g5 s).1.1 - UInt32.ofNat j)))] _
    have hct := u32_gt hj1
    have hnl := (g5 s).1.1.toNat_lt
    refine WC.seq ?_
    refine WC.seq ?_
    refine WC.region ?_
    refine WL.op rfl rfl (op_move rfl ?_)
    refine WL.op rfl rfl (op_gtrU32 (b := 0) rfl rfl ?_)
    refine WL.nil ?_
    refine WQ.next ?_
    refine WC.cond rfl (fun (hb24 : (decide (((g5 s).1.1 - UInt32.ofNat j) > (0 : UInt32))) = true) => ?_) (fun (hb24 : (decide (((g5 s).1.1 - UInt32.ofNat j) > (0 : UInt32))) = false) => ?_)
    ·
      have hc24 := of_decide_eq_true hb24
      have hkn := hct.1 hc24
      refine WC.skip ?_
      refine WQ.next ?_
      refine WC.seq ?_
      refine WC.block ?_
      refine WC.drawn 11 rfl Fa.M H23 ?_
      intro w25 H25
      refine WD.named (fun W hW => ?_)
      let e12 : List (Nat × Value) → List (Nat × Value) := fun r => (2, (ptr b1 0)) :: (4, (ptr b3 0)) :: (5, (str (g1 s).1.1)) :: (7, (ptr b7 0)) :: (9, (vU32 ((g5 s).1.1 - UInt32.ofNat j))) :: (45, (vU32 ((g5 s).1.1 - UInt32.ofNat j))) :: (46, (.bool (decide (((g5 s).1.1 - UInt32.ofNat j) > (0 : UInt32))))) :: r
      let l12 : List Ent → List Ent := fun r => (.blk b1 [(vU32 0), (.slice none 0 0), (.slice none 0 0), (.bool false), (vU32 0), (.slice none 0 0)] 59) :: (.blk q2 [(str (psD (g5 s).2 j).s), (vN (psD (g5 s).2 j).at_), (vN (psD (g5 s).2 j).f)] 107) :: (.blk b3 [(ptr q2 0)] 138) :: (.blk b7 [(vU32 (g2 s).1.1), x, y, (.bool false), (vU32 0), (.slice none 0 0)] 59) :: (.row x 130 2 (g3 s).1.1.toNat (List.flatMap xtc (gX s))) :: (.row y 92 1 j (List.map vU16 (psL (g5 s).2 j))) :: (.row (.slice none 0 0) 111 3 0 (List.flatMap sgc [])) :: r
      have st12_23 : ∀ (b36121 : _) (v36141 : _) (wS : World), Own [] w wS [.blk b1 [(vU32 0), (.slice none 0 0), (.slice none 0 0), (.bool false), (vU32 0), (.slice none 0 0)] 59, .blk q2 [(str ((numR (psD (g5 s).2 j) 2).2).s), (vN ((numR (psD (g5 s).2 j) 2).2).at_), (vN ((numR (psD (g5 s).2 j) 2).2).f)] 107, .blk b3 [(ptr q2 0)] 138, .blk b7 [(vU32 (g2 s).1.1), x, v36141, (.bool false), (vU32 0), (.slice none 0 0)] 59, .row x 130 2 (g3 s).1.1.toNat (List.flatMap xtc (gX s)), .row v36141 92 1 (j + 1) (List.map vU16 ((psL (g5 s).2 j) ++ [(UInt16.ofNat (numR (psD (g5 s).2 j) 2).1.1.toNat)])), .row (.slice none 0 0) 111 3 0 (List.flatMap sgc []), .row (.slice (some ⟨b36121, 0, none⟩) 1 1) 92 1 1 (List.map vU16 [(UInt16.ofNat (numR (psD (g5 s).2 j) 2).1.1.toNat)])] → W 0 #[true, true, true, true, true, true, true, true, true, true, true] (e12 [(49, (ptr b7 0)), (50, (ptr b7 2)), (51, y), (52, (.agg #[(ptr q2 0)])), (53, (vU32 (numR (psD (g5 s).2 j) 2).1.1)), (54, (vU16 (UInt16.ofNat (numR (psD (g5 s).2 j) 2).1.1.toNat))), (55, (.slice (some ⟨b36121, 0, none⟩) 1 1)), (56, v36141), (57, (ptr b7 0)), (58, (ptr b7 2))]) wS := by
        intro b36121 v36141 wS HS
        rw [hW]
        refine WD.done (by kernel_rfl) ?_
        refine WQ.inNormal ?_
        refine WQ.next ?_
        refine WC.region ?_
        refine WL.op rfl rfl (op_move rfl ?_)
        refine WL.op rfl rfl (op_subU32 (b := 1) rfl rfl ?_)
        refine WL.op rfl rfl (op_assign rfl ?_)
        refine WL.nil ?_
        exact WQ.round (j + 1, v36141) ⟨(by omega), (by rw [psD_s, psL_s]; exact (HS.take 7))⟩ ⟨rfl, rfl, rfl, rfl, (congrArg (fun n => some (vU32 n)) (u32_dec hkn)), trivial⟩ (by show (g5 s).1.1.toNat - (j + 1) < (g5 s).1.1.toNat - j; omega)
      have st12_22 : ∀ (b36121 : _) (v36141 : _) (wS : World), Own [] w wS [.blk b1 [(vU32 0), (.slice none 0 0), (.slice none 0 0), (.bool false), (vU32 0), (.slice none 0 0)] 59, .blk q2 [(str ((numR (psD (g5 s).2 j) 2).2).s), (vN ((numR (psD (g5 s).2 j) 2).2).at_), (vN ((numR (psD (g5 s).2 j) 2).2).f)] 107, .blk b3 [(ptr q2 0)] 138, .blk b7 [(vU32 (g2 s).1.1), x, y, (.bool false), (vU32 0), (.slice none 0 0)] 59, .row x 130 2 (g3 s).1.1.toNat (List.flatMap xtc (gX s)), .row v36141 92 1 (j + 1) (List.map vU16 ((psL (g5 s).2 j) ++ [(UInt16.ofNat (numR (psD (g5 s).2 j) 2).1.1.toNat)])), .row (.slice none 0 0) 111 3 0 (List.flatMap sgc []), .row (.slice (some ⟨b36121, 0, none⟩) 1 1) 92 1 1 (List.map vU16 [(UInt16.ofNat (numR (psD (g5 s).2 j) 2).1.1.toNat)])] → W 1 #[true, true, true, true, true, true, true, true, true, true, false] (e12 [(49, (ptr b7 0)), (50, (ptr b7 2)), (51, y), (52, (.agg #[(ptr q2 0)])), (53, (vU32 (numR (psD (g5 s).2 j) 2).1.1)), (54, (vU16 (UInt16.ofNat (numR (psD (g5 s).2 j) 2).1.1.toNat))), (55, (.slice (some ⟨b36121, 0, none⟩) 1 1)), (56, v36141), (57, (ptr b7 0)), (58, (ptr b7 2))]) wS := by
        intro b36121 v36141 wS HS
        rw [hW]
        refine WD.all1 (i := 10) (by kernel_rfl) ?_
        ·
          refine WS.op (i := 10) rfl rfl rfl (op_storeB (i := 3) HS rfl rfl rfl rfl (Arr.one (HS.arrR (i := 5) rfl)) Fa.I54 (fun w36201 H36201 => ?_))
          have hq := st12_23 b36121 v36141 w36201 H36201
          rw [hW] at hq
          refine WD.cov ?_ hq
          exact by repeat (first | exact trivial | refine ⟨rfl, ?_⟩)
      have st12_21 : ∀ (b36121 : _) (v36141 : _) (wS : World), Own [] w wS [.blk b1 [(vU32 0), (.slice none 0 0), (.slice none 0 0), (.bool false), (vU32 0), (.slice none 0 0)] 59, .blk q2 [(str ((numR (psD (g5 s).2 j) 2).2).s), (vN ((numR (psD (g5 s).2 j) 2).2).at_), (vN ((numR (psD (g5 s).2 j) 2).2).f)] 107, .blk b3 [(ptr q2 0)] 138, .blk b7 [(vU32 (g2 s).1.1), x, y, (.bool false), (vU32 0), (.slice none 0 0)] 59, .row x 130 2 (g3 s).1.1.toNat (List.flatMap xtc (gX s)), .row v36141 92 1 (j + 1) (List.map vU16 ((psL (g5 s).2 j) ++ [(UInt16.ofNat (numR (psD (g5 s).2 j) 2).1.1.toNat)])), .row (.slice none 0 0) 111 3 0 (List.flatMap sgc []), .row (.slice (some ⟨b36121, 0, none⟩) 1 1) 92 1 1 (List.map vU16 [(UInt16.ofNat (numR (psD (g5 s).2 j) 2).1.1.toNat)])] → W 2 #[true, true, true, true, true, true, true, true, true, false, false] (e12 [(49, (ptr b7 0)), (50, (ptr b7 2)), (51, y), (52, (.agg #[(ptr q2 0)])), (53, (vU32 (numR (psD (g5 s).2 j) 2).1.1)), (54, (vU16 (UInt16.ofNat (numR (psD (g5 s).2 j) 2).1.1.toNat))), (55, (.slice (some ⟨b36121, 0, none⟩) 1 1)), (56, v36141), (57, (ptr b7 0))]) wS := by
        intro b36121 v36141 wS HS
        rw [hW]
        refine WD.all1 (i := 9) (by kernel_rfl) ?_
        ·
          refine WS.op (i := 9) rfl rfl rfl (op_fieldAddr rfl Fa.F56_2 ?_)
          have hq := st12_22 b36121 v36141 wS HS
          rw [hW] at hq
          refine WD.cov ?_ hq
          exact by repeat (first | exact trivial | refine ⟨rfl, ?_⟩)
      have st12_20 : ∀ (b36121 : _) (v36141 : _) (wS : World), Own [] w wS [.blk b1 [(vU32 0), (.slice none 0 0), (.slice none 0 0), (.bool false), (vU32 0), (.slice none 0 0)] 59, .blk q2 [(str ((numR (psD (g5 s).2 j) 2).2).s), (vN ((numR (psD (g5 s).2 j) 2).2).at_), (vN ((numR (psD (g5 s).2 j) 2).2).f)] 107, .blk b3 [(ptr q2 0)] 138, .blk b7 [(vU32 (g2 s).1.1), x, y, (.bool false), (vU32 0), (.slice none 0 0)] 59, .row x 130 2 (g3 s).1.1.toNat (List.flatMap xtc (gX s)), .row v36141 92 1 (j + 1) (List.map vU16 ((psL (g5 s).2 j) ++ [(UInt16.ofNat (numR (psD (g5 s).2 j) 2).1.1.toNat)])), .row (.slice none 0 0) 111 3 0 (List.flatMap sgc []), .row (.slice (some ⟨b36121, 0, none⟩) 1 1) 92 1 1 (List.map vU16 [(UInt16.ofNat (numR (psD (g5 s).2 j) 2).1.1.toNat)])] → W 3 #[true, true, true, true, true, true, true, true, false, false, false] (e12 [(49, (ptr b7 0)), (50, (ptr b7 2)), (51, y), (52, (.agg #[(ptr q2 0)])), (53, (vU32 (numR (psD (g5 s).2 j) 2).1.1)), (54, (vU16 (UInt16.ofNat (numR (psD (g5 s).2 j) 2).1.1.toNat))), (55, (.slice (some ⟨b36121, 0, none⟩) 1 1)), (56, v36141)]) wS := by
        intro b36121 v36141 wS HS
        rw [hW]
        refine WD.all1 (i := 8) (by kernel_rfl) ?_
        ·
          refine WS.op (i := 8) rfl rfl rfl (op_fieldAddr rfl Fa.F59_0 ?_)
          have hq := st12_21 b36121 v36141 wS HS
          rw [hW] at hq
          refine WD.cov ?_ hq
          exact by repeat (first | exact trivial | refine ⟨rfl, ?_⟩)
      have st12_19 : ∀ (b36121 : _) (wS : World), Own [] w wS [.blk b1 [(vU32 0), (.slice none 0 0), (.slice none 0 0), (.bool false), (vU32 0), (.slice none 0 0)] 59, .blk q2 [(str ((numR (psD (g5 s).2 j) 2).2).s), (vN ((numR (psD (g5 s).2 j) 2).2).at_), (vN ((numR (psD (g5 s).2 j) 2).2).f)] 107, .blk b3 [(ptr q2 0)] 138, .blk b7 [(vU32 (g2 s).1.1), x, y, (.bool false), (vU32 0), (.slice none 0 0)] 59, .row x 130 2 (g3 s).1.1.toNat (List.flatMap xtc (gX s)), .row y 92 1 j (List.map vU16 (psL (g5 s).2 j)), .row (.slice none 0 0) 111 3 0 (List.flatMap sgc []), .row (.slice (some ⟨b36121, 0, none⟩) 1 1) 92 1 1 (List.map vU16 [(UInt16.ofNat (numR (psD (g5 s).2 j) 2).1.1.toNat)])] → W 4 #[true, true, true, true, true, true, true, false, false, false, false] (e12 [(49, (ptr b7 0)), (50, (ptr b7 2)), (51, y), (52, (.agg #[(ptr q2 0)])), (53, (vU32 (numR (psD (g5 s).2 j) 2).1.1)), (54, (vU16 (UInt16.ofNat (numR (psD (g5 s).2 j) 2).1.1.toNat))), (55, (.slice (some ⟨b36121, 0, none⟩) 1 1))]) wS := by
        intro b36121 wS HS
        rw [hW]
        refine WD.all1 (i := 7) (by kernel_rfl) ?_
        ·
          refine WS.op (i := 7) rfl rfl rfl (op_appendM (f := vU16) (l := (psL (g5 s).2 j)) (l' := [(UInt16.ofNat (numR (psD (g5 s).2 j) 2).1.1.toNat)]) (i := 5) HS Try.underlying54 Fa.I92 rfl rfl rfl rfl (Src.ofArr Try.underlying54 (HS.arrR (i := 7) rfl)) (one_mapM (fun _ => rfl)) (by omega) (by omega) (fun v36141 w36141 H36141 => ?_))
          have hq := st12_20 b36121 v36141 w36141 H36141
          rw [hW] at hq
          refine WD.cov ?_ hq
          exact by repeat (first | exact trivial | refine ⟨rfl, ?_⟩)
      have st12_17 : ∀ (wS : World), Own [] w wS [.blk b1 [(vU32 0), (.slice none 0 0), (.slice none 0 0), (.bool false), (vU32 0), (.slice none 0 0)] 59, .blk q2 [(str ((numR (psD (g5 s).2 j) 2).2).s), (vN ((numR (psD (g5 s).2 j) 2).2).at_), (vN ((numR (psD (g5 s).2 j) 2).2).f)] 107, .blk b3 [(ptr q2 0)] 138, .blk b7 [(vU32 (g2 s).1.1), x, y, (.bool false), (vU32 0), (.slice none 0 0)] 59, .row x 130 2 (g3 s).1.1.toNat (List.flatMap xtc (gX s)), .row y 92 1 j (List.map vU16 (psL (g5 s).2 j)), .row (.slice none 0 0) 111 3 0 (List.flatMap sgc [])] → W 5 #[true, true, true, true, true, true, false, false, false, false, false] (e12 [(49, (ptr b7 0)), (50, (ptr b7 2)), (51, y), (52, (.agg #[(ptr q2 0)])), (53, (vU32 (numR (psD (g5 s).2 j) 2).1.1)), (54, (vU16 (UInt16.ofNat (numR (psD (g5 s).2 j) 2).1.1.toNat)))]) wS := by
        intro wS HS
        rw [hW]
        refine WD.all1 (i := 6) (by kernel_rfl) ?_
        ·
          refine WS.op (i := 6) rfl rfl rfl (op_buildSlice (cs := [_]) HS Try.underlying54 Fa.I92 rfl rfl rfl rfl (by decide) (by decide) (fun b36121 w36121 H36121 => ?_))
          have hq := st12_19 b36121 w36121 H36121
          rw [hW] at hq
          refine WD.cov ?_ hq
          exact by repeat (first | exact trivial | refine ⟨rfl, ?_⟩)
      have st12_18 : ∀ (b36121 : _) (wS : World), Own [] w wS [.blk b1 [(vU32 0), (.slice none 0 0), (.slice none 0 0), (.bool false), (vU32 0), (.slice none 0 0)] 59, .blk q2 [(str ((numR (psD (g5 s).2 j) 2).2).s), (vN ((numR (psD (g5 s).2 j) 2).2).at_), (vN ((numR (psD (g5 s).2 j) 2).2).f)] 107, .blk b3 [(ptr q2 0)] 138, .blk b7 [(vU32 (g2 s).1.1), x, y, (.bool false), (vU32 0), (.slice none 0 0)] 59, .row x 130 2 (g3 s).1.1.toNat (List.flatMap xtc (gX s)), .row y 92 1 j (List.map vU16 (psL (g5 s).2 j)), .row (.slice none 0 0) 111 3 0 (List.flatMap sgc []), .row (.slice (some ⟨b36121, 0, none⟩) 1 1) 92 1 1 (List.map vU16 [(UInt16.ofNat (numR (psD (g5 s).2 j) 2).1.1.toNat)])] → W 5 #[true, true, false, true, true, true, true, false, false, false, false] (e12 [(49, (ptr b7 0)), (50, (ptr b7 2)), (52, (.agg #[(ptr q2 0)])), (53, (vU32 (numR (psD (g5 s).2 j) 2).1.1)), (54, (vU16 (UInt16.ofNat (numR (psD (g5 s).2 j) 2).1.1.toNat))), (55, (.slice (some ⟨b36121, 0, none⟩) 1 1))]) wS := by
        intro b36121 wS HS
        rw [hW]
        refine WD.all1 (i := 2) (by kernel_rfl) ?_
        ·
          refine WS.op (i := 2) rfl rfl rfl (op_load rfl (HS.cell (i := 3) rfl rfl) Try.underlying54 rfl ?_)
          have hq := st12_19 b36121 wS HS
          rw [hW] at hq
          refine WD.cov ?_ hq
          exact by repeat (first | exact trivial | refine ⟨rfl, ?_⟩)
      have st12_14 : ∀ (wS : World), Own [] w wS [.blk b1 [(vU32 0), (.slice none 0 0), (.slice none 0 0), (.bool false), (vU32 0), (.slice none 0 0)] 59, .blk q2 [(str ((numR (psD (g5 s).2 j) 2).2).s), (vN ((numR (psD (g5 s).2 j) 2).2).at_), (vN ((numR (psD (g5 s).2 j) 2).2).f)] 107, .blk b3 [(ptr q2 0)] 138, .blk b7 [(vU32 (g2 s).1.1), x, y, (.bool false), (vU32 0), (.slice none 0 0)] 59, .row x 130 2 (g3 s).1.1.toNat (List.flatMap xtc (gX s)), .row y 92 1 j (List.map vU16 (psL (g5 s).2 j)), .row (.slice none 0 0) 111 3 0 (List.flatMap sgc [])] → W 6 #[true, true, true, true, true, false, false, false, false, false, false] (e12 [(49, (ptr b7 0)), (50, (ptr b7 2)), (51, y), (52, (.agg #[(ptr q2 0)])), (53, (vU32 (numR (psD (g5 s).2 j) 2).1.1))]) wS := by
        intro wS HS
        rw [hW]
        refine WD.all1 (i := 5) (by kernel_rfl) ?_
        ·
          refine WS.op (i := 5) rfl rfl rfl (op_convU32U16 (hs := Try.underlying22) (hd := Try.underlying92) rfl ?_)
          have hq := st12_17 wS HS
          rw [hW] at hq
          refine WD.cov ?_ hq
          exact by repeat (first | exact trivial | refine ⟨rfl, ?_⟩)
      have st12_15 : ∀ (wS : World), Own [] w wS [.blk b1 [(vU32 0), (.slice none 0 0), (.slice none 0 0), (.bool false), (vU32 0), (.slice none 0 0)] 59, .blk q2 [(str ((numR (psD (g5 s).2 j) 2).2).s), (vN ((numR (psD (g5 s).2 j) 2).2).at_), (vN ((numR (psD (g5 s).2 j) 2).2).f)] 107, .blk b3 [(ptr q2 0)] 138, .blk b7 [(vU32 (g2 s).1.1), x, y, (.bool false), (vU32 0), (.slice none 0 0)] 59, .row x 130 2 (g3 s).1.1.toNat (List.flatMap xtc (gX s)), .row y 92 1 j (List.map vU16 (psL (g5 s).2 j)), .row (.slice none 0 0) 111 3 0 (List.flatMap sgc [])] → W 6 #[true, true, false, true, true, true, false, false, false, false, false] (e12 [(49, (ptr b7 0)), (50, (ptr b7 2)), (52, (.agg #[(ptr q2 0)])), (53, (vU32 (numR (psD (g5 s).2 j) 2).1.1)), (54, (vU16 (UInt16.ofNat (numR (psD (g5 s).2 j) 2).1.1.toNat)))]) wS := by
        intro wS HS
        rw [hW]
        refine WD.all2 (i := 2) (j := 6) (by kernel_rfl) ?_ ?_
        ·
          refine WS.op (i := 2) rfl rfl rfl (op_load rfl (HS.cell (i := 3) rfl rfl) Try.underlying54 rfl ?_)
          have hq := st12_17 wS HS
          rw [hW] at hq
          refine WD.cov ?_ hq
          exact by repeat (first | exact trivial | refine ⟨rfl, ?_⟩)
        ·
          refine WS.op (i := 6) rfl rfl rfl (op_buildSlice (cs := [_]) HS Try.underlying54 Fa.I92 rfl rfl rfl rfl (by decide) (by decide) (fun b36121 w36121 H36121 => ?_))
          have hq := st12_18 b36121 w36121 H36121
          rw [hW] at hq
          refine WD.cov ?_ hq
          exact by repeat (first | exact trivial | refine ⟨rfl, ?_⟩)
      have st12_16 : ∀ (b36121 : _) (wS : World), Own [] w wS [.blk b1 [(vU32 0), (.slice none 0 0), (.slice none 0 0), (.bool false), (vU32 0), (.slice none 0 0)] 59, .blk q2 [(str ((numR (psD (g5 s).2 j) 2).2).s), (vN ((numR (psD (g5 s).2 j) 2).2).at_), (vN ((numR (psD (g5 s).2 j) 2).2).f)] 107, .blk b3 [(ptr q2 0)] 138, .blk b7 [(vU32 (g2 s).1.1), x, y, (.bool false), (vU32 0), (.slice none 0 0)] 59, .row x 130 2 (g3 s).1.1.toNat (List.flatMap xtc (gX s)), .row y 92 1 j (List.map vU16 (psL (g5 s).2 j)), .row (.slice none 0 0) 111 3 0 (List.flatMap sgc []), .row (.slice (some ⟨b36121, 0, none⟩) 1 1) 92 1 1 (List.map vU16 [(UInt16.ofNat (numR (psD (g5 s).2 j) 2).1.1.toNat)])] → W 6 #[true, false, false, true, true, true, true, false, false, false, false] (e12 [(49, (ptr b7 0)), (52, (.agg #[(ptr q2 0)])), (53, (vU32 (numR (psD (g5 s).2 j) 2).1.1)), (54, (vU16 (UInt16.ofNat (numR (psD (g5 s).2 j) 2).1.1.toNat))), (55, (.slice (some ⟨b36121, 0, none⟩) 1 1))]) wS := by
        intro b36121 wS HS
        rw [hW]
        refine WD.all1 (i := 1) (by kernel_rfl) ?_
        ·
          refine WS.op (i := 1) rfl rfl rfl (op_fieldAddr rfl Fa.F56_2 ?_)
          have hq := st12_18 b36121 wS HS
          rw [hW] at hq
          refine WD.cov ?_ hq
          exact by repeat (first | exact trivial | refine ⟨rfl, ?_⟩)
      have st12_10 : ∀ (wS : World), Own [] w wS (l12 []) → W 7 #[true, true, true, true, false, false, false, false, false, false, false] (e12 [(49, (ptr b7 0)), (50, (ptr b7 2)), (51, y), (52, (.agg #[(ptr q2 0)]))]) wS := by
        intro wS HS
        rw [hW]
        refine WD.all1 (i := 4) (by kernel_rfl) ?_
        ·
          refine WS.op (i := 4) rfl rfl rfl (op_callF Fa.C96 rfl ((inum_ok q2 (psD (g5 s).2 j) (2) 107 _ _ (HS.part [1] rfl rfl) (by first | (rw [g1_t]; exact hs) | (rw [g2_t]; exact hs) | (rw [g4_t]; exact hs) | (rw [g6_t]; exact hs) | (rw [g7_t]; exact hs) | (rw [g8_t]; exact hs) | (rw [g10_t]; exact hs) | (rw [xsD_t, g3_t]; exact hs) | (rw [numR_s, xsD_t, g3_t]; exact hs) | (rw [psD_t, g5_t]; exact hs) | (rw [sgD_t, g9_t]; exact hs) | exact hs)).mono (fun e w36081 hq => ?_)))
          obtain ⟨rfl, hq36081⟩ := hq
          refine ⟨_, rfl, ?_⟩
          have H36081 : Own [] w w36081 [.blk b1 [(vU32 0), (.slice none 0 0), (.slice none 0 0), (.bool false), (vU32 0), (.slice none 0 0)] 59, .blk q2 [(str ((numR (psD (g5 s).2 j) 2).2).s), (vN ((numR (psD (g5 s).2 j) 2).2).at_), (vN ((numR (psD (g5 s).2 j) 2).2).f)] 107, .blk b3 [(ptr q2 0)] 138, .blk b7 [(vU32 (g2 s).1.1), x, y, (.bool false), (vU32 0), (.slice none 0 0)] 59, .row x 130 2 (g3 s).1.1.toNat (List.flatMap xtc (gX s)), .row y 92 1 j (List.map vU16 (psL (g5 s).2 j)), .row (.slice none 0 0) 111 3 0 (List.flatMap sgc [])] := HS.splice [1] [.blk q2 [(str ((numR (psD (g5 s).2 j) 2).2).s), (vN ((numR (psD (g5 s).2 j) 2).2).at_), (vN ((numR (psD (g5 s).2 j) 2).2).f)] 107] [] rfl rfl hq36081 (Fits.solid True.intro Fits.nil)
          have hq := st12_14 w36081 H36081
          rw [hW] at hq
          refine WD.cov ?_ hq
          exact by repeat (first | exact trivial | refine ⟨rfl, ?_⟩)
      have st12_11 : ∀ (wS : World), Own [] w wS [.blk b1 [(vU32 0), (.slice none 0 0), (.slice none 0 0), (.bool false), (vU32 0), (.slice none 0 0)] 59, .blk q2 [(str ((numR (psD (g5 s).2 j) 2).2).s), (vN ((numR (psD (g5 s).2 j) 2).2).at_), (vN ((numR (psD (g5 s).2 j) 2).2).f)] 107, .blk b3 [(ptr q2 0)] 138, .blk b7 [(vU32 (g2 s).1.1), x, y, (.bool false), (vU32 0), (.slice none 0 0)] 59, .row x 130 2 (g3 s).1.1.toNat (List.flatMap xtc (gX s)), .row y 92 1 j (List.map vU16 (psL (g5 s).2 j)), .row (.slice none 0 0) 111 3 0 (List.flatMap sgc [])] → W 7 #[true, true, false, true, true, false, false, false, false, false, false] (e12 [(49, (ptr b7 0)), (50, (ptr b7 2)), (52, (.agg #[(ptr q2 0)])), (53, (vU32 (numR (psD (g5 s).2 j) 2).1.1))]) wS := by
        intro wS HS
        rw [hW]
        refine WD.all2 (i := 2) (j := 5) (by kernel_rfl) ?_ ?_
        ·
          refine WS.op (i := 2) rfl rfl rfl (op_load rfl (HS.cell (i := 3) rfl rfl) Try.underlying54 rfl ?_)
          have hq := st12_14 wS HS
          rw [hW] at hq
          refine WD.cov ?_ hq
          exact by repeat (first | exact trivial | refine ⟨rfl, ?_⟩)
        ·
          refine WS.op (i := 5) rfl rfl rfl (op_convU32U16 (hs := Try.underlying22) (hd := Try.underlying92) rfl ?_)
          have hq := st12_15 wS HS
          rw [hW] at hq
          refine WD.cov ?_ hq
          exact by repeat (first | exact trivial | refine ⟨rfl, ?_⟩)
      have st12_12 : ∀ (wS : World), Own [] w wS [.blk b1 [(vU32 0), (.slice none 0 0), (.slice none 0 0), (.bool false), (vU32 0), (.slice none 0 0)] 59, .blk q2 [(str ((numR (psD (g5 s).2 j) 2).2).s), (vN ((numR (psD (g5 s).2 j) 2).2).at_), (vN ((numR (psD (g5 s).2 j) 2).2).f)] 107, .blk b3 [(ptr q2 0)] 138, .blk b7 [(vU32 (g2 s).1.1), x, y, (.bool false), (vU32 0), (.slice none 0 0)] 59, .row x 130 2 (g3 s).1.1.toNat (List.flatMap xtc (gX s)), .row y 92 1 j (List.map vU16 (psL (g5 s).2 j)), .row (.slice none 0 0) 111 3 0 (List.flatMap sgc [])] → W 7 #[true, false, false, true, true, true, false, false, false, false, false] (e12 [(49, (ptr b7 0)), (52, (.agg #[(ptr q2 0)])), (53, (vU32 (numR (psD (g5 s).2 j) 2).1.1)), (54, (vU16 (UInt16.ofNat (numR (psD (g5 s).2 j) 2).1.1.toNat)))]) wS := by
        intro wS HS
        rw [hW]
        refine WD.all2 (i := 1) (j := 6) (by kernel_rfl) ?_ ?_
        ·
          refine WS.op (i := 1) rfl rfl rfl (op_fieldAddr rfl Fa.F56_2 ?_)
          have hq := st12_15 wS HS
          rw [hW] at hq
          refine WD.cov ?_ hq
          exact by repeat (first | exact trivial | refine ⟨rfl, ?_⟩)
        ·
          refine WS.op (i := 6) rfl rfl rfl (op_buildSlice (cs := [_]) HS Try.underlying54 Fa.I92 rfl rfl rfl rfl (by decide) (by decide) (fun b36121 w36121 H36121 => ?_))
          have hq := st12_16 b36121 w36121 H36121
          rw [hW] at hq
          refine WD.cov ?_ hq
          exact by repeat (first | exact trivial | refine ⟨rfl, ?_⟩)
      have st12_13 : ∀ (b36121 : _) (wS : World), Own [] w wS [.blk b1 [(vU32 0), (.slice none 0 0), (.slice none 0 0), (.bool false), (vU32 0), (.slice none 0 0)] 59, .blk q2 [(str ((numR (psD (g5 s).2 j) 2).2).s), (vN ((numR (psD (g5 s).2 j) 2).2).at_), (vN ((numR (psD (g5 s).2 j) 2).2).f)] 107, .blk b3 [(ptr q2 0)] 138, .blk b7 [(vU32 (g2 s).1.1), x, y, (.bool false), (vU32 0), (.slice none 0 0)] 59, .row x 130 2 (g3 s).1.1.toNat (List.flatMap xtc (gX s)), .row y 92 1 j (List.map vU16 (psL (g5 s).2 j)), .row (.slice none 0 0) 111 3 0 (List.flatMap sgc []), .row (.slice (some ⟨b36121, 0, none⟩) 1 1) 92 1 1 (List.map vU16 [(UInt16.ofNat (numR (psD (g5 s).2 j) 2).1.1.toNat)])] → W 7 #[false, false, false, true, true, true, true, false, false, false, false] (e12 [(52, (.agg #[(ptr q2 0)])), (53, (vU32 (numR (psD (g5 s).2 j) 2).1.1)), (54, (vU16 (UInt16.ofNat (numR (psD (g5 s).2 j) 2).1.1.toNat))), (55, (.slice (some ⟨b36121, 0, none⟩) 1 1))]) wS := by
        intro b36121 wS HS
        rw [hW]
        refine WD.all1 (i := 0) (by kernel_rfl) ?_
        ·
          refine WS.op (i := 0) rfl rfl rfl (op_fieldAddr rfl Fa.F59_0 ?_)
          have hq := st12_16 b36121 wS HS
          rw [hW] at hq
          refine WD.cov ?_ hq
          exact by repeat (first | exact trivial | refine ⟨rfl, ?_⟩)
      have st12_6 : ∀ (wS : World), Own [] w wS (l12 []) → W 8 #[true, true, true, false, false, false, false, false, false, false, false] (e12 [(49, (ptr b7 0)), (50, (ptr b7 2)), (51, y)]) wS := by
        intro wS HS
        rw [hW]
        refine WD.all1 (i := 3) (by kernel_rfl) ?_
        ·
          refine WS.op (i := 3) rfl rfl rfl (op_loadS (vs := [_]) rfl (HS.cells (i := 2) rfl rfl) Try.underlying138 rfl Fa.I138 rfl ?_)
          have hq := st12_10 wS HS
          rw [hW] at hq
          refine WD.cov ?_ hq
          exact by repeat (first | exact trivial | refine ⟨rfl, ?_⟩)
      have st12_7 : ∀ (wS : World), Own [] w wS (l12 []) → W 8 #[true, true, false, true, false, false, false, false, false, false, false] (e12 [(49, (ptr b7 0)), (50, (ptr b7 2)), (52, (.agg #[(ptr q2 0)]))]) wS := by
        intro wS HS
        rw [hW]
        refine WD.all2 (i := 2) (j := 4) (by kernel_rfl) ?_ ?_
        ·
          refine WS.op (i := 2) rfl rfl rfl (op_load rfl (HS.cell (i := 3) rfl rfl) Try.underlying54 rfl ?_)
          have hq := st12_10 wS HS
          rw [hW] at hq
          refine WD.cov ?_ hq
          exact by repeat (first | exact trivial | refine ⟨rfl, ?_⟩)
        ·
          refine WS.op (i := 4) rfl rfl rfl (op_callF Fa.C96 rfl ((inum_ok q2 (psD (g5 s).2 j) (2) 107 _ _ (HS.part [1] rfl rfl) (by first | (rw [g1_t]; exact hs) | (rw [g2_t]; exact hs) | (rw [g4_t]; exact hs) | (rw [g6_t]; exact hs) | (rw [g7_t]; exact hs) | (rw [g8_t]; exact hs) | (rw [g10_t]; exact hs) | (rw [xsD_t, g3_t]; exact hs) | (rw [numR_s, xsD_t, g3_t]; exact hs) | (rw [psD_t, g5_t]; exact hs) | (rw [sgD_t, g9_t]; exact hs) | exact hs)).mono (fun e w36081 hq => ?_)))
          obtain ⟨rfl, hq36081⟩ := hq
          refine ⟨_, rfl, ?_⟩
          have H36081 : Own [] w w36081 [.blk b1 [(vU32 0), (.slice none 0 0), (.slice none 0 0), (.bool false), (vU32 0), (.slice none 0 0)] 59, .blk q2 [(str ((numR (psD (g5 s).2 j) 2).2).s), (vN ((numR (psD (g5 s).2 j) 2).2).at_), (vN ((numR (psD (g5 s).2 j) 2).2).f)] 107, .blk b3 [(ptr q2 0)] 138, .blk b7 [(vU32 (g2 s).1.1), x, y, (.bool false), (vU32 0), (.slice none 0 0)] 59, .row x 130 2 (g3 s).1.1.toNat (List.flatMap xtc (gX s)), .row y 92 1 j (List.map vU16 (psL (g5 s).2 j)), .row (.slice none 0 0) 111 3 0 (List.flatMap sgc [])] := HS.splice [1] [.blk q2 [(str ((numR (psD (g5 s).2 j) 2).2).s), (vN ((numR (psD (g5 s).2 j) 2).2).at_), (vN ((numR (psD (g5 s).2 j) 2).2).f)] 107] [] rfl rfl hq36081 (Fits.solid True.intro Fits.nil)
          have hq := st12_11 w36081 H36081
          rw [hW] at hq
          refine WD.cov ?_ hq
          exact by repeat (first | exact trivial | refine ⟨rfl, ?_⟩)
      have st12_8 : ∀ (wS : World), Own [] w wS [.blk b1 [(vU32 0), (.slice none 0 0), (.slice none 0 0), (.bool false), (vU32 0), (.slice none 0 0)] 59, .blk q2 [(str ((numR (psD (g5 s).2 j) 2).2).s), (vN ((numR (psD (g5 s).2 j) 2).2).at_), (vN ((numR (psD (g5 s).2 j) 2).2).f)] 107, .blk b3 [(ptr q2 0)] 138, .blk b7 [(vU32 (g2 s).1.1), x, y, (.bool false), (vU32 0), (.slice none 0 0)] 59, .row x 130 2 (g3 s).1.1.toNat (List.flatMap xtc (gX s)), .row y 92 1 j (List.map vU16 (psL (g5 s).2 j)), .row (.slice none 0 0) 111 3 0 (List.flatMap sgc [])] → W 8 #[true, false, false, true, true, false, false, false, false, false, false] (e12 [(49, (ptr b7 0)), (52, (.agg #[(ptr q2 0)])), (53, (vU32 (numR (psD (g5 s).2 j) 2).1.1))]) wS := by
        intro wS HS
        rw [hW]
        refine WD.all2 (i := 1) (j := 5) (by kernel_rfl) ?_ ?_
        ·
          refine WS.op (i := 1) rfl rfl rfl (op_fieldAddr rfl Fa.F56_2 ?_)
          have hq := st12_11 wS HS
          rw [hW] at hq
          refine WD.cov ?_ hq
          exact by repeat (first | exact trivial | refine ⟨rfl, ?_⟩)
        ·
          refine WS.op (i := 5) rfl rfl rfl (op_convU32U16 (hs := Try.underlying22) (hd := Try.underlying92) rfl ?_)
          have hq := st12_12 wS HS
          rw [hW] at hq
          refine WD.cov ?_ hq
          exact by repeat (first | exact trivial | refine ⟨rfl, ?_⟩)
      have st12_9 : ∀ (wS : World), Own [] w wS [.blk b1 [(vU32 0), (.slice none 0 0), (.slice none 0 0), (.bool false), (vU32 0), (.slice none 0 0)] 59, .blk q2 [(str ((numR (psD (g5 s).2 j) 2).2).s), (vN ((numR (psD (g5 s).2 j) 2).2).at_), (vN ((numR (psD (g5 s).2 j) 2).2).f)] 107, .blk b3 [(ptr q2 0)] 138, .blk b7 [(vU32 (g2 s).1.1), x, y, (.bool false), (vU32 0), (.slice none 0 0)] 59, .row x 130 2 (g3 s).1.1.toNat (List.flatMap xtc (gX s)), .row y 92 1 j (List.map vU16 (psL (g5 s).2 j)), .row (.slice none 0 0) 111 3 0 (List.flatMap sgc [])] → W 8 #[false, false, false, true, true, true, false, false, false, false, false] (e12 [(52, (.agg #[(ptr q2 0)])), (53, (vU32 (numR (psD (g5 s).2 j) 2).1.1)), (54, (vU16 (UInt16.ofNat (numR (psD (g5 s).2 j) 2).1.1.toNat)))]) wS := by
        intro wS HS
        rw [hW]
        refine WD.all2 (i := 0) (j := 6) (by kernel_rfl) ?_ ?_
        ·
          refine WS.op (i := 0) rfl rfl rfl (op_fieldAddr rfl Fa.F59_0 ?_)
          have hq := st12_12 wS HS
          rw [hW] at hq
          refine WD.cov ?_ hq
          exact by repeat (first | exact trivial | refine ⟨rfl, ?_⟩)
        ·
          refine WS.op (i := 6) rfl rfl rfl (op_buildSlice (cs := [_]) HS Try.underlying54 Fa.I92 rfl rfl rfl rfl (by decide) (by decide) (fun b36121 w36121 H36121 => ?_))
          have hq := st12_13 b36121 w36121 H36121
          rw [hW] at hq
          refine WD.cov ?_ hq
          exact by repeat (first | exact trivial | refine ⟨rfl, ?_⟩)
      have st12_3 : ∀ (wS : World), Own [] w wS (l12 []) → W 9 #[true, true, false, false, false, false, false, false, false, false, false] (e12 [(49, (ptr b7 0)), (50, (ptr b7 2))]) wS := by
        intro wS HS
        rw [hW]
        refine WD.all2 (i := 2) (j := 3) (by kernel_rfl) ?_ ?_
        ·
          refine WS.op (i := 2) rfl rfl rfl (op_load rfl (HS.cell (i := 3) rfl rfl) Try.underlying54 rfl ?_)
          have hq := st12_6 wS HS
          rw [hW] at hq
          refine WD.cov ?_ hq
          exact by repeat (first | exact trivial | refine ⟨rfl, ?_⟩)
        ·
          refine WS.op (i := 3) rfl rfl rfl (op_loadS (vs := [_]) rfl (HS.cells (i := 2) rfl rfl) Try.underlying138 rfl Fa.I138 rfl ?_)
          have hq := st12_7 wS HS
          rw [hW] at hq
          refine WD.cov ?_ hq
          exact by repeat (first | exact trivial | refine ⟨rfl, ?_⟩)
      have st12_4 : ∀ (wS : World), Own [] w wS (l12 []) → W 9 #[true, false, false, true, false, false, false, false, false, false, false] (e12 [(49, (ptr b7 0)), (52, (.agg #[(ptr q2 0)]))]) wS := by
        intro wS HS
        rw [hW]
        refine WD.all2 (i := 1) (j := 4) (by kernel_rfl) ?_ ?_
        ·
          refine WS.op (i := 1) rfl rfl rfl (op_fieldAddr rfl Fa.F56_2 ?_)
          have hq := st12_7 wS HS
          rw [hW] at hq
          refine WD.cov ?_ hq
          exact by repeat (first | exact trivial | refine ⟨rfl, ?_⟩)
        ·
          refine WS.op (i := 4) rfl rfl rfl (op_callF Fa.C96 rfl ((inum_ok q2 (psD (g5 s).2 j) (2) 107 _ _ (HS.part [1] rfl rfl) (by first | (rw [g1_t]; exact hs) | (rw [g2_t]; exact hs) | (rw [g4_t]; exact hs) | (rw [g6_t]; exact hs) | (rw [g7_t]; exact hs) | (rw [g8_t]; exact hs) | (rw [g10_t]; exact hs) | (rw [xsD_t, g3_t]; exact hs) | (rw [numR_s, xsD_t, g3_t]; exact hs) | (rw [psD_t, g5_t]; exact hs) | (rw [sgD_t, g9_t]; exact hs) | exact hs)).mono (fun e w36081 hq => ?_)))
          obtain ⟨rfl, hq36081⟩ := hq
          refine ⟨_, rfl, ?_⟩
          have H36081 : Own [] w w36081 [.blk b1 [(vU32 0), (.slice none 0 0), (.slice none 0 0), (.bool false), (vU32 0), (.slice none 0 0)] 59, .blk q2 [(str ((numR (psD (g5 s).2 j) 2).2).s), (vN ((numR (psD (g5 s).2 j) 2).2).at_), (vN ((numR (psD (g5 s).2 j) 2).2).f)] 107, .blk b3 [(ptr q2 0)] 138, .blk b7 [(vU32 (g2 s).1.1), x, y, (.bool false), (vU32 0), (.slice none 0 0)] 59, .row x 130 2 (g3 s).1.1.toNat (List.flatMap xtc (gX s)), .row y 92 1 j (List.map vU16 (psL (g5 s).2 j)), .row (.slice none 0 0) 111 3 0 (List.flatMap sgc [])] := HS.splice [1] [.blk q2 [(str ((numR (psD (g5 s).2 j) 2).2).s), (vN ((numR (psD (g5 s).2 j) 2).2).at_), (vN ((numR (psD (g5 s).2 j) 2).2).f)] 107] [] rfl rfl hq36081 (Fits.solid True.intro Fits.nil)
          have hq := st12_8 w36081 H36081
          rw [hW] at hq
          refine WD.cov ?_ hq
          exact by repeat (first | exact trivial | refine ⟨rfl, ?_⟩)
      have st12_5 : ∀ (wS : World), Own [] w wS [.blk b1 [(vU32 0), (.slice none 0 0), (.slice none 0 0), (.bool false), (vU32 0), (.slice none 0 0)] 59, .blk q2 [(str ((numR (psD (g5 s).2 j) 2).2).s), (vN ((numR (psD (g5 s).2 j) 2).2).at_), (vN ((numR (psD (g5 s).2 j) 2).2).f)] 107, .blk b3 [(ptr q2 0)] 138, .blk b7 [(vU32 (g2 s).1.1), x, y, (.bool false), (vU32 0), (.slice none 0 0)] 59, .row x 130 2 (g3 s).1.1.toNat (List.flatMap xtc (gX s)), .row y 92 1 j (List.map vU16 (psL (g5 s).2 j)), .row (.slice none 0 0) 111 3 0 (List.flatMap sgc [])] → W 9 #[false, false, false, true, true, false, false, false, false, false, false] (e12 [(52, (.agg #[(ptr q2 0)])), (53, (vU32 (numR (psD (g5 s).2 j) 2).1.1))]) wS := by
        intro wS HS
        rw [hW]
        refine WD.all2 (i := 0) (j := 5) (by kernel_rfl) ?_ ?_
        ·
          refine WS.op (i := 0) rfl rfl rfl (op_fieldAddr rfl Fa.F59_0 ?_)
          have hq := st12_8 wS HS
          rw [hW] at hq
          refine WD.cov ?_ hq
          exact by repeat (first | exact trivial | refine ⟨rfl, ?_⟩)
        ·
          refine WS.op (i := 5) rfl rfl rfl (op_convU32U16 (hs := Try.underlying22) (hd := Try.underlying92) rfl ?_)
          have hq := st12_9 wS HS
          rw [hW] at hq
          refine WD.cov ?_ hq
          exact by repeat (first | exact trivial | refine ⟨rfl, ?_⟩)
      have st12_1 : ∀ (wS : World), Own [] w wS (l12 []) → W 10 #[true, false, false, false, false, false, false, false, false, false, false] (e12 [(49, (ptr b7 0))]) wS := by
        intro wS HS
        rw [hW]
        refine WD.all2 (i := 1) (j := 3) (by kernel_rfl) ?_ ?_
        ·
          refine WS.op (i := 1) rfl rfl rfl (op_fieldAddr rfl Fa.F56_2 ?_)
          have hq := st12_3 wS HS
          rw [hW] at hq
          refine WD.cov ?_ hq
          exact by repeat (first | exact trivial | refine ⟨rfl, ?_⟩)
        ·
          refine WS.op (i := 3) rfl rfl rfl (op_loadS (vs := [_]) rfl (HS.cells (i := 2) rfl rfl) Try.underlying138 rfl Fa.I138 rfl ?_)
          have hq := st12_4 wS HS
          rw [hW] at hq
          refine WD.cov ?_ hq
          exact by repeat (first | exact trivial | refine ⟨rfl, ?_⟩)
      have st12_2 : ∀ (wS : World), Own [] w wS (l12 []) → W 10 #[false, false, false, true, false, false, false, false, false, false, false] (e12 [(52, (.agg #[(ptr q2 0)]))]) wS := by
        intro wS HS
        rw [hW]
        refine WD.all2 (i := 0) (j := 4) (by kernel_rfl) ?_ ?_
        ·
          refine WS.op (i := 0) rfl rfl rfl (op_fieldAddr rfl Fa.F59_0 ?_)
          have hq := st12_4 wS HS
          rw [hW] at hq
          refine WD.cov ?_ hq
          exact by repeat (first | exact trivial | refine ⟨rfl, ?_⟩)
        ·
          refine WS.op (i := 4) rfl rfl rfl (op_callF Fa.C96 rfl ((inum_ok q2 (psD (g5 s).2 j) (2) 107 _ _ (HS.part [1] rfl rfl) (by first | (rw [g1_t]; exact hs) | (rw [g2_t]; exact hs) | (rw [g4_t]; exact hs) | (rw [g6_t]; exact hs) | (rw [g7_t]; exact hs) | (rw [g8_t]; exact hs) | (rw [g10_t]; exact hs) | (rw [xsD_t, g3_t]; exact hs) | (rw [numR_s, xsD_t, g3_t]; exact hs) | (rw [psD_t, g5_t]; exact hs) | (rw [sgD_t, g9_t]; exact hs) | exact hs)).mono (fun e w36081 hq => ?_)))
          obtain ⟨rfl, hq36081⟩ := hq
          refine ⟨_, rfl, ?_⟩
          have H36081 : Own [] w w36081 [.blk b1 [(vU32 0), (.slice none 0 0), (.slice none 0 0), (.bool false), (vU32 0), (.slice none 0 0)] 59, .blk q2 [(str ((numR (psD (g5 s).2 j) 2).2).s), (vN ((numR (psD (g5 s).2 j) 2).2).at_), (vN ((numR (psD (g5 s).2 j) 2).2).f)] 107, .blk b3 [(ptr q2 0)] 138, .blk b7 [(vU32 (g2 s).1.1), x, y, (.bool false), (vU32 0), (.slice none 0 0)] 59, .row x 130 2 (g3 s).1.1.toNat (List.flatMap xtc (gX s)), .row y 92 1 j (List.map vU16 (psL (g5 s).2 j)), .row (.slice none 0 0) 111 3 0 (List.flatMap sgc [])] := HS.splice [1] [.blk q2 [(str ((numR (psD (g5 s).2 j) 2).2).s), (vN ((numR (psD (g5 s).2 j) 2).2).at_), (vN ((numR (psD (g5 s).2 j) 2).2).f)] 107] [] rfl rfl hq36081 (Fits.solid True.intro Fits.nil)
          have hq := st12_5 w36081 H36081
          rw [hW] at hq
          refine WD.cov ?_ hq
          exact by repeat (first | exact trivial | refine ⟨rfl, ?_⟩)
      have st12_0 : ∀ (wS : World), Own [] w wS (l12 []) → W 11 #[false, false, false, false, false, false, false, false, false, false, false] (e12 []) wS := by
        intro wS HS
        rw [hW]
        refine WD.all2 (i := 0) (j := 3) (by kernel_rfl) ?_ ?_
        ·
          refine WS.op (i := 0) rfl rfl rfl (op_fieldAddr rfl Fa.F59_0 ?_)
          have hq := st12_1 wS HS
          rw [hW] at hq
          refine WD.cov ?_ hq
          exact by repeat (first | exact trivial | refine ⟨rfl, ?_⟩)
        ·
          refine WS.op (i := 3) rfl rfl rfl (op_loadS (vs := [_]) rfl (HS.cells (i := 2) rfl rfl) Try.underlying138 rfl Fa.I138 rfl ?_)
          have hq := st12_2 wS HS
          rw [hW] at hq
          refine WD.cov ?_ hq
          exact by repeat (first | exact trivial | refine ⟨rfl, ?_⟩)
      have hq := st12_0 w25 H25
      rw [hW] at hq ⊢
      refine WD.cov ?_ hq
      exact by repeat (first | exact trivial | refine ⟨rfl, ?_⟩)
    ·
      have hc24 := of_decide_eq_false hb24
      refine WC.exit ?_
      refine WQ.thenExit ?_
      refine WQ.thenExit ?_
      refine WQ.inHere ?_
      refine WQ.next ?_
      refine WC.seq ?_
      refine WC.region ?_
      have hkx : ¬ j < (g5 s).1.1.toNat := fun h => hc24 (hct.2 h)
      obtain rfl : j = (g5 s).1.1.toNat := by omega
      have H27 : Own [] w w23 [.blk b1 [(vU32 0), (.slice none 0 0), (.slice none 0 0), (.bool false), (vU32 0), (.slice none 0 0)] 59, .blk q2 [(str (g6 s).s), (vN (g6 s).at_), (vN (g6 s).f)] 107, .blk b3 [(ptr q2 0)] 138, .blk b7 [(vU32 (g2 s).1.1), x, y, (.bool false), (vU32 0), (.slice none 0 0)] 59, .row x 130 2 (g3 s).1.1.toNat (List.flatMap xtc (gX s)), .row y 92 1 (g5 s).1.1.toNat (List.map vU16 (gP s)), .row (.slice none 0 0) 111 3 0 (List.flatMap sgc [])] := by have h := H23; rw [show psD (g5 s).2 (g5 s).1.1.toNat = g6 s from rfl] at h; rw [show psL (g5 s).2 (g5 s).1.1.toNat = gP s from rfl] at h; exact h
      refine WL.op rfl rfl (op_loadS (vs := [_]) rfl (H27.cells (i := 2) rfl rfl) Try.underlying138 rfl Fa.I138 rfl ?_)
      refine WL.op rfl rfl (op_callF Fa.C96 rfl ((inum_ok q2 (g6 s) (1) 107 _ _ (H27.part [1] rfl rfl) (by first | (rw [g1_t]; exact hs) | (rw [g2_t]; exact hs) | (rw [g4_t]; exact hs) | (rw [g6_t]; exact hs) | (rw [g7_t]; exact hs) | (rw [g8_t]; exact hs) | (rw [g10_t]; exact hs) | (rw [xsD_t, g3_t]; exact hs) | (rw [numR_s, xsD_t, g3_t]; exact hs) | (rw [psD_t, g5_t]; exact hs) | (rw [sgD_t, g9_t]; exact hs) | exact hs)).mono (fun e w28 hq => ?_)))
      obtain ⟨rfl, hq28⟩ := hq
      refine ⟨_, rfl, ?_⟩
      have H28 : Own [] w w28 [.blk b1 [(vU32 0), (.slice none 0 0), (.slice none 0 0), (.bool false), (vU32 0), (.slice none 0 0)] 59, .blk q2 [(str ((numR (g6 s) 1).2).s), (vN ((numR (g6 s) 1).2).at_), (vN ((numR (g6 s) 1).2).f)] 107, .blk b3 [(ptr q2 0)] 138, .blk b7 [(vU32 (g2 s).1.1), x, y, (.bool false), (vU32 0), (.slice none 0 0)] 59, .row x 130 2 (g3 s).1.1.toNat (List.flatMap xtc (gX s)), .row y 92 1 (g5 s).1.1.toNat (List.map vU16 (gP s)), .row (.slice none 0 0) 111 3 0 (List.flatMap sgc [])] := H27.splice [1] [.blk q2 [(str ((numR (g6 s) 1).2).s), (vN ((numR (g6 s) 1).2).at_), (vN ((numR (g6 s) 1).2).f)] 107] [] rfl rfl hq28 (Fits.solid True.intro Fits.nil)
      have H29 : Own [] w w28 [.blk b1 [(vU32 0), (.slice none 0 0), (.slice none 0 0), (.bool false), (vU32 0), (.slice none 0 0)] 59, .blk q2 [(str ((g7 s).2).s), (vN ((g7 s).2).at_), (vN ((g7 s).2).f)] 107, .blk b3 [(ptr q2 0)] 138, .blk b7 [(vU32 (g2 s).1.1), x, y, (.bool false), (vU32 0), (.slice none 0 0)] 59, .row x 130 2 (g3 s).1.1.toNat (List.flatMap xtc (gX s)), .row y 92 1 (g5 s).1.1.toNat (List.map vU16 (gP s)), .row (.slice none 0 0) 111 3 0 (List.flatMap sgc [])] := by have h := H28; rw [show numR (g6 s) 1 = g7 s from rfl] at h; exact h
      rw [show numR (g6 s) 1 = g7 s from rfl]
      refine WL.op rfl rfl (op_assign rfl ?_)
      refine WL.nil ?_
      refine WQ.next ?_
      refine WC.seq ?_
      refine WC.region ?_
      refine WL.op rfl rfl (op_move rfl ?_)
      refine WL.op rfl rfl (op_eqlU32 (b := 1) rfl rfl ?_)
      refine WL.op rfl rfl (op_fieldAddr rfl Fa.F59_0 ?_)
      refine WL.op rfl rfl (op_fieldAddr rfl Fa.F56_3 ?_)
      refine WL.op rfl rfl (op_storeB (i := 3) H29 rfl rfl rfl rfl rfl Fa.I4 (fun w30 H30 => ?_))
      refine WL.nil ?_
      refine WQ.next ?_
      refine WC.seq ?_
      refine WC.region ?_
      refine WL.op rfl rfl (op_loadS (vs := [_]) rfl (H30.cells (i := 2) rfl rfl) Try.underlying138 rfl Fa.I138 rfl ?_)
      refine WL.op rfl rfl (op_callF Fa.C96 rfl ((inum_ok q2 ((g7 s).2) (4) 107 _ _ (H30.part [1] rfl rfl) (by first | (rw [g1_t]; exact hs) | (rw [g2_t]; exact hs) | (rw [g4_t]; exact hs) | (rw [g6_t]; exact hs) | (rw [g7_t]; exact hs) | (rw [g8_t]; exact hs) | (rw [g10_t]; exact hs) | (rw [xsD_t, g3_t]; exact hs) | (rw [numR_s, xsD_t, g3_t]; exact hs) | (rw [psD_t, g5_t]; exact hs) | (rw [sgD_t, g9_t]; exact hs) | exact hs)).mono (fun e w31 hq => ?_)))
      obtain ⟨rfl, hq31⟩ := hq
      refine ⟨_, rfl, ?_⟩
      have H31 : Own [] w w31 [.blk b1 [(vU32 0), (.slice none 0 0), (.slice none 0 0), (.bool false), (vU32 0), (.slice none 0 0)] 59, .blk q2 [(str ((numR ((g7 s).2) 4).2).s), (vN ((numR ((g7 s).2) 4).2).at_), (vN ((numR ((g7 s).2) 4).2).f)] 107, .blk b3 [(ptr q2 0)] 138, .blk b7 [(vU32 (g2 s).1.1), x, y, (.bool (decide ((g7 s).1.1 = (1 : UInt32)))), (vU32 0), (.slice none 0 0)] 59, .row x 130 2 (g3 s).1.1.toNat (List.flatMap xtc (gX s)), .row y 92 1 (g5 s).1.1.toNat (List.map vU16 (gP s)), .row (.slice none 0 0) 111 3 0 (List.flatMap sgc [])] := H30.splice [1] [.blk q2 [(str ((numR ((g7 s).2) 4).2).s), (vN ((numR ((g7 s).2) 4).2).at_), (vN ((numR ((g7 s).2) 4).2).f)] 107] [] rfl rfl hq31 (Fits.solid True.intro Fits.nil)
      refine WL.op rfl rfl (op_fieldAddr rfl Fa.F59_1 ?_)
      have H32 : Own [] w w31 [.blk b1 [(vU32 0), (.slice none 0 0), (.slice none 0 0), (.bool false), (vU32 0), (.slice none 0 0)] 59, .blk q2 [(str ((g8 s).2).s), (vN ((g8 s).2).at_), (vN ((g8 s).2).f)] 107, .blk b3 [(ptr q2 0)] 138, .blk b7 [(vU32 (g2 s).1.1), x, y, (.bool (decide ((g7 s).1.1 = (1 : UInt32)))), (vU32 0), (.slice none 0 0)] 59, .row x 130 2 (g3 s).1.1.toNat (List.flatMap xtc (gX s)), .row y 92 1 (g5 s).1.1.toNat (List.map vU16 (gP s)), .row (.slice none 0 0) 111 3 0 (List.flatMap sgc [])] := by have h := H31; rw [show numR (g7 s).2 4 = g8 s from rfl] at h; exact h
      rw [show numR (g7 s).2 4 = g8 s from rfl]
      refine WL.op rfl rfl (op_storeB (i := 3) H32 rfl rfl rfl rfl rfl Fa.I22 (fun w33 H33 => ?_))
      refine WL.nil ?_
      refine WQ.next ?_
      refine WC.seq ?_
      refine WC.seq ?_
      refine WC.region ?_
      refine WL.op rfl rfl (op_loadS (vs := [_]) rfl (H33.cells (i := 2) rfl rfl) Try.underlying138 rfl Fa.I138 rfl ?_)
      refine WL.op rfl rfl (op_callF Fa.C96 rfl ((inum_ok q2 ((g8 s).2) (1) 107 _ _ (H33.part [1] rfl rfl) (by first | (rw [g1_t]; exact hs) | (rw [g2_t]; exact hs) | (rw [g4_t]; exact hs) | (rw [g6_t]; exact hs) | (rw [g7_t]; exact hs) | (rw [g8_t]; exact hs) | (rw [g10_t]; exact hs) | (rw [xsD_t, g3_t]; exact hs) | (rw [numR_s, xsD_t, g3_t]; exact hs) | (rw [psD_t, g5_t]; exact hs) | (rw [sgD_t, g9_t]; exact hs) | exact hs)).mono (fun e w34 hq => ?_)))
      obtain ⟨rfl, hq34⟩ := hq
      refine ⟨_, rfl, ?_⟩
      have H34 : Own [] w w34 [.blk b1 [(vU32 0), (.slice none 0 0), (.slice none 0 0), (.bool false), (vU32 0), (.slice none 0 0)] 59, .blk q2 [(str ((numR ((g8 s).2) 1).2).s), (vN ((numR ((g8 s).2) 1).2).at_), (vN ((numR ((g8 s).2) 1).2).f)] 107, .blk b3 [(ptr q2 0)] 138, .blk b7 [(vU32 (g2 s).1.1), x, y, (.bool (decide ((g7 s).1.1 = (1 : UInt32)))), (vU32 (g8 s).1.1), (.slice none 0 0)] 59, .row x 130 2 (g3 s).1.1.toNat (List.flatMap xtc (gX s)), .row y 92 1 (g5 s).1.1.toNat (List.map vU16 (gP s)), .row (.slice none 0 0) 111 3 0 (List.flatMap sgc [])] := H33.splice [1] [.blk q2 [(str ((numR ((g8 s).2) 1).2).s), (vN ((numR ((g8 s).2) 1).2).at_), (vN ((numR ((g8 s).2) 1).2).f)] 107] [] rfl rfl hq34 (Fits.solid True.intro Fits.nil)
      have H35 : Own [] w w34 [.blk b1 [(vU32 0), (.slice none 0 0), (.slice none 0 0), (.bool false), (vU32 0), (.slice none 0 0)] 59, .blk q2 [(str ((g9 s).2).s), (vN ((g9 s).2).at_), (vN ((g9 s).2).f)] 107, .blk b3 [(ptr q2 0)] 138, .blk b7 [(vU32 (g2 s).1.1), x, y, (.bool (decide ((g7 s).1.1 = (1 : UInt32)))), (vU32 (g8 s).1.1), (.slice none 0 0)] 59, .row x 130 2 (g3 s).1.1.toNat (List.flatMap xtc (gX s)), .row y 92 1 (g5 s).1.1.toNat (List.map vU16 (gP s)), .row (.slice none 0 0) 111 3 0 (List.flatMap sgc [])] := by have h := H34; rw [show numR (g8 s).2 1 = g9 s from rfl] at h; exact h
      rw [show numR (g8 s).2 1 = g9 s from rfl]
      refine WL.op rfl rfl (op_assign rfl ?_)
      refine WL.nil ?_
      refine WQ.next ?_
      refine WC.block ?_
      refine WC.loop (α := Nat × Value) (fun (i, z) => [(2, (ptr b1 0)), (4, (ptr b3 0)), (5, (str (g1 s).1.1)), (7, (ptr b7 0)), (10, (vU32 (g7 s).1.1)), (11, (vU32 ((g9 s).1.1 - UInt32.ofNat i)))]) (fun (i, z) w' => (i ≤ (g9 s).1.1.toNat) ∧ Own [] w w' [.blk b1 [(vU32 0), (.slice none 0 0), (.slice none 0 0), (.bool false), (vU32 0), (.slice none 0 0)] 59, .blk q2 [(str (sgD (g9 s).2 i).s), (vN (sgD (g9 s).2 i).at_), (vN (sgD (g9 s).2 i).f)] 107, .blk b3 [(ptr q2 0)] 138, .blk b7 [(vU32 (g2 s).1.1), x, y, (.bool (decide ((g7 s).1.1 = (1 : UInt32)))), (vU32 (g8 s).1.1), z] 59, .row x 130 2 (g3 s).1.1.toNat (List.flatMap xtc (gX s)), .row y 92 1 (g5 s).1.1.toNat (List.map vU16 (gP s)), .row z 111 3 i (List.flatMap sgc (sgL (g9 s).2 i))]) (fun (i, z) => (g9 s).1.1.toNat - i) (0, (.slice none 0 0)) ⟨(Nat.zero_le _), (by rw [sgD_0]; exact H35)⟩ ⟨rfl, rfl, rfl, rfl, rfl, (congrArg (fun n => some (vU32 n)) (u32_sub0 _)), trivial⟩ ?_
      rintro ⟨i, z⟩ w36 ⟨hi1, H36⟩
      show WC _ _ _ _ _ [(2, (ptr b1 0)), (4, (ptr b3 0)), (5, (str (g1 s).1.1)), (7, (ptr b7 0)), (10, (vU32 (g7 s).1.1)), (11, (vU32 ((g9 s).1.1 - UInt32.ofNat i)))] _
      have hct := u32_gt hi1
      have hnl := (g9 s).1.1.toNat_lt
      refine WC.seq ?_
      refine WC.seq ?_
      refine WC.region ?_
      refine WL.op rfl rfl (op_move rfl ?_)
      refine WL.op rfl rfl (op_gtrU32 (b := 0) rfl rfl ?_)
      refine WL.nil ?_
      refine WQ.next ?_
      refine WC.cond rfl (fun (hb37 : (decide (((g9 s).1.1 - UInt32.ofNat i) > (0 : UInt32))) = true) => ?_) (fun (hb37 : (decide (((g9 s).1.1 - UInt32.ofNat i) > (0 : UInt32))) = false) => ?_)
      ·
        have hc37 := of_decide_eq_true hb37
        have hkn := hct.1 hc37
        refine WC.skip ?_
        refine WQ.next ?_
        refine WC.seq ?_
        refine WC.block ?_
        refine WC.drawn 8 rfl Fa.M H36 ?_
        intro w38 H38
        refine WD.named (fun W hW => ?_)
        let e19 : List (Nat × Value) → List (Nat × Value) := fun r => (2, (ptr b1 0)) :: (4, (ptr b3 0)) :: (5, (str (g1 s).1.1)) :: (7, (ptr b7 0)) :: (10, (vU32 (g7 s).1.1)) :: (11, (vU32 ((g9 s).1.1 - UInt32.ofNat i))) :: (70, (vU32 ((g9 s).1.1 - UInt32.ofNat i))) :: (71, (.bool (decide (((g9 s).1.1 - UInt32.ofNat i) > (0 : UInt32))))) :: r
        let l19 : List Ent → List Ent := fun r => (.blk b1 [(vU32 0), (.slice none 0 0), (.slice none 0 0), (.bool false), (vU32 0), (.slice none 0 0)] 59) :: (.blk q2 [(str (sgD (g9 s).2 i).s), (vN (sgD (g9 s).2 i).at_), (vN (sgD (g9 s).2 i).f)] 107) :: (.blk b3 [(ptr q2 0)] 138) :: (.blk b7 [(vU32 (g2 s).1.1), x, y, (.bool (decide ((g7 s).1.1 = (1 : UInt32)))), (vU32 (g8 s).1.1), z] 59) :: (.row x 130 2 (g3 s).1.1.toNat (List.flatMap xtc (gX s))) :: (.row y 92 1 (g5 s).1.1.toNat (List.map vU16 (gP s))) :: (.row z 111 3 i (List.flatMap sgc (sgL (g9 s).2 i))) :: r
        have st19_14 : ∀ (b49081 : _) (v49101 : _) (wS : World), Own [] w wS [.blk b1 [(vU32 0), (.slice none 0 0), (.slice none 0 0), (.bool false), (vU32 0), (.slice none 0 0)] 59, .blk q2 [(str ((segR (sgD (g9 s).2 i)).2).s), (vN ((segR (sgD (g9 s).2 i)).2).at_), (vN ((segR (sgD (g9 s).2 i)).2).f)] 107, .blk b3 [(ptr q2 0)] 138, .blk b7 [(vU32 (g2 s).1.1), x, y, (.bool (decide ((g7 s).1.1 = (1 : UInt32)))), (vU32 (g8 s).1.1), v49101] 59, .row x 130 2 (g3 s).1.1.toNat (List.flatMap xtc (gX s)), .row y 92 1 (g5 s).1.1.toNat (List.map vU16 (gP s)), .row v49101 111 3 (i + 1) (List.flatMap sgc ((sgL (g9 s).2 i) ++ [(segR (sgD (g9 s).2 i)).1])), .row (.slice (some ⟨b49081, 0, none⟩) 1 1) 111 3 1 (List.flatMap sgc [(segR (sgD (g9 s).2 i)).1])] → W 0 #[true, true, true, true, true, true, true, true] (e19 [(74, (ptr b7 5)), (75, z), (76, (.agg #[(ptr q2 0)])), (77, (.agg #[(vU32 (segR (sgD (g9 s).2 i)).1.a), (vU8 (segR (sgD (g9 s).2 i)).1.p), (str (segR (sgD (g9 s).2 i)).1.b)])), (78, (.slice (some ⟨b49081, 0, none⟩) 1 1)), (79, v49101), (80, (ptr b7 5))]) wS := by
          intro b49081 v49101 wS HS
          rw [hW]
          refine WD.done (by kernel_rfl) ?_
          refine WQ.inNormal ?_
          refine WQ.next ?_
          refine WC.region ?_
          refine WL.op rfl rfl (op_move rfl ?_)
          refine WL.op rfl rfl (op_subU32 (b := 1) rfl rfl ?_)
          refine WL.op rfl rfl (op_assign rfl ?_)
          refine WL.nil ?_
          exact WQ.round (i + 1, v49101) ⟨(by omega), (by rw [sgD_s, sgL_s]; exact (HS.take 7))⟩ ⟨rfl, rfl, rfl, rfl, rfl, (congrArg (fun n => some (vU32 n)) (u32_dec hkn)), trivial⟩ (by show (g9 s).1.1.toNat - (i + 1) < (g9 s).1.1.toNat - i; omega)
        have st19_13 : ∀ (b49081 : _) (v49101 : _) (wS : World), Own [] w wS [.blk b1 [(vU32 0), (.slice none 0 0), (.slice none 0 0), (.bool false), (vU32 0), (.slice none 0 0)] 59, .blk q2 [(str ((segR (sgD (g9 s).2 i)).2).s), (vN ((segR (sgD (g9 s).2 i)).2).at_), (vN ((segR (sgD (g9 s).2 i)).2).f)] 107, .blk b3 [(ptr q2 0)] 138, .blk b7 [(vU32 (g2 s).1.1), x, y, (.bool (decide ((g7 s).1.1 = (1 : UInt32)))), (vU32 (g8 s).1.1), z] 59, .row x 130 2 (g3 s).1.1.toNat (List.flatMap xtc (gX s)), .row y 92 1 (g5 s).1.1.toNat (List.map vU16 (gP s)), .row v49101 111 3 (i + 1) (List.flatMap sgc ((sgL (g9 s).2 i) ++ [(segR (sgD (g9 s).2 i)).1])), .row (.slice (some ⟨b49081, 0, none⟩) 1 1) 111 3 1 (List.flatMap sgc [(segR (sgD (g9 s).2 i)).1])] → W 1 #[true, true, true, true, true, true, true, false] (e19 [(74, (ptr b7 5)), (75, z), (76, (.agg #[(ptr q2 0)])), (77, (.agg #[(vU32 (segR (sgD (g9 s).2 i)).1.a), (vU8 (segR (sgD (g9 s).2 i)).1.p), (str (segR (sgD (g9 s).2 i)).1.b)])), (78, (.slice (some ⟨b49081, 0, none⟩) 1 1)), (79, v49101), (80, (ptr b7 5))]) wS := by
          intro b49081 v49101 wS HS
          rw [hW]
          refine WD.all1 (i := 7) (by kernel_rfl) ?_
          ·
            refine WS.op (i := 7) rfl rfl rfl (op_storeB (i := 3) HS rfl rfl rfl rfl (Arr.one (HS.arrR (i := 6) rfl)) Fa.I57 (fun w49141 H49141 => ?_))
            have hq := st19_14 b49081 v49101 w49141 H49141
            rw [hW] at hq
            refine WD.cov ?_ hq
            exact by repeat (first | exact trivial | refine ⟨rfl, ?_⟩)
        have st19_12 : ∀ (b49081 : _) (v49101 : _) (wS : World), Own [] w wS [.blk b1 [(vU32 0), (.slice none 0 0), (.slice none 0 0), (.bool false), (vU32 0), (.slice none 0 0)] 59, .blk q2 [(str ((segR (sgD (g9 s).2 i)).2).s), (vN ((segR (sgD (g9 s).2 i)).2).at_), (vN ((segR (sgD (g9 s).2 i)).2).f)] 107, .blk b3 [(ptr q2 0)] 138, .blk b7 [(vU32 (g2 s).1.1), x, y, (.bool (decide ((g7 s).1.1 = (1 : UInt32)))), (vU32 (g8 s).1.1), z] 59, .row x 130 2 (g3 s).1.1.toNat (List.flatMap xtc (gX s)), .row y 92 1 (g5 s).1.1.toNat (List.map vU16 (gP s)), .row v49101 111 3 (i + 1) (List.flatMap sgc ((sgL (g9 s).2 i) ++ [(segR (sgD (g9 s).2 i)).1])), .row (.slice (some ⟨b49081, 0, none⟩) 1 1) 111 3 1 (List.flatMap sgc [(segR (sgD (g9 s).2 i)).1])] → W 2 #[true, true, true, true, true, true, false, false] (e19 [(74, (ptr b7 5)), (75, z), (76, (.agg #[(ptr q2 0)])), (77, (.agg #[(vU32 (segR (sgD (g9 s).2 i)).1.a), (vU8 (segR (sgD (g9 s).2 i)).1.p), (str (segR (sgD (g9 s).2 i)).1.b)])), (78, (.slice (some ⟨b49081, 0, none⟩) 1 1)), (79, v49101)]) wS := by
          intro b49081 v49101 wS HS
          rw [hW]
          refine WD.all1 (i := 6) (by kernel_rfl) ?_
          ·
            refine WS.op (i := 6) rfl rfl rfl (op_fieldAddr rfl Fa.F59_2 ?_)
            have hq := st19_13 b49081 v49101 wS HS
            rw [hW] at hq
            refine WD.cov ?_ hq
            exact by repeat (first | exact trivial | refine ⟨rfl, ?_⟩)
        have st19_11 : ∀ (b49081 : _) (wS : World), Own [] w wS [.blk b1 [(vU32 0), (.slice none 0 0), (.slice none 0 0), (.bool false), (vU32 0), (.slice none 0 0)] 59, .blk q2 [(str ((segR (sgD (g9 s).2 i)).2).s), (vN ((segR (sgD (g9 s).2 i)).2).at_), (vN ((segR (sgD (g9 s).2 i)).2).f)] 107, .blk b3 [(ptr q2 0)] 138, .blk b7 [(vU32 (g2 s).1.1), x, y, (.bool (decide ((g7 s).1.1 = (1 : UInt32)))), (vU32 (g8 s).1.1), z] 59, .row x 130 2 (g3 s).1.1.toNat (List.flatMap xtc (gX s)), .row y 92 1 (g5 s).1.1.toNat (List.map vU16 (gP s)), .row z 111 3 i (List.flatMap sgc (sgL (g9 s).2 i)), .row (.slice (some ⟨b49081, 0, none⟩) 1 1) 111 3 1 (List.flatMap sgc [(segR (sgD (g9 s).2 i)).1])] → W 3 #[true, true, true, true, true, false, false, false] (e19 [(74, (ptr b7 5)), (75, z), (76, (.agg #[(ptr q2 0)])), (77, (.agg #[(vU32 (segR (sgD (g9 s).2 i)).1.a), (vU8 (segR (sgD (g9 s).2 i)).1.p), (str (segR (sgD (g9 s).2 i)).1.b)])), (78, (.slice (some ⟨b49081, 0, none⟩) 1 1))]) wS := by
          intro b49081 wS HS
          rw [hW]
          refine WD.all1 (i := 5) (by kernel_rfl) ?_
          ·
            refine WS.op (i := 5) rfl rfl rfl (op_appendF (f := sgc) (l := (sgL (g9 s).2 i)) (l' := [(segR (sgD (g9 s).2 i)).1]) (i := 6) HS Try.underlying57 Fa.I111 rfl rfl rfl rfl (Src.ofArr Try.underlying57 (HS.arrR (i := 7) rfl)) (one_flat (fun _ => by simp [sgc, Value.oneCell'])) (by omega) (by omega) (fun v49101 w49101 H49101 => ?_))
            have hq := st19_12 b49081 v49101 w49101 H49101
            rw [hW] at hq
            refine WD.cov ?_ hq
            exact by repeat (first | exact trivial | refine ⟨rfl, ?_⟩)
        have st19_9 : ∀ (wS : World), Own [] w wS [.blk b1 [(vU32 0), (.slice none 0 0), (.slice none 0 0), (.bool false), (vU32 0), (.slice none 0 0)] 59, .blk q2 [(str ((segR (sgD (g9 s).2 i)).2).s), (vN ((segR (sgD (g9 s).2 i)).2).at_), (vN ((segR (sgD (g9 s).2 i)).2).f)] 107, .blk b3 [(ptr q2 0)] 138, .blk b7 [(vU32 (g2 s).1.1), x, y, (.bool (decide ((g7 s).1.1 = (1 : UInt32)))), (vU32 (g8 s).1.1), z] 59, .row x 130 2 (g3 s).1.1.toNat (List.flatMap xtc (gX s)), .row y 92 1 (g5 s).1.1.toNat (List.map vU16 (gP s)), .row z 111 3 i (List.flatMap sgc (sgL (g9 s).2 i))] → W 4 #[true, true, true, true, false, false, false, false] (e19 [(74, (ptr b7 5)), (75, z), (76, (.agg #[(ptr q2 0)])), (77, (.agg #[(vU32 (segR (sgD (g9 s).2 i)).1.a), (vU8 (segR (sgD (g9 s).2 i)).1.p), (str (segR (sgD (g9 s).2 i)).1.b)]))]) wS := by
          intro wS HS
          rw [hW]
          refine WD.all1 (i := 4) (by kernel_rfl) ?_
          ·
            refine WS.op (i := 4) rfl rfl rfl (op_buildSlice (cs := [_, _, _]) HS Try.underlying57 Fa.I111 rfl rfl rfl rfl (by decide) (by decide) (fun b49081 w49081 H49081 => ?_))
            have hq := st19_11 b49081 w49081 H49081
            rw [hW] at hq
            refine WD.cov ?_ hq
            exact by repeat (first | exact trivial | refine ⟨rfl, ?_⟩)
        have st19_10 : ∀ (b49081 : _) (wS : World), Own [] w wS [.blk b1 [(vU32 0), (.slice none 0 0), (.slice none 0 0), (.bool false), (vU32 0), (.slice none 0 0)] 59, .blk q2 [(str ((segR (sgD (g9 s).2 i)).2).s), (vN ((segR (sgD (g9 s).2 i)).2).at_), (vN ((segR (sgD (g9 s).2 i)).2).f)] 107, .blk b3 [(ptr q2 0)] 138, .blk b7 [(vU32 (g2 s).1.1), x, y, (.bool (decide ((g7 s).1.1 = (1 : UInt32)))), (vU32 (g8 s).1.1), z] 59, .row x 130 2 (g3 s).1.1.toNat (List.flatMap xtc (gX s)), .row y 92 1 (g5 s).1.1.toNat (List.map vU16 (gP s)), .row z 111 3 i (List.flatMap sgc (sgL (g9 s).2 i)), .row (.slice (some ⟨b49081, 0, none⟩) 1 1) 111 3 1 (List.flatMap sgc [(segR (sgD (g9 s).2 i)).1])] → W 4 #[true, false, true, true, true, false, false, false] (e19 [(74, (ptr b7 5)), (76, (.agg #[(ptr q2 0)])), (77, (.agg #[(vU32 (segR (sgD (g9 s).2 i)).1.a), (vU8 (segR (sgD (g9 s).2 i)).1.p), (str (segR (sgD (g9 s).2 i)).1.b)])), (78, (.slice (some ⟨b49081, 0, none⟩) 1 1))]) wS := by
          intro b49081 wS HS
          rw [hW]
          refine WD.all1 (i := 1) (by kernel_rfl) ?_
          ·
            refine WS.op (i := 1) rfl rfl rfl (op_load rfl (HS.cell (i := 3) rfl rfl) Try.underlying57 rfl ?_)
            have hq := st19_11 b49081 wS HS
            rw [hW] at hq
            refine WD.cov ?_ hq
            exact by repeat (first | exact trivial | refine ⟨rfl, ?_⟩)
        have st19_6 : ∀ (wS : World), Own [] w wS (l19 []) → W 5 #[true, true, true, false, false, false, false, false] (e19 [(74, (ptr b7 5)), (75, z), (76, (.agg #[(ptr q2 0)]))]) wS := by
          intro wS HS
          rw [hW]
          refine WD.all1 (i := 3) (by kernel_rfl) ?_
          ·
            refine WS.op (i := 3) rfl rfl rfl (op_callF Fa.C97 rfl ((iseg_ok q2 (sgD (g9 s).2 i) 107 _ _ (HS.part [1] rfl rfl) (by first | (rw [g1_t]; exact hs) | (rw [g2_t]; exact hs) | (rw [g4_t]; exact hs) | (rw [g6_t]; exact hs) | (rw [g7_t]; exact hs) | (rw [g8_t]; exact hs) | (rw [g10_t]; exact hs) | (rw [xsD_t, g3_t]; exact hs) | (rw [numR_s, xsD_t, g3_t]; exact hs) | (rw [psD_t, g5_t]; exact hs) | (rw [sgD_t, g9_t]; exact hs) | exact hs)).mono (fun e w49061 hq => ?_)))
            obtain ⟨rfl, hq49061⟩ := hq
            refine ⟨_, rfl, ?_⟩
            have H49061 : Own [] w w49061 [.blk b1 [(vU32 0), (.slice none 0 0), (.slice none 0 0), (.bool false), (vU32 0), (.slice none 0 0)] 59, .blk q2 [(str ((segR (sgD (g9 s).2 i)).2).s), (vN ((segR (sgD (g9 s).2 i)).2).at_), (vN ((segR (sgD (g9 s).2 i)).2).f)] 107, .blk b3 [(ptr q2 0)] 138, .blk b7 [(vU32 (g2 s).1.1), x, y, (.bool (decide ((g7 s).1.1 = (1 : UInt32)))), (vU32 (g8 s).1.1), z] 59, .row x 130 2 (g3 s).1.1.toNat (List.flatMap xtc (gX s)), .row y 92 1 (g5 s).1.1.toNat (List.map vU16 (gP s)), .row z 111 3 i (List.flatMap sgc (sgL (g9 s).2 i))] := HS.splice [1] [.blk q2 [(str ((segR (sgD (g9 s).2 i)).2).s), (vN ((segR (sgD (g9 s).2 i)).2).at_), (vN ((segR (sgD (g9 s).2 i)).2).f)] 107] [] rfl rfl hq49061 (Fits.solid True.intro Fits.nil)
            have hq := st19_9 w49061 H49061
            rw [hW] at hq
            refine WD.cov ?_ hq
            exact by repeat (first | exact trivial | refine ⟨rfl, ?_⟩)
        have st19_7 : ∀ (wS : World), Own [] w wS [.blk b1 [(vU32 0), (.slice none 0 0), (.slice none 0 0), (.bool false), (vU32 0), (.slice none 0 0)] 59, .blk q2 [(str ((segR (sgD (g9 s).2 i)).2).s), (vN ((segR (sgD (g9 s).2 i)).2).at_), (vN ((segR (sgD (g9 s).2 i)).2).f)] 107, .blk b3 [(ptr q2 0)] 138, .blk b7 [(vU32 (g2 s).1.1), x, y, (.bool (decide ((g7 s).1.1 = (1 : UInt32)))), (vU32 (g8 s).1.1), z] 59, .row x 130 2 (g3 s).1.1.toNat (List.flatMap xtc (gX s)), .row y 92 1 (g5 s).1.1.toNat (List.map vU16 (gP s)), .row z 111 3 i (List.flatMap sgc (sgL (g9 s).2 i))] → W 5 #[true, false, true, true, false, false, false, false] (e19 [(74, (ptr b7 5)), (76, (.agg #[(ptr q2 0)])), (77, (.agg #[(vU32 (segR (sgD (g9 s).2 i)).1.a), (vU8 (segR (sgD (g9 s).2 i)).1.p), (str (segR (sgD (g9 s).2 i)).1.b)]))]) wS := by
          intro wS HS
          rw [hW]
          refine WD.all2 (i := 1) (j := 4) (by kernel_rfl) ?_ ?_
          ·
            refine WS.op (i := 1) rfl rfl rfl (op_load rfl (HS.cell (i := 3) rfl rfl) Try.underlying57 rfl ?_)
            have hq := st19_9 wS HS
            rw [hW] at hq
            refine WD.cov ?_ hq
            exact by repeat (first | exact trivial | refine ⟨rfl, ?_⟩)
          ·
            refine WS.op (i := 4) rfl rfl rfl (op_buildSlice (cs := [_, _, _]) HS Try.underlying57 Fa.I111 rfl rfl rfl rfl (by decide) (by decide) (fun b49081 w49081 H49081 => ?_))
            have hq := st19_10 b49081 w49081 H49081
            rw [hW] at hq
            refine WD.cov ?_ hq
            exact by repeat (first | exact trivial | refine ⟨rfl, ?_⟩)
        have st19_8 : ∀ (b49081 : _) (wS : World), Own [] w wS [.blk b1 [(vU32 0), (.slice none 0 0), (.slice none 0 0), (.bool false), (vU32 0), (.slice none 0 0)] 59, .blk q2 [(str ((segR (sgD (g9 s).2 i)).2).s), (vN ((segR (sgD (g9 s).2 i)).2).at_), (vN ((segR (sgD (g9 s).2 i)).2).f)] 107, .blk b3 [(ptr q2 0)] 138, .blk b7 [(vU32 (g2 s).1.1), x, y, (.bool (decide ((g7 s).1.1 = (1 : UInt32)))), (vU32 (g8 s).1.1), z] 59, .row x 130 2 (g3 s).1.1.toNat (List.flatMap xtc (gX s)), .row y 92 1 (g5 s).1.1.toNat (List.map vU16 (gP s)), .row z 111 3 i (List.flatMap sgc (sgL (g9 s).2 i)), .row (.slice (some ⟨b49081, 0, none⟩) 1 1) 111 3 1 (List.flatMap sgc [(segR (sgD (g9 s).2 i)).1])] → W 5 #[false, false, true, true, true, false, false, false] (e19 [(76, (.agg #[(ptr q2 0)])), (77, (.agg #[(vU32 (segR (sgD (g9 s).2 i)).1.a), (vU8 (segR (sgD (g9 s).2 i)).1.p), (str (segR (sgD (g9 s).2 i)).1.b)])), (78, (.slice (some ⟨b49081, 0, none⟩) 1 1))]) wS := by
          intro b49081 wS HS
          rw [hW]
          refine WD.all1 (i := 0) (by kernel_rfl) ?_
          ·
            refine WS.op (i := 0) rfl rfl rfl (op_fieldAddr rfl Fa.F59_2 ?_)
            have hq := st19_10 b49081 wS HS
            rw [hW] at hq
            refine WD.cov ?_ hq
            exact by repeat (first | exact trivial | refine ⟨rfl, ?_⟩)
        have st19_3 : ∀ (wS : World), Own [] w wS (l19 []) → W 6 #[true, true, false, false, false, false, false, false] (e19 [(74, (ptr b7 5)), (75, z)]) wS := by
          intro wS HS
          rw [hW]
          refine WD.all1 (i := 2) (by kernel_rfl) ?_
          ·
            refine WS.op (i := 2) rfl rfl rfl (op_loadS (vs := [_]) rfl (HS.cells (i := 2) rfl rfl) Try.underlying138 rfl Fa.I138 rfl ?_)
            have hq := st19_6 wS HS
            rw [hW] at hq
            refine WD.cov ?_ hq
            exact by repeat (first | exact trivial | refine ⟨rfl, ?_⟩)
        have st19_4 : ∀ (wS : World), Own [] w wS (l19 []) → W 6 #[true, false, true, false, false, false, false, false] (e19 [(74, (ptr b7 5)), (76, (.agg #[(ptr q2 0)]))]) wS := by
          intro wS HS
          rw [hW]
          refine WD.all2 (i := 1) (j := 3) (by kernel_rfl) ?_ ?_
          ·
            refine WS.op (i := 1) rfl rfl rfl (op_load rfl (HS.cell (i := 3) rfl rfl) Try.underlying57 rfl ?_)
            have hq := st19_6 wS HS
            rw [hW] at hq
            refine WD.cov ?_ hq
            exact by repeat (first | exact trivial | refine ⟨rfl, ?_⟩)
          ·
            refine WS.op (i := 3) rfl rfl rfl (op_callF Fa.C97 rfl ((iseg_ok q2 (sgD (g9 s).2 i) 107 _ _ (HS.part [1] rfl rfl) (by first | (rw [g1_t]; exact hs) | (rw [g2_t]; exact hs) | (rw [g4_t]; exact hs) | (rw [g6_t]; exact hs) | (rw [g7_t]; exact hs) | (rw [g8_t]; exact hs) | (rw [g10_t]; exact hs) | (rw [xsD_t, g3_t]; exact hs) | (rw [numR_s, xsD_t, g3_t]; exact hs) | (rw [psD_t, g5_t]; exact hs) | (rw [sgD_t, g9_t]; exact hs) | exact hs)).mono (fun e w49061 hq => ?_)))
            obtain ⟨rfl, hq49061⟩ := hq
            refine ⟨_, rfl, ?_⟩
            have H49061 : Own [] w w49061 [.blk b1 [(vU32 0), (.slice none 0 0), (.slice none 0 0), (.bool false), (vU32 0), (.slice none 0 0)] 59, .blk q2 [(str ((segR (sgD (g9 s).2 i)).2).s), (vN ((segR (sgD (g9 s).2 i)).2).at_), (vN ((segR (sgD (g9 s).2 i)).2).f)] 107, .blk b3 [(ptr q2 0)] 138, .blk b7 [(vU32 (g2 s).1.1), x, y, (.bool (decide ((g7 s).1.1 = (1 : UInt32)))), (vU32 (g8 s).1.1), z] 59, .row x 130 2 (g3 s).1.1.toNat (List.flatMap xtc (gX s)), .row y 92 1 (g5 s).1.1.toNat (List.map vU16 (gP s)), .row z 111 3 i (List.flatMap sgc (sgL (g9 s).2 i))] := HS.splice [1] [.blk q2 [(str ((segR (sgD (g9 s).2 i)).2).s), (vN ((segR (sgD (g9 s).2 i)).2).at_), (vN ((segR (sgD (g9 s).2 i)).2).f)] 107] [] rfl rfl hq49061 (Fits.solid True.intro Fits.nil)
            have hq := st19_7 w49061 H49061
            rw [hW] at hq
            refine WD.cov ?_ hq
            exact by repeat (first | exact trivial | refine ⟨rfl, ?_⟩)
        have st19_5 : ∀ (wS : World), Own [] w wS [.blk b1 [(vU32 0), (.slice none 0 0), (.slice none 0 0), (.bool false), (vU32 0), (.slice none 0 0)] 59, .blk q2 [(str ((segR (sgD (g9 s).2 i)).2).s), (vN ((segR (sgD (g9 s).2 i)).2).at_), (vN ((segR (sgD (g9 s).2 i)).2).f)] 107, .blk b3 [(ptr q2 0)] 138, .blk b7 [(vU32 (g2 s).1.1), x, y, (.bool (decide ((g7 s).1.1 = (1 : UInt32)))), (vU32 (g8 s).1.1), z] 59, .row x 130 2 (g3 s).1.1.toNat (List.flatMap xtc (gX s)), .row y 92 1 (g5 s).1.1.toNat (List.map vU16 (gP s)), .row z 111 3 i (List.flatMap sgc (sgL (g9 s).2 i))] → W 6 #[false, false, true, true, false, false, false, false] (e19 [(76, (.agg #[(ptr q2 0)])), (77, (.agg #[(vU32 (segR (sgD (g9 s).2 i)).1.a), (vU8 (segR (sgD (g9 s).2 i)).1.p), (str (segR (sgD (g9 s).2 i)).1.b)]))]) wS := by
          intro wS HS
          rw [hW]
          refine WD.all2 (i := 0) (j := 4) (by kernel_rfl) ?_ ?_
          ·
            refine WS.op (i := 0) rfl rfl rfl (op_fieldAddr rfl Fa.F59_2 ?_)
            have hq := st19_7 wS HS
            rw [hW] at hq
            refine WD.cov ?_ hq
            exact by repeat (first | exact trivial | refine ⟨rfl, ?_⟩)
          ·
            refine WS.op (i := 4) rfl rfl rfl (op_buildSlice (cs := [_, _, _]) HS Try.underlying57 Fa.I111 rfl rfl rfl rfl (by decide) (by decide) (fun b49081 w49081 H49081 => ?_))
            have hq := st19_8 b49081 w49081 H49081
            rw [hW] at hq
            refine WD.cov ?_ hq
            exact by repeat (first | exact trivial | refine ⟨rfl, ?_⟩)
        have st19_1 : ∀ (wS : World), Own [] w wS (l19 []) → W 7 #[true, false, false, false, false, false, false, false] (e19 [(74, (ptr b7 5))]) wS := by
          intro wS HS
          rw [hW]
          refine WD.all2 (i := 1) (j := 2) (by kernel_rfl) ?_ ?_
          ·
            refine WS.op (i := 1) rfl rfl rfl (op_load rfl (HS.cell (i := 3) rfl rfl) Try.underlying57 rfl ?_)
            have hq := st19_3 wS HS
            rw [hW] at hq
            refine WD.cov ?_ hq
            exact by repeat (first | exact trivial | refine ⟨rfl, ?_⟩)
          ·
            refine WS.op (i := 2) rfl rfl rfl (op_loadS (vs := [_]) rfl (HS.cells (i := 2) rfl rfl) Try.underlying138 rfl Fa.I138 rfl ?_)
            have hq := st19_4 wS HS
            rw [hW] at hq
            refine WD.cov ?_ hq
            exact by repeat (first | exact trivial | refine ⟨rfl, ?_⟩)
        have st19_2 : ∀ (wS : World), Own [] w wS (l19 []) → W 7 #[false, false, true, false, false, false, false, false] (e19 [(76, (.agg #[(ptr q2 0)]))]) wS := by
          intro wS HS
          rw [hW]
          refine WD.all2 (i := 0) (j := 3) (by kernel_rfl) ?_ ?_
          ·
            refine WS.op (i := 0) rfl rfl rfl (op_fieldAddr rfl Fa.F59_2 ?_)
            have hq := st19_4 wS HS
            rw [hW] at hq
            refine WD.cov ?_ hq
            exact by repeat (first | exact trivial | refine ⟨rfl, ?_⟩)
          ·
            refine WS.op (i := 3) rfl rfl rfl (op_callF Fa.C97 rfl ((iseg_ok q2 (sgD (g9 s).2 i) 107 _ _ (HS.part [1] rfl rfl) (by first | (rw [g1_t]; exact hs) | (rw [g2_t]; exact hs) | (rw [g4_t]; exact hs) | (rw [g6_t]; exact hs) | (rw [g7_t]; exact hs) | (rw [g8_t]; exact hs) | (rw [g10_t]; exact hs) | (rw [xsD_t, g3_t]; exact hs) | (rw [numR_s, xsD_t, g3_t]; exact hs) | (rw [psD_t, g5_t]; exact hs) | (rw [sgD_t, g9_t]; exact hs) | exact hs)).mono (fun e w49061 hq => ?_)))
            obtain ⟨rfl, hq49061⟩ := hq
            refine ⟨_, rfl, ?_⟩
            have H49061 : Own [] w w49061 [.blk b1 [(vU32 0), (.slice none 0 0), (.slice none 0 0), (.bool false), (vU32 0), (.slice none 0 0)] 59, .blk q2 [(str ((segR (sgD (g9 s).2 i)).2).s), (vN ((segR (sgD (g9 s).2 i)).2).at_), (vN ((segR (sgD (g9 s).2 i)).2).f)] 107, .blk b3 [(ptr q2 0)] 138, .blk b7 [(vU32 (g2 s).1.1), x, y, (.bool (decide ((g7 s).1.1 = (1 : UInt32)))), (vU32 (g8 s).1.1), z] 59, .row x 130 2 (g3 s).1.1.toNat (List.flatMap xtc (gX s)), .row y 92 1 (g5 s).1.1.toNat (List.map vU16 (gP s)), .row z 111 3 i (List.flatMap sgc (sgL (g9 s).2 i))] := HS.splice [1] [.blk q2 [(str ((segR (sgD (g9 s).2 i)).2).s), (vN ((segR (sgD (g9 s).2 i)).2).at_), (vN ((segR (sgD (g9 s).2 i)).2).f)] 107] [] rfl rfl hq49061 (Fits.solid True.intro Fits.nil)
            have hq := st19_5 w49061 H49061
            rw [hW] at hq
            refine WD.cov ?_ hq
            exact by repeat (first | exact trivial | refine ⟨rfl, ?_⟩)
        have st19_0 : ∀ (wS : World), Own [] w wS (l19 []) → W 8 #[false, false, false, false, false, false, false, false] (e19 []) wS := by
          intro wS HS
          rw [hW]
          refine WD.all2 (i := 0) (j := 2) (by kernel_rfl) ?_ ?_
          ·
            refine WS.op (i := 0) rfl rfl rfl (op_fieldAddr rfl Fa.F59_2 ?_)
            have hq := st19_1 wS HS
            rw [hW] at hq
            refine WD.cov ?_ hq
            exact by repeat (first | exact trivial | refine ⟨rfl, ?_⟩)
          ·
            refine WS.op (i := 2) rfl rfl rfl (op_loadS (vs := [_]) rfl (HS.cells (i := 2) rfl rfl) Try.underlying138 rfl Fa.I138 rfl ?_)
            have hq := st19_2 wS HS
            rw [hW] at hq
            refine WD.cov ?_ hq
            exact by repeat (first | exact trivial | refine ⟨rfl, ?_⟩)
        have hq := st19_0 w38 H38
        rw [hW] at hq ⊢
        refine WD.cov ?_ hq
        exact by repeat (first | exact trivial | refine ⟨rfl, ?_⟩)
      ·
        have hc37 := of_decide_eq_false hb37
        refine WC.exit ?_
        refine WQ.thenExit ?_
        refine WQ.thenExit ?_
        refine WQ.inHere ?_
        refine WQ.next ?_
        refine WC.seq ?_
        refine WC.seq ?_
        refine WC.region ?_
        have hkx : ¬ i < (g9 s).1.1.toNat := fun h => hc37 (hct.2 h)
        obtain rfl : i = (g9 s).1.1.toNat := by omega
        have H40 : Own [] w w36 [.blk b1 [(vU32 0), (.slice none 0 0), (.slice none 0 0), (.bool false), (vU32 0), (.slice none 0 0)] 59, .blk q2 [(str (g10 s).s), (vN (g10 s).at_), (vN (g10 s).f)] 107, .blk b3 [(ptr q2 0)] 138, .blk b7 [(vU32 (g2 s).1.1), x, y, (.bool (decide ((g7 s).1.1 = (1 : UInt32)))), (vU32 (g8 s).1.1), z] 59, .row x 130 2 (g3 s).1.1.toNat (List.flatMap xtc (gX s)), .row y 92 1 (g5 s).1.1.toNat (List.map vU16 (gP s)), .row z 111 3 (g9 s).1.1.toNat (List.flatMap sgc (gS s))] := by have h := H36; rw [show sgD (g9 s).2 (g9 s).1.1.toNat = g10 s from rfl] at h; rw [show sgL (g9 s).2 (g9 s).1.1.toNat = gS s from rfl] at h; exact h
        refine WL.op rfl rfl (op_fieldAddr rfl Fa.F138_0 ?_)
        refine WL.op rfl rfl (op_load rfl (H40.cell (i := 2) rfl rfl) Try.underlying34 rfl ?_)
        refine WL.op rfl rfl (op_callF Fa.C29 rfl ((rdend_ok q2 (g10 s)  107 _ _ (H40.part [1] rfl rfl) (by first | (rw [g1_t]; exact hs) | (rw [g2_t]; exact hs) | (rw [g4_t]; exact hs) | (rw [g6_t]; exact hs) | (rw [g7_t]; exact hs) | (rw [g8_t]; exact hs) | (rw [g10_t]; exact hs) | (rw [xsD_t, g3_t]; exact hs) | (rw [numR_s, xsD_t, g3_t]; exact hs) | (rw [psD_t, g5_t]; exact hs) | (rw [sgD_t, g9_t]; exact hs) | exact hs)).mono (fun e w41 hq => ?_)))
        obtain ⟨rfl, hq41⟩ := hq
        refine ⟨_, rfl, ?_⟩
        have H41 : Own [] w w41 [.blk b1 [(vU32 0), (.slice none 0 0), (.slice none 0 0), (.bool false), (vU32 0), (.slice none 0 0)] 59, .blk q2 [(str ((endR (g10 s)).2).s), (vN ((endR (g10 s)).2).at_), (vN ((endR (g10 s)).2).f)] 107, .blk b3 [(ptr q2 0)] 138, .blk b7 [(vU32 (g2 s).1.1), x, y, (.bool (decide ((g7 s).1.1 = (1 : UInt32)))), (vU32 (g8 s).1.1), z] 59, .row x 130 2 (g3 s).1.1.toNat (List.flatMap xtc (gX s)), .row y 92 1 (g5 s).1.1.toNat (List.map vU16 (gP s)), .row z 111 3 (g9 s).1.1.toNat (List.flatMap sgc (gS s))] := H40.splice [1] [.blk q2 [(str ((endR (g10 s)).2).s), (vN ((endR (g10 s)).2).at_), (vN ((endR (g10 s)).2).f)] 107] [] rfl rfl hq41 (Fits.solid True.intro Fits.nil)
        refine WL.op rfl rfl (op_neqN (b := 0) rfl rfl ?_)
        refine WL.op rfl rfl (op_move rfl ?_)
        refine WL.split (t := 85) rfl (fun (hb42 : (decide ((endR (g10 s)).1 ≠ 0)) = true) => ?_) (fun (hb42 : (decide ((endR (g10 s)).1 ≠ 0)) = false) => ?_)
        ·
          have hc42 := of_decide_eq_true hb42
          refine WL.no rfl rfl rfl hb42 rfl ?_
          refine WL.no rfl rfl rfl hb42 rfl ?_
          refine WL.op rfl rfl (op_pickT rfl hb42 rfl ?_)
          refine WL.op rfl rfl (op_move rfl ?_)
          refine WL.no rfl rfl rfl rfl rfl ?_
          refine WL.no rfl rfl rfl rfl rfl ?_
          refine WL.op rfl rfl (op_pickT rfl rfl rfl ?_)
          refine WL.op rfl rfl (op_move rfl ?_)
          refine WL.no rfl rfl rfl rfl rfl ?_
          refine WL.no rfl rfl rfl rfl rfl ?_
          refine WL.no rfl rfl rfl rfl rfl ?_
          refine WL.op rfl rfl (op_pickT rfl rfl rfl ?_)
          refine WL.nil ?_
          refine WQ.next ?_
          refine WC.yes rfl rfl ?_
          refine WC.seq ?_
          refine WC.region ?_
          refine WL.op rfl rfl (op_build (cs := [_, _, _, _, _, _]) Fa.I59 Fa.PL59 rfl rfl ?_)
          refine WL.op rfl rfl (op_storeBW (i := 0) H41 rfl rfl rfl rfl rfl Fa.I59 (fun w43 H43 => ?_))
          refine WL.op rfl rfl (op_assign rfl ?_)
          refine WL.nil ?_
          refine WQ.next ?_
          refine WC.ret ?_
          refine WQ.thenRet ?_
          refine WQ.out (.cell rfl (run_loadVarS (vs := [_, _, _, _, _, _]) (H43.cells (i := 0) rfl rfl) Try.underlying59 rfl Fa.I59 rfl) (.tmp rfl .nil)) ?_
          have hb : gBad s = true := by (rw [gBad, hb42]) <;> rfl
          rw [(get_bad hb).1, (get_bad hb).2]
          exact ⟨.slice none 0 0, .slice none 0 0, .slice none 0 0, rfl, (((H43.sel [] rfl rfl).nilRow 130 2).nilRow 92 1).nilRow 111 3⟩
        ·
          have hc42 := of_decide_eq_false hb42
          refine WL.yes rfl rfl rfl hb42 rfl (op_move rfl ?_)
          refine WL.yes rfl rfl rfl hb42 rfl (op_neqStr rfl rfl ?_)
          refine WL.op rfl rfl (op_pickF rfl hb42 rfl ?_)
          refine WL.op rfl rfl (op_move rfl ?_)
          refine WL.split (t := 89) rfl (fun (hb44 : (decide ((g1 s).1.1 ≠ [65, 73, 77, 49])) = true) => ?_) (fun (hb44 : (decide ((g1 s).1.1 ≠ [65, 73, 77, 49])) = false) => ?_)
          ·
            have hc44 := of_decide_eq_true hb44
            refine WL.no rfl rfl rfl hb44 rfl ?_
            refine WL.no rfl rfl rfl hb44 rfl ?_
            refine WL.op rfl rfl (op_pickT rfl hb44 rfl ?_)
            refine WL.op rfl rfl (op_move rfl ?_)
            refine WL.no rfl rfl rfl rfl rfl ?_
            refine WL.no rfl rfl rfl rfl rfl ?_
            refine WL.no rfl rfl rfl rfl rfl ?_
            refine WL.op rfl rfl (op_pickT rfl rfl rfl ?_)
            refine WL.nil ?_
            refine WQ.next ?_
            refine WC.yes rfl rfl ?_
            refine WC.seq ?_
            refine WC.region ?_
            refine WL.op rfl rfl (op_build (cs := [_, _, _, _, _, _]) Fa.I59 Fa.PL59 rfl rfl ?_)
            refine WL.op rfl rfl (op_storeBW (i := 0) H41 rfl rfl rfl rfl rfl Fa.I59 (fun w45 H45 => ?_))
            refine WL.op rfl rfl (op_assign rfl ?_)
            refine WL.nil ?_
            refine WQ.next ?_
            refine WC.ret ?_
            refine WQ.thenRet ?_
            refine WQ.out (.cell rfl (run_loadVarS (vs := [_, _, _, _, _, _]) (H45.cells (i := 0) rfl rfl) Try.underlying59 rfl Fa.I59 rfl) (.tmp rfl .nil)) ?_
            have hb : gBad s = true := by (rw [gBad, hb42, hb44]) <;> rfl
            rw [(get_bad hb).1, (get_bad hb).2]
            exact ⟨.slice none 0 0, .slice none 0 0, .slice none 0 0, rfl, (((H45.sel [] rfl rfl).nilRow 130 2).nilRow 92 1).nilRow 111 3⟩
          ·
            have hc44 := of_decide_eq_false hb44
            refine WL.yes rfl rfl rfl hb44 rfl (op_move rfl ?_)
            refine WL.yes rfl rfl rfl hb44 rfl (op_gtrU32 (b := 1) rfl rfl ?_)
            refine WL.op rfl rfl (op_pickF rfl hb44 rfl ?_)
            refine WL.op rfl rfl (op_move rfl ?_)
            refine WL.split (t := 93) rfl (fun (hb46 : (decide ((g7 s).1.1 > (1 : UInt32))) = true) => ?_) (fun (hb46 : (decide ((g7 s).1.1 > (1 : UInt32))) = false) => ?_)
            ·
              have hc46 := of_decide_eq_true hb46
              refine WL.no rfl rfl rfl hb46 rfl ?_
              refine WL.no rfl rfl rfl hb46 rfl ?_
              refine WL.no rfl rfl rfl hb46 rfl ?_
              refine WL.op rfl rfl (op_pickT rfl hb46 rfl ?_)
              refine WL.nil ?_
              refine WQ.next ?_
              refine WC.yes rfl rfl ?_
              refine WC.seq ?_
              refine WC.region ?_
              refine WL.op rfl rfl (op_build (cs := [_, _, _, _, _, _]) Fa.I59 Fa.PL59 rfl rfl ?_)
              refine WL.op rfl rfl (op_storeBW (i := 0) H41 rfl rfl rfl rfl rfl Fa.I59 (fun w47 H47 => ?_))
              refine WL.op rfl rfl (op_assign rfl ?_)
              refine WL.nil ?_
              refine WQ.next ?_
              refine WC.ret ?_
              refine WQ.thenRet ?_
              refine WQ.out (.cell rfl (run_loadVarS (vs := [_, _, _, _, _, _]) (H47.cells (i := 0) rfl rfl) Try.underlying59 rfl Fa.I59 rfl) (.tmp rfl .nil)) ?_
              have hb : gBad s = true := by (rw [gBad, hb42, hb44, hb46]) <;> rfl
              rw [(get_bad hb).1, (get_bad hb).2]
              exact ⟨.slice none 0 0, .slice none 0 0, .slice none 0 0, rfl, (((H47.sel [] rfl rfl).nilRow 130 2).nilRow 92 1).nilRow 111 3⟩
            ·
              have hc46 := of_decide_eq_false hb46
              refine WL.yes rfl rfl rfl hb46 rfl (op_loadS (vs := [_, _, _, _, _, _]) rfl (H41.cells (i := 3) rfl rfl) Try.underlying59 rfl Fa.I59 rfl ?_)
              refine WL.yes rfl rfl rfl hb46 rfl (op_callF Fa.C40 rfl ((icheck_ok ((g2 s).1.1) _ _ _ (gX s) (gP s) (decide ((g7 s).1.1 = (1 : UInt32))) ((g8 s).1.1) (gS s) _ (Arr.lenF ((H41.arrR (i := 4) rfl)) (fun _ => rfl) (by decide)) (Arr.lenM (H41.arrR (i := 5) rfl)) (Arr.lenF ((H41.arrR (i := 6) rfl)) (fun _ => rfl) (by decide)) (by have := xsL_len (g3 s).2 (g3 s).1.1.toNat; have := (g3 s).1.1.toNat_lt; rw [gX]; omega) (by have := psL_len (g5 s).2 (g5 s).1.1.toNat; have := (g5 s).1.1.toNat_lt; rw [gP]; omega) (by have := sgL_len (g9 s).2 (g9 s).1.1.toNat; have := (g9 s).1.1.toNat_lt; rw [gS]; omega)).mono (fun e w48 hq => ?_)))
              obtain ⟨rfl, hf48⟩ := hq
              refine ⟨_, rfl, ?_⟩
              have H48 := H41.fr' hf48
              refine WL.yes rfl rfl rfl hb46 rfl (op_neqN (b := 0) rfl rfl ?_)
              refine WL.op rfl rfl (op_pickF rfl hb46 rfl ?_)
              refine WL.nil ?_
              refine WQ.next ?_
              refine WC.cond rfl (fun (hb49 : (decide ((imE ((g2 s).1.1) (gX s) (gP s) ((g8 s).1.1) (gS s)) ≠ 0)) = true) => ?_) (fun (hb49 : (decide ((imE ((g2 s).1.1) (gX s) (gP s) ((g8 s).1.1) (gS s)) ≠ 0)) = false) => ?_)
              ·
                have hc49 := of_decide_eq_true hb49
                refine WC.seq ?_
                refine WC.region ?_
                refine WL.op rfl rfl (op_build (cs := [_, _, _, _, _, _]) Fa.I59 Fa.PL59 rfl rfl ?_)
                refine WL.op rfl rfl (op_storeBW (i := 0) H48 rfl rfl rfl rfl rfl Fa.I59 (fun w50 H50 => ?_))
                refine WL.op rfl rfl (op_assign rfl ?_)
                refine WL.nil ?_
                refine WQ.next ?_
                refine WC.ret ?_
                refine WQ.thenRet ?_
                refine WQ.out (.cell rfl (run_loadVarS (vs := [_, _, _, _, _, _]) (H50.cells (i := 0) rfl rfl) Try.underlying59 rfl Fa.I59 rfl) (.tmp rfl .nil)) ?_
                have hb : gBad s = true := by (rw [gBad, hb42, hb44, hb46, hb49]) <;> rfl
                rw [(get_bad hb).1, (get_bad hb).2]
                exact ⟨.slice none 0 0, .slice none 0 0, .slice none 0 0, rfl, (((H50.sel [] rfl rfl).nilRow 130 2).nilRow 92 1).nilRow 111 3⟩
              ·
                have hc49 := of_decide_eq_false hb49
                refine WC.skip ?_
                refine WQ.next ?_
                refine WC.seq ?_
                refine WC.region ?_
                refine WL.op rfl rfl (op_loadS (vs := [_, _, _, _, _, _]) rfl (H48.cells (i := 3) rfl rfl) Try.underlying59 rfl Fa.I59 rfl ?_)
                refine WL.op rfl rfl (op_storeBW (i := 0) H48 rfl rfl rfl rfl (one_cons rfl (one_cons (Arr.one (H48.arrR (i := 4) rfl)) (one_cons (Arr.one (H48.arrR (i := 5) rfl)) (one_cons rfl (one_cons rfl (one_cons (Arr.one (H48.arrR (i := 6) rfl)) one_nil)))))) Fa.I59 (fun w51 H51 => ?_))
                refine WL.op rfl rfl (op_assign rfl ?_)
                refine WL.nil ?_
                refine WQ.next ?_
                refine WC.ret ?_
                refine WQ.out (.cell rfl (run_loadVarS (vs := [_, _, _, _, _, _]) (H51.cells (i := 0) rfl rfl) Try.underlying59 rfl Fa.I59 rfl) (.tmp rfl .nil)) ?_
                have hb : gBad s = false := by (rw [gBad, hb42, hb44, hb46, hb49]) <;> rfl
                exact iget_fin (x := x) (y := y) (z := z) hb rfl (H51.sel [4, 5, 6] rfl rfl)
end Go.Proofs.Ytpnghdalnghpcaa
/-! from WImg12 -/
namespace Go.Proofs.Ytpnghdalnghpcaa
open Go.Owl Go.Spec
end Go.Proofs.Ytpnghdalnghpcaa
