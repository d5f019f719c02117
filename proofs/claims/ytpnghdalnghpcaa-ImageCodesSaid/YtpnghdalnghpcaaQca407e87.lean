/- General lemmas and walks: WPack2, WImg2, WImg3. No condition but what each theorem names. -/
import Derived.Test.YtpnghdalnghpcaaQf3143682
import Derived.Test.YtpnghdalnghpcaaQ474e3aaf
/-! from WPack2 -/
namespace Go.Proofs.Ytpnghdalnghpcaa
open Go.Owl Go.Spec
set_option maxRecDepth 100000 in
theorem rdtexts_ok (q : Nat) (r : Rd) (TR : TypeId) (T : List Nat) (w : World) (H : Own T w w [.blk q [(str r.s), (vN r.at_), (vN r.f)] TR]) (hr : r.s.length < 2 ^ 47) :
    Calls Try.prog 27 #[(ptr q 0)] w (fun e w' => ∃ v, e = .returned (.tuple #[v, vN (textsR r).1.2]) ∧ Own T w w' [.blk q [str (textsR r).2.s, vN (textsR r).2.at_, vN (textsR r).2.f] TR, .row v 9 1 (textsR r).1.1.length (List.map str (textsR r).1.1)]) := by
  refine enter (args := [(ptr q 0)]) Try.func27 rfl rfl ?_
  refine WC.seq ?_
  refine WC.region ?_
  refine WL.op rfl rfl (op_assign rfl ?_)
  refine WL.op rfl rfl (op_assign rfl ?_)
  refine WL.nil ?_
  refine WQ.next ?_
  refine WC.seq ?_
  refine WC.region ?_
  refine WL.op rfl rfl (op_move rfl ?_)
  refine WL.op rfl rfl (op_callF Fa.C25 rfl ((rdnum_ok q r (2) TR _ _ (H.part [0] rfl rfl) (by first | exact hr | (rw [numR_s]; exact hr) | (rw [txR_s, numR_s]; exact hr))).mono (fun e w1 hq => ?_)))
  obtain ⟨rfl, hq1⟩ := hq
  refine ⟨_, rfl, ?_⟩
  have H1 : Own T w w1 [.blk q [(str ((numR r 2).2).s), (vN ((numR r 2).2).at_), (vN ((numR r 2).2).f)] TR] := H.splice [0] [.blk q [(str ((numR r 2).2).s), (vN ((numR r 2).2).at_), (vN ((numR r 2).2).f)] TR] [] rfl rfl hq1 (Fits.solid True.intro Fits.nil)
  refine WL.op rfl rfl (op_move rfl ?_)
  refine WL.op rfl rfl (op_extract rfl rfl ?_)
  refine WL.op rfl rfl (op_extract rfl rfl ?_)
  refine WL.op rfl rfl (op_assign rfl ?_)
  refine WL.op rfl rfl (op_assign rfl ?_)
  refine WL.nil ?_
  refine WQ.next ?_
  refine WC.seq ?_
  refine WC.seq ?_
  refine WC.region ?_
  refine WL.op rfl rfl (op_move rfl ?_)
  refine WL.op rfl rfl (op_neqN (b := 0) rfl rfl ?_)
  refine WL.nil ?_
  refine WQ.next ?_
  refine WC.cond rfl (fun (hb2 : (decide ((numR r 2).1.2 ≠ 0)) = true) => ?_) (fun (hb2 : (decide ((numR r 2).1.2 ≠ 0)) = false) => ?_)
  ·
    have hc2 := of_decide_eq_true hb2
    refine WC.seq ?_
    refine WC.region ?_
    refine WL.op rfl rfl (op_move rfl ?_)
    refine WL.op rfl rfl (op_assign rfl ?_)
    refine WL.op rfl rfl (op_assign rfl ?_)
    refine WL.nil ?_
    refine WQ.next ?_
    refine WC.ret ?_
    refine WQ.thenRet ?_
    refine WQ.out (.tmp rfl (.tmp rfl .nil)) ?_
    rw [textsR, if_pos hc2]
    exact ⟨_, rfl, H1.nilRow _ _⟩
  ·
    have hc2 := of_decide_eq_false hb2
    refine WC.skip ?_
    refine WQ.next ?_
    refine WC.seq ?_
    refine WC.region ?_
    refine WL.op rfl rfl (op_move rfl ?_)
    refine WL.op rfl rfl (op_nilCheck rfl ?_)
    refine WL.op rfl rfl (op_fieldAddr rfl Fa.F107_0 ?_)
    refine WL.op rfl rfl (op_fieldAddr rfl Fa.F105_1 ?_)
    refine WL.op rfl rfl (op_load rfl (H1.cell (i := 0) rfl rfl) Try.underlying3 rfl ?_)
    refine WL.op rfl rfl (op_subN (b := 2) rfl rfl (by rw [numR_at2 (Decidable.not_not.mp hc2)]; omega) (by have := (numR r 2).2.h; rw [numR_s] at this; omega) ?_)
    refine WL.op rfl rfl (op_assign rfl ?_)
    refine WL.nil ?_
    refine WQ.next ?_
    refine WC.seq ?_
    refine WC.seq ?_
    refine WC.region ?_
    have hat : (numR r 2).2.at_ - 2 = r.at_ := by rw [numR_at2 (Decidable.not_not.mp hc2)]; omega
    rw [hat]
    refine WL.op rfl rfl (op_move rfl ?_)
    refine WL.op rfl rfl (op_gtrU32 (b := 4096) rfl rfl ?_)
    refine WL.nil ?_
    refine WQ.next ?_
    refine WC.cond rfl (fun (hb3 : (decide ((numR r 2).1.1 > (4096 : UInt32))) = true) => ?_) (fun (hb3 : (decide ((numR r 2).1.1 > (4096 : UInt32))) = false) => ?_)
    ·
      have hc3 := of_decide_eq_true hb3
      refine WC.seq ?_
      refine WC.region ?_
      refine WL.op rfl rfl (op_move rfl ?_)
      refine WL.op rfl rfl (op_move rfl ?_)
      refine WL.op rfl rfl (op_nilCheck rfl ?_)
      refine WL.op rfl rfl (op_fieldAddr rfl Fa.F107_0 ?_)
      refine WL.op rfl rfl (op_fieldAddr rfl Fa.F105_1 ?_)
      refine WL.op rfl rfl (op_storeB (i := 0) H1 rfl rfl rfl rfl rfl Fa.I3 (fun w4 H4 => ?_))
      refine WL.nil ?_
      refine WQ.next ?_
      refine WC.seq ?_
      refine WC.region ?_
      have H5 : Own T w w4 [.blk q [(str (Rd.mk r.s r.at_ (numR r 2).2.f r.h).s), (vN (Rd.mk r.s r.at_ (numR r 2).2.f r.h).at_), (vN (Rd.mk r.s r.at_ (numR r 2).2.f r.h).f)] TR] := by have h := (show Own T w w4 [.blk q [(str ((numR r 2).2).s), (vN r.at_), (vN ((numR r 2).2).f)] TR] from H4); rw [numR_s] at h; exact h
      refine WL.op rfl rfl (op_move rfl ?_)
      refine WL.op rfl rfl (op_nilCheck rfl ?_)
      refine WL.op rfl rfl (op_fieldAddr rfl Fa.F107_0 ?_)
      refine WL.op rfl rfl (op_callF Fa.C74 rfl ((spoilt_ok q (Rd.mk r.s r.at_ (numR r 2).2.f r.h) 7 TR _ _ (H5.part [0] rfl rfl)).mono (fun e w6 hq => ?_)))
      obtain ⟨rfl, hq6⟩ := hq
      refine ⟨_, rfl, ?_⟩
      have H6 : Own T w w6 [.blk q [(str ((Rd.mk r.s r.at_ (numR r 2).2.f r.h).bad 7).s), (vN ((Rd.mk r.s r.at_ (numR r 2).2.f r.h).bad 7).at_), (vN ((Rd.mk r.s r.at_ (numR r 2).2.f r.h).bad 7).f)] TR] := H5.splice [0] [.blk q [(str ((Rd.mk r.s r.at_ (numR r 2).2.f r.h).bad 7).s), (vN ((Rd.mk r.s r.at_ (numR r 2).2.f r.h).bad 7).at_), (vN ((Rd.mk r.s r.at_ (numR r 2).2.f r.h).bad 7).f)] TR] [] rfl rfl hq6 (Fits.solid True.intro Fits.nil)
      refine WL.op rfl rfl (op_assign rfl ?_)
      refine WL.op rfl rfl (op_assign rfl ?_)
      refine WL.nil ?_
      refine WQ.next ?_
      refine WC.ret ?_
      refine WQ.thenRet ?_
      refine WQ.out (.tmp rfl (.tmp rfl .nil)) ?_
      rw [textsR, if_neg hc2, if_pos hc3]
      exact ⟨_, rfl, H6.nilRow _ _⟩
    ·
      have hc3 := of_decide_eq_false hb3
      refine WC.skip ?_
      refine WQ.next ?_
      refine WC.seq ?_
      refine WC.region ?_
      refine WL.op rfl rfl (op_assign rfl ?_)
      have H7 := H1.nilRow 9 1
      refine WL.nil ?_
      refine WQ.next ?_
      refine WC.seq ?_
      refine WC.seq ?_
      refine WC.region ?_
      refine WL.op rfl rfl (op_move rfl ?_)
      refine WL.op rfl rfl (op_move rfl ?_)
      refine WL.nil ?_
      refine WQ.next ?_
      refine WC.block ?_
      refine WC.loop (α := Nat × Value) (fun (k, v) => [(0, (ptr q 0)), (6, (vN r.at_)), (7, v), (35, (vU32 (numR r 2).1.1)), (36, (vU32 (UInt32.ofNat k)))]) (fun (k, v) w' => (k ≤ (numR r 2).1.1.toNat ∧ (∀ j, j < k → (textR (txR (numR r 2).2 j)).1.2 = 0)) ∧ Own T w w' [.blk q [(str (txR (numR r 2).2 k).s), (vN (txR (numR r 2).2 k).at_), (vN (txR (numR r 2).2 k).f)] TR, .row v 9 1 k (List.map str (txL (numR r 2).2 k))]) (fun (k, v) => (numR r 2).1.1.toNat - k) (0, (.slice none 0 0)) ⟨⟨Nat.zero_le _, fun j h => by omega⟩, H7⟩ ⟨rfl, rfl, rfl, rfl, rfl, trivial⟩ ?_
      rintro ⟨k, v⟩ w8 ⟨⟨hk1, hok⟩, H8⟩
      show WC _ _ _ _ _ [(0, (ptr q 0)), (6, (vN r.at_)), (7, v), (35, (vU32 (numR r 2).1.1)), (36, (vU32 (UInt32.ofNat k)))] _
      have hn4 : (numR r 2).1.1.toNat ≤ 4096 := by have := hc3; rw [gt_iff_lt, UInt32.lt_iff_toNat_lt] at this; exact Nat.le_of_not_lt this
      have hlt := u32_lt (k := k) (n := (numR r 2).1.1) (by omega)
      refine WC.seq ?_
      refine WC.region ?_
      refine WL.op rfl rfl (op_lssU32 rfl rfl ?_)
      refine WL.nil ?_
      refine WQ.next ?_
      refine WC.seq ?_
      refine WC.cond rfl (fun (hb9 : (decide ((UInt32.ofNat k) < (numR r 2).1.1)) = true) => ?_) (fun (hb9 : (decide ((UInt32.ofNat k) < (numR r 2).1.1)) = false) => ?_)
      ·
        have hc9 := of_decide_eq_true hb9
        have hc_lt := hc9
        refine WC.skip ?_
        refine WQ.next ?_
        refine WC.seq ?_
        refine WC.block ?_
        refine WC.seq ?_
        refine WC.region ?_
        refine WL.op rfl rfl (op_move rfl ?_)
        refine WL.op rfl rfl (op_callF Fa.C26 rfl ((rdtext_ok q (txR (numR r 2).2 k)  TR _ _ (H8.part [0] rfl rfl) (by first | exact hr | (rw [numR_s]; exact hr) | (rw [txR_s, numR_s]; exact hr))).mono (fun e w10 hq => ?_)))
        obtain ⟨rfl, hq10⟩ := hq
        refine ⟨_, rfl, ?_⟩
        have H10 : Own T w w10 [.blk q [(str ((textR (txR (numR r 2).2 k)).2).s), (vN ((textR (txR (numR r 2).2 k)).2).at_), (vN ((textR (txR (numR r 2).2 k)).2).f)] TR, .row v 9 1 k (List.map str (txL (numR r 2).2 k))] := H8.splice [0] [.blk q [(str ((textR (txR (numR r 2).2 k)).2).s), (vN ((textR (txR (numR r 2).2 k)).2).at_), (vN ((textR (txR (numR r 2).2 k)).2).f)] TR] [] rfl rfl hq10 (Fits.solid True.intro Fits.nil)
        refine WL.op rfl rfl (op_move rfl ?_)
        refine WL.op rfl rfl (op_extract rfl rfl ?_)
        refine WL.op rfl rfl (op_extract rfl rfl ?_)
        refine WL.op rfl rfl (op_assign rfl ?_)
        refine WL.op rfl rfl (op_assign rfl ?_)
        refine WL.nil ?_
        refine WQ.next ?_
        refine WC.seq ?_
        refine WC.seq ?_
        refine WC.region ?_
        refine WL.op rfl rfl (op_move rfl ?_)
        refine WL.op rfl rfl (op_neqN (b := 0) rfl rfl ?_)
        refine WL.nil ?_
        refine WQ.next ?_
        refine WC.cond rfl (fun (hb11 : (decide ((textR (txR (numR r 2).2 k)).1.2 ≠ 0)) = true) => ?_) (fun (hb11 : (decide ((textR (txR (numR r 2).2 k)).1.2 ≠ 0)) = false) => ?_)
        ·
          have hc11 := of_decide_eq_true hb11
          refine WC.seq ?_
          refine WC.region ?_
          refine WL.op rfl rfl (op_move rfl ?_)
          refine WL.op rfl rfl (op_move rfl ?_)
          refine WL.op rfl rfl (op_nilCheck rfl ?_)
          refine WL.op rfl rfl (op_fieldAddr rfl Fa.F107_0 ?_)
          refine WL.op rfl rfl (op_fieldAddr rfl Fa.F105_1 ?_)
          refine WL.op rfl rfl (op_storeB (i := 0) H10 rfl rfl rfl rfl rfl Fa.I3 (fun w12 H12 => ?_))
          refine WL.nil ?_
          refine WQ.next ?_
          refine WC.seq ?_
          refine WC.region ?_
          refine WL.op rfl rfl (op_move rfl ?_)
          refine WL.op rfl rfl (op_assign rfl ?_)
          refine WL.op rfl rfl (op_assign rfl ?_)
          refine WL.nil ?_
          refine WQ.next ?_
          refine WC.ret ?_
          refine WQ.thenRet ?_
          refine WQ.inRet ?_
          refine WQ.thenRet ?_
          refine WQ.thenRet ?_
          refine WQ.inRet ?_
          refine WQ.thenRet ?_
          refine WQ.out (.tmp rfl (.tmp rfl .nil)) ?_
          rw [textsR, if_neg hc2, if_neg hc3, txBad_out hok hc11 (hlt.1 hc_lt)]
          have h : Own T w w12 [.blk q [(str ((textR (txR (numR r 2).2 k)).2).s), (vN r.at_), (vN ((textR (txR (numR r 2).2 k)).2).f)] TR] := H12.take 1
          rw [textR_s, txR_s, numR_s] at h
          exact ⟨_, rfl, h.nilRow _ _⟩
        ·
          have hc11 := of_decide_eq_false hb11
          refine WC.skip ?_
          refine WQ.next ?_
          refine WC.region ?_
          refine WL.op rfl rfl (op_move rfl ?_)
          refine WL.op rfl rfl (op_move rfl ?_)
          refine WL.op rfl rfl (op_buildSlice (cs := [_]) H10 Try.underlying23 Fa.I9 rfl rfl rfl rfl (by decide) (by decide) (fun b13 w13 H13 => ?_))
          refine WL.op rfl rfl (op_appendM (f := str) (l := (txL (numR r 2).2 k)) (l' := [(textR (txR (numR r 2).2 k)).1.1]) (i := 1) H13 Try.underlying23 Fa.I9 rfl rfl rfl rfl (Src.ofArr Try.underlying23 (H13.arrR (i := 2) rfl)) (one_mapM (fun _ => rfl)) (by omega) (by omega) (fun v14 w14 H14 => ?_))
          refine WL.op rfl rfl (op_assign rfl ?_)
          refine WL.nil ?_
          refine WQ.inNormal ?_
          refine WQ.next ?_
          refine WC.region ?_
          refine WL.op rfl rfl (op_addU32 (b := 1) rfl rfl ?_)
          refine WL.op rfl rfl (op_move rfl ?_)
          refine WL.nil ?_
          exact WQ.round (k + 1, v14) ⟨⟨(by have := hlt.1 hc_lt; omega), nextP hok (Decidable.not_not.mp hc11)⟩, (H14.take 2)⟩ ⟨rfl, rfl, rfl, rfl, (congrArg (fun x => some (vU32 x)) (u32_succ k)), trivial⟩ (by show (numR r 2).1.1.toNat - (k + 1) < (numR r 2).1.1.toNat - k; have := hlt.1 hc_lt; omega)
      ·
        have hc9 := of_decide_eq_false hb9
        refine WC.exit ?_
        refine WQ.thenExit ?_
        refine WQ.thenExit ?_
        refine WQ.inHere ?_
        refine WQ.next ?_
        refine WC.seq ?_
        refine WC.region ?_
        refine WL.op rfl rfl (op_move rfl ?_)
        refine WL.op rfl rfl (op_assign rfl ?_)
        refine WL.op rfl rfl (op_assign rfl ?_)
        refine WL.nil ?_
        refine WQ.next ?_
        refine WC.ret ?_
        refine WQ.out (.tmp rfl (.tmp rfl .nil)) ?_
        have hk : k = (numR r 2).1.1.toNat := (by have := mt hlt.2 hc9; omega)
        rw [textsR, if_neg hc2, if_neg hc3, txBad_no (n := (numR r 2).1.1.toNat) (hk ▸ hok)]
        subst hk
        exact ⟨_, rfl, Own.rowEqN (i := 1) (f := str) H8 rfl rfl (txL_len _ _).symm⟩
set_option maxRecDepth 100000 in
theorem faultNil_ok  (w : World) :
    Calls Try.prog 36 #[(.pointer none)] w (fun e w' => e = .returned (vN 1) ∧ Fr [] w w') := by
  refine enter (args := [(.pointer none)]) Try.func36 rfl rfl ?_
  have H0 : Own [] w w [] := Own.start w []
  refine WC.seq ?_
  refine WC.region ?_
  refine WL.op rfl rfl (op_assign rfl ?_)
  refine WL.nil ?_
  refine WQ.next ?_
  refine WC.seq ?_
  refine WC.seq ?_
  refine WC.region ?_
  refine WL.op rfl rfl (op_move rfl ?_)
  refine WL.op rfl rfl (op_eqlPN Fa.PT34 rfl rfl ?_)
  refine WL.nil ?_
  refine WQ.next ?_
  refine WC.yes rfl rfl ?_
  refine WC.seq ?_
  refine WC.region ?_
  refine WL.op rfl rfl (op_assign rfl ?_)
  refine WL.nil ?_
  refine WQ.next ?_
  refine WC.ret ?_
  refine WQ.thenRet ?_
  refine WQ.out (.tmp rfl .nil) ?_
  exact ⟨rfl, H0.fr⟩
set_option maxRecDepth 100000 in
theorem rleftNil_ok  (w : World) :
    Calls Try.prog 28 #[(.pointer none)] w (fun e w' => e = .returned (vN 0) ∧ Fr [] w w') := by
  refine enter (args := [(.pointer none)]) Try.func28 rfl rfl ?_
  have H0 : Own [] w w [] := Own.start w []
  refine WC.seq ?_
  refine WC.region ?_
  refine WL.op rfl rfl (op_assign rfl ?_)
  refine WL.nil ?_
  refine WQ.next ?_
  refine WC.seq ?_
  refine WC.seq ?_
  refine WC.region ?_
  refine WL.op rfl rfl (op_move rfl ?_)
  refine WL.op rfl rfl (op_eqlPN Fa.PT34 rfl rfl ?_)
  refine WL.nil ?_
  refine WQ.next ?_
  refine WC.yes rfl rfl ?_
  refine WC.seq ?_
  refine WC.region ?_
  refine WL.op rfl rfl (op_assign rfl ?_)
  refine WL.nil ?_
  refine WQ.next ?_
  refine WC.ret ?_
  refine WQ.thenRet ?_
  refine WQ.out (.tmp rfl .nil) ?_
  exact ⟨rfl, H0.fr⟩
set_option maxRecDepth 100000 in
theorem takeNil_ok (n : Int) (w : World) :
    Calls Try.prog 30 #[(.pointer none), (vI n)] w (fun e w' => e = .returned (.tuple #[str [], vN 1]) ∧ Fr [] w w') := by
  refine enter (args := [(.pointer none), (vI n)]) Try.func30 rfl rfl ?_
  have H0 : Own [] w w [] := Own.start w []
  refine WC.seq ?_
  refine WC.region ?_
  refine WL.op rfl rfl (op_assign rfl ?_)
  refine WL.op rfl rfl (op_assign rfl ?_)
  refine WL.nil ?_
  refine WQ.next ?_
  refine WC.seq ?_
  refine WC.seq ?_
  refine WC.region ?_
  refine WL.op rfl rfl (op_move rfl ?_)
  refine WL.op rfl rfl (op_callF Fa.C36 rfl ((faultNil_ok _).mono (fun e w1 hq => ?_)))
  obtain ⟨rfl, hf1⟩ := hq
  refine ⟨_, rfl, ?_⟩
  have H1 := H0.fr' hf1
  refine WL.op rfl rfl (op_assign rfl ?_)
  refine WL.nil ?_
  refine WQ.next ?_
  refine WC.seq ?_
  refine WC.region ?_
  refine WL.op rfl rfl (op_move rfl ?_)
  refine WL.op rfl rfl (op_neqN (b := 0) rfl rfl ?_)
  refine WL.nil ?_
  refine WQ.next ?_
  refine WC.yes rfl (by decide) ?_
  refine WC.seq ?_
  refine WC.region ?_
  refine WL.op rfl rfl (op_move rfl ?_)
  refine WL.op rfl rfl (op_assign rfl ?_)
  refine WL.op rfl rfl (op_assign rfl ?_)
  refine WL.nil ?_
  refine WQ.next ?_
  refine WC.ret ?_
  refine WQ.thenRet ?_
  refine WQ.out (.tmp rfl (.tmp rfl .nil)) ?_
  exact ⟨rfl, H1.fr⟩
set_option maxRecDepth 100000 in
theorem rdnumNil_ok (n : Int) (w : World) :
    Calls Try.prog 25 #[(.pointer none), (vI n)] w (fun e w' => e = .returned (.tuple #[vU32 0, vN 1]) ∧ Fr [] w w') := by
  refine enter (args := [(.pointer none), (vI n)]) Try.func25 rfl rfl ?_
  have H0 : Own [] w w [] := Own.start w []
  refine WC.seq ?_
  refine WC.region ?_
  refine WL.op rfl rfl (op_assign rfl ?_)
  refine WL.op rfl rfl (op_assign rfl ?_)
  refine WL.nil ?_
  refine WQ.next ?_
  refine WC.seq ?_
  refine WC.seq ?_
  refine WC.region ?_
  refine WL.op rfl rfl (op_move rfl ?_)
  refine WL.op rfl rfl (op_callF Fa.C36 rfl ((faultNil_ok _).mono (fun e w1 hq => ?_)))
  obtain ⟨rfl, hf1⟩ := hq
  refine ⟨_, rfl, ?_⟩
  have H1 := H0.fr' hf1
  refine WL.op rfl rfl (op_assign rfl ?_)
  refine WL.nil ?_
  refine WQ.next ?_
  refine WC.seq ?_
  refine WC.region ?_
  refine WL.op rfl rfl (op_move rfl ?_)
  refine WL.op rfl rfl (op_neqN (b := 0) rfl rfl ?_)
  refine WL.nil ?_
  refine WQ.next ?_
  refine WC.yes rfl (by decide) ?_
  refine WC.seq ?_
  refine WC.region ?_
  refine WL.op rfl rfl (op_move rfl ?_)
  refine WL.op rfl rfl (op_assign rfl ?_)
  refine WL.op rfl rfl (op_assign rfl ?_)
  refine WL.nil ?_
  refine WQ.next ?_
  refine WC.ret ?_
  refine WQ.thenRet ?_
  refine WQ.out (.tmp rfl (.tmp rfl .nil)) ?_
  exact ⟨rfl, H1.fr⟩
set_option maxRecDepth 100000 in
theorem rdtextNil_ok  (w : World) :
    Calls Try.prog 26 #[(.pointer none)] w (fun e w' => e = .returned (.tuple #[str [], vN 1]) ∧ Fr [] w w') := by
  refine enter (args := [(.pointer none)]) Try.func26 rfl rfl ?_
  have H0 : Own [] w w [] := Own.start w []
  refine WC.seq ?_
  refine WC.region ?_
  refine WL.op rfl rfl (op_assign rfl ?_)
  refine WL.op rfl rfl (op_assign rfl ?_)
  refine WL.nil ?_
  refine WQ.next ?_
  refine WC.seq ?_
  refine WC.region ?_
  refine WL.op rfl rfl (op_move rfl ?_)
  refine WL.op rfl rfl (op_callF Fa.C25 rfl ((rdnumNil_ok (2) _).mono (fun e w1 hq => ?_)))
  obtain ⟨rfl, hf1⟩ := hq
  refine ⟨_, rfl, ?_⟩
  have H1 := H0.fr' hf1
  refine WL.op rfl rfl (op_move rfl ?_)
  refine WL.op rfl rfl (op_extract rfl rfl ?_)
  refine WL.op rfl rfl (op_extract rfl rfl ?_)
  refine WL.op rfl rfl (op_assign rfl ?_)
  refine WL.op rfl rfl (op_assign rfl ?_)
  refine WL.nil ?_
  refine WQ.next ?_
  refine WC.seq ?_
  refine WC.seq ?_
  refine WC.region ?_
  refine WL.op rfl rfl (op_move rfl ?_)
  refine WL.op rfl rfl (op_neqN (b := 0) rfl rfl ?_)
  refine WL.nil ?_
  refine WQ.next ?_
  refine WC.yes rfl (by decide) ?_
  refine WC.seq ?_
  refine WC.region ?_
  refine WL.op rfl rfl (op_move rfl ?_)
  refine WL.op rfl rfl (op_assign rfl ?_)
  refine WL.op rfl rfl (op_assign rfl ?_)
  refine WL.nil ?_
  refine WQ.next ?_
  refine WC.ret ?_
  refine WQ.thenRet ?_
  refine WQ.out (.tmp rfl (.tmp rfl .nil)) ?_
  exact ⟨rfl, H1.fr⟩
set_option maxRecDepth 100000 in
theorem rdtextsNil_ok  (w : World) :
    Calls Try.prog 27 #[(.pointer none)] w (fun e w' => e = .returned (.tuple #[.slice none 0 0, vN 1]) ∧ Fr [] w w') := by
  refine enter (args := [(.pointer none)]) Try.func27 rfl rfl ?_
  have H0 : Own [] w w [] := Own.start w []
  refine WC.seq ?_
  refine WC.region ?_
  refine WL.op rfl rfl (op_assign rfl ?_)
  refine WL.op rfl rfl (op_assign rfl ?_)
  refine WL.nil ?_
  refine WQ.next ?_
  refine WC.seq ?_
  refine WC.region ?_
  refine WL.op rfl rfl (op_move rfl ?_)
  refine WL.op rfl rfl (op_callF Fa.C25 rfl ((rdnumNil_ok (2) _).mono (fun e w1 hq => ?_)))
  obtain ⟨rfl, hf1⟩ := hq
  refine ⟨_, rfl, ?_⟩
  have H1 := H0.fr' hf1
  refine WL.op rfl rfl (op_move rfl ?_)
  refine WL.op rfl rfl (op_extract rfl rfl ?_)
  refine WL.op rfl rfl (op_extract rfl rfl ?_)
  refine WL.op rfl rfl (op_assign rfl ?_)
  refine WL.op rfl rfl (op_assign rfl ?_)
  refine WL.nil ?_
  refine WQ.next ?_
  refine WC.seq ?_
  refine WC.seq ?_
  refine WC.region ?_
  refine WL.op rfl rfl (op_move rfl ?_)
  refine WL.op rfl rfl (op_neqN (b := 0) rfl rfl ?_)
  refine WL.nil ?_
  refine WQ.next ?_
  refine WC.yes rfl (by decide) ?_
  refine WC.seq ?_
  refine WC.region ?_
  refine WL.op rfl rfl (op_move rfl ?_)
  refine WL.op rfl rfl (op_assign rfl ?_)
  refine WL.op rfl rfl (op_assign rfl ?_)
  refine WL.nil ?_
  refine WQ.next ?_
  refine WC.ret ?_
  refine WQ.thenRet ?_
  refine WQ.out (.tmp rfl (.tmp rfl .nil)) ?_
  exact ⟨rfl, H1.fr⟩
set_option maxRecDepth 100000 in
theorem rdendNil_ok  (w : World) :
    Calls Try.prog 29 #[(.pointer none)] w (fun e w' => e = .returned (vN 1) ∧ Fr [] w w') := by
  refine enter (args := [(.pointer none)]) Try.func29 rfl rfl ?_
  have H0 : Own [] w w [] := Own.start w []
  refine WC.seq ?_
  refine WC.region ?_
  refine WL.op rfl rfl (op_assign rfl ?_)
  refine WL.nil ?_
  refine WQ.next ?_
  refine WC.seq ?_
  refine WC.seq ?_
  refine WC.region ?_
  refine WL.op rfl rfl (op_move rfl ?_)
  refine WL.op rfl rfl (op_callF Fa.C36 rfl ((faultNil_ok _).mono (fun e w1 hq => ?_)))
  obtain ⟨rfl, hf1⟩ := hq
  refine ⟨_, rfl, ?_⟩
  have H1 := H0.fr' hf1
  refine WL.op rfl rfl (op_assign rfl ?_)
  refine WL.nil ?_
  refine WQ.next ?_
  refine WC.seq ?_
  refine WC.region ?_
  refine WL.op rfl rfl (op_move rfl ?_)
  refine WL.op rfl rfl (op_neqN (b := 0) rfl rfl ?_)
  refine WL.nil ?_
  refine WQ.next ?_
  refine WC.yes rfl (by decide) ?_
  refine WC.seq ?_
  refine WC.region ?_
  refine WL.op rfl rfl (op_move rfl ?_)
  refine WL.op rfl rfl (op_assign rfl ?_)
  refine WL.nil ?_
  refine WQ.next ?_
  refine WC.ret ?_
  refine WQ.thenRet ?_
  refine WQ.out (.tmp rfl .nil) ?_
  exact ⟨rfl, H1.fr⟩
set_option maxRecDepth 100000 in
theorem fails_ok (q : Nat) (S : List UInt8) (E x : Nat) (T : List Nat) (w : World) (H : Own T w w [.blk q [(str S), (vN E)] 47]) :
    Calls Try.prog 78 #[(ptr q 0), (vN x)] w (fun e w' => e = .returned (vN x) ∧ Own T w w' [.blk q [str S, vN x] 47]) := by
  refine enter (args := [(ptr q 0), (vN x)]) Try.func78 rfl rfl ?_
  refine WC.seq ?_
  refine WC.region ?_
  refine WL.op rfl rfl (op_assign rfl ?_)
  refine WL.nil ?_
  refine WQ.next ?_
  refine WC.seq ?_
  refine WC.region ?_
  refine WL.op rfl rfl (op_move rfl ?_)
  refine WL.op rfl rfl (op_move rfl ?_)
  refine WL.op rfl rfl (op_nilCheck rfl ?_)
  refine WL.op rfl rfl (op_fieldAddr rfl Fa.F47_1 ?_)
  refine WL.op rfl rfl (op_storeB (i := 0) H rfl rfl rfl rfl rfl Fa.I26 (fun w1 H1 => ?_))
  refine WL.nil ?_
  refine WQ.next ?_
  refine WC.seq ?_
  refine WC.region ?_
  refine WL.op rfl rfl (op_move rfl ?_)
  refine WL.op rfl rfl (op_assign rfl ?_)
  refine WL.nil ?_
  refine WQ.next ?_
  refine WC.ret ?_
  refine WQ.out (.tmp rfl .nil) ?_
  exact ⟨rfl, H1⟩
set_option maxRecDepth 100000 in
theorem ftake_ok (q : Nat) (S : List UInt8) (E : Nat) (n : Int) (T : List Nat) (w : World) (H : Own T w w [.blk q [(str S), (vN E)] 47]) (hr : S.length < 2 ^ 47) :
    Calls Try.prog 31 #[(ptr q 0), (vI n)] w (fun e w' => e = .returned (.tuple #[str (takeR (Rd.mk S 0 E (Nat.zero_le _)) n).1.1, vN (takeR (Rd.mk S 0 E (Nat.zero_le _)) n).1.2]) ∧ Own T w w' [.blk q [str (takeR (Rd.mk S 0 E (Nat.zero_le _)) n).2.rest, vN (takeR (Rd.mk S 0 E (Nat.zero_le _)) n).2.f] 47]) := by
  refine enter (args := [(ptr q 0), (vI n)]) Try.func31 rfl rfl ?_
  refine WC.seq ?_
  refine WC.region ?_
  refine WL.op rfl rfl (op_assign rfl ?_)
  refine WL.op rfl rfl (op_assign rfl ?_)
  refine WL.nil ?_
  refine WQ.next ?_
  refine WC.seq ?_
  refine WC.seq ?_
  refine WC.region ?_
  refine WL.op rfl rfl (op_move rfl ?_)
  refine WL.op rfl rfl (op_nilCheck rfl ?_)
  refine WL.op rfl rfl (op_fieldAddr rfl Fa.F47_1 ?_)
  refine WL.op rfl rfl (op_load rfl (H.cell (i := 0) rfl rfl) Try.underlying26 rfl ?_)
  refine WL.op rfl rfl (op_neqN (b := 0) rfl rfl ?_)
  refine WL.nil ?_
  refine WQ.next ?_
  refine WC.cond rfl (fun (hb1 : (decide (E ≠ 0)) = true) => ?_) (fun (hb1 : (decide (E ≠ 0)) = false) => ?_)
  ·
    have hc1 := of_decide_eq_true hb1
    refine WC.seq ?_
    refine WC.draw 6 Fa.M H (HW.op rfl (fun w1 H1 => op_move rfl ⟨rfl, Fr.refl _ _⟩) (HW.op rfl (fun w1 H1 => op_nilCheck rfl ⟨rfl, Fr.refl _ _⟩) (HW.op rfl (fun w1 H1 => op_fieldAddr rfl Fa.F47_1 ⟨rfl, Fr.refl _ _⟩) (HW.op rfl (fun w1 H1 => op_load rfl (H1.cell (i := 0) rfl rfl) Try.underlying26 rfl ⟨rfl, Fr.refl _ _⟩) (HW.op rfl (fun w1 H1 => op_assign rfl ⟨rfl, Fr.refl _ _⟩) (HW.op rfl (fun w1 H1 => op_assign rfl ⟨rfl, Fr.refl _ _⟩)  HW.nil)))))) (by kernel_rfl) ?_
    intro β2 w2 H2
    refine WL.nil ?_
    refine WQ.next ?_
    refine WC.ret ?_
    refine WQ.thenRet ?_
    refine WQ.out (.tmp rfl (.tmp rfl .nil)) ?_
    rw [takeR_1 (r := (Rd.mk S 0 E (Nat.zero_le _))) hc1]
    exact ⟨rfl, (by have h := (show Own T w w2 [.blk q [(str S), (vN E)] 47] from H2); simpa only [Rd.rest, Rd.bad, Rd.on, List.drop_zero, Nat.zero_add] using h)⟩
  ·
    have hc1 := of_decide_eq_false hb1
    refine WC.skip ?_
    refine WQ.next ?_
    refine WC.seq ?_
    refine WC.seq ?_
    refine WC.region ?_
    refine WL.op rfl rfl (op_move rfl ?_)
    refine WL.op rfl rfl (op_lssI (b := (0 : Int)) rfl rfl ?_)
    refine WL.nil ?_
    refine WQ.next ?_
    refine WC.cond rfl (fun (hb3 : (decide (n < (0 : Int))) = true) => ?_) (fun (hb3 : (decide (n < (0 : Int))) = false) => ?_)
    ·
      have hc3 := of_decide_eq_true hb3
      refine WC.seq ?_
      refine WC.region ?_
      refine WL.op rfl rfl (op_move rfl ?_)
      refine WL.op rfl rfl (op_callF Fa.C78 rfl ((fails_ok q S E 2 _ _ (H.part [0] rfl rfl)).mono (fun e w4 hq => ?_)))
      obtain ⟨rfl, hq4⟩ := hq
      refine ⟨_, rfl, ?_⟩
      have H4 : Own T w w4 [.blk q [(str S), (vN 2)] 47] := H.splice [0] [.blk q [(str S), (vN 2)] 47] [] rfl rfl hq4 (Fits.solid True.intro Fits.nil)
      refine WL.op rfl rfl (op_assign rfl ?_)
      refine WL.op rfl rfl (op_assign rfl ?_)
      refine WL.nil ?_
      refine WQ.next ?_
      refine WC.ret ?_
      refine WQ.thenRet ?_
      refine WQ.out (.tmp rfl (.tmp rfl .nil)) ?_
      rw [takeR_2 (r := (Rd.mk S 0 E (Nat.zero_le _))) (Decidable.not_not.mp hc1) hc3]
      exact ⟨rfl, (by have h := (show Own T w w4 [.blk q [(str S), (vN 2)] 47] from H4); simpa only [Rd.rest, Rd.bad, Rd.on, List.drop_zero, Nat.zero_add] using h)⟩
    ·
      have hc3 := of_decide_eq_false hb3
      obtain ⟨m, rfl⟩ : ∃ m : Nat, n = (m : Int) := ⟨n.toNat, by omega⟩
      refine WC.skip ?_
      refine WQ.next ?_
      refine WC.seq ?_
      refine WC.seq ?_
      refine WC.region ?_
      refine WL.op rfl rfl (op_move rfl ?_)
      refine WL.op rfl rfl (op_move rfl ?_)
      refine WL.op rfl rfl (op_nilCheck rfl ?_)
      refine WL.op rfl rfl (op_fieldAddr rfl Fa.F47_0 ?_)
      refine WL.op rfl rfl (op_load rfl (H.cell (i := 0) rfl rfl) Try.underlying9 rfl ?_)
      refine WL.op rfl rfl (op_lenStr Try.underlying9 rfl ?_)
      refine WL.op rfl rfl (op_gtrN rfl rfl ?_)
      refine WL.nil ?_
      refine WQ.next ?_
      refine WC.cond rfl (fun (hb5 : (decide (m > S.length)) = true) => ?_) (fun (hb5 : (decide (m > S.length)) = false) => ?_)
      ·
        have hc5 := of_decide_eq_true hb5
        refine WC.seq ?_
        refine WC.region ?_
        refine WL.op rfl rfl (op_move rfl ?_)
        refine WL.op rfl rfl (op_callF Fa.C78 rfl ((fails_ok q S E 6 _ _ (H.part [0] rfl rfl)).mono (fun e w6 hq => ?_)))
        obtain ⟨rfl, hq6⟩ := hq
        refine ⟨_, rfl, ?_⟩
        have H6 : Own T w w6 [.blk q [(str S), (vN 6)] 47] := H.splice [0] [.blk q [(str S), (vN 6)] 47] [] rfl rfl hq6 (Fits.solid True.intro Fits.nil)
        refine WL.op rfl rfl (op_assign rfl ?_)
        refine WL.op rfl rfl (op_assign rfl ?_)
        refine WL.nil ?_
        refine WQ.next ?_
        refine WC.ret ?_
        refine WQ.thenRet ?_
        refine WQ.out (.tmp rfl (.tmp rfl .nil)) ?_
        rw [takeR_3 (r := (Rd.mk S 0 E (Nat.zero_le _))) (Decidable.not_not.mp hc1), rawR_1 (r := (Rd.mk S 0 E (Nat.zero_le _))) (show m > S.length - 0 from hc5)]
        exact ⟨rfl, (by have h := (show Own T w w6 [.blk q [(str S), (vN 6)] 47] from H6); simpa only [Rd.rest, Rd.bad, Rd.on, List.drop_zero, Nat.zero_add] using h)⟩
      ·
        have hc5 := of_decide_eq_false hb5
        refine WC.skip ?_
        refine WQ.next ?_
        refine WC.seq ?_
        refine WC.region ?_
        refine WL.op rfl rfl (op_move rfl ?_)
        refine WL.op rfl rfl (op_nilCheck rfl ?_)
        refine WL.op rfl rfl (op_fieldAddr rfl Fa.F47_0 ?_)
        refine WL.op rfl rfl (op_load rfl (H.cell (i := 0) rfl rfl) Try.underlying9 rfl ?_)
        refine WL.op rfl rfl (op_move rfl ?_)
        refine WL.op rfl rfl (op_sliceStrHi Try.underlying9 rfl rfl (by omega) ?_)
        refine WL.op rfl rfl (op_assign rfl ?_)
        refine WL.nil ?_
        refine WQ.next ?_
        refine WC.seq ?_
        refine WC.region ?_
        refine WL.op rfl rfl (op_move rfl ?_)
        refine WL.op rfl rfl (op_move rfl ?_)
        refine WL.op rfl rfl (op_nilCheck rfl ?_)
        refine WL.op rfl rfl (op_fieldAddr rfl Fa.F47_0 ?_)
        refine WL.op rfl rfl (op_load rfl (H.cell (i := 0) rfl rfl) Try.underlying9 rfl ?_)
        refine WL.op rfl rfl (op_move rfl ?_)
        refine WL.op rfl rfl (op_sliceStrLo Try.underlying9 rfl rfl (by omega) ?_)
        refine WL.op rfl rfl (op_nilCheck rfl ?_)
        refine WL.op rfl rfl (op_fieldAddr rfl Fa.F47_0 ?_)
        refine WL.op rfl rfl (op_storeB (i := 0) H rfl rfl rfl rfl rfl Fa.I9 (fun w7 H7 => ?_))
        refine WL.nil ?_
        refine WQ.next ?_
        refine WC.seq ?_
        refine WC.region ?_
        refine WL.op rfl rfl (op_move rfl ?_)
        refine WL.op rfl rfl (op_assign rfl ?_)
        refine WL.op rfl rfl (op_assign rfl ?_)
        refine WL.nil ?_
        refine WQ.next ?_
        refine WC.ret ?_
        refine WQ.out (.tmp rfl (.tmp rfl .nil)) ?_
        rw [takeR_3 (r := (Rd.mk S 0 E (Nat.zero_le _))) (Decidable.not_not.mp hc1), rawR_2 (r := (Rd.mk S 0 E (Nat.zero_le _))) (show ¬ m > S.length - 0 from hc5)]
        exact ⟨rfl, (by have h := (show Own T w w7 [.blk q [(str (S.drop m)), (vN E)] 47] from H7); simpa only [Rd.rest, Rd.bad, Rd.on, List.drop_zero, Nat.zero_add] using h)⟩
set_option maxRecDepth 100000 in
theorem fnum_ok (q : Nat) (S : List UInt8) (E : Nat) (n : Int) (T : List Nat) (w : World) (H : Own T w w [.blk q [(str S), (vN E)] 47]) (hr : S.length < 2 ^ 47) :
    Calls Try.prog 32 #[(ptr q 0), (vI n)] w (fun e w' => e = .returned (.tuple #[vU32 (numR (Rd.mk S 0 E (Nat.zero_le _)) n).1.1, vN (numR (Rd.mk S 0 E (Nat.zero_le _)) n).1.2]) ∧ Own T w w' [.blk q [str (numR (Rd.mk S 0 E (Nat.zero_le _)) n).2.rest, vN (numR (Rd.mk S 0 E (Nat.zero_le _)) n).2.f] 47]) := by
  refine enter (args := [(ptr q 0), (vI n)]) Try.func32 rfl rfl ?_
  have hTl : (takeR (Rd.mk S 0 E (Nat.zero_le _)) n).1.1.length < 2 ^ 47 := takeR_len _ _ (by exact hr)
  refine WC.seq ?_
  refine WC.region ?_
  refine WL.op rfl rfl (op_assign rfl ?_)
  refine WL.op rfl rfl (op_assign rfl ?_)
  refine WL.nil ?_
  refine WQ.next ?_
  refine WC.seq ?_
  refine WC.seq ?_
  refine WC.region ?_
  refine WL.op rfl rfl (op_move rfl ?_)
  refine WL.op rfl rfl (op_nilCheck rfl ?_)
  refine WL.op rfl rfl (op_fieldAddr rfl Fa.F47_1 ?_)
  refine WL.op rfl rfl (op_load rfl (H.cell (i := 0) rfl rfl) Try.underlying26 rfl ?_)
  refine WL.op rfl rfl (op_eqlN (b := 0) rfl rfl ?_)
  refine WL.op rfl rfl (op_move rfl ?_)
  refine WL.split (t := 15) rfl (fun (hb1 : (decide (E = 0)) = true) => ?_) (fun (hb1 : (decide (E = 0)) = false) => ?_)
  ·
    have hc1 := of_decide_eq_true hb1
    refine WL.yes rfl rfl rfl hb1 rfl (op_move rfl ?_)
    refine WL.yes rfl rfl rfl hb1 rfl (op_lssI (b := (1 : Int)) rfl rfl ?_)
    refine WL.yes rfl rfl rfl hb1 rfl (op_move rfl ?_)
    refine WL.split (t := 18) rfl (fun (hb2 : (decide (n < (1 : Int))) = true) => ?_) (fun (hb2 : (decide (n < (1 : Int))) = false) => ?_)
    ·
      have hc2 := of_decide_eq_true hb2
      refine WL.no rfl rfl rfl hb2 rfl ?_
      refine WL.no rfl rfl rfl hb2 rfl ?_
      refine WL.yes rfl rfl rfl hb1 rfl (op_pickT rfl hb2 rfl ?_)
      refine WL.op rfl rfl (op_pickT rfl hb1 rfl ?_)
      refine WL.nil ?_
      refine WQ.next ?_
      refine WC.yes rfl rfl ?_
      refine WC.seq ?_
      refine WC.region ?_
      refine WL.op rfl rfl (op_move rfl ?_)
      refine WL.op rfl rfl (op_callF Fa.C78 rfl ((fails_ok q S E 2 _ _ (H.part [0] rfl rfl)).mono (fun e w3 hq => ?_)))
      obtain ⟨rfl, hq3⟩ := hq
      refine ⟨_, rfl, ?_⟩
      have H3 : Own T w w3 [.blk q [(str S), (vN 2)] 47] := H.splice [0] [.blk q [(str S), (vN 2)] 47] [] rfl rfl hq3 (Fits.solid True.intro Fits.nil)
      refine WL.op rfl rfl (op_assign rfl ?_)
      refine WL.op rfl rfl (op_assign rfl ?_)
      refine WL.nil ?_
      refine WQ.next ?_
      refine WC.ret ?_
      refine WQ.thenRet ?_
      refine WQ.out (.tmp rfl (.tmp rfl .nil)) ?_
      rw [numR_bad (r := (Rd.mk S 0 E (Nat.zero_le _))) hc1 (by omega)]
      exact ⟨rfl, (by have h := (show Own T w w3 [.blk q [(str S), (vN 2)] 47] from H3); simpa only [Rd.rest, Rd.bad, Rd.on, List.drop_zero, Nat.zero_add] using h)⟩
    ·
      have hc2 := of_decide_eq_false hb2
      refine WL.yes rfl rfl rfl hb2 rfl (op_move rfl ?_)
      refine WL.yes rfl rfl rfl hb2 rfl (op_gtrI (b := (4 : Int)) rfl rfl ?_)
      refine WL.yes rfl rfl rfl hb1 rfl (op_pickF rfl hb2 rfl ?_)
      refine WL.op rfl rfl (op_pickT rfl hb1 rfl ?_)
      refine WL.nil ?_
      refine WQ.next ?_
      refine WC.cond rfl (fun (hb4 : (decide (n > (4 : Int))) = true) => ?_) (fun (hb4 : (decide (n > (4 : Int))) = false) => ?_)
      ·
        have hc4 := of_decide_eq_true hb4
        refine WC.seq ?_
        refine WC.region ?_
        refine WL.op rfl rfl (op_move rfl ?_)
        refine WL.op rfl rfl (op_callF Fa.C78 rfl ((fails_ok q S E 2 _ _ (H.part [0] rfl rfl)).mono (fun e w5 hq => ?_)))
        obtain ⟨rfl, hq5⟩ := hq
        refine ⟨_, rfl, ?_⟩
        have H5 : Own T w w5 [.blk q [(str S), (vN 2)] 47] := H.splice [0] [.blk q [(str S), (vN 2)] 47] [] rfl rfl hq5 (Fits.solid True.intro Fits.nil)
        refine WL.op rfl rfl (op_assign rfl ?_)
        refine WL.op rfl rfl (op_assign rfl ?_)
        refine WL.nil ?_
        refine WQ.next ?_
        refine WC.ret ?_
        refine WQ.thenRet ?_
        refine WQ.out (.tmp rfl (.tmp rfl .nil)) ?_
        rw [numR_bad (r := (Rd.mk S 0 E (Nat.zero_le _))) hc1 (by omega)]
        exact ⟨rfl, (by have h := (show Own T w w5 [.blk q [(str S), (vN 2)] 47] from H5); simpa only [Rd.rest, Rd.bad, Rd.on, List.drop_zero, Nat.zero_add] using h)⟩
      ·
        have hc4 := of_decide_eq_false hb4
        refine WC.skip ?_
        refine WQ.next ?_
        refine WC.seq ?_
        refine WC.region ?_
        refine WL.op rfl rfl (op_move rfl ?_)
        refine WL.op rfl rfl (op_move rfl ?_)
        refine WL.op rfl rfl (op_callF Fa.C31 rfl ((ftake_ok q S E (n) _ _ (H.part [0] rfl rfl) (by first | assumption | omega)).mono (fun e w6 hq => ?_)))
        obtain ⟨rfl, hq6⟩ := hq
        refine ⟨_, rfl, ?_⟩
        have H6 : Own T w w6 [.blk q [(str (takeR (Rd.mk S 0 E (Nat.zero_le _)) n).2.rest), (vN (takeR (Rd.mk S 0 E (Nat.zero_le _)) n).2.f)] 47] := H.splice [0] [.blk q [(str (takeR (Rd.mk S 0 E (Nat.zero_le _)) n).2.rest), (vN (takeR (Rd.mk S 0 E (Nat.zero_le _)) n).2.f)] 47] [] rfl rfl hq6 (Fits.solid True.intro Fits.nil)
        refine WL.op rfl rfl (op_move rfl ?_)
        refine WL.op rfl rfl (op_extract rfl rfl ?_)
        refine WL.op rfl rfl (op_extract rfl rfl ?_)
        refine WL.op rfl rfl (op_assign rfl ?_)
        refine WL.op rfl rfl (op_assign rfl ?_)
        refine WL.nil ?_
        refine WQ.next ?_
        refine WC.seq ?_
        refine WC.region ?_
        refine WL.op rfl rfl (op_assign rfl ?_)
        refine WL.nil ?_
        refine WQ.next ?_
        refine WC.seq ?_
        refine WC.seq ?_
        refine WC.region ?_
        refine WL.op rfl rfl (op_move rfl ?_)
        refine WL.op rfl rfl (op_lenStr Try.underlying9 rfl ?_)
        refine WL.op rfl rfl (op_subI (a := (((takeR (Rd.mk S 0 E (Nat.zero_le _)) n).1.1.length : Nat) : Int)) (b := ((1 : Nat) : Int)) rfl rfl (by omega) ?_)
        refine WL.op rfl rfl (op_assign rfl ?_)
        refine WL.nil ?_
        refine WQ.next ?_
        refine WC.block ?_
        refine WC.loop (α := Nat) (fun j => [(6, (str (takeR (Rd.mk S 0 E (Nat.zero_le _)) n).1.1)), (7, (vN (takeR (Rd.mk S 0 E (Nat.zero_le _)) n).1.2)), (8, (vU32 (gF ((takeR (Rd.mk S 0 E (Nat.zero_le _)) n).1.1.drop j)))), (9, (vI ((j : Int) - (1 : Int))))]) (fun j w' => (j ≤ (takeR (Rd.mk S 0 E (Nat.zero_le _)) n).1.1.length) ∧ Own T w w' [.blk q [(str (takeR (Rd.mk S 0 E (Nat.zero_le _)) n).2.rest), (vN (takeR (Rd.mk S 0 E (Nat.zero_le _)) n).2.f)] 47]) (fun j => j) (takeR (Rd.mk S 0 E (Nat.zero_le _)) n).1.1.length ⟨(by omega), H6⟩ ⟨rfl, rfl, (by rw [List.drop_length]; rfl), rfl, trivial⟩ ?_
        rintro j w7 ⟨hinv, H7⟩
        show WC _ _ _ _ _ [(6, (str (takeR (Rd.mk S 0 E (Nat.zero_le _)) n).1.1)), (7, (vN (takeR (Rd.mk S 0 E (Nat.zero_le _)) n).1.2)), (8, (vU32 (gF ((takeR (Rd.mk S 0 E (Nat.zero_le _)) n).1.1.drop j)))), (9, (vI ((j : Int) - (1 : Int))))] _
        refine WC.seq ?_
        refine WC.seq ?_
        refine WC.region ?_
        refine WL.op rfl rfl (op_move rfl ?_)
        refine WL.op rfl rfl (op_geqI (b := (0 : Int)) rfl rfl ?_)
        refine WL.nil ?_
        refine WQ.next ?_
        refine WC.cond rfl (fun (hb8 : (decide (((j : Int) - (1 : Int)) ≥ (0 : Int))) = true) => ?_) (fun (hb8 : (decide (((j : Int) - (1 : Int)) ≥ (0 : Int))) = false) => ?_)
        ·
          have hc8 := of_decide_eq_true hb8
          obtain ⟨m, hm⟩ : ∃ m, j = m + 1 := ⟨j - 1, by omega⟩
          subst hm
          rw [show (((m + 1 : Nat) : Int) - (1 : Int)) = (m : Int) from by omega]
          refine WC.skip ?_
          refine WQ.next ?_
          refine WC.seq ?_
          refine WC.block ?_
          refine WC.region ?_
          refine WL.op rfl rfl (op_move rfl ?_)
          refine WL.op rfl rfl (op_mulU32 (a := 256) rfl rfl ?_)
          refine WL.op rfl rfl (op_move rfl ?_)
          refine WL.op rfl rfl (op_move rfl ?_)
          refine WL.op rfl rfl (op_indexStrD Try.underlying9 rfl rfl (by omega) ?_)
          refine WL.op rfl rfl (op_convU8U32 (hs := Try.underlying5) (hd := Try.underlying22) rfl ?_)
          refine WL.op rfl rfl (op_addU32 rfl rfl ?_)
          refine WL.op rfl rfl (op_assign rfl ?_)
          refine WL.nil ?_
          refine WQ.inNormal ?_
          refine WQ.next ?_
          refine WC.region ?_
          refine WL.op rfl rfl (op_move rfl ?_)
          refine WL.op rfl rfl (op_subI (a := ((m : Nat) : Int)) (b := ((1 : Nat) : Int)) rfl rfl (by omega) ?_)
          refine WL.op rfl rfl (op_assign rfl ?_)
          refine WL.nil ?_
          exact WQ.round m ⟨(by omega), H7⟩ ⟨rfl, rfl, (congrArg (fun x => some (vU32 x)) (gF_drop (takeR (Rd.mk S 0 E (Nat.zero_le _)) n).1.1 m (by omega)).symm), rfl, trivial⟩ (by omega)
        ·
          have hc8 := of_decide_eq_false hb8
          refine WC.exit ?_
          refine WQ.thenExit ?_
          refine WQ.thenExit ?_
          refine WQ.inHere ?_
          refine WQ.next ?_
          refine WC.seq ?_
          refine WC.region ?_
          refine WL.op rfl rfl (op_move rfl ?_)
          refine WL.op rfl rfl (op_move rfl ?_)
          refine WL.op rfl rfl (op_assign rfl ?_)
          refine WL.op rfl rfl (op_assign rfl ?_)
          refine WL.nil ?_
          refine WQ.next ?_
          refine WC.ret ?_
          refine WQ.out (.tmp rfl (.tmp rfl .nil)) ?_
          have hj : j = 0 := (by omega)
          subst hj
          rw [numR_take (r := (Rd.mk S 0 E (Nat.zero_le _))) (fun h0 hx => by omega)]
          exact ⟨rfl, H7⟩
  ·
    have hc1 := of_decide_eq_false hb1
    refine WL.no rfl rfl rfl hb1 rfl ?_
    refine WL.no rfl rfl rfl hb1 rfl ?_
    refine WL.no rfl rfl rfl hb1 rfl ?_
    refine WL.non rfl rfl rfl rfl ?_
    refine WL.non rfl rfl rfl rfl ?_
    refine WL.no rfl rfl rfl hb1 rfl ?_
    refine WL.op rfl rfl (op_pickF rfl hb1 rfl ?_)
    refine WL.nil ?_
    refine WQ.next ?_
    refine WC.no rfl rfl ?_
    refine WC.skip ?_
    refine WQ.next ?_
    refine WC.seq ?_
    refine WC.region ?_
    refine WL.op rfl rfl (op_move rfl ?_)
    refine WL.op rfl rfl (op_move rfl ?_)
    refine WL.op rfl rfl (op_callF Fa.C31 rfl ((ftake_ok q S E (n) _ _ (H.part [0] rfl rfl) (by first | assumption | omega)).mono (fun e w9 hq => ?_)))
    obtain ⟨rfl, hq9⟩ := hq
    refine ⟨_, rfl, ?_⟩
    have H9 : Own T w w9 [.blk q [(str (takeR (Rd.mk S 0 E (Nat.zero_le _)) n).2.rest), (vN (takeR (Rd.mk S 0 E (Nat.zero_le _)) n).2.f)] 47] := H.splice [0] [.blk q [(str (takeR (Rd.mk S 0 E (Nat.zero_le _)) n).2.rest), (vN (takeR (Rd.mk S 0 E (Nat.zero_le _)) n).2.f)] 47] [] rfl rfl hq9 (Fits.solid True.intro Fits.nil)
    refine WL.op rfl rfl (op_move rfl ?_)
    refine WL.op rfl rfl (op_extract rfl rfl ?_)
    refine WL.op rfl rfl (op_extract rfl rfl ?_)
    refine WL.op rfl rfl (op_assign rfl ?_)
    refine WL.op rfl rfl (op_assign rfl ?_)
    refine WL.nil ?_
    refine WQ.next ?_
    refine WC.seq ?_
    refine WC.region ?_
    refine WL.op rfl rfl (op_assign rfl ?_)
    refine WL.nil ?_
    refine WQ.next ?_
    refine WC.seq ?_
    refine WC.seq ?_
    refine WC.region ?_
    refine WL.op rfl rfl (op_move rfl ?_)
    refine WL.op rfl rfl (op_lenStr Try.underlying9 rfl ?_)
    refine WL.op rfl rfl (op_subI (a := (((takeR (Rd.mk S 0 E (Nat.zero_le _)) n).1.1.length : Nat) : Int)) (b := ((1 : Nat) : Int)) rfl rfl (by omega) ?_)
    refine WL.op rfl rfl (op_assign rfl ?_)
    refine WL.nil ?_
    refine WQ.next ?_
    refine WC.block ?_
    refine WC.loop (α := Nat) (fun j => [(6, (str (takeR (Rd.mk S 0 E (Nat.zero_le _)) n).1.1)), (7, (vN (takeR (Rd.mk S 0 E (Nat.zero_le _)) n).1.2)), (8, (vU32 (gF ((takeR (Rd.mk S 0 E (Nat.zero_le _)) n).1.1.drop j)))), (9, (vI ((j : Int) - (1 : Int))))]) (fun j w' => (j ≤ (takeR (Rd.mk S 0 E (Nat.zero_le _)) n).1.1.length) ∧ Own T w w' [.blk q [(str (takeR (Rd.mk S 0 E (Nat.zero_le _)) n).2.rest), (vN (takeR (Rd.mk S 0 E (Nat.zero_le _)) n).2.f)] 47]) (fun j => j) (takeR (Rd.mk S 0 E (Nat.zero_le _)) n).1.1.length ⟨(by omega), H9⟩ ⟨rfl, rfl, (by rw [List.drop_length]; rfl), rfl, trivial⟩ ?_
    rintro j w10 ⟨hinv, H10⟩
    show WC _ _ _ _ _ [(6, (str (takeR (Rd.mk S 0 E (Nat.zero_le _)) n).1.1)), (7, (vN (takeR (Rd.mk S 0 E (Nat.zero_le _)) n).1.2)), (8, (vU32 (gF ((takeR (Rd.mk S 0 E (Nat.zero_le _)) n).1.1.drop j)))), (9, (vI ((j : Int) - (1 : Int))))] _
    refine WC.seq ?_
    refine WC.seq ?_
    refine WC.region ?_
    refine WL.op rfl rfl (op_move rfl ?_)
    refine WL.op rfl rfl (op_geqI (b := (0 : Int)) rfl rfl ?_)
    refine WL.nil ?_
    refine WQ.next ?_
    refine WC.cond rfl (fun (hb11 : (decide (((j : Int) - (1 : Int)) ≥ (0 : Int))) = true) => ?_) (fun (hb11 : (decide (((j : Int) - (1 : Int)) ≥ (0 : Int))) = false) => ?_)
    ·
      have hc11 := of_decide_eq_true hb11
      obtain ⟨m, hm⟩ : ∃ m, j = m + 1 := ⟨j - 1, by omega⟩
      subst hm
      rw [show (((m + 1 : Nat) : Int) - (1 : Int)) = (m : Int) from by omega]
      refine WC.skip ?_
      refine WQ.next ?_
      refine WC.seq ?_
      refine WC.block ?_
      refine WC.region ?_
      refine WL.op rfl rfl (op_move rfl ?_)
      refine WL.op rfl rfl (op_mulU32 (a := 256) rfl rfl ?_)
      refine WL.op rfl rfl (op_move rfl ?_)
      refine WL.op rfl rfl (op_move rfl ?_)
      refine WL.op rfl rfl (op_indexStrD Try.underlying9 rfl rfl (by omega) ?_)
      refine WL.op rfl rfl (op_convU8U32 (hs := Try.underlying5) (hd := Try.underlying22) rfl ?_)
      refine WL.op rfl rfl (op_addU32 rfl rfl ?_)
      refine WL.op rfl rfl (op_assign rfl ?_)
      refine WL.nil ?_
      refine WQ.inNormal ?_
      refine WQ.next ?_
      refine WC.region ?_
      refine WL.op rfl rfl (op_move rfl ?_)
      refine WL.op rfl rfl (op_subI (a := ((m : Nat) : Int)) (b := ((1 : Nat) : Int)) rfl rfl (by omega) ?_)
      refine WL.op rfl rfl (op_assign rfl ?_)
      refine WL.nil ?_
      exact WQ.round m ⟨(by omega), H10⟩ ⟨rfl, rfl, (congrArg (fun x => some (vU32 x)) (gF_drop (takeR (Rd.mk S 0 E (Nat.zero_le _)) n).1.1 m (by omega)).symm), rfl, trivial⟩ (by omega)
    ·
      have hc11 := of_decide_eq_false hb11
      refine WC.exit ?_
      refine WQ.thenExit ?_
      refine WQ.thenExit ?_
      refine WQ.inHere ?_
      refine WQ.next ?_
      refine WC.seq ?_
      refine WC.region ?_
      refine WL.op rfl rfl (op_move rfl ?_)
      refine WL.op rfl rfl (op_move rfl ?_)
      refine WL.op rfl rfl (op_assign rfl ?_)
      refine WL.op rfl rfl (op_assign rfl ?_)
      refine WL.nil ?_
      refine WQ.next ?_
      refine WC.ret ?_
      refine WQ.out (.tmp rfl (.tmp rfl .nil)) ?_
      have hj : j = 0 := (by omega)
      subst hj
      rw [numR_take (r := (Rd.mk S 0 E (Nat.zero_le _))) (fun h0 _ => absurd h0 hc1)]
      exact ⟨rfl, H10⟩
set_option maxRecDepth 100000 in
theorem ftext_ok (q : Nat) (S : List UInt8) (E : Nat) (T : List Nat) (w : World) (H : Own T w w [.blk q [(str S), (vN E)] 47]) (hr : S.length < 2 ^ 47) :
    Calls Try.prog 33 #[(ptr q 0)] w (fun e w' => e = .returned (.tuple #[str (textR (Rd.mk S 0 E (Nat.zero_le _))).1.1, vN (textR (Rd.mk S 0 E (Nat.zero_le _))).1.2]) ∧ Own T w w' [.blk q [str (textR (Rd.mk S 0 E (Nat.zero_le _))).2.rest, vN (textR (Rd.mk S 0 E (Nat.zero_le _))).2.f] 47]) := by
  refine enter (args := [(ptr q 0)]) Try.func33 rfl rfl ?_
  refine WC.seq ?_
  refine WC.region ?_
  refine WL.op rfl rfl (op_assign rfl ?_)
  refine WL.op rfl rfl (op_assign rfl ?_)
  refine WL.nil ?_
  refine WQ.next ?_
  refine WC.seq ?_
  refine WC.region ?_
  refine WL.op rfl rfl (op_move rfl ?_)
  refine WL.op rfl rfl (op_nilCheck rfl ?_)
  refine WL.op rfl rfl (op_fieldAddr rfl Fa.F47_0 ?_)
  refine WL.op rfl rfl (op_load rfl (H.cell (i := 0) rfl rfl) Try.underlying9 rfl ?_)
  refine WL.op rfl rfl (op_assign rfl ?_)
  refine WL.nil ?_
  refine WQ.next ?_
  refine WC.seq ?_
  refine WC.region ?_
  refine WL.op rfl rfl (op_move rfl ?_)
  refine WL.op rfl rfl (op_callF Fa.C32 rfl ((fnum_ok q S E (2) _ _ (H.part [0] rfl rfl) (by first | exact hr | exact rest_lt (by rw [numR_s]; exact hr))).mono (fun e w1 hq => ?_)))
  obtain ⟨rfl, hq1⟩ := hq
  refine ⟨_, rfl, ?_⟩
  have H1 : Own T w w1 [.blk q [(str (numR (Rd.mk S 0 E (Nat.zero_le _)) 2).2.rest), (vN (numR (Rd.mk S 0 E (Nat.zero_le _)) 2).2.f)] 47] := H.splice [0] [.blk q [(str (numR (Rd.mk S 0 E (Nat.zero_le _)) 2).2.rest), (vN (numR (Rd.mk S 0 E (Nat.zero_le _)) 2).2.f)] 47] [] rfl rfl hq1 (Fits.solid True.intro Fits.nil)
  refine WL.op rfl rfl (op_move rfl ?_)
  refine WL.op rfl rfl (op_extract rfl rfl ?_)
  refine WL.op rfl rfl (op_extract rfl rfl ?_)
  refine WL.op rfl rfl (op_assign rfl ?_)
  refine WL.op rfl rfl (op_assign rfl ?_)
  refine WL.nil ?_
  refine WQ.next ?_
  refine WC.seq ?_
  refine WC.seq ?_
  refine WC.region ?_
  refine WL.op rfl rfl (op_move rfl ?_)
  refine WL.op rfl rfl (op_neqN (b := 0) rfl rfl ?_)
  refine WL.nil ?_
  refine WQ.next ?_
  refine WC.cond rfl (fun (hb2 : (decide ((numR (Rd.mk S 0 E (Nat.zero_le _)) 2).1.2 ≠ 0)) = true) => ?_) (fun (hb2 : (decide ((numR (Rd.mk S 0 E (Nat.zero_le _)) 2).1.2 ≠ 0)) = false) => ?_)
  ·
    have hc2 := of_decide_eq_true hb2
    refine WC.seq ?_
    refine WC.region ?_
    refine WL.op rfl rfl (op_move rfl ?_)
    refine WL.op rfl rfl (op_assign rfl ?_)
    refine WL.op rfl rfl (op_assign rfl ?_)
    refine WL.nil ?_
    refine WQ.next ?_
    refine WC.ret ?_
    refine WQ.thenRet ?_
    refine WQ.out (.tmp rfl (.tmp rfl .nil)) ?_
    rw [textR, if_pos hc2]
    exact ⟨rfl, H1⟩
  ·
    have hc2 := of_decide_eq_false hb2
    refine WC.skip ?_
    refine WQ.next ?_
    refine WC.seq ?_
    refine WC.region ?_
    have htk : (takeR (Rd.mk (numR (Rd.mk S 0 E (Nat.zero_le _)) 2).2.rest 0 (numR (Rd.mk S 0 E (Nat.zero_le _)) 2).2.f (Nat.zero_le _)) (numR (Rd.mk S 0 E (Nat.zero_le _)) 2).1.1.toNat).1 = (rawR (numR (Rd.mk S 0 E (Nat.zero_le _)) 2).2 (numR (Rd.mk S 0 E (Nat.zero_le _)) 2).1.1.toNat).1 ∧ Like (takeR (Rd.mk (numR (Rd.mk S 0 E (Nat.zero_le _)) 2).2.rest 0 (numR (Rd.mk S 0 E (Nat.zero_le _)) 2).2.f (Nat.zero_le _)) (numR (Rd.mk S 0 E (Nat.zero_le _)) 2).1.1.toNat).2 (rawR (numR (Rd.mk S 0 E (Nat.zero_le _)) 2).2 (numR (Rd.mk S 0 E (Nat.zero_le _)) 2).1.1.toNat).2 := by
      have h := (Like.re (numR (Rd.mk S 0 E (Nat.zero_le _)) 2).2).take (numR (Rd.mk S 0 E (Nat.zero_le _)) 2).1.1.toNat
      rwa [takeR_3 (numR_f0 (Decidable.not_not.mp hc2))] at h
    refine WL.op rfl rfl (op_move rfl ?_)
    refine WL.op rfl rfl (op_move rfl ?_)
    refine WL.op rfl rfl (op_convU32N (hs := Try.underlying22) (hd := Try.underlying3) rfl ?_)
    refine WL.op rfl rfl (op_callF Fa.C31 rfl ((ftake_ok q ((numR (Rd.mk S 0 E (Nat.zero_le _)) 2).2.rest) ((numR (Rd.mk S 0 E (Nat.zero_le _)) 2).2.f) (((numR (Rd.mk S 0 E (Nat.zero_le _)) 2).1.1.toNat : Nat)) _ _ (H1.part [0] rfl rfl) (by first | exact hr | exact rest_lt (by rw [numR_s]; exact hr))).mono (fun e w3 hq => ?_)))
    obtain ⟨rfl, hq3⟩ := hq
    refine ⟨_, rfl, ?_⟩
    have H3 : Own T w w3 [.blk q [(str (takeR (Rd.mk ((numR (Rd.mk S 0 E (Nat.zero_le _)) 2).2.rest) 0 ((numR (Rd.mk S 0 E (Nat.zero_le _)) 2).2.f) (Nat.zero_le _)) ((numR (Rd.mk S 0 E (Nat.zero_le _)) 2).1.1.toNat : Nat)).2.rest), (vN (takeR (Rd.mk ((numR (Rd.mk S 0 E (Nat.zero_le _)) 2).2.rest) 0 ((numR (Rd.mk S 0 E (Nat.zero_le _)) 2).2.f) (Nat.zero_le _)) ((numR (Rd.mk S 0 E (Nat.zero_le _)) 2).1.1.toNat : Nat)).2.f)] 47] := H1.splice [0] [.blk q [(str (takeR (Rd.mk ((numR (Rd.mk S 0 E (Nat.zero_le _)) 2).2.rest) 0 ((numR (Rd.mk S 0 E (Nat.zero_le _)) 2).2.f) (Nat.zero_le _)) ((numR (Rd.mk S 0 E (Nat.zero_le _)) 2).1.1.toNat : Nat)).2.rest), (vN (takeR (Rd.mk ((numR (Rd.mk S 0 E (Nat.zero_le _)) 2).2.rest) 0 ((numR (Rd.mk S 0 E (Nat.zero_le _)) 2).2.f) (Nat.zero_le _)) ((numR (Rd.mk S 0 E (Nat.zero_le _)) 2).1.1.toNat : Nat)).2.f)] 47] [] rfl rfl hq3 (Fits.solid True.intro Fits.nil)
    refine WL.op rfl rfl (op_move rfl ?_)
    refine WL.op rfl rfl (op_extract rfl rfl ?_)
    refine WL.op rfl rfl (op_extract rfl rfl ?_)
    refine WL.op rfl rfl (op_assign rfl ?_)
    refine WL.op rfl rfl (op_assign rfl ?_)
    refine WL.nil ?_
    refine WQ.next ?_
    refine WC.seq ?_
    refine WC.seq ?_
    refine WC.region ?_
    refine WL.op rfl rfl (op_move rfl ?_)
    refine WL.op rfl rfl (op_neqN (b := 0) rfl rfl ?_)
    refine WL.nil ?_
    refine WQ.next ?_
    refine WC.cond rfl (fun (hb4 : (decide ((takeR (Rd.mk ((numR (Rd.mk S 0 E (Nat.zero_le _)) 2).2.rest) 0 ((numR (Rd.mk S 0 E (Nat.zero_le _)) 2).2.f) (Nat.zero_le _)) ((numR (Rd.mk S 0 E (Nat.zero_le _)) 2).1.1.toNat : Nat)).1.2 ≠ 0)) = true) => ?_) (fun (hb4 : (decide ((takeR (Rd.mk ((numR (Rd.mk S 0 E (Nat.zero_le _)) 2).2.rest) 0 ((numR (Rd.mk S 0 E (Nat.zero_le _)) 2).2.f) (Nat.zero_le _)) ((numR (Rd.mk S 0 E (Nat.zero_le _)) 2).1.1.toNat : Nat)).1.2 ≠ 0)) = false) => ?_)
    ·
      have hc4 := of_decide_eq_true hb4
      refine WC.region ?_
      refine WL.op rfl rfl (op_move rfl ?_)
      refine WL.op rfl rfl (op_move rfl ?_)
      refine WL.op rfl rfl (op_nilCheck rfl ?_)
      refine WL.op rfl rfl (op_fieldAddr rfl Fa.F47_0 ?_)
      refine WL.op rfl rfl (op_storeB (i := 0) H3 rfl rfl rfl rfl rfl Fa.I9 (fun w5 H5 => ?_))
      refine WL.nil ?_
      refine WQ.next ?_
      refine WC.seq ?_
      refine WC.region ?_
      refine WL.op rfl rfl (op_move rfl ?_)
      refine WL.op rfl rfl (op_move rfl ?_)
      refine WL.op rfl rfl (op_assign rfl ?_)
      refine WL.op rfl rfl (op_assign rfl ?_)
      refine WL.nil ?_
      refine WQ.next ?_
      refine WC.ret ?_
      refine WQ.out (.tmp rfl (.tmp rfl .nil)) ?_
      rw [htk.1] at hc4
      rw [textR, if_neg hc2, if_pos hc4]
      exact ⟨by rw [htk.1]; rfl, (by have h := (show Own T w w5 [.blk q [(str S), (vN (takeR (Rd.mk ((numR (Rd.mk S 0 E (Nat.zero_le _)) 2).2.rest) 0 ((numR (Rd.mk S 0 E (Nat.zero_le _)) 2).2.f) (Nat.zero_le _)) ((numR (Rd.mk S 0 E (Nat.zero_le _)) 2).1.1.toNat : Nat)).2.f)] 47] from H5); rw [htk.2.2] at h; simpa only [Rd.rest, List.drop_zero] using h)⟩
    ·
      have hc4 := of_decide_eq_false hb4
      refine WC.skip ?_
      refine WQ.next ?_
      refine WC.seq ?_
      refine WC.region ?_
      refine WL.op rfl rfl (op_move rfl ?_)
      refine WL.op rfl rfl (op_move rfl ?_)
      refine WL.op rfl rfl (op_assign rfl ?_)
      refine WL.op rfl rfl (op_assign rfl ?_)
      refine WL.nil ?_
      refine WQ.next ?_
      refine WC.ret ?_
      refine WQ.out (.tmp rfl (.tmp rfl .nil)) ?_
      rw [htk.1] at hc4
      rw [textR, if_neg hc2, if_neg hc4]
      exact ⟨by rw [htk.1]; rfl, (by have h := (show Own T w w3 [.blk q [(str (takeR (Rd.mk ((numR (Rd.mk S 0 E (Nat.zero_le _)) 2).2.rest) 0 ((numR (Rd.mk S 0 E (Nat.zero_le _)) 2).2.f) (Nat.zero_le _)) ((numR (Rd.mk S 0 E (Nat.zero_le _)) 2).1.1.toNat : Nat)).2.rest), (vN (takeR (Rd.mk ((numR (Rd.mk S 0 E (Nat.zero_le _)) 2).2.rest) 0 ((numR (Rd.mk S 0 E (Nat.zero_le _)) 2).2.f) (Nat.zero_le _)) ((numR (Rd.mk S 0 E (Nat.zero_le _)) 2).1.1.toNat : Nat)).2.f)] 47] from H3); rw [htk.2.1, htk.2.2] at h; exact h)⟩
set_option maxRecDepth 100000 in
theorem fend_ok (q : Nat) (S : List UInt8) (E : Nat) (T : List Nat) (w : World) (H : Own T w w [.blk q [(str S), (vN E)] 47]) (hr : S.length < 2 ^ 47) :
    Calls Try.prog 35 #[(ptr q 0)] w (fun e w' => e = .returned (vN (endR (Rd.mk S 0 E (Nat.zero_le _))).1) ∧ Own T w w' [.blk q [str (endR (Rd.mk S 0 E (Nat.zero_le _))).2.rest, vN (endR (Rd.mk S 0 E (Nat.zero_le _))).2.f] 47]) := by
  refine enter (args := [(ptr q 0)]) Try.func35 rfl rfl ?_
  refine WC.seq ?_
  refine WC.region ?_
  refine WL.op rfl rfl (op_assign rfl ?_)
  refine WL.nil ?_
  refine WQ.next ?_
  refine WC.seq ?_
  refine WC.seq ?_
  refine WC.region ?_
  refine WL.op rfl rfl (op_move rfl ?_)
  refine WL.op rfl rfl (op_nilCheck rfl ?_)
  refine WL.op rfl rfl (op_fieldAddr rfl Fa.F47_1 ?_)
  refine WL.op rfl rfl (op_load rfl (H.cell (i := 0) rfl rfl) Try.underlying26 rfl ?_)
  refine WL.op rfl rfl (op_neqN (b := 0) rfl rfl ?_)
  refine WL.nil ?_
  refine WQ.next ?_
  refine WC.cond rfl (fun (hb1 : (decide (E ≠ 0)) = true) => ?_) (fun (hb1 : (decide (E ≠ 0)) = false) => ?_)
  ·
    have hc1 := of_decide_eq_true hb1
    refine WC.seq ?_
    refine WC.region ?_
    refine WL.op rfl rfl (op_move rfl ?_)
    refine WL.op rfl rfl (op_nilCheck rfl ?_)
    refine WL.op rfl rfl (op_fieldAddr rfl Fa.F47_1 ?_)
    refine WL.op rfl rfl (op_load rfl (H.cell (i := 0) rfl rfl) Try.underlying26 rfl ?_)
    refine WL.op rfl rfl (op_assign rfl ?_)
    refine WL.nil ?_
    refine WQ.next ?_
    refine WC.ret ?_
    refine WQ.thenRet ?_
    refine WQ.out (.tmp rfl .nil) ?_
    rw [endR, if_pos (show (Rd.mk S 0 E (Nat.zero_le _)).f ≠ 0 from hc1)]
    exact ⟨rfl, (by have h := (show Own T w w [.blk q [(str S), (vN E)] 47] from H); simpa only [Rd.rest, Rd.bad, Rd.on, List.drop_zero, Nat.zero_add] using h)⟩
  ·
    have hc1 := of_decide_eq_false hb1
    refine WC.skip ?_
    refine WQ.next ?_
    refine WC.seq ?_
    refine WC.seq ?_
    refine WC.region ?_
    refine WL.op rfl rfl (op_move rfl ?_)
    refine WL.op rfl rfl (op_nilCheck rfl ?_)
    refine WL.op rfl rfl (op_fieldAddr rfl Fa.F47_0 ?_)
    refine WL.op rfl rfl (op_load rfl (H.cell (i := 0) rfl rfl) Try.underlying9 rfl ?_)
    refine WL.op rfl rfl (op_neqStr rfl rfl ?_)
    refine WL.nil ?_
    refine WQ.next ?_
    refine WC.cond rfl (fun (hb2 : (decide (S ≠ [])) = true) => ?_) (fun (hb2 : (decide (S ≠ [])) = false) => ?_)
    ·
      have hc2 := of_decide_eq_true hb2
      refine WC.seq ?_
      refine WC.region ?_
      refine WL.op rfl rfl (op_move rfl ?_)
      refine WL.op rfl rfl (op_callF Fa.C78 rfl ((fails_ok q S E 7 _ _ (H.part [0] rfl rfl)).mono (fun e w3 hq => ?_)))
      obtain ⟨rfl, hq3⟩ := hq
      refine ⟨_, rfl, ?_⟩
      have H3 : Own T w w3 [.blk q [(str S), (vN 7)] 47] := H.splice [0] [.blk q [(str S), (vN 7)] 47] [] rfl rfl hq3 (Fits.solid True.intro Fits.nil)
      refine WL.op rfl rfl (op_assign rfl ?_)
      refine WL.nil ?_
      refine WQ.next ?_
      refine WC.ret ?_
      refine WQ.thenRet ?_
      refine WQ.out (.tmp rfl .nil) ?_
      rw [endR, if_neg (show ¬ ((Rd.mk S 0 E (Nat.zero_le _)).f ≠ 0) from hc1), if_pos (show S.length - 0 > 0 from List.length_pos_iff.2 hc2)]
      exact ⟨rfl, (by have h := (show Own T w w3 [.blk q [(str S), (vN 7)] 47] from H3); simpa only [Rd.rest, Rd.bad, Rd.on, List.drop_zero, Nat.zero_add] using h)⟩
    ·
      have hc2 := of_decide_eq_false hb2
      refine WC.skip ?_
      refine WQ.next ?_
      refine WC.seq ?_
      refine WC.region ?_
      refine WL.op rfl rfl (op_assign rfl ?_)
      refine WL.nil ?_
      refine WQ.next ?_
      refine WC.ret ?_
      refine WQ.out (.tmp rfl .nil) ?_
      rw [endR, if_neg (show ¬ ((Rd.mk S 0 E (Nat.zero_le _)).f ≠ 0) from hc1), if_neg (show ¬ (S.length - 0 > 0) from fun h => hc2 (List.length_pos_iff.1 h))]
      exact ⟨rfl, (by have h := (show Own T w w [.blk q [(str S), (vN E)] 47] from H); simpa only [Rd.rest, Rd.bad, Rd.on, List.drop_zero, Nat.zero_add] using h)⟩
set_option maxRecDepth 100000 in
theorem ftexts_ok (q : Nat) (S : List UInt8) (E : Nat) (T : List Nat) (w : World) (H : Own T w w [.blk q [(str S), (vN E)] 47]) (hr : S.length < 2 ^ 47) :
    Calls Try.prog 34 #[(ptr q 0)] w (fun e w' => ∃ v, e = .returned (.tuple #[v, vN (textsR (Rd.mk S 0 E (Nat.zero_le _))).1.2]) ∧ Own T w w' [.blk q [str (textsR (Rd.mk S 0 E (Nat.zero_le _))).2.rest, vN (textsR (Rd.mk S 0 E (Nat.zero_le _))).2.f] 47, .row v 9 1 (textsR (Rd.mk S 0 E (Nat.zero_le _))).1.1.length (List.map str (textsR (Rd.mk S 0 E (Nat.zero_le _))).1.1)]) := by
  refine enter (args := [(ptr q 0)]) Try.func34 rfl rfl ?_
  refine WC.seq ?_
  refine WC.region ?_
  refine WL.op rfl rfl (op_assign rfl ?_)
  refine WL.op rfl rfl (op_assign rfl ?_)
  refine WL.nil ?_
  refine WQ.next ?_
  refine WC.seq ?_
  refine WC.region ?_
  refine WL.op rfl rfl (op_move rfl ?_)
  refine WL.op rfl rfl (op_nilCheck rfl ?_)
  refine WL.op rfl rfl (op_fieldAddr rfl Fa.F47_0 ?_)
  refine WL.op rfl rfl (op_load rfl (H.cell (i := 0) rfl rfl) Try.underlying9 rfl ?_)
  refine WL.op rfl rfl (op_assign rfl ?_)
  refine WL.nil ?_
  refine WQ.next ?_
  refine WC.seq ?_
  refine WC.region ?_
  refine WL.op rfl rfl (op_move rfl ?_)
  refine WL.op rfl rfl (op_callF Fa.C32 rfl ((fnum_ok q S E (2) _ _ (H.part [0] rfl rfl) (by first | exact hr | exact rest_lt (by first | (rw [numR_s]; exact hr) | (rw [txR_s, numR_s]; exact hr)))).mono (fun e w1 hq => ?_)))
  obtain ⟨rfl, hq1⟩ := hq
  refine ⟨_, rfl, ?_⟩
  have H1 : Own T w w1 [.blk q [(str (numR (Rd.mk S 0 E (Nat.zero_le _)) 2).2.rest), (vN (numR (Rd.mk S 0 E (Nat.zero_le _)) 2).2.f)] 47] := H.splice [0] [.blk q [(str (numR (Rd.mk S 0 E (Nat.zero_le _)) 2).2.rest), (vN (numR (Rd.mk S 0 E (Nat.zero_le _)) 2).2.f)] 47] [] rfl rfl hq1 (Fits.solid True.intro Fits.nil)
  refine WL.op rfl rfl (op_move rfl ?_)
  refine WL.op rfl rfl (op_extract rfl rfl ?_)
  refine WL.op rfl rfl (op_extract rfl rfl ?_)
  refine WL.op rfl rfl (op_assign rfl ?_)
  refine WL.op rfl rfl (op_assign rfl ?_)
  refine WL.nil ?_
  refine WQ.next ?_
  refine WC.seq ?_
  refine WC.seq ?_
  refine WC.region ?_
  refine WL.op rfl rfl (op_move rfl ?_)
  refine WL.op rfl rfl (op_neqN (b := 0) rfl rfl ?_)
  refine WL.nil ?_
  refine WQ.next ?_
  refine WC.cond rfl (fun (hb2 : (decide ((numR (Rd.mk S 0 E (Nat.zero_le _)) 2).1.2 ≠ 0)) = true) => ?_) (fun (hb2 : (decide ((numR (Rd.mk S 0 E (Nat.zero_le _)) 2).1.2 ≠ 0)) = false) => ?_)
  ·
    have hc2 := of_decide_eq_true hb2
    refine WC.seq ?_
    refine WC.region ?_
    refine WL.op rfl rfl (op_move rfl ?_)
    refine WL.op rfl rfl (op_assign rfl ?_)
    refine WL.op rfl rfl (op_assign rfl ?_)
    refine WL.nil ?_
    refine WQ.next ?_
    refine WC.ret ?_
    refine WQ.thenRet ?_
    refine WQ.out (.tmp rfl (.tmp rfl .nil)) ?_
    rw [textsR, if_pos hc2]
    exact ⟨_, rfl, H1.nilRow _ _⟩
  ·
    have hc2 := of_decide_eq_false hb2
    refine WC.skip ?_
    refine WQ.next ?_
    refine WC.seq ?_
    refine WC.seq ?_
    refine WC.region ?_
    refine WL.op rfl rfl (op_move rfl ?_)
    refine WL.op rfl rfl (op_gtrU32 (b := 4096) rfl rfl ?_)
    refine WL.nil ?_
    refine WQ.next ?_
    refine WC.cond rfl (fun (hb3 : (decide ((numR (Rd.mk S 0 E (Nat.zero_le _)) 2).1.1 > (4096 : UInt32))) = true) => ?_) (fun (hb3 : (decide ((numR (Rd.mk S 0 E (Nat.zero_le _)) 2).1.1 > (4096 : UInt32))) = false) => ?_)
    ·
      have hc3 := of_decide_eq_true hb3
      refine WC.seq ?_
      refine WC.region ?_
      refine WL.op rfl rfl (op_move rfl ?_)
      refine WL.op rfl rfl (op_move rfl ?_)
      refine WL.op rfl rfl (op_nilCheck rfl ?_)
      refine WL.op rfl rfl (op_fieldAddr rfl Fa.F47_0 ?_)
      refine WL.op rfl rfl (op_storeB (i := 0) H1 rfl rfl rfl rfl rfl Fa.I9 (fun w4 H4 => ?_))
      refine WL.nil ?_
      refine WQ.next ?_
      refine WC.seq ?_
      refine WC.region ?_
      refine WL.op rfl rfl (op_move rfl ?_)
      refine WL.op rfl rfl (op_callF Fa.C78 rfl ((fails_ok q S ((numR (Rd.mk S 0 E (Nat.zero_le _)) 2).2.f) 7 _ _ (H4.part [0] rfl rfl)).mono (fun e w6 hq => ?_)))
      obtain ⟨rfl, hq6⟩ := hq
      refine ⟨_, rfl, ?_⟩
      have H6 : Own T w w6 [.blk q [(str S), (vN 7)] 47] := H4.splice [0] [.blk q [(str S), (vN 7)] 47] [] rfl rfl hq6 (Fits.solid True.intro Fits.nil)
      refine WL.op rfl rfl (op_assign rfl ?_)
      refine WL.op rfl rfl (op_assign rfl ?_)
      refine WL.nil ?_
      refine WQ.next ?_
      refine WC.ret ?_
      refine WQ.thenRet ?_
      refine WQ.out (.tmp rfl (.tmp rfl .nil)) ?_
      rw [textsR, if_neg hc2, if_pos hc3]
      have h := (show Own T w w6 [.blk q [(str S), (vN 7)] 47] from H6)
      have h2 : Own T w w6 [.blk q [str (Rd.mk S 0 7 (Nat.zero_le _)).rest, vN 7] 47] := (by simpa only [Rd.rest, List.drop_zero] using h)
      exact ⟨_, rfl, h2.nilRow _ _⟩
    ·
      have hc3 := of_decide_eq_false hb3
      refine WC.skip ?_
      refine WQ.next ?_
      refine WC.seq ?_
      refine WC.region ?_
      refine WL.op rfl rfl (op_assign rfl ?_)
      have H7 := H1.nilRow 9 1
      refine WL.nil ?_
      refine WQ.next ?_
      refine WC.seq ?_
      refine WC.seq ?_
      refine WC.region ?_
      refine WL.op rfl rfl (op_assign rfl ?_)
      refine WL.nil ?_
      refine WQ.next ?_
      refine WC.block ?_
      refine WC.loop (α := Nat × Value) (fun (k, v) => [(0, (ptr q 0)), (4, (str S)), (5, (vU32 (numR (Rd.mk S 0 E (Nat.zero_le _)) 2).1.1)), (7, v), (8, (vN k))]) (fun (k, v) w' => (k ≤ (numR (Rd.mk S 0 E (Nat.zero_le _)) 2).1.1.toNat ∧ (∀ j, j < k → (textR (txR (numR (Rd.mk S 0 E (Nat.zero_le _)) 2).2 j)).1.2 = 0)) ∧ Own T w w' [.blk q [(str (txR (numR (Rd.mk S 0 E (Nat.zero_le _)) 2).2 k).rest), (vN (txR (numR (Rd.mk S 0 E (Nat.zero_le _)) 2).2 k).f)] 47, .row v 9 1 k (List.map str (txL (numR (Rd.mk S 0 E (Nat.zero_le _)) 2).2 k))]) (fun (k, v) => (numR (Rd.mk S 0 E (Nat.zero_le _)) 2).1.1.toNat - k) (0, (.slice none 0 0)) ⟨⟨Nat.zero_le _, fun j h => by omega⟩, H7⟩ ⟨rfl, rfl, rfl, rfl, rfl, trivial⟩ ?_
      rintro ⟨k, v⟩ w8 ⟨⟨hk1, hok⟩, H8⟩
      show WC _ _ _ _ _ [(0, (ptr q 0)), (4, (str S)), (5, (vU32 (numR (Rd.mk S 0 E (Nat.zero_le _)) 2).1.1)), (7, v), (8, (vN k))] _
      have hn4 : (numR (Rd.mk S 0 E (Nat.zero_le _)) 2).1.1.toNat ≤ 4096 := by have := hc3; rw [gt_iff_lt, UInt32.lt_iff_toNat_lt] at this; exact Nat.le_of_not_lt this
      have hlk := (Like.re (txR (numR (Rd.mk S 0 E (Nat.zero_le _)) 2).2 k)).text
      refine WC.seq ?_
      refine WC.seq ?_
      refine WC.region ?_
      refine WL.op rfl rfl (op_move rfl ?_)
      refine WL.op rfl rfl (op_move rfl ?_)
      refine WL.op rfl rfl (op_convU32N (hs := Try.underlying22) (hd := Try.underlying3) rfl ?_)
      refine WL.op rfl rfl (op_lssN rfl rfl ?_)
      refine WL.nil ?_
      refine WQ.next ?_
      refine WC.cond rfl (fun (hb9 : (decide (k < (numR (Rd.mk S 0 E (Nat.zero_le _)) 2).1.1.toNat)) = true) => ?_) (fun (hb9 : (decide (k < (numR (Rd.mk S 0 E (Nat.zero_le _)) 2).1.1.toNat)) = false) => ?_)
      ·
        have hc9 := of_decide_eq_true hb9
        refine WC.skip ?_
        refine WQ.next ?_
        refine WC.seq ?_
        refine WC.block ?_
        refine WC.seq ?_
        refine WC.region ?_
        refine WL.op rfl rfl (op_move rfl ?_)
        refine WL.op rfl rfl (op_callF Fa.C33 rfl ((ftext_ok q ((txR (numR (Rd.mk S 0 E (Nat.zero_le _)) 2).2 k).rest) ((txR (numR (Rd.mk S 0 E (Nat.zero_le _)) 2).2 k).f)  _ _ (H8.part [0] rfl rfl) (by first | exact hr | exact rest_lt (by first | (rw [numR_s]; exact hr) | (rw [txR_s, numR_s]; exact hr)))).mono (fun e w10 hq => ?_)))
        obtain ⟨rfl, hq10⟩ := hq
        refine ⟨_, rfl, ?_⟩
        have H10 : Own T w w10 [.blk q [(str (textR (Rd.mk ((txR (numR (Rd.mk S 0 E (Nat.zero_le _)) 2).2 k).rest) 0 ((txR (numR (Rd.mk S 0 E (Nat.zero_le _)) 2).2 k).f) (Nat.zero_le _))).2.rest), (vN (textR (Rd.mk ((txR (numR (Rd.mk S 0 E (Nat.zero_le _)) 2).2 k).rest) 0 ((txR (numR (Rd.mk S 0 E (Nat.zero_le _)) 2).2 k).f) (Nat.zero_le _))).2.f)] 47, .row v 9 1 k (List.map str (txL (numR (Rd.mk S 0 E (Nat.zero_le _)) 2).2 k))] := H8.splice [0] [.blk q [(str (textR (Rd.mk ((txR (numR (Rd.mk S 0 E (Nat.zero_le _)) 2).2 k).rest) 0 ((txR (numR (Rd.mk S 0 E (Nat.zero_le _)) 2).2 k).f) (Nat.zero_le _))).2.rest), (vN (textR (Rd.mk ((txR (numR (Rd.mk S 0 E (Nat.zero_le _)) 2).2 k).rest) 0 ((txR (numR (Rd.mk S 0 E (Nat.zero_le _)) 2).2 k).f) (Nat.zero_le _))).2.f)] 47] [] rfl rfl hq10 (Fits.solid True.intro Fits.nil)
        refine WL.op rfl rfl (op_move rfl ?_)
        refine WL.op rfl rfl (op_extract rfl rfl ?_)
        refine WL.op rfl rfl (op_extract rfl rfl ?_)
        refine WL.op rfl rfl (op_assign rfl ?_)
        refine WL.op rfl rfl (op_assign rfl ?_)
        refine WL.nil ?_
        refine WQ.next ?_
        refine WC.seq ?_
        refine WC.seq ?_
        refine WC.region ?_
        refine WL.op rfl rfl (op_move rfl ?_)
        refine WL.op rfl rfl (op_neqN (b := 0) rfl rfl ?_)
        refine WL.nil ?_
        refine WQ.next ?_
        refine WC.cond rfl (fun (hb11 : (decide ((textR (Rd.mk ((txR (numR (Rd.mk S 0 E (Nat.zero_le _)) 2).2 k).rest) 0 ((txR (numR (Rd.mk S 0 E (Nat.zero_le _)) 2).2 k).f) (Nat.zero_le _))).1.2 ≠ 0)) = true) => ?_) (fun (hb11 : (decide ((textR (Rd.mk ((txR (numR (Rd.mk S 0 E (Nat.zero_le _)) 2).2 k).rest) 0 ((txR (numR (Rd.mk S 0 E (Nat.zero_le _)) 2).2 k).f) (Nat.zero_le _))).1.2 ≠ 0)) = false) => ?_)
        ·
          have hc11 := of_decide_eq_true hb11
          refine WC.seq ?_
          refine WC.region ?_
          refine WL.op rfl rfl (op_move rfl ?_)
          refine WL.op rfl rfl (op_move rfl ?_)
          refine WL.op rfl rfl (op_nilCheck rfl ?_)
          refine WL.op rfl rfl (op_fieldAddr rfl Fa.F47_0 ?_)
          refine WL.op rfl rfl (op_storeB (i := 0) H10 rfl rfl rfl rfl rfl Fa.I9 (fun w12 H12 => ?_))
          refine WL.nil ?_
          refine WQ.next ?_
          refine WC.seq ?_
          refine WC.region ?_
          refine WL.op rfl rfl (op_move rfl ?_)
          refine WL.op rfl rfl (op_assign rfl ?_)
          refine WL.op rfl rfl (op_assign rfl ?_)
          refine WL.nil ?_
          refine WQ.next ?_
          refine WC.ret ?_
          refine WQ.thenRet ?_
          refine WQ.inRet ?_
          refine WQ.thenRet ?_
          refine WQ.thenRet ?_
          refine WQ.inRet ?_
          refine WQ.thenRet ?_
          refine WQ.out (.tmp rfl (.tmp rfl .nil)) ?_
          rw [textsR, if_neg hc2, if_neg hc3, txBad_out hok (k := k) (by rw [← hlk.1]; exact hc11) (by omega)]
          have h : Own T w w12 [.blk q [(str S), (vN (textR (Rd.mk ((txR (numR (Rd.mk S 0 E (Nat.zero_le _)) 2).2 k).rest) 0 ((txR (numR (Rd.mk S 0 E (Nat.zero_le _)) 2).2 k).f) (Nat.zero_le _))).2.f)] 47] := H12.take 1
          rw [show (Rd.mk (txR (numR (Rd.mk S 0 E (Nat.zero_le _)) 2).2 k).rest 0 (txR (numR (Rd.mk S 0 E (Nat.zero_le _)) 2).2 k).f (Nat.zero_le _)) = (txR (numR (Rd.mk S 0 E (Nat.zero_le _)) 2).2 k).re from rfl, hlk.2.2] at h
          exact ⟨_, by rw [show (Rd.mk (txR (numR (Rd.mk S 0 E (Nat.zero_le _)) 2).2 k).rest 0 (txR (numR (Rd.mk S 0 E (Nat.zero_le _)) 2).2 k).f (Nat.zero_le _)) = (txR (numR (Rd.mk S 0 E (Nat.zero_le _)) 2).2 k).re from rfl, hlk.1]; rfl, Own.nilRow (show Own T w w12 [.blk q [str (Rd.mk S 0 (textR (txR (numR (Rd.mk S 0 E (Nat.zero_le _)) 2).2 k)).2.f (Nat.zero_le _)).rest, vN (textR (txR (numR (Rd.mk S 0 E (Nat.zero_le _)) 2).2 k)).2.f] 47] from by simpa only [Rd.rest, List.drop_zero] using h) _ _⟩
        ·
          have hc11 := of_decide_eq_false hb11
          refine WC.skip ?_
          refine WQ.next ?_
          refine WC.region ?_
          refine WL.op rfl rfl (op_move rfl ?_)
          refine WL.op rfl rfl (op_move rfl ?_)
          refine WL.op rfl rfl (op_buildSlice (cs := [_]) H10 Try.underlying23 Fa.I9 rfl rfl rfl rfl (by decide) (by decide) (fun b13 w13 H13 => ?_))
          refine WL.op rfl rfl (op_appendM (f := str) (l := (txL (numR (Rd.mk S 0 E (Nat.zero_le _)) 2).2 k)) (l' := [(textR (Rd.mk ((txR (numR (Rd.mk S 0 E (Nat.zero_le _)) 2).2 k).rest) 0 ((txR (numR (Rd.mk S 0 E (Nat.zero_le _)) 2).2 k).f) (Nat.zero_le _))).1.1]) (i := 1) H13 Try.underlying23 Fa.I9 rfl rfl rfl rfl (Src.ofArr Try.underlying23 (H13.arrR (i := 2) rfl)) (one_mapM (fun _ => rfl)) (by omega) (by omega) (fun v14 w14 H14 => ?_))
          refine WL.op rfl rfl (op_assign rfl ?_)
          refine WL.nil ?_
          refine WQ.inNormal ?_
          refine WQ.next ?_
          refine WC.region ?_
          refine WL.op rfl rfl (op_move rfl ?_)
          refine WL.op rfl rfl (op_addN (b := 1) rfl rfl (by omega) ?_)
          refine WL.op rfl rfl (op_assign rfl ?_)
          refine WL.nil ?_
          exact WQ.round (k + 1, v14) ⟨⟨by omega, nextP hok (by rw [← hlk.1]; exact Decidable.not_not.mp hc11)⟩, (by have h := (show Own T w w14 [.blk q [(str (textR (Rd.mk ((txR (numR (Rd.mk S 0 E (Nat.zero_le _)) 2).2 k).rest) 0 ((txR (numR (Rd.mk S 0 E (Nat.zero_le _)) 2).2 k).f) (Nat.zero_le _))).2.rest), (vN (textR (Rd.mk ((txR (numR (Rd.mk S 0 E (Nat.zero_le _)) 2).2 k).rest) 0 ((txR (numR (Rd.mk S 0 E (Nat.zero_le _)) 2).2 k).f) (Nat.zero_le _))).2.f)] 47, .row v14 9 1 (k + 1) (List.map str ((txL (numR (Rd.mk S 0 E (Nat.zero_le _)) 2).2 k) ++ [(textR (Rd.mk ((txR (numR (Rd.mk S 0 E (Nat.zero_le _)) 2).2 k).rest) 0 ((txR (numR (Rd.mk S 0 E (Nat.zero_le _)) 2).2 k).f) (Nat.zero_le _))).1.1]))] from (H14.take 2)); rw [show (Rd.mk (txR (numR (Rd.mk S 0 E (Nat.zero_le _)) 2).2 k).rest 0 (txR (numR (Rd.mk S 0 E (Nat.zero_le _)) 2).2 k).f (Nat.zero_le _)) = (txR (numR (Rd.mk S 0 E (Nat.zero_le _)) 2).2 k).re from rfl, hlk.1, hlk.2.1, hlk.2.2] at h; exact h)⟩ ⟨rfl, rfl, rfl, rfl, rfl, trivial⟩ (by show (numR (Rd.mk S 0 E (Nat.zero_le _)) 2).1.1.toNat - (k + 1) < (numR (Rd.mk S 0 E (Nat.zero_le _)) 2).1.1.toNat - k; omega)
      ·
        have hc9 := of_decide_eq_false hb9
        refine WC.exit ?_
        refine WQ.thenExit ?_
        refine WQ.thenExit ?_
        refine WQ.inHere ?_
        refine WQ.next ?_
        refine WC.seq ?_
        refine WC.region ?_
        refine WL.op rfl rfl (op_move rfl ?_)
        refine WL.op rfl rfl (op_assign rfl ?_)
        refine WL.op rfl rfl (op_assign rfl ?_)
        refine WL.nil ?_
        refine WQ.next ?_
        refine WC.ret ?_
        refine WQ.out (.tmp rfl (.tmp rfl .nil)) ?_
        have hk : k = (numR (Rd.mk S 0 E (Nat.zero_le _)) 2).1.1.toNat := (by omega)
        rw [textsR, if_neg hc2, if_neg hc3, txBad_no (n := (numR (Rd.mk S 0 E (Nat.zero_le _)) 2).1.1.toNat) (hk ▸ hok)]
        subst hk
        exact ⟨_, rfl, Own.rowEqN (i := 1) (f := str) H8 rfl rfl (txL_len _ _).symm⟩
set_option maxRecDepth 100000 in
theorem same07_ok (va vb : Value) (a b : List (List UInt8)) (na nb : Nat) (w : World) (hA : Arr w va 1 na (List.map str a)) (hB : Arr w vb 1 nb (List.map str b)) (hn : na < 2 ^ 40) :
    Calls Try.prog 23 #[va, vb] w (fun e w' => e = .returned (.bool (decide (a = b))) ∧ Fr [] w w') := by
  refine enter (args := [va, vb]) Try.func23 rfl rfl ?_
  have H0 : Own [] w w [] := Own.start w []
  obtain rfl := hA.mapLen
  obtain rfl := hB.mapLen
  refine WC.seq ?_
  refine WC.region ?_
  refine WL.op rfl rfl (op_assign rfl ?_)
  refine WL.nil ?_
  refine WQ.next ?_
  refine WC.seq ?_
  refine WC.seq ?_
  refine WC.region ?_
  refine WL.op rfl rfl (op_move rfl ?_)
  refine WL.op rfl rfl (op_lenA Try.underlying23 rfl (H0.arr hA) ?_)
  refine WL.op rfl rfl (op_move rfl ?_)
  refine WL.op rfl rfl (op_lenA Try.underlying23 rfl (H0.arr hB) ?_)
  refine WL.op rfl rfl (op_neqN rfl rfl ?_)
  refine WL.nil ?_
  refine WQ.next ?_
  refine WC.cond rfl (fun (hb1 : (decide (a.length ≠ b.length)) = true) => ?_) (fun (hb1 : (decide (a.length ≠ b.length)) = false) => ?_)
  ·
    have hc1 := of_decide_eq_true hb1
    refine WC.seq ?_
    refine WC.region ?_
    refine WL.op rfl rfl (op_assign rfl ?_)
    refine WL.nil ?_
    refine WQ.next ?_
    refine WC.ret ?_
    refine WQ.thenRet ?_
    refine WQ.out (.tmp rfl .nil) ?_
    exact ⟨by rw [decide_eq_false (fun h : a = b => hc1 (by rw [h]))]; rfl, H0.fr⟩
  ·
    have hc1 := of_decide_eq_false hb1
    refine WC.skip ?_
    refine WQ.next ?_
    refine WC.seq ?_
    refine WC.seq ?_
    refine WC.region ?_
    refine WL.op rfl rfl (op_assign rfl ?_)
    refine WL.nil ?_
    refine WQ.next ?_
    refine WC.block ?_
    refine WC.loop (α := Nat) (fun k => [(0, va), (1, vb), (5, (vN k))]) (fun k w' => (k ≤ a.length ∧ (∀ j, j < k → a.getD j [] = b.getD j [])) ∧ Own [] w w' []) (fun k => a.length - k) 0 ⟨⟨Nat.zero_le _, fun j h => by omega⟩, H0⟩ ⟨rfl, rfl, rfl, trivial⟩ ?_
    rintro k w2 ⟨⟨hk1, hok⟩, H2⟩
    show WC _ _ _ _ _ [(0, va), (1, vb), (5, (vN k))] _
    refine WC.seq ?_
    refine WC.seq ?_
    refine WC.region ?_
    refine WL.op rfl rfl (op_move rfl ?_)
    refine WL.op rfl rfl (op_move rfl ?_)
    refine WL.op rfl rfl (op_lenA Try.underlying23 rfl (H2.arr hA) ?_)
    refine WL.op rfl rfl (op_lssN rfl rfl ?_)
    refine WL.nil ?_
    refine WQ.next ?_
    refine WC.cond rfl (fun (hb3 : (decide (k < a.length)) = true) => ?_) (fun (hb3 : (decide (k < a.length)) = false) => ?_)
    ·
      have hc3 := of_decide_eq_true hb3
      refine WC.skip ?_
      refine WQ.next ?_
      refine WC.seq ?_
      refine WC.block ?_
      refine WC.seq ?_
      refine WC.draw 9 Fa.M H2 (HW.op rfl (fun w1 H1 => op_move rfl ⟨rfl, Fr.refl _ _⟩) (HW.op rfl (fun w1 H1 => op_move rfl ⟨rfl, Fr.refl _ _⟩) (HW.op rfl (fun w1 H1 => op_indexAddr1 Try.underlying23 Fa.I9 rfl (H1.arr hA) rfl (by omega) ⟨rfl, Fr.refl _ _⟩) (HW.op rfl (fun w1 H1 => op_load rfl ((H1.arr hA).at (get_map str [] (Arr.ltM (H1.arr hA) (by omega)))) Try.underlying9 rfl ⟨rfl, Fr.refl _ _⟩) (HW.op rfl (fun w1 H1 => op_move rfl ⟨rfl, Fr.refl _ _⟩) (HW.op rfl (fun w1 H1 => op_move rfl ⟨rfl, Fr.refl _ _⟩) (HW.op rfl (fun w1 H1 => op_indexAddr1 Try.underlying23 Fa.I9 rfl (H1.arr hB) rfl (by omega) ⟨rfl, Fr.refl _ _⟩) (HW.op rfl (fun w1 H1 => op_load rfl ((H1.arr hB).at (get_map str [] (Arr.ltM (H1.arr hB) (by omega)))) Try.underlying9 rfl ⟨rfl, Fr.refl _ _⟩) (HW.op rfl (fun w1 H1 => op_neqStr rfl rfl ⟨rfl, Fr.refl _ _⟩)  HW.nil))))))))) (by kernel_rfl) ?_
      intro β4 w4 H4
      refine WL.nil ?_
      refine WQ.next ?_
      refine WC.cond rfl (fun (hb5 : (decide ((a.getD k []) ≠ (b.getD k []))) = true) => ?_) (fun (hb5 : (decide ((a.getD k []) ≠ (b.getD k []))) = false) => ?_)
      ·
        have hc5 := of_decide_eq_true hb5
        refine WC.seq ?_
        refine WC.region ?_
        refine WL.op rfl rfl (op_assign rfl ?_)
        refine WL.nil ?_
        refine WQ.next ?_
        refine WC.ret ?_
        refine WQ.inRet ?_
        refine WQ.thenRet ?_
        refine WQ.thenRet ?_
        refine WQ.inRet ?_
        refine WQ.thenRet ?_
        refine WQ.out (.tmp rfl .nil) ?_
        exact ⟨by rw [decide_eq_false (fun h : a = b => hc5 (by rw [h]))]; rfl, H4.fr⟩
      ·
        have hc5 := of_decide_eq_false hb5
        refine WC.skip ?_
        refine WQ.inNormal ?_
        refine WQ.next ?_
        refine WC.region ?_
        refine WL.op rfl rfl (op_move rfl ?_)
        refine WL.op rfl rfl (op_addN (b := 1) rfl rfl (by omega) ?_)
        refine WL.op rfl rfl (op_assign rfl ?_)
        refine WL.nil ?_
        exact WQ.round (k + 1) ⟨⟨by omega, nextP hok (Decidable.not_not.mp hc5)⟩, H4⟩ ⟨rfl, rfl, rfl, trivial⟩ (by omega)
    ·
      have hc3 := of_decide_eq_false hb3
      refine WC.exit ?_
      refine WQ.thenExit ?_
      refine WQ.thenExit ?_
      refine WQ.inHere ?_
      refine WQ.next ?_
      refine WC.seq ?_
      refine WC.region ?_
      refine WL.op rfl rfl (op_assign rfl ?_)
      refine WL.nil ?_
      refine WQ.next ?_
      refine WC.ret ?_
      refine WQ.out (.tmp rfl .nil) ?_
      exact ⟨by rw [decide_eq_true (list_eq (by omega) (fun j hj => hok j (by omega)))]; rfl, H2.fr⟩
set_option maxRecDepth 100000 in
theorem large07_ok (lv : Value) (l : List (List UInt8)) (nl : Nat) (w : World) (hA : Arr w lv 1 nl (List.map str l)) (hB : ∀ x ∈ l, x.length ≤ 140737488351232) (hn : nl < 2 ^ 50) :
    Calls Try.prog 15 #[lv] w (fun e w' => e = .returned (.bool (large07 l)) ∧ Fr [] w w') := by
  refine enter (args := [lv]) Try.func15 rfl rfl ?_
  have H0 : Own [] w w [] := Own.start w []
  obtain rfl := hA.mapLen
  refine WC.seq ?_
  refine WC.region ?_
  refine WL.op rfl rfl (op_assign rfl ?_)
  refine WL.nil ?_
  refine WQ.next ?_
  refine WC.seq ?_
  refine WC.region ?_
  refine WL.op rfl rfl (op_assign rfl ?_)
  refine WL.nil ?_
  refine WQ.next ?_
  refine WC.cut (α := Nat) (fun k => [(0, lv), (3, (vN (sumTo l k)))]) (fun k w' => (k = min l.length 5000) ∧ Own [] w w' []) ?_ ?_
  ·
    refine WC.seq ?_
    refine WC.region ?_
    refine WL.op rfl rfl (op_assign rfl ?_)
    refine WL.nil ?_
    refine WQ.next ?_
    refine WC.block ?_
    refine WC.loop (α := Nat) (fun k => [(0, lv), (3, (vN (sumTo l k))), (4, (vN k))]) (fun k w' => (k ≤ l.length ∧ k ≤ 5000) ∧ Own [] w w' []) (fun k => l.length - k) 0 ⟨⟨by omega, by omega⟩, H0⟩ ⟨rfl, rfl, rfl, trivial⟩ ?_
    rintro k w1 ⟨hinv, H1⟩
    show WC _ _ _ _ _ [(0, lv), (3, (vN (sumTo l k))), (4, (vN k))] _
    have hs0 := sumTo_le hB k
    have hg0 := getD_mem hB k
    refine WC.seq ?_
    refine WC.seq ?_
    refine WC.region ?_
    refine WL.op rfl rfl (op_move rfl ?_)
    refine WL.op rfl rfl (op_move rfl ?_)
    refine WL.op rfl rfl (op_lenA Try.underlying23 rfl (H1.arr hA) ?_)
    refine WL.op rfl rfl (op_lssN rfl rfl ?_)
    refine WL.op rfl rfl (op_move rfl ?_)
    refine WL.split (t := 9) rfl (fun (hb2 : (decide (k < l.length)) = true) => ?_) (fun (hb2 : (decide (k < l.length)) = false) => ?_)
    ·
      have hc2 := of_decide_eq_true hb2
      refine WL.yes rfl rfl rfl hb2 rfl (op_move rfl ?_)
      refine WL.yes rfl rfl rfl hb2 rfl (op_lssN (b := 5000) rfl rfl ?_)
      refine WL.op rfl rfl (op_pickT rfl hb2 rfl ?_)
      refine WL.nil ?_
      refine WQ.next ?_
      refine WC.cond rfl (fun (hb3 : (decide (k < 5000)) = true) => ?_) (fun (hb3 : (decide (k < 5000)) = false) => ?_)
      ·
        have hc3 := of_decide_eq_true hb3
        refine WC.skip ?_
        refine WQ.next ?_
        refine WC.seq ?_
        refine WC.block ?_
        refine WC.region ?_
        refine WL.op rfl rfl (op_move rfl ?_)
        refine WL.op rfl rfl (op_move rfl ?_)
        refine WL.op rfl rfl (op_move rfl ?_)
        refine WL.op rfl rfl (op_indexAddr1 Try.underlying23 Fa.I9 rfl (H1.arr hA) rfl (by omega) ?_)
        refine WL.op rfl rfl (op_load rfl ((H1.arr hA).at (get_map str [] (Arr.ltM (H1.arr hA) (by omega)))) Try.underlying9 rfl ?_)
        refine WL.op rfl rfl (op_lenStr Try.underlying9 rfl ?_)
        refine WL.op rfl rfl (op_addN rfl rfl (by omega) ?_)
        refine WL.op rfl rfl (op_assign rfl ?_)
        refine WL.nil ?_
        refine WQ.inNormal ?_
        refine WQ.next ?_
        refine WC.region ?_
        refine WL.op rfl rfl (op_move rfl ?_)
        refine WL.op rfl rfl (op_addN (b := 1) rfl rfl (by omega) ?_)
        refine WL.op rfl rfl (op_assign rfl ?_)
        refine WL.nil ?_
        exact WQ.round (k + 1) ⟨(by omega), H1⟩ ⟨rfl, rfl, rfl, trivial⟩ (by omega)
      ·
        have hc3 := of_decide_eq_false hb3
        refine WC.exit ?_
        refine WQ.thenExit ?_
        refine WQ.thenExit ?_
        refine WQ.inHere ?_
        exact WQ.here k ⟨(by omega), H1⟩ ⟨rfl, rfl, trivial⟩
    ·
      have hc2 := of_decide_eq_false hb2
      refine WL.no rfl rfl rfl hb2 rfl ?_
      refine WL.no rfl rfl rfl hb2 rfl ?_
      refine WL.op rfl rfl (op_pickF rfl hb2 rfl ?_)
      refine WL.nil ?_
      refine WQ.next ?_
      refine WC.no rfl rfl ?_
      refine WC.exit ?_
      refine WQ.thenExit ?_
      refine WQ.thenExit ?_
      refine WQ.inHere ?_
      exact WQ.here k ⟨(by omega), H1⟩ ⟨rfl, rfl, trivial⟩
  ·
    rintro k w4 ⟨hinv, H4⟩
    show WC _ _ _ _ _ [(0, lv), (3, (vN (sumTo l k)))] _
    refine WC.seq ?_
    refine WC.region ?_
    refine WL.op rfl rfl (op_move rfl ?_)
    refine WL.op rfl rfl (op_lenA Try.underlying23 rfl (H4.arr hA) ?_)
    refine WL.op rfl rfl (op_gtrN (b := 4200) rfl rfl ?_)
    refine WL.op rfl rfl (op_move rfl ?_)
    refine WL.split (t := 25) rfl (fun (hb5 : (decide (l.length > 4200)) = true) => ?_) (fun (hb5 : (decide (l.length > 4200)) = false) => ?_)
    ·
      have hc5 := of_decide_eq_true hb5
      refine WL.no rfl rfl rfl hb5 rfl ?_
      refine WL.no rfl rfl rfl hb5 rfl ?_
      refine WL.op rfl rfl (op_pickT rfl hb5 rfl ?_)
      refine WL.op rfl rfl (op_assign rfl ?_)
      refine WL.nil ?_
      refine WQ.next ?_
      refine WC.ret ?_
      refine WQ.out (.tmp rfl .nil) ?_
      exact ⟨by rw [large07, decide_eq_true hc5, Bool.true_or]; rfl, H4.fr⟩
    ·
      have hc5 := of_decide_eq_false hb5
      refine WL.yes rfl rfl rfl hb5 rfl (op_move rfl ?_)
      refine WL.yes rfl rfl rfl hb5 rfl (op_gtrN (b := 262144) rfl rfl ?_)
      refine WL.op rfl rfl (op_pickF rfl hb5 rfl ?_)
      refine WL.op rfl rfl (op_assign rfl ?_)
      refine WL.nil ?_
      refine WQ.next ?_
      refine WC.ret ?_
      refine WQ.out (.tmp rfl .nil) ?_
      exact ⟨by subst hinv; rw [large07, decide_eq_false hc5, Bool.false_or, ← sumTo_min]; rfl, H4.fr⟩
set_option maxRecDepth 100000 in
theorem alive07_ok  (w : World) :
    Calls Try.prog 16 #[] w (fun e w' => e = .returned (.bool true) ∧ Fr [] w w') := by
  refine enter (args := []) Try.func16 rfl rfl ?_
  have H0 : Own [] w w [] := Own.start w []
  refine WC.seq ?_
  refine WC.region ?_
  refine WL.op rfl rfl (op_assign rfl ?_)
  refine WL.nil ?_
  refine WQ.next ?_
  refine WC.seq ?_
  refine WC.region ?_
  refine WL.op rfl rfl (op_callF Fa.C17 rfl ((num_ok 258 (2) _).mono (fun e w1 hq => ?_)))
  obtain ⟨rfl, hf1⟩ := hq
  refine ⟨_, rfl, ?_⟩
  have H1 := H0.fr' hf1
  refine WL.op rfl rfl (op_move rfl ?_)
  refine WL.op rfl rfl (op_extract rfl rfl ?_)
  refine WL.op rfl rfl (op_extract rfl rfl ?_)
  refine WL.op rfl rfl (op_assign rfl ?_)
  refine WL.op rfl rfl (op_assign rfl ?_)
  refine WL.nil ?_
  refine WQ.next ?_
  refine WC.seq ?_
  refine WC.region ?_
  refine WL.op rfl rfl (op_callF Fa.C19 rfl ((ptext_ok ([97, 98]) _ (by decide)).mono (fun e w2 hq => ?_)))
  obtain ⟨rfl, hf2⟩ := hq
  refine ⟨_, rfl, ?_⟩
  have H2 := H1.fr' hf2
  refine WL.op rfl rfl (op_move rfl ?_)
  refine WL.op rfl rfl (op_extract rfl rfl ?_)
  refine WL.op rfl rfl (op_extract rfl rfl ?_)
  refine WL.op rfl rfl (op_assign rfl ?_)
  refine WL.op rfl rfl (op_assign rfl ?_)
  refine WL.nil ?_
  refine WQ.next ?_
  refine WC.seq ?_
  refine WC.region ?_
  refine WL.op rfl rfl (op_callF Fa.C21 rfl ((ptexts_ok _ ([]) _ _ (Arr.nil _ 1) (by decide)).mono (fun e w3 hq => ?_)))
  obtain ⟨rfl, hf3⟩ := hq
  refine ⟨_, rfl, ?_⟩
  have H3 := H2.fr' hf3
  refine WL.op rfl rfl (op_move rfl ?_)
  refine WL.op rfl rfl (op_extract rfl rfl ?_)
  refine WL.op rfl rfl (op_extract rfl rfl ?_)
  refine WL.op rfl rfl (op_assign rfl ?_)
  refine WL.op rfl rfl (op_assign rfl ?_)
  refine WL.nil ?_
  refine WQ.next ?_
  refine WC.seq ?_
  refine WC.region ?_
  refine WL.op rfl rfl (op_move rfl ?_)
  refine WL.op rfl rfl (op_move rfl ?_)
  refine WL.op rfl rfl (op_addStr rfl rfl (by decide +kernel) ?_)
  refine WL.op rfl rfl (op_move rfl ?_)
  refine WL.op rfl rfl (op_addStr rfl rfl (by decide +kernel) ?_)
  refine WL.op rfl rfl (op_addStr rfl rfl (by decide +kernel) ?_)
  refine WL.op rfl rfl (op_callF Fa.C24 rfl ((rdnew_ok ((((numS 258 2) ++ (txS ([97, 98]))) ++ (tsS ([]))) ++ [120]) _).mono (fun e w4 hq => ?_)))
  obtain ⟨q4, rfl, hq4⟩ := hq
  refine ⟨_, rfl, ?_⟩
  have H4 : Own [] w w4 [.blk q4 [(str ((((numS 258 2) ++ (txS ([97, 98]))) ++ (tsS ([]))) ++ [120])), (vN 0), (vN 0)] 107] := H3.splice [] [] [.blk q4 [(str ((((numS 258 2) ++ (txS ([97, 98]))) ++ (tsS ([]))) ++ [120])), (vN 0), (vN 0)] 107] rfl rfl hq4 (Fits.solid True.intro Fits.nil)
  refine WL.op rfl rfl (op_assign rfl ?_)
  refine WL.nil ?_
  refine WQ.next ?_
  refine WC.seq ?_
  refine WC.region ?_
  refine WL.op rfl rfl (op_move rfl ?_)
  refine WL.op rfl rfl (op_callF Fa.C25 rfl ((rdnum_ok q4 (Rd.mk ((((numS 258 2) ++ (txS ([97, 98]))) ++ (tsS ([]))) ++ [120]) 0 0 (Nat.zero_le _)) (2) 107 _ _ (H4.part [0] rfl rfl) (by decide +kernel)).mono (fun e w5 hq => ?_)))
  obtain ⟨rfl, hq5⟩ := hq
  refine ⟨_, rfl, ?_⟩
  have H5 : Own [] w w5 [.blk q4 [(str ((numR (Rd.mk ((((numS 258 2) ++ (txS ([97, 98]))) ++ (tsS ([]))) ++ [120]) 0 0 (Nat.zero_le _)) 2).2).s), (vN ((numR (Rd.mk ((((numS 258 2) ++ (txS ([97, 98]))) ++ (tsS ([]))) ++ [120]) 0 0 (Nat.zero_le _)) 2).2).at_), (vN ((numR (Rd.mk ((((numS 258 2) ++ (txS ([97, 98]))) ++ (tsS ([]))) ++ [120]) 0 0 (Nat.zero_le _)) 2).2).f)] 107] := H4.splice [0] [.blk q4 [(str ((numR (Rd.mk ((((numS 258 2) ++ (txS ([97, 98]))) ++ (tsS ([]))) ++ [120]) 0 0 (Nat.zero_le _)) 2).2).s), (vN ((numR (Rd.mk ((((numS 258 2) ++ (txS ([97, 98]))) ++ (tsS ([]))) ++ [120]) 0 0 (Nat.zero_le _)) 2).2).at_), (vN ((numR (Rd.mk ((((numS 258 2) ++ (txS ([97, 98]))) ++ (tsS ([]))) ++ [120]) 0 0 (Nat.zero_le _)) 2).2).f)] 107] [] rfl rfl hq5 (Fits.solid True.intro Fits.nil)
  refine WL.op rfl rfl (op_move rfl ?_)
  refine WL.op rfl rfl (op_extract rfl rfl ?_)
  refine WL.op rfl rfl (op_extract rfl rfl ?_)
  refine WL.op rfl rfl (op_assign rfl ?_)
  refine WL.op rfl rfl (op_assign rfl ?_)
  refine WL.nil ?_
  refine WQ.next ?_
  refine WC.seq ?_
  refine WC.region ?_
  refine WL.op rfl rfl (op_move rfl ?_)
  refine WL.op rfl rfl (op_callF Fa.C26 rfl ((rdtext_ok q4 ((numR (Rd.mk ((((numS 258 2) ++ (txS ([97, 98]))) ++ (tsS ([]))) ++ [120]) 0 0 (Nat.zero_le _)) 2).2)  107 _ _ (H5.part [0] rfl rfl) (by decide +kernel)).mono (fun e w6 hq => ?_)))
  obtain ⟨rfl, hq6⟩ := hq
  refine ⟨_, rfl, ?_⟩
  have H6 : Own [] w w6 [.blk q4 [(str ((textR ((numR (Rd.mk ((((numS 258 2) ++ (txS ([97, 98]))) ++ (tsS ([]))) ++ [120]) 0 0 (Nat.zero_le _)) 2).2)).2).s), (vN ((textR ((numR (Rd.mk ((((numS 258 2) ++ (txS ([97, 98]))) ++ (tsS ([]))) ++ [120]) 0 0 (Nat.zero_le _)) 2).2)).2).at_), (vN ((textR ((numR (Rd.mk ((((numS 258 2) ++ (txS ([97, 98]))) ++ (tsS ([]))) ++ [120]) 0 0 (Nat.zero_le _)) 2).2)).2).f)] 107] := H5.splice [0] [.blk q4 [(str ((textR ((numR (Rd.mk ((((numS 258 2) ++ (txS ([97, 98]))) ++ (tsS ([]))) ++ [120]) 0 0 (Nat.zero_le _)) 2).2)).2).s), (vN ((textR ((numR (Rd.mk ((((numS 258 2) ++ (txS ([97, 98]))) ++ (tsS ([]))) ++ [120]) 0 0 (Nat.zero_le _)) 2).2)).2).at_), (vN ((textR ((numR (Rd.mk ((((numS 258 2) ++ (txS ([97, 98]))) ++ (tsS ([]))) ++ [120]) 0 0 (Nat.zero_le _)) 2).2)).2).f)] 107] [] rfl rfl hq6 (Fits.solid True.intro Fits.nil)
  refine WL.op rfl rfl (op_move rfl ?_)
  refine WL.op rfl rfl (op_extract rfl rfl ?_)
  refine WL.op rfl rfl (op_extract rfl rfl ?_)
  refine WL.op rfl rfl (op_assign rfl ?_)
  refine WL.op rfl rfl (op_assign rfl ?_)
  refine WL.nil ?_
  refine WQ.next ?_
  refine WC.seq ?_
  refine WC.region ?_
  refine WL.op rfl rfl (op_move rfl ?_)
  refine WL.op rfl rfl (op_callF Fa.C27 rfl ((rdtexts_ok q4 ((textR ((numR (Rd.mk ((((numS 258 2) ++ (txS ([97, 98]))) ++ (tsS ([]))) ++ [120]) 0 0 (Nat.zero_le _)) 2).2)).2) 107 _ _ (H6.part [0] rfl rfl) (by decide +kernel)).mono (fun e w7 hq => ?_)))
  obtain ⟨v7, rfl, hq7⟩ := hq
  refine ⟨_, rfl, ?_⟩
  have H7 : Own [] w w7 [.blk q4 [(str ((textsR ((textR ((numR (Rd.mk ((((numS 258 2) ++ (txS ([97, 98]))) ++ (tsS ([]))) ++ [120]) 0 0 (Nat.zero_le _)) 2).2)).2)).2).s), (vN ((textsR ((textR ((numR (Rd.mk ((((numS 258 2) ++ (txS ([97, 98]))) ++ (tsS ([]))) ++ [120]) 0 0 (Nat.zero_le _)) 2).2)).2)).2).at_), (vN ((textsR ((textR ((numR (Rd.mk ((((numS 258 2) ++ (txS ([97, 98]))) ++ (tsS ([]))) ++ [120]) 0 0 (Nat.zero_le _)) 2).2)).2)).2).f)] 107, .row v7 9 1 (textsR ((textR ((numR (Rd.mk ((((numS 258 2) ++ (txS ([97, 98]))) ++ (tsS ([]))) ++ [120]) 0 0 (Nat.zero_le _)) 2).2)).2)).1.1.length (List.map str (textsR ((textR ((numR (Rd.mk ((((numS 258 2) ++ (txS ([97, 98]))) ++ (tsS ([]))) ++ [120]) 0 0 (Nat.zero_le _)) 2).2)).2)).1.1)] := H6.splice [0] [.blk q4 [(str ((textsR ((textR ((numR (Rd.mk ((((numS 258 2) ++ (txS ([97, 98]))) ++ (tsS ([]))) ++ [120]) 0 0 (Nat.zero_le _)) 2).2)).2)).2).s), (vN ((textsR ((textR ((numR (Rd.mk ((((numS 258 2) ++ (txS ([97, 98]))) ++ (tsS ([]))) ++ [120]) 0 0 (Nat.zero_le _)) 2).2)).2)).2).at_), (vN ((textsR ((textR ((numR (Rd.mk ((((numS 258 2) ++ (txS ([97, 98]))) ++ (tsS ([]))) ++ [120]) 0 0 (Nat.zero_le _)) 2).2)).2)).2).f)] 107] [.row v7 9 1 (textsR ((textR ((numR (Rd.mk ((((numS 258 2) ++ (txS ([97, 98]))) ++ (tsS ([]))) ++ [120]) 0 0 (Nat.zero_le _)) 2).2)).2)).1.1.length (List.map str (textsR ((textR ((numR (Rd.mk ((((numS 258 2) ++ (txS ([97, 98]))) ++ (tsS ([]))) ++ [120]) 0 0 (Nat.zero_le _)) 2).2)).2)).1.1)] rfl rfl hq7 (Fits.solid True.intro (Fits.solid True.intro Fits.nil))
  refine WL.op rfl rfl (op_move rfl ?_)
  refine WL.op rfl rfl (op_extract rfl rfl ?_)
  refine WL.op rfl rfl (op_extract rfl rfl ?_)
  refine WL.op rfl rfl (op_assign rfl ?_)
  refine WL.op rfl rfl (op_assign rfl ?_)
  refine WL.nil ?_
  refine WQ.next ?_
  refine WC.seq ?_
  refine WC.region ?_
  refine WL.op rfl rfl (op_move rfl ?_)
  refine WL.op rfl rfl (op_eqlStr rfl rfl ?_)
  refine WL.op rfl rfl (op_move rfl ?_)
  refine WL.yes rfl rfl rfl (by kernel_rfl) rfl (op_move rfl ?_)
  refine WL.yes rfl rfl rfl (by kernel_rfl) rfl (op_eqlN (b := 0) rfl rfl ?_)
  refine WL.op rfl rfl (op_pickT rfl (by kernel_rfl) rfl ?_)
  refine WL.op rfl rfl (op_move rfl ?_)
  refine WL.yes rfl rfl rfl (by kernel_rfl) rfl (op_move rfl ?_)
  refine WL.yes rfl rfl rfl (by kernel_rfl) rfl (op_eqlStr rfl rfl ?_)
  refine WL.op rfl rfl (op_pickT rfl (by kernel_rfl) rfl ?_)
  refine WL.op rfl rfl (op_move rfl ?_)
  refine WL.yes rfl rfl rfl (by kernel_rfl) rfl (op_move rfl ?_)
  refine WL.yes rfl rfl rfl (by kernel_rfl) rfl (op_eqlN (b := 0) rfl rfl ?_)
  refine WL.op rfl rfl (op_pickT rfl (by kernel_rfl) rfl ?_)
  refine WL.op rfl rfl (op_move rfl ?_)
  refine WL.yes rfl rfl rfl (by kernel_rfl) rfl (op_move rfl ?_)
  refine WL.yes rfl rfl rfl (by kernel_rfl) rfl (op_eqlStr rfl rfl ?_)
  refine WL.op rfl rfl (op_pickT rfl (by kernel_rfl) rfl ?_)
  refine WL.op rfl rfl (op_move rfl ?_)
  refine WL.yes rfl rfl rfl (by kernel_rfl) rfl (op_move rfl ?_)
  refine WL.yes rfl rfl rfl (by kernel_rfl) rfl (op_eqlN (b := 0) rfl rfl ?_)
  refine WL.op rfl rfl (op_pickT rfl (by kernel_rfl) rfl ?_)
  refine WL.op rfl rfl (op_move rfl ?_)
  refine WL.yes rfl rfl rfl (by kernel_rfl) rfl (op_move rfl ?_)
  refine WL.yes rfl rfl rfl (by kernel_rfl) rfl (op_eqlU32 (b := 258) rfl rfl ?_)
  refine WL.op rfl rfl (op_pickT rfl (by kernel_rfl) rfl ?_)
  refine WL.op rfl rfl (op_move rfl ?_)
  refine WL.yes rfl rfl rfl (by kernel_rfl) rfl (op_move rfl ?_)
  refine WL.yes rfl rfl rfl (by kernel_rfl) rfl (op_eqlN (b := 0) rfl rfl ?_)
  refine WL.op rfl rfl (op_pickT rfl (by kernel_rfl) rfl ?_)
  refine WL.op rfl rfl (op_move rfl ?_)
  refine WL.yes rfl rfl rfl (by kernel_rfl) rfl (op_move rfl ?_)
  refine WL.yes rfl rfl rfl (by kernel_rfl) rfl (op_eqlStr rfl rfl ?_)
  refine WL.op rfl rfl (op_pickT rfl (by kernel_rfl) rfl ?_)
  refine WL.op rfl rfl (op_move rfl ?_)
  refine WL.yes rfl rfl rfl (by kernel_rfl) rfl (op_move rfl ?_)
  refine WL.yes rfl rfl rfl (by kernel_rfl) rfl (op_eqlN (b := 0) rfl rfl ?_)
  refine WL.op rfl rfl (op_pickT rfl (by kernel_rfl) rfl ?_)
  refine WL.op rfl rfl (op_move rfl ?_)
  refine WL.yes rfl rfl rfl (by kernel_rfl) rfl (op_move rfl ?_)
  refine WL.yes rfl rfl rfl (by kernel_rfl) rfl (op_lenA Try.underlying23 rfl (H7.arrR (i := 1) rfl) ?_)
  refine WL.yes rfl rfl rfl (by kernel_rfl) rfl (op_eqlN (b := 0) rfl rfl ?_)
  refine WL.op rfl rfl (op_pickT rfl (by kernel_rfl) rfl ?_)
  refine WL.op rfl rfl (op_move rfl ?_)
  refine WL.yes rfl rfl rfl (by kernel_rfl) rfl (op_move rfl ?_)
  refine WL.yes rfl rfl rfl (by kernel_rfl) rfl (op_eqlN (b := 0) rfl rfl ?_)
  refine WL.op rfl rfl (op_pickT rfl (by kernel_rfl) rfl ?_)
  refine WL.op rfl rfl (op_move rfl ?_)
  refine WL.yes rfl rfl rfl (by kernel_rfl) rfl (op_move rfl ?_)
  refine WL.yes rfl rfl rfl (by kernel_rfl) rfl (op_callF Fa.C28 rfl ((rleft_ok q4 ((textsR ((textR ((numR (Rd.mk ((((numS 258 2) ++ (txS ([97, 98]))) ++ (tsS ([]))) ++ [120]) 0 0 (Nat.zero_le _)) 2).2)).2)).2) _ (H7.cellsAt (i := 0) rfl) (by decide +kernel)).mono (fun e w8 hq => ?_)))
  obtain ⟨rfl, hf8⟩ := hq
  refine ⟨_, rfl, ?_⟩
  have H8 := H7.fr' hf8
  refine WL.yes rfl rfl rfl (by kernel_rfl) rfl (op_eqlN (b := 1) rfl rfl ?_)
  refine WL.op rfl rfl (op_pickT rfl (by kernel_rfl) rfl ?_)
  refine WL.op rfl rfl (op_move rfl ?_)
  refine WL.yes rfl rfl rfl (by kernel_rfl) rfl (op_move rfl ?_)
  refine WL.yes rfl rfl rfl (by kernel_rfl) rfl (op_callF Fa.C29 rfl ((rdend_ok q4 ((textsR ((textR ((numR (Rd.mk ((((numS 258 2) ++ (txS ([97, 98]))) ++ (tsS ([]))) ++ [120]) 0 0 (Nat.zero_le _)) 2).2)).2)).2)  107 _ _ (H8.part [0] rfl rfl) (by decide +kernel)).mono (fun e w9 hq => ?_)))
  obtain ⟨rfl, hq9⟩ := hq
  refine ⟨_, rfl, ?_⟩
  have H9 : Own [] w w9 [.blk q4 [(str ((endR ((textsR ((textR ((numR (Rd.mk ((((numS 258 2) ++ (txS ([97, 98]))) ++ (tsS ([]))) ++ [120]) 0 0 (Nat.zero_le _)) 2).2)).2)).2)).2).s), (vN ((endR ((textsR ((textR ((numR (Rd.mk ((((numS 258 2) ++ (txS ([97, 98]))) ++ (tsS ([]))) ++ [120]) 0 0 (Nat.zero_le _)) 2).2)).2)).2)).2).at_), (vN ((endR ((textsR ((textR ((numR (Rd.mk ((((numS 258 2) ++ (txS ([97, 98]))) ++ (tsS ([]))) ++ [120]) 0 0 (Nat.zero_le _)) 2).2)).2)).2)).2).f)] 107, .row v7 9 1 (textsR ((textR ((numR (Rd.mk ((((numS 258 2) ++ (txS ([97, 98]))) ++ (tsS ([]))) ++ [120]) 0 0 (Nat.zero_le _)) 2).2)).2)).1.1.length (List.map str (textsR ((textR ((numR (Rd.mk ((((numS 258 2) ++ (txS ([97, 98]))) ++ (tsS ([]))) ++ [120]) 0 0 (Nat.zero_le _)) 2).2)).2)).1.1)] := H8.splice [0] [.blk q4 [(str ((endR ((textsR ((textR ((numR (Rd.mk ((((numS 258 2) ++ (txS ([97, 98]))) ++ (tsS ([]))) ++ [120]) 0 0 (Nat.zero_le _)) 2).2)).2)).2)).2).s), (vN ((endR ((textsR ((textR ((numR (Rd.mk ((((numS 258 2) ++ (txS ([97, 98]))) ++ (tsS ([]))) ++ [120]) 0 0 (Nat.zero_le _)) 2).2)).2)).2)).2).at_), (vN ((endR ((textsR ((textR ((numR (Rd.mk ((((numS 258 2) ++ (txS ([97, 98]))) ++ (tsS ([]))) ++ [120]) 0 0 (Nat.zero_le _)) 2).2)).2)).2)).2).f)] 107] [] rfl rfl hq9 (Fits.solid True.intro Fits.nil)
  refine WL.yes rfl rfl rfl (by kernel_rfl) rfl (op_eqlN (b := 7) rfl rfl ?_)
  refine WL.op rfl rfl (op_pickT rfl (by kernel_rfl) rfl ?_)
  refine WL.op rfl rfl (op_move rfl ?_)
  refine WL.yes rfl rfl rfl (by kernel_rfl) rfl (op_move rfl ?_)
  refine WL.yes rfl rfl rfl (by kernel_rfl) rfl (op_callF Fa.C36 rfl ((fault_ok q4 ((endR ((textsR ((textR ((numR (Rd.mk ((((numS 258 2) ++ (txS ([97, 98]))) ++ (tsS ([]))) ++ [120]) 0 0 (Nat.zero_le _)) 2).2)).2)).2)).2) _ (H9.cellsAt (i := 0) rfl)).mono (fun e w10 hq => ?_)))
  obtain ⟨rfl, hf10⟩ := hq
  refine ⟨_, rfl, ?_⟩
  have H10 := H9.fr' hf10
  refine WL.yes rfl rfl rfl (by kernel_rfl) rfl (op_eqlN (b := 7) rfl rfl ?_)
  refine WL.op rfl rfl (op_pickT rfl (by kernel_rfl) rfl ?_)
  refine WL.op rfl rfl (op_assign rfl ?_)
  refine WL.nil ?_
  refine WQ.next ?_
  refine WC.ret ?_
  refine WQ.out (.tmp rfl .nil) ?_
  exact ⟨rfl, H10.fr⟩
end Go.Proofs.Ytpnghdalnghpcaa
/-! from WImg2 -/
namespace Go.Proofs.Ytpnghdalnghpcaa
open Go.Owl Go.Spec
set_option maxRecDepth 100000 in
theorem cc_new (b : Nat) (v : Value) (T0 : TypeId) (T : List Nat) (w : World) (H : Own T w w [.blk b [(.pointer none), v] T0]) (hc : Try.prog.cellsOf T0 = 2) (hl : liesAt Try.prog Try.prog.depth T0 1 0 121 1 = true) :
    Calls Try.prog 126 #[(ptr b 0)] w (fun e w' => e = .returned undef ∧ Own T w w' [.blk b [ptr b 0, v] T0]) := by
  refine enter (args := [(ptr b 0)]) Try.func126 rfl rfl ?_
  refine WC.seq ?_
  refine WC.region ?_
  refine WL.op rfl rfl (op_move rfl ?_)
  refine WL.op rfl rfl (op_nilCheck rfl ?_)
  refine WL.op rfl rfl (op_fieldAddr rfl Fa.F121_0 ?_)
  refine WL.op rfl rfl (op_load rfl (H.cell (i := 0) rfl rfl) Try.underlying119 rfl ?_)
  refine WL.op rfl rfl (op_eqlPN Fa.PT119 rfl rfl ?_)
  refine WL.nil ?_
  refine WQ.next ?_
  refine WC.yes rfl rfl ?_
  refine WC.region ?_
  refine WL.op rfl rfl (op_move rfl ?_)
  refine WL.op rfl rfl (op_move rfl ?_)
  refine WL.op rfl rfl (op_toUnsafe (i := 0) H Try.underlying119 Try.underlying192 Fa.CO121 rfl rfl rfl ?_)
  refine WL.op rfl rfl (op_noEscape Try.func142 (by kernel_rfl) (by kernel_rfl) (by kernel_rfl) (by kernel_rfl) rfl ?_)
  refine WL.op rfl rfl (op_fromUnsafe (i := 0) H Try.underlying192 Try.underlying119 Fa.CO121 rfl rfl rfl hc hl ?_)
  refine WL.op rfl rfl (op_nilCheck rfl ?_)
  refine WL.op rfl rfl (op_fieldAddr rfl Fa.F121_0 ?_)
  refine WL.op rfl rfl (op_storeB (i := 0) H rfl rfl rfl rfl rfl Fa.I119 (fun w1 H1 => ?_))
  refine WL.nil ?_
  refine WQ.outEnd .nil ?_
  exact ⟨rfl, H1⟩
set_option maxRecDepth 100000 in
theorem cc_old (b : Nat) (v : Value) (T0 : TypeId) (T : List Nat) (w : World) (H : Own T w w [.blk b [(ptr b 0), v] T0]) (hc : Try.prog.cellsOf T0 = 2) (hl : liesAt Try.prog Try.prog.depth T0 1 0 121 1 = true) :
    Calls Try.prog 126 #[(ptr b 0)] w (fun e w' => e = .returned undef ∧ Own T w w' [.blk b [ptr b 0, v] T0]) := by
  refine enter (args := [(ptr b 0)]) Try.func126 rfl rfl ?_
  refine WC.seq ?_
  refine WC.region ?_
  refine WL.op rfl rfl (op_move rfl ?_)
  refine WL.op rfl rfl (op_nilCheck rfl ?_)
  refine WL.op rfl rfl (op_fieldAddr rfl Fa.F121_0 ?_)
  refine WL.op rfl rfl (op_load rfl (H.cell (i := 0) rfl rfl) Try.underlying119 rfl ?_)
  refine WL.op rfl rfl (op_eqlPN Fa.PT119 rfl rfl ?_)
  refine WL.nil ?_
  refine WQ.next ?_
  refine WC.no rfl rfl ?_
  refine WC.seq ?_
  refine WC.region ?_
  refine WL.op rfl rfl (op_move rfl ?_)
  refine WL.op rfl rfl (op_nilCheck rfl ?_)
  refine WL.op rfl rfl (op_fieldAddr rfl Fa.F121_0 ?_)
  refine WL.op rfl rfl (op_load rfl (H.cell (i := 0) rfl rfl) Try.underlying119 rfl ?_)
  refine WL.op rfl rfl (op_move rfl ?_)
  refine WL.op rfl rfl (op_neqPP Try.underlying119 Fa.CO121 rfl rfl ?_)
  refine WL.nil ?_
  refine WQ.next ?_
  refine WC.no rfl rfl ?_
  refine WC.skip ?_
  refine WQ.outEnd .nil ?_
  exact ⟨rfl, H⟩
theorem cc_ok (b : Nat) (A v : Value) (T0 : TypeId) (T : List Nat) (w : World) (H : Own T w w [.blk b [A, v] T0]) (hA : A = .pointer none ∨ A = ptr b 0) (hc : Try.prog.cellsOf T0 = 2) (hl : liesAt Try.prog Try.prog.depth T0 1 0 121 1 = true) :
    Calls Try.prog 126 #[ptr b 0] w (fun e w' => e = .returned undef ∧ Own T w w' [.blk b [ptr b 0, v] T0]) := by
  rcases hA with rfl | rfl
  · exact cc_new b v T0 T w H hc hl
  · exact cc_old b v T0 T w H hc hl
set_option maxRecDepth 100000 in
theorem ws_ok (b : Nat) (A v : Value) (n : Nat) (bs s : List UInt8) (T0 : TypeId) (T : List Nat) (w : World) (H : Own T w w [.blk b [A, v] T0, .row v 5 1 n (List.map vU8 bs)]) (hA : A = .pointer none ∨ A = ptr b 0) (hc : Try.prog.cellsOf T0 = 2) (hl : liesAt Try.prog Try.prog.depth T0 1 0 121 1 = true) (hs : n + s.length < 2 ^ 46) :
    Calls Try.prog 85 #[(ptr b 0), (str s)] w (fun e w' => ∃ v, e = .returned (.tuple #[vN s.length, .nilIface]) ∧ Own T w w' [.blk b [ptr b 0, v] T0, .row v 5 1 (n + s.length) (List.map vU8 (bs ++ s))]) := by
  refine enter (args := [(ptr b 0), (str s)]) Try.func85 rfl rfl ?_
  refine WC.seq ?_
  refine WC.region ?_
  refine WL.op rfl rfl (op_assign rfl ?_)
  refine WL.op rfl rfl (op_assign rfl ?_)
  refine WL.nil ?_
  refine WQ.next ?_
  refine WC.seq ?_
  refine WC.region ?_
  refine WL.op rfl rfl (op_move rfl ?_)
  refine WL.op rfl rfl (op_callF Fa.C126 rfl ((cc_ok b A v T0 _ _ (H.part [0] rfl rfl) hA hc hl).mono (fun e w1 hq => ?_)))
  obtain ⟨rfl, hq1⟩ := hq
  refine ⟨_, rfl, ?_⟩
  have H1 : Own T w w1 [.blk b [(ptr b 0), v] T0, .row v 5 1 n (List.map vU8 bs)] := H.splice [0] [.blk b [(ptr b 0), v] T0] [] rfl rfl hq1 (Fits.solid True.intro Fits.nil)
  refine WL.nil ?_
  refine WQ.next ?_
  refine WC.seq ?_
  refine WC.region ?_
  refine WL.op rfl rfl (op_move rfl ?_)
  refine WL.op rfl rfl (op_move rfl ?_)
  refine WL.op rfl rfl (op_nilCheck rfl ?_)
  refine WL.op rfl rfl (op_fieldAddr rfl Fa.F121_1 ?_)
  refine WL.op rfl rfl (op_load rfl (H1.cell (i := 0) rfl rfl) Try.underlying73 rfl ?_)
  refine WL.op rfl rfl (op_move rfl ?_)
  refine WL.op rfl rfl (op_appendM (f := vU8) (l := bs) (l' := s) (i := 1) H1 Try.underlying73 Fa.I5 rfl rfl rfl rfl (Src.ofStr Try.underlying9) (one_mapM (fun _ => rfl)) (by omega) (by omega) (fun v2 w2 H2 => ?_))
  refine WL.op rfl rfl (op_nilCheck rfl ?_)
  refine WL.op rfl rfl (op_fieldAddr rfl Fa.F121_1 ?_)
  refine WL.op rfl rfl (op_storeB (i := 0) H2 rfl rfl rfl rfl (Arr.one (H2.arrR (i := 1) rfl)) Fa.I73 (fun w3 H3 => ?_))
  refine WL.nil ?_
  refine WQ.next ?_
  refine WC.seq ?_
  refine WC.region ?_
  refine WL.op rfl rfl (op_move rfl ?_)
  refine WL.op rfl rfl (op_lenStr Try.underlying9 rfl ?_)
  refine WL.op rfl rfl (op_assign rfl ?_)
  refine WL.op rfl rfl (op_assign rfl ?_)
  refine WL.nil ?_
  refine WQ.next ?_
  refine WC.ret ?_
  refine WQ.out (.tmp rfl (.tmp rfl .nil)) ?_
  exact ⟨_, rfl, H3⟩
set_option maxRecDepth 100000 in
theorem bstr_1 (b : Nat) (A : Value) (n : Nat) (bs : List UInt8) (T0 : TypeId) (a0 : Option Addr) (cap : Nat) (T : List Nat) (w : World) (H : Own T w w [.blk b [A, (.slice a0 n cap)] T0, .row (.slice a0 n cap) 5 1 n (List.map vU8 bs)]) (hz : a0 = none ∨ cap ≠ 0) :
    Calls Try.prog 87 #[(ptr b 0)] w (fun e w' => e = .returned (str bs) ∧ Fr T w w') := by
  refine enter (args := [(ptr b 0)]) Try.func87 rfl rfl ?_
  refine WC.seq ?_
  refine WC.region ?_
  refine WL.op rfl rfl (op_assign rfl ?_)
  refine WL.nil ?_
  refine WQ.next ?_
  refine WC.seq ?_
  refine WC.draw 10 Fa.M H (HW.op rfl (fun w1 H1 => op_move rfl ⟨rfl, Fr.refl _ _⟩) (HW.op rfl (fun w1 H1 => op_nilCheck rfl ⟨rfl, Fr.refl _ _⟩) (HW.op rfl (fun w1 H1 => op_fieldAddr rfl Fa.F121_1 ⟨rfl, Fr.refl _ _⟩) (HW.op rfl (fun w1 H1 => op_load rfl (H1.cell (i := 0) rfl rfl) Try.underlying73 rfl ⟨rfl, Fr.refl _ _⟩) (HW.op rfl (fun w1 H1 => op_sliceData rfl hz ⟨rfl, Fr.refl _ _⟩) (HW.op rfl (fun w1 H1 => op_move rfl ⟨rfl, Fr.refl _ _⟩) (HW.op rfl (fun w1 H1 => op_nilCheck rfl ⟨rfl, Fr.refl _ _⟩) (HW.op rfl (fun w1 H1 => op_fieldAddr rfl Fa.F121_1 ⟨rfl, Fr.refl _ _⟩) (HW.op rfl (fun w1 H1 => op_load rfl (H1.cell (i := 0) rfl rfl) Try.underlying73 rfl ⟨rfl, Fr.refl _ _⟩) (HW.op rfl (fun w1 H1 => op_lenA Try.underlying73 rfl (H1.arrR (i := 1) rfl) ⟨rfl, Fr.refl _ _⟩)  HW.nil)))))))))) (by kernel_rfl) ?_
  intro β1 w1 H1
  refine WL.op rfl rfl (op_unsafeString (i := 1) H1 rfl Try.underlying177 Fa.CO5 rfl rfl (fun w2 H2 => ?_))
  refine WL.op rfl rfl (op_assign rfl ?_)
  refine WL.nil ?_
  refine WQ.next ?_
  refine WC.ret ?_
  refine WQ.out (.tmp rfl .nil) ?_
  exact ⟨rfl, H1.frPart (I := [1]) rfl H2⟩
theorem bstr_ok (b : Nat) (A v : Value) (n : Nat) (bs : List UInt8) (T0 : TypeId) (T : List Nat) (w : World) (H : Own T w w [.blk b [A, v] T0, .row v 5 1 n (List.map vU8 bs)]) (hz : v = .slice none 0 0 ∨ n ≠ 0) :
    Calls Try.prog 87 #[ptr b 0] w (fun e w' => e = .returned (str bs) ∧ Fr T w w') := by
  obtain ⟨a0, cap, rfl, h⟩ := H.rowForm (i := 1) rfl hz
  exact bstr_1 b A n bs T0 a0 cap T w H h
set_option maxRecDepth 100000 in
theorem nums_ok (b : Nat) (v lv : Value) (q : Nat) (bs : List UInt8) (l : List UInt32) (n : Nat) (T : List Nat) (w : World) (H : Own T w w [.blk b [(ptr b 0), v] 123, .row v 5 1 q (List.map vU8 bs)]) (hA : ∀ w1, Fr T w w1 → Arr w1 lv 1 l.length (List.map vU32 l)) (hb : q + 4 * l.length < 2 ^ 46) :
    Calls Try.prog 86 #[(ptr b 0), (vN n), lv] w (fun e w' => ∃ v', e = .returned undef ∧ Own T w w' [.blk b [ptr b 0, v'] 123, .row v' 5 1 (bs ++ (numsTo l n l.length)).length (List.map vU8 (bs ++ (numsTo l n l.length)))]) := by
  refine enter (args := [(ptr b 0), (vN n), lv]) Try.func86 rfl rfl ?_
  obtain rfl : bs.length = q := map_len H (i := 1) rfl
  refine WC.seq ?_
  refine WC.region ?_
  refine WL.op rfl rfl (op_move rfl ?_)
  refine WL.op rfl rfl (op_lenA Try.underlying64 rfl (hA _ H.fr) ?_)
  refine WL.op rfl rfl (op_move rfl ?_)
  refine WL.nil ?_
  refine WQ.next ?_
  refine WC.block ?_
  refine WC.loop (α := Nat × Value) (fun (k, v2) => [(0, (ptr b 0)), (1, (vN n)), (10, lv), (11, (vN l.length)), (12, (vN k))]) (fun (k, v2) w' => (k ≤ l.length) ∧ Own T w w' [.blk b [(ptr b 0), v2] 123, .row v2 5 1 (bs ++ (numsTo l n k)).length (List.map vU8 (bs ++ (numsTo l n k)))]) (fun (k, v2) => l.length - k) (0, v) ⟨Nat.zero_le _, (Own.rowEqN (i := 1) (f := vU8) H rfl (List.append_nil bs).symm (by rw [numsTo, List.append_nil]))⟩ ⟨rfl, rfl, rfl, rfl, rfl, trivial⟩ ?_
  rintro ⟨k, v2⟩ w1 ⟨hinv, H1⟩
  show WC _ _ _ _ _ [(0, (ptr b 0)), (1, (vN n)), (10, lv), (11, (vN l.length)), (12, (vN k))] _
  have hnl := numsTo_len l n k
  have hnk := numE_len (l.getD k 0) n
  refine WC.seq ?_
  refine WC.region ?_
  refine WL.op rfl rfl (op_lssN rfl rfl ?_)
  refine WL.nil ?_
  refine WQ.next ?_
  refine WC.seq ?_
  refine WC.cond rfl (fun (hb2 : (decide (k < l.length)) = true) => ?_) (fun (hb2 : (decide (k < l.length)) = false) => ?_)
  ·
    have hc2 := of_decide_eq_true hb2
    refine WC.skip ?_
    refine WQ.next ?_
    refine WC.seq ?_
    refine WC.block ?_
    refine WC.seq ?_
    refine WC.region ?_
    refine WL.op rfl rfl (op_indexAddr1 Try.underlying64 Fa.I22 rfl (hA _ H1.fr) rfl (by omega) ?_)
    refine WL.op rfl rfl (op_load rfl ((hA _ H1.fr).at (get_map vU32 0 (Arr.ltM (hA _ H1.fr) (by omega)))) Try.underlying22 rfl ?_)
    refine WL.op rfl rfl (op_assign rfl ?_)
    refine WL.nil ?_
    refine WQ.next ?_
    refine WC.seq ?_
    refine WC.region ?_
    refine WL.op rfl rfl (op_move rfl ?_)
    refine WL.op rfl rfl (op_move rfl ?_)
    refine WL.op rfl rfl (op_callF Fa.C17 rfl ((num_ok (l.getD k 0) ((n : Nat)) _).mono (fun e w3 hq => ?_)))
    obtain ⟨rfl, hf3⟩ := hq
    refine ⟨_, rfl, ?_⟩
    have H3 := H1.fr' hf3
    refine WL.op rfl rfl (op_move rfl ?_)
    refine WL.op rfl rfl (op_extract rfl rfl ?_)
    refine WL.op rfl rfl (op_extract rfl rfl ?_)
    refine WL.op rfl rfl (op_assign rfl ?_)
    refine WL.op rfl rfl (op_assign rfl ?_)
    refine WL.nil ?_
    refine WQ.next ?_
    refine WC.region ?_
    refine WL.op rfl rfl (op_move rfl ?_)
    refine WL.op rfl rfl (op_nilCheck rfl ?_)
    refine WL.op rfl rfl (op_fieldAddr rfl Fa.F123_0 ?_)
    refine WL.op rfl rfl (op_move rfl ?_)
    refine WL.op rfl rfl (op_callF Fa.C85 rfl ((ws_ok b (ptr b 0) v2 (bs ++ (numsTo l n k)).length (bs ++ (numsTo l n k)) (numS (l.getD k 0) (n : Nat)) 123 _ _ (H3.part [0, 1] rfl rfl) (.inr rfl) Fa.CO123 Fa.LI123_121 (by rw [List.length_append]; omega)).mono (fun e w4 hq => ?_)))
    obtain ⟨v4, rfl, hq4⟩ := hq
    refine ⟨_, rfl, ?_⟩
    have H4 : Own T w w4 [.blk b [(ptr b 0), v4] 123, .row v4 5 1 ((bs ++ (numsTo l n k)).length + (numS (l.getD k 0) (n : Nat)).length) (List.map vU8 ((bs ++ (numsTo l n k)) ++ (numS (l.getD k 0) (n : Nat))))] := H3.splice [0, 1] [.blk b [(ptr b 0), v4] 123, .row v4 5 1 ((bs ++ (numsTo l n k)).length + (numS (l.getD k 0) (n : Nat)).length) (List.map vU8 ((bs ++ (numsTo l n k)) ++ (numS (l.getD k 0) (n : Nat))))] [] rfl rfl hq4 (Fits.solid True.intro (Fits.solid True.intro Fits.nil))
    refine WL.nil ?_
    refine WQ.inNormal ?_
    refine WQ.next ?_
    refine WC.region ?_
    refine WL.op rfl rfl (op_addN (b := 1) rfl rfl (by omega) ?_)
    refine WL.op rfl rfl (op_move rfl ?_)
    refine WL.nil ?_
    exact WQ.round (k + 1, v4) ⟨(by omega), (Own.rowEqN (i := 1) (f := vU8) H4 rfl (List.append_assoc ..) (by rw [numsTo]; simp only [List.length_append]; omega))⟩ ⟨rfl, rfl, rfl, rfl, rfl, trivial⟩ (by show l.length - (k + 1) < l.length - k; omega)
  ·
    have hc2 := of_decide_eq_false hb2
    refine WC.exit ?_
    refine WQ.thenExit ?_
    refine WQ.thenExit ?_
    refine WQ.inHere ?_
    refine WQ.outEnd .nil ?_
    exact ⟨_, rfl, (by have e : k = l.length := (by omega); have h := (show Own T w w1 [.blk b [(ptr b 0), v2] 123, .row v2 5 1 (bs ++ (numsTo l n k)).length (List.map vU8 (bs ++ (numsTo l n k)))] from H1); rw [e] at h; exact h)⟩
theorem nums1_ok (b : Nat) (v lv : Value) (q : Nat) (bs : List UInt8) (u : UInt32) (n : Nat) (T : List Nat) (w : World) (H : Own T w w [.blk b [ptr b 0, v] 123, .row v 5 1 q (List.map vU8 bs)]) (hA : ∀ w1, Fr T w w1 → Arr w1 lv 1 1 (List.map vU32 [u])) (hb : q < 2 ^ 45) :
    Calls Try.prog 86 #[ptr b 0, vN n, lv] w (fun e w' => ∃ v', e = .returned undef ∧ Own T w w' [.blk b [ptr b 0, v'] 123, .row v' 5 1 (bs ++ numS u n).length (List.map vU8 (bs ++ numS u n))]) := by
  have h := nums_ok b v lv q bs [u] n T w H hA (by show q + 4 * 1 < 2 ^ 46; omega)
  rw [show numsTo [u] n [u].length = numS u n from List.nil_append _] at h
  exact h
end Go.Proofs.Ytpnghdalnghpcaa
/-! from WImg3 -/
namespace Go.Proofs.Ytpnghdalnghpcaa
open Go.Owl Go.Spec
set_option maxRecDepth 100000 in
theorem iput_ok (pg : UInt32) (ev pv sv : Value) (xs : List Xt) (ps : List UInt16) (con : Bool) (en : UInt32) (sg : List Sg) (w : World) (hE : Arr w ev 2 xs.length (List.flatMap xtc xs)) (hP : Arr w pv 1 ps.length (List.map vU16 ps)) (hS : Arr w sv 3 sg.length (List.flatMap sgc sg)) (bx : xs.length ≤ 2 ^ 20) (bp : ps.length ≤ 2 ^ 20) (bs : sg.length ≤ 2 ^ 10) (bb : ∀ x ∈ sg, x.b.length ≤ 2 ^ 30) :
    Calls Try.prog 41 #[(.agg #[(vU32 pg), ev, pv, (.bool con), (vU32 en), sv])] w (fun e w' => e = .returned (.tuple #[str (imB pg xs ps con en sg), vN (imE pg xs ps en sg)]) ∧ Fr [] w w') := by
  refine enter (args := [(.agg #[(vU32 pg), ev, pv, (.bool con), (vU32 en), sv])]) Try.func41 rfl rfl ?_
  have H0 : Own [] w w [] := Own.start w []
  have hq1 := imP1_len pg xs
  have hq2 := imP2_len pg xs ps
  have hq3 := imP3_len pg xs ps con en sg
  
  refine WC.seq ?_
  refine WC.region ?_
  refine WL.op rfl rfl (op_box H0 rfl rfl (fun b1 w1 H1 => ?_))
  refine WL.op rfl rfl (op_assign rfl ?_)
  refine WL.op rfl rfl (op_assign rfl ?_)
  refine WL.nil ?_
  refine WQ.next ?_
  refine WC.seq ?_
  refine WC.seq ?_
  refine WC.region ?_
  refine WL.op rfl rfl (op_loadS (vs := [_, _, _, _, _, _]) rfl (H1.cells (i := 0) rfl rfl) Try.underlying59 rfl Fa.I59 rfl ?_)
  refine WL.op rfl rfl (op_callF Fa.C40 rfl ((icheck_ok pg _ _ _ xs ps con en sg _ (H1.arr hE) (H1.arr hP) (H1.arr hS) (by omega) (by omega) (by omega)).mono (fun e w2 hq => ?_)))
  obtain ⟨rfl, hf2⟩ := hq
  refine ⟨_, rfl, ?_⟩
  have H2 := H1.fr' hf2
  refine WL.op rfl rfl (op_assign rfl ?_)
  refine WL.nil ?_
  refine WQ.next ?_
  refine WC.seq ?_
  refine WC.region ?_
  refine WL.op rfl rfl (op_move rfl ?_)
  refine WL.op rfl rfl (op_neqN (b := 0) rfl rfl ?_)
  refine WL.nil ?_
  refine WQ.next ?_
  refine WC.cond rfl (fun (hb3 : (decide ((imE pg xs ps en sg) ≠ 0)) = true) => ?_) (fun (hb3 : (decide ((imE pg xs ps en sg) ≠ 0)) = false) => ?_)
  ·
    have hc3 := of_decide_eq_true hb3
    refine WC.seq ?_
    refine WC.region ?_
    refine WL.op rfl rfl (op_move rfl ?_)
    refine WL.op rfl rfl (op_assign rfl ?_)
    refine WL.op rfl rfl (op_assign rfl ?_)
    refine WL.nil ?_
    refine WQ.next ?_
    refine WC.ret ?_
    refine WQ.thenRet ?_
    refine WQ.out (.tmp rfl (.tmp rfl .nil)) ?_
    have h2 := hc3
    rw [imB, if_neg h2]
    exact ⟨rfl, H2.fr⟩
  ·
    have hc3 := of_decide_eq_false hb3
    refine WC.skip ?_
    refine WQ.next ?_
    refine WC.seq ?_
    refine WC.region ?_
    refine WL.op rfl rfl (op_alloc H2 Fa.I123 (fun b4 w4 H4 => ?_))
    refine WL.nil ?_
    refine WQ.next ?_
    refine WC.seq ?_
    refine WC.region ?_
    have H5 : Own [] w w4 [.blk b1 [(vU32 pg), ev, pv, (.bool con), (vU32 en), sv] 59, .blk b4 [(.pointer none), (.slice none 0 0)] 123, .row (.slice none 0 0) 5 1 0 (List.map vU8 [])] := H4.nilRow 5 1
    refine WL.op rfl rfl (op_fieldAddr rfl Fa.F123_0 ?_)
    refine WL.op rfl rfl (op_callF Fa.C85 rfl ((ws_ok b4 (.pointer none) (.slice none 0 0) 0 ([]) ([65, 73, 77, 49]) 123 _ _ (H5.part [1, 2] rfl rfl) (.inl rfl) Fa.CO123 Fa.LI123_121 (by first | (show 0 + 4 < 2 ^ 46; decide) | (simp only [List.length_append]; omega))).mono (fun e w6 hq => ?_)))
    obtain ⟨v6, rfl, hq6⟩ := hq
    refine ⟨_, rfl, ?_⟩
    have H6 : Own [] w w6 [.blk b1 [(vU32 pg), ev, pv, (.bool con), (vU32 en), sv] 59, .blk b4 [(ptr b4 0), v6] 123, .row v6 5 1 (0 + [65, 73, 77, 49].length) (List.map vU8 ([] ++ [65, 73, 77, 49]))] := H5.splice [1, 2] [.blk b4 [(ptr b4 0), v6] 123, .row v6 5 1 (0 + [65, 73, 77, 49].length) (List.map vU8 ([] ++ [65, 73, 77, 49]))] [] rfl rfl hq6 (Fits.solid True.intro (Fits.solid True.intro Fits.nil))
    refine WL.nil ?_
    refine WQ.next ?_
    refine WC.seq ?_
    refine WC.region ?_
    refine WL.op rfl rfl (op_fieldAddr rfl Fa.F59_0 ?_)
    refine WL.op rfl rfl (op_fieldAddr rfl Fa.F56_0 ?_)
    refine WL.op rfl rfl (op_load rfl (H6.cell (i := 0) rfl rfl) Try.underlying22 rfl ?_)
    refine WL.op rfl rfl (op_buildSlice (cs := [_]) H6 Try.underlying64 Fa.I22 rfl rfl rfl rfl (by decide) (by decide) (fun b7 w7 H7 => ?_))
    refine WL.op rfl rfl (op_callF Fa.C86 rfl ((nums1_ok b4 v6 (.slice (some ⟨b7, 0, none⟩) 1 1) (0 + [65, 73, 77, 49].length) ([] ++ [65, 73, 77, 49]) pg 4 _ _ (H7.part [1, 2] rfl rfl) (H7.stayR (I := [1, 2]) (k := 3) rfl rfl rfl) (by (try simp only [List.length_append, List.length_cons, List.length_nil]); omega)).mono (fun e w8 hq => ?_)))
    obtain ⟨v8, rfl, hq8⟩ := hq
    refine ⟨_, rfl, ?_⟩
    have H8 : Own [] w w8 [.blk b1 [(vU32 pg), ev, pv, (.bool con), (vU32 en), sv] 59, .blk b4 [(ptr b4 0), v8] 123, .row v8 5 1 (([] ++ [65, 73, 77, 49]) ++ (numS pg 4)).length (List.map vU8 (([] ++ [65, 73, 77, 49]) ++ (numS pg 4))), .row (.slice (some ⟨b7, 0, none⟩) 1 1) 22 1 1 (List.map vU32 [pg])] := H7.splice [1, 2] [.blk b4 [(ptr b4 0), v8] 123, .row v8 5 1 (([] ++ [65, 73, 77, 49]) ++ (numS pg 4)).length (List.map vU8 (([] ++ [65, 73, 77, 49]) ++ (numS pg 4)))] [] rfl rfl hq8 (Fits.solid True.intro (Fits.solid True.intro Fits.nil))
    refine WL.nil ?_
    refine WQ.next ?_
    refine WC.seq ?_
    refine WC.region ?_
    refine WL.op rfl rfl (op_fieldAddr rfl Fa.F59_0 ?_)
    refine WL.op rfl rfl (op_fieldAddr rfl Fa.F56_1 ?_)
    refine WL.op rfl rfl (op_load rfl (H8.cell (i := 0) rfl rfl) Try.underlying53 rfl ?_)
    refine WL.op rfl rfl (op_lenA Try.underlying53 rfl (H8.arr hE) ?_)
    refine WL.op rfl rfl (op_convNU32 (hs := Try.underlying3) (hd := Try.underlying22) rfl ?_)
    refine WL.op rfl rfl (op_buildSlice (cs := [_]) H8 Try.underlying64 Fa.I22 rfl rfl rfl rfl (by decide) (by decide) (fun b9 w9 H9 => ?_))
    refine WL.op rfl rfl (op_callF Fa.C86 rfl ((nums1_ok b4 v8 (.slice (some ⟨b9, 0, none⟩) 1 1) (([] ++ [65, 73, 77, 49]) ++ (numS pg 4)).length (([] ++ [65, 73, 77, 49]) ++ (numS pg 4)) (UInt32.ofNat xs.length) 1 _ _ (H9.part [1, 2] rfl rfl) (H9.stayR (I := [1, 2]) (k := 4) rfl rfl rfl) (by have := numE_len pg 4; (try simp only [List.length_append, List.length_cons, List.length_nil]); omega)).mono (fun e w10 hq => ?_)))
    obtain ⟨v10, rfl, hq10⟩ := hq
    refine ⟨_, rfl, ?_⟩
    have H10 : Own [] w w10 [.blk b1 [(vU32 pg), ev, pv, (.bool con), (vU32 en), sv] 59, .blk b4 [(ptr b4 0), v10] 123, .row v10 5 1 ((([] ++ [65, 73, 77, 49]) ++ (numS pg 4)) ++ (numS (UInt32.ofNat xs.length) 1)).length (List.map vU8 ((([] ++ [65, 73, 77, 49]) ++ (numS pg 4)) ++ (numS (UInt32.ofNat xs.length) 1))), .row (.slice (some ⟨b7, 0, none⟩) 1 1) 22 1 1 (List.map vU32 [pg]), .row (.slice (some ⟨b9, 0, none⟩) 1 1) 22 1 1 (List.map vU32 [(UInt32.ofNat xs.length)])] := H9.splice [1, 2] [.blk b4 [(ptr b4 0), v10] 123, .row v10 5 1 ((([] ++ [65, 73, 77, 49]) ++ (numS pg 4)) ++ (numS (UInt32.ofNat xs.length) 1)).length (List.map vU8 ((([] ++ [65, 73, 77, 49]) ++ (numS pg 4)) ++ (numS (UInt32.ofNat xs.length) 1)))] [] rfl rfl hq10 (Fits.solid True.intro (Fits.solid True.intro Fits.nil))
    refine WL.nil ?_
    refine WQ.next ?_
    refine WC.seq ?_
    refine WC.seq ?_
    refine WC.region ?_
    have H11 : Own [] w w10 [.blk b1 [(vU32 pg), ev, pv, (.bool con), (vU32 en), sv] 59, .blk b4 [(ptr b4 0), v10] 123, .row v10 5 1 (imP1 pg xs).length (List.map vU8 (imP1 pg xs)), .row (.slice (some ⟨b7, 0, none⟩) 1 1) 22 1 1 (List.map vU32 [pg]), .row (.slice (some ⟨b9, 0, none⟩) 1 1) 22 1 1 (List.map vU32 [(UInt32.ofNat xs.length)])] := Own.rowEqN (i := 2) (f := vU8) H10 rfl rfl rfl
    refine WL.op rfl rfl (op_fieldAddr rfl Fa.F59_0 ?_)
    refine WL.op rfl rfl (op_fieldAddr rfl Fa.F56_1 ?_)
    refine WL.op rfl rfl (op_load rfl (H11.cell (i := 0) rfl rfl) Try.underlying53 rfl ?_)
    refine WL.op rfl rfl (op_lenA Try.underlying53 rfl (H11.arr hE) ?_)
    refine WL.op rfl rfl (op_move rfl ?_)
    refine WL.nil ?_
    refine WQ.next ?_
    refine WC.block ?_
    refine WC.loop (α := Nat × Value) (fun (k, x) => [(1, (ptr b1 0)), (5, (ptr b4 0)), (34, ev), (35, (vN xs.length)), (36, (vN k))]) (fun (k, x) w' => (k ≤ xs.length) ∧ Own [] w w' [.blk b1 [(vU32 pg), ev, pv, (.bool con), (vU32 en), sv] 59, .blk b4 [(ptr b4 0), x] 123, .row x 5 1 ((imP1 pg xs) ++ putX xs k).length (List.map vU8 ((imP1 pg xs) ++ putX xs k)), .row (.slice (some ⟨b7, 0, none⟩) 1 1) 22 1 1 (List.map vU32 [pg]), .row (.slice (some ⟨b9, 0, none⟩) 1 1) 22 1 1 (List.map vU32 [(UInt32.ofNat xs.length)])]) (fun (k, x) => xs.length - k) (0, v10) ⟨Nat.zero_le _, (Own.rowEqN (i := 2) (f := vU8) H11 rfl (List.append_nil _).symm (congrArg List.length (List.append_nil _).symm))⟩ ⟨rfl, rfl, rfl, rfl, rfl, trivial⟩ ?_
    rintro ⟨k, x⟩ w12 ⟨hk1, H12⟩
    show WC _ _ _ _ _ [(1, (ptr b1 0)), (5, (ptr b4 0)), (34, ev), (35, (vN xs.length)), (36, (vN k))] _
    have hq1 := imP1_len pg xs
    have hqx := putX_len xs k
    refine WC.seq ?_
    refine WC.region ?_
    refine WL.op rfl rfl (op_lssN rfl rfl ?_)
    refine WL.nil ?_
    refine WQ.next ?_
    refine WC.seq ?_
    refine WC.cond rfl (fun (hb13 : (decide (k < xs.length)) = true) => ?_) (fun (hb13 : (decide (k < xs.length)) = false) => ?_)
    ·
      have hc13 := of_decide_eq_true hb13
      refine WC.skip ?_
      refine WQ.next ?_
      refine WC.seq ?_
      refine WC.block ?_
      refine WC.seq ?_
      refine WC.region ?_
      refine WL.op rfl rfl (op_indexAddr Try.underlying53 Fa.I130 rfl (H12.arr hE) rfl (by omega) ?_)
      refine WL.op rfl rfl (op_loadSP (vs := xtc (xs.getD k Xt.zero)) rfl (Arr.atsF (H12.arr hE) (fun _ => rfl) (by decide) Xt.zero (by omega)) Try.underlying130 rfl Fa.I130 rfl ?_)
      refine WL.op rfl rfl (op_alloc H12 Fa.I130 (fun b14 w14 H14 => ?_))
      refine WL.op rfl rfl (op_storeBW (i := 5) H14 rfl rfl rfl rfl rfl Fa.I130 (fun w15 H15 => ?_))
      refine WL.nil ?_
      refine WQ.next ?_
      refine WC.seq ?_
      refine WC.region ?_
      refine WL.op rfl rfl (op_fieldAddr rfl Fa.F130_0 ?_)
      refine WL.op rfl rfl (op_load rfl (H15.cell (i := 5) rfl rfl) Try.underlying22 rfl ?_)
      refine WL.op rfl rfl (op_buildSlice (cs := [_]) H15 Try.underlying64 Fa.I22 rfl rfl rfl rfl (by decide) (by decide) (fun b16 w16 H16 => ?_))
      refine WL.op rfl rfl (op_callF Fa.C86 rfl ((nums1_ok b4 x (.slice (some ⟨b16, 0, none⟩) 1 1) ((imP1 pg xs) ++ putX xs k).length ((imP1 pg xs) ++ putX xs k) ((xs.getD k Xt.zero).id) 1 _ _ (H16.part [1, 2] rfl rfl) (H16.stayR (I := [1, 2]) (k := 6) rfl rfl rfl) (by (try simp only [List.length_append, List.length_cons, List.length_nil]); omega)).mono (fun e w17 hq => ?_)))
      obtain ⟨v17, rfl, hq17⟩ := hq
      refine ⟨_, rfl, ?_⟩
      have H17 : Own [] w w17 [.blk b1 [(vU32 pg), ev, pv, (.bool con), (vU32 en), sv] 59, .blk b4 [(ptr b4 0), v17] 123, .row v17 5 1 (((imP1 pg xs) ++ putX xs k) ++ (numS ((xs.getD k Xt.zero).id) 1)).length (List.map vU8 (((imP1 pg xs) ++ putX xs k) ++ (numS ((xs.getD k Xt.zero).id) 1))), .row (.slice (some ⟨b7, 0, none⟩) 1 1) 22 1 1 (List.map vU32 [pg]), .row (.slice (some ⟨b9, 0, none⟩) 1 1) 22 1 1 (List.map vU32 [(UInt32.ofNat xs.length)]), .blk b14 [(vU32 (xs.getD k Xt.zero).id), (vU32 (xs.getD k Xt.zero).bl)] 130, .row (.slice (some ⟨b16, 0, none⟩) 1 1) 22 1 1 (List.map vU32 [(xs.getD k Xt.zero).id])] := H16.splice [1, 2] [.blk b4 [(ptr b4 0), v17] 123, .row v17 5 1 (((imP1 pg xs) ++ putX xs k) ++ (numS ((xs.getD k Xt.zero).id) 1)).length (List.map vU8 (((imP1 pg xs) ++ putX xs k) ++ (numS ((xs.getD k Xt.zero).id) 1)))] [] rfl rfl hq17 (Fits.solid True.intro (Fits.solid True.intro Fits.nil))
      refine WL.nil ?_
      refine WQ.next ?_
      refine WC.region ?_
      refine WL.op rfl rfl (op_fieldAddr rfl Fa.F130_1 ?_)
      refine WL.op rfl rfl (op_load rfl (H17.cell (i := 5) rfl rfl) Try.underlying22 rfl ?_)
      refine WL.op rfl rfl (op_buildSlice (cs := [_]) H17 Try.underlying64 Fa.I22 rfl rfl rfl rfl (by decide) (by decide) (fun b18 w18 H18 => ?_))
      refine WL.op rfl rfl (op_callF Fa.C86 rfl ((nums1_ok b4 v17 (.slice (some ⟨b18, 0, none⟩) 1 1) (((imP1 pg xs) ++ putX xs k) ++ (numS ((xs.getD k Xt.zero).id) 1)).length (((imP1 pg xs) ++ putX xs k) ++ (numS ((xs.getD k Xt.zero).id) 1)) ((xs.getD k Xt.zero).bl) 2 _ _ (H18.part [1, 2] rfl rfl) (H18.stayR (I := [1, 2]) (k := 7) rfl rfl rfl) (by have := numE_len ((xs.getD k Xt.zero).id) 1; (try simp only [List.length_append, List.length_cons, List.length_nil]); omega)).mono (fun e w19 hq => ?_)))
      obtain ⟨v19, rfl, hq19⟩ := hq
      refine ⟨_, rfl, ?_⟩
      have H19 : Own [] w w19 [.blk b1 [(vU32 pg), ev, pv, (.bool con), (vU32 en), sv] 59, .blk b4 [(ptr b4 0), v19] 123, .row v19 5 1 ((((imP1 pg xs) ++ putX xs k) ++ (numS ((xs.getD k Xt.zero).id) 1)) ++ (numS ((xs.getD k Xt.zero).bl) 2)).length (List.map vU8 ((((imP1 pg xs) ++ putX xs k) ++ (numS ((xs.getD k Xt.zero).id) 1)) ++ (numS ((xs.getD k Xt.zero).bl) 2))), .row (.slice (some ⟨b7, 0, none⟩) 1 1) 22 1 1 (List.map vU32 [pg]), .row (.slice (some ⟨b9, 0, none⟩) 1 1) 22 1 1 (List.map vU32 [(UInt32.ofNat xs.length)]), .blk b14 [(vU32 (xs.getD k Xt.zero).id), (vU32 (xs.getD k Xt.zero).bl)] 130, .row (.slice (some ⟨b16, 0, none⟩) 1 1) 22 1 1 (List.map vU32 [(xs.getD k Xt.zero).id]), .row (.slice (some ⟨b18, 0, none⟩) 1 1) 22 1 1 (List.map vU32 [(xs.getD k Xt.zero).bl])] := H18.splice [1, 2] [.blk b4 [(ptr b4 0), v19] 123, .row v19 5 1 ((((imP1 pg xs) ++ putX xs k) ++ (numS ((xs.getD k Xt.zero).id) 1)) ++ (numS ((xs.getD k Xt.zero).bl) 2)).length (List.map vU8 ((((imP1 pg xs) ++ putX xs k) ++ (numS ((xs.getD k Xt.zero).id) 1)) ++ (numS ((xs.getD k Xt.zero).bl) 2)))] [] rfl rfl hq19 (Fits.solid True.intro (Fits.solid True.intro Fits.nil))
      refine WL.nil ?_
      refine WQ.inNormal ?_
      refine WQ.next ?_
      refine WC.region ?_
      refine WL.op rfl rfl (op_addN (b := 1) rfl rfl (by omega) ?_)
      refine WL.op rfl rfl (op_move rfl ?_)
      refine WL.nil ?_
      exact WQ.round (k + 1, v19) ⟨(by omega), (by have h := (show Own [] w w19 [.blk b1 [(vU32 pg), ev, pv, (.bool con), (vU32 en), sv] 59, .blk b4 [(ptr b4 0), v19] 123, .row v19 5 1 ((((imP1 pg xs) ++ putX xs k) ++ (numS ((xs.getD k Xt.zero).id) 1)) ++ (numS ((xs.getD k Xt.zero).bl) 2)).length (List.map vU8 ((((imP1 pg xs) ++ putX xs k) ++ (numS ((xs.getD k Xt.zero).id) 1)) ++ (numS ((xs.getD k Xt.zero).bl) 2))), .row (.slice (some ⟨b7, 0, none⟩) 1 1) 22 1 1 (List.map vU32 [pg]), .row (.slice (some ⟨b9, 0, none⟩) 1 1) 22 1 1 (List.map vU32 [(UInt32.ofNat xs.length)])] from (H19.take 5)); exact Own.rowEqN (i := 2) (f := vU8) h rfl (by simp only [putX, List.append_assoc]) (by simp only [putX, List.append_assoc, List.length_append]; try omega))⟩ ⟨rfl, rfl, rfl, rfl, rfl, trivial⟩ (by show xs.length - (k + 1) < xs.length - k; omega)
    ·
      have hc13 := of_decide_eq_false hb13
      refine WC.exit ?_
      refine WQ.thenExit ?_
      refine WQ.thenExit ?_
      refine WQ.inHere ?_
      refine WQ.next ?_
      refine WC.seq ?_
      refine WC.region ?_
      refine WL.op rfl rfl (op_fieldAddr rfl Fa.F59_0 ?_)
      refine WL.op rfl rfl (op_fieldAddr rfl Fa.F56_2 ?_)
      refine WL.op rfl rfl (op_load rfl (H12.cell (i := 0) rfl rfl) Try.underlying54 rfl ?_)
      refine WL.op rfl rfl (op_lenA Try.underlying54 rfl (H12.arr hP) ?_)
      refine WL.op rfl rfl (op_convNU32 (hs := Try.underlying3) (hd := Try.underlying22) rfl ?_)
      refine WL.op rfl rfl (op_buildSlice (cs := [_]) H12 Try.underlying64 Fa.I22 rfl rfl rfl rfl (by decide) (by decide) (fun b20 w20 H20 => ?_))
      refine WL.op rfl rfl (op_callF Fa.C86 rfl ((nums1_ok b4 x (.slice (some ⟨b20, 0, none⟩) 1 1) ((imP1 pg xs) ++ putX xs k).length ((imP1 pg xs) ++ putX xs k) (UInt32.ofNat ps.length) 1 _ _ (H20.part [1, 2] rfl rfl) (H20.stayR (I := [1, 2]) (k := 5) rfl rfl rfl) (by (try simp only [List.length_append, List.length_cons, List.length_nil]); omega)).mono (fun e w21 hq => ?_)))
      obtain ⟨v21, rfl, hq21⟩ := hq
      refine ⟨_, rfl, ?_⟩
      have H21 : Own [] w w21 [.blk b1 [(vU32 pg), ev, pv, (.bool con), (vU32 en), sv] 59, .blk b4 [(ptr b4 0), v21] 123, .row v21 5 1 (((imP1 pg xs) ++ putX xs k) ++ (numS (UInt32.ofNat ps.length) 1)).length (List.map vU8 (((imP1 pg xs) ++ putX xs k) ++ (numS (UInt32.ofNat ps.length) 1))), .row (.slice (some ⟨b7, 0, none⟩) 1 1) 22 1 1 (List.map vU32 [pg]), .row (.slice (some ⟨b9, 0, none⟩) 1 1) 22 1 1 (List.map vU32 [(UInt32.ofNat xs.length)]), .row (.slice (some ⟨b20, 0, none⟩) 1 1) 22 1 1 (List.map vU32 [(UInt32.ofNat ps.length)])] := H20.splice [1, 2] [.blk b4 [(ptr b4 0), v21] 123, .row v21 5 1 (((imP1 pg xs) ++ putX xs k) ++ (numS (UInt32.ofNat ps.length) 1)).length (List.map vU8 (((imP1 pg xs) ++ putX xs k) ++ (numS (UInt32.ofNat ps.length) 1)))] [] rfl rfl hq21 (Fits.solid True.intro (Fits.solid True.intro Fits.nil))
      refine WL.nil ?_
      refine WQ.next ?_
      refine WC.seq ?_
      refine WC.seq ?_
      refine WC.region ?_
      obtain rfl : k = xs.length := by omega
      have H22 : Own [] w w21 [.blk b1 [(vU32 pg), ev, pv, (.bool con), (vU32 en), sv] 59, .blk b4 [(ptr b4 0), v21] 123, .row v21 5 1 (imP2 pg xs ps).length (List.map vU8 (imP2 pg xs ps)), .row (.slice (some ⟨b7, 0, none⟩) 1 1) 22 1 1 (List.map vU32 [pg]), .row (.slice (some ⟨b9, 0, none⟩) 1 1) 22 1 1 (List.map vU32 [(UInt32.ofNat xs.length)]), .row (.slice (some ⟨b20, 0, none⟩) 1 1) 22 1 1 (List.map vU32 [(UInt32.ofNat ps.length)])] := Own.rowEqN (i := 2) (f := vU8) H21 rfl rfl rfl
      refine WL.op rfl rfl (op_fieldAddr rfl Fa.F59_0 ?_)
      refine WL.op rfl rfl (op_fieldAddr rfl Fa.F56_2 ?_)
      refine WL.op rfl rfl (op_load rfl (H22.cell (i := 0) rfl rfl) Try.underlying54 rfl ?_)
      refine WL.op rfl rfl (op_lenA Try.underlying54 rfl (H22.arr hP) ?_)
      refine WL.op rfl rfl (op_move rfl ?_)
      refine WL.nil ?_
      refine WQ.next ?_
      refine WC.block ?_
      refine WC.loop (α := Nat × Value) (fun (j, x) => [(1, (ptr b1 0)), (5, (ptr b4 0)), (58, pv), (59, (vN ps.length)), (60, (vN j))]) (fun (j, x) w' => (j ≤ ps.length) ∧ Own [] w w' [.blk b1 [(vU32 pg), ev, pv, (.bool con), (vU32 en), sv] 59, .blk b4 [(ptr b4 0), x] 123, .row x 5 1 ((imP2 pg xs ps) ++ putP ps j).length (List.map vU8 ((imP2 pg xs ps) ++ putP ps j)), .row (.slice (some ⟨b7, 0, none⟩) 1 1) 22 1 1 (List.map vU32 [pg]), .row (.slice (some ⟨b9, 0, none⟩) 1 1) 22 1 1 (List.map vU32 [(UInt32.ofNat xs.length)]), .row (.slice (some ⟨b20, 0, none⟩) 1 1) 22 1 1 (List.map vU32 [(UInt32.ofNat ps.length)])]) (fun (j, x) => ps.length - j) (0, v21) ⟨Nat.zero_le _, (Own.rowEqN (i := 2) (f := vU8) H22 rfl (List.append_nil _).symm (congrArg List.length (List.append_nil _).symm))⟩ ⟨rfl, rfl, rfl, rfl, rfl, trivial⟩ ?_
      rintro ⟨j, x⟩ w23 ⟨hj1, H23⟩
      show WC _ _ _ _ _ [(1, (ptr b1 0)), (5, (ptr b4 0)), (58, pv), (59, (vN ps.length)), (60, (vN j))] _
      have hq2 := imP2_len pg xs ps
      have hqp := putP_len ps j
      refine WC.seq ?_
      refine WC.region ?_
      refine WL.op rfl rfl (op_lssN rfl rfl ?_)
      refine WL.nil ?_
      refine WQ.next ?_
      refine WC.seq ?_
      refine WC.cond rfl (fun (hb24 : (decide (j < ps.length)) = true) => ?_) (fun (hb24 : (decide (j < ps.length)) = false) => ?_)
      ·
        have hc24 := of_decide_eq_true hb24
        refine WC.skip ?_
        refine WQ.next ?_
        refine WC.seq ?_
        refine WC.block ?_
        refine WC.seq ?_
        refine WC.region ?_
        refine WL.op rfl rfl (op_indexAddr1 Try.underlying54 Fa.I92 rfl (H23.arr hP) rfl (by omega) ?_)
        refine WL.op rfl rfl (op_load rfl ((H23.arr hP).at (get_map vU16 0 (Arr.ltM (H23.arr hP) (by omega)))) Try.underlying92 rfl ?_)
        refine WL.op rfl rfl (op_assign rfl ?_)
        refine WL.nil ?_
        refine WQ.next ?_
        refine WC.region ?_
        refine WL.op rfl rfl (op_move rfl ?_)
        refine WL.op rfl rfl (op_convU16U32 (hs := Try.underlying92) (hd := Try.underlying22) rfl ?_)
        refine WL.op rfl rfl (op_buildSlice (cs := [_]) H23 Try.underlying64 Fa.I22 rfl rfl rfl rfl (by decide) (by decide) (fun b25 w25 H25 => ?_))
        refine WL.op rfl rfl (op_callF Fa.C86 rfl ((nums1_ok b4 x (.slice (some ⟨b25, 0, none⟩) 1 1) ((imP2 pg xs ps) ++ putP ps j).length ((imP2 pg xs ps) ++ putP ps j) (UInt32.ofNat (ps.getD j 0).toNat) 2 _ _ (H25.part [1, 2] rfl rfl) (H25.stayR (I := [1, 2]) (k := 6) rfl rfl rfl) (by (try simp only [List.length_append, List.length_cons, List.length_nil]); omega)).mono (fun e w26 hq => ?_)))
        obtain ⟨v26, rfl, hq26⟩ := hq
        refine ⟨_, rfl, ?_⟩
        have H26 : Own [] w w26 [.blk b1 [(vU32 pg), ev, pv, (.bool con), (vU32 en), sv] 59, .blk b4 [(ptr b4 0), v26] 123, .row v26 5 1 (((imP2 pg xs ps) ++ putP ps j) ++ (numS (UInt32.ofNat (ps.getD j 0).toNat) 2)).length (List.map vU8 (((imP2 pg xs ps) ++ putP ps j) ++ (numS (UInt32.ofNat (ps.getD j 0).toNat) 2))), .row (.slice (some ⟨b7, 0, none⟩) 1 1) 22 1 1 (List.map vU32 [pg]), .row (.slice (some ⟨b9, 0, none⟩) 1 1) 22 1 1 (List.map vU32 [(UInt32.ofNat xs.length)]), .row (.slice (some ⟨b20, 0, none⟩) 1 1) 22 1 1 (List.map vU32 [(UInt32.ofNat ps.length)]), .row (.slice (some ⟨b25, 0, none⟩) 1 1) 22 1 1 (List.map vU32 [(UInt32.ofNat (ps.getD j 0).toNat)])] := H25.splice [1, 2] [.blk b4 [(ptr b4 0), v26] 123, .row v26 5 1 (((imP2 pg xs ps) ++ putP ps j) ++ (numS (UInt32.ofNat (ps.getD j 0).toNat) 2)).length (List.map vU8 (((imP2 pg xs ps) ++ putP ps j) ++ (numS (UInt32.ofNat (ps.getD j 0).toNat) 2)))] [] rfl rfl hq26 (Fits.solid True.intro (Fits.solid True.intro Fits.nil))
        refine WL.nil ?_
        refine WQ.inNormal ?_
        refine WQ.next ?_
        refine WC.region ?_
        refine WL.op rfl rfl (op_addN (b := 1) rfl rfl (by omega) ?_)
        refine WL.op rfl rfl (op_move rfl ?_)
        refine WL.nil ?_
        exact WQ.round (j + 1, v26) ⟨(by omega), (by have h := (show Own [] w w26 [.blk b1 [(vU32 pg), ev, pv, (.bool con), (vU32 en), sv] 59, .blk b4 [(ptr b4 0), v26] 123, .row v26 5 1 (((imP2 pg xs ps) ++ putP ps j) ++ (numS (UInt32.ofNat (ps.getD j 0).toNat) 2)).length (List.map vU8 (((imP2 pg xs ps) ++ putP ps j) ++ (numS (UInt32.ofNat (ps.getD j 0).toNat) 2))), .row (.slice (some ⟨b7, 0, none⟩) 1 1) 22 1 1 (List.map vU32 [pg]), .row (.slice (some ⟨b9, 0, none⟩) 1 1) 22 1 1 (List.map vU32 [(UInt32.ofNat xs.length)]), .row (.slice (some ⟨b20, 0, none⟩) 1 1) 22 1 1 (List.map vU32 [(UInt32.ofNat ps.length)])] from (H26.take 6)); exact Own.rowEqN (i := 2) (f := vU8) h rfl (by simp only [putP, List.append_assoc]) (by simp only [putP, List.append_assoc, List.length_append]; try omega))⟩ ⟨rfl, rfl, rfl, rfl, rfl, trivial⟩ (by show ps.length - (j + 1) < ps.length - j; omega)
      ·
        have hc24 := of_decide_eq_false hb24
        refine WC.exit ?_
        refine WQ.thenExit ?_
        refine WQ.thenExit ?_
        refine WQ.inHere ?_
        refine WQ.next ?_
        refine WC.seq ?_
        refine WC.region ?_
        refine WL.op rfl rfl (op_assign rfl ?_)
        refine WL.nil ?_
        refine WQ.next ?_
        refine WC.cut (α := Unit) (fun _ => [(1, (ptr b1 0)), (5, (ptr b4 0)), (10, (vU32 (conN con)))]) (fun _ w' => Own [] w w' [.blk b1 [(vU32 pg), ev, pv, (.bool con), (vU32 en), sv] 59, .blk b4 [(ptr b4 0), x] 123, .row x 5 1 ((imP2 pg xs ps) ++ putP ps j).length (List.map vU8 ((imP2 pg xs ps) ++ putP ps j)), .row (.slice (some ⟨b7, 0, none⟩) 1 1) 22 1 1 (List.map vU32 [pg]), .row (.slice (some ⟨b9, 0, none⟩) 1 1) 22 1 1 (List.map vU32 [(UInt32.ofNat xs.length)]), .row (.slice (some ⟨b20, 0, none⟩) 1 1) 22 1 1 (List.map vU32 [(UInt32.ofNat ps.length)])]) ?_ ?_
        ·
          refine WC.seq ?_
          refine WC.region ?_
          refine WL.op rfl rfl (op_fieldAddr rfl Fa.F59_0 ?_)
          refine WL.op rfl rfl (op_fieldAddr rfl Fa.F56_3 ?_)
          refine WL.op rfl rfl (op_load rfl (H23.cell (i := 0) rfl rfl) Try.underlying4 rfl ?_)
          refine WL.nil ?_
          refine WQ.next ?_
          refine WC.cond rfl (fun (hb27 : con = true) => ?_) (fun (hb27 : con = false) => ?_)
          ·
            refine WC.region ?_
            refine WL.op rfl rfl (op_assign rfl ?_)
            refine WL.nil ?_
            exact WQ.here () H23 ⟨rfl, rfl, (by rw [conN, hb27]; rfl), trivial⟩
          ·
            refine WC.skip ?_
            exact WQ.here () H23 ⟨rfl, rfl, (by rw [conN, hb27]; rfl), trivial⟩
        ·
          rintro ⟨⟩ w28 H28
          show WC _ _ _ _ _ [(1, (ptr b1 0)), (5, (ptr b4 0)), (10, (vU32 (conN con)))] _
          refine WC.seq ?_
          refine WC.region ?_
          refine WL.op rfl rfl (op_move rfl ?_)
          refine WL.op rfl rfl (op_buildSlice (cs := [_]) H28 Try.underlying64 Fa.I22 rfl rfl rfl rfl (by decide) (by decide) (fun b29 w29 H29 => ?_))
          refine WL.op rfl rfl (op_callF Fa.C86 rfl ((nums1_ok b4 x (.slice (some ⟨b29, 0, none⟩) 1 1) ((imP2 pg xs ps) ++ putP ps j).length ((imP2 pg xs ps) ++ putP ps j) (conN con) 1 _ _ (H29.part [1, 2] rfl rfl) (H29.stayR (I := [1, 2]) (k := 6) rfl rfl rfl) (by (try simp only [List.length_append, List.length_cons, List.length_nil]); omega)).mono (fun e w30 hq => ?_)))
          obtain ⟨v30, rfl, hq30⟩ := hq
          refine ⟨_, rfl, ?_⟩
          have H30 : Own [] w w30 [.blk b1 [(vU32 pg), ev, pv, (.bool con), (vU32 en), sv] 59, .blk b4 [(ptr b4 0), v30] 123, .row v30 5 1 (((imP2 pg xs ps) ++ putP ps j) ++ (numS (conN con) 1)).length (List.map vU8 (((imP2 pg xs ps) ++ putP ps j) ++ (numS (conN con) 1))), .row (.slice (some ⟨b7, 0, none⟩) 1 1) 22 1 1 (List.map vU32 [pg]), .row (.slice (some ⟨b9, 0, none⟩) 1 1) 22 1 1 (List.map vU32 [(UInt32.ofNat xs.length)]), .row (.slice (some ⟨b20, 0, none⟩) 1 1) 22 1 1 (List.map vU32 [(UInt32.ofNat ps.length)]), .row (.slice (some ⟨b29, 0, none⟩) 1 1) 22 1 1 (List.map vU32 [(conN con)])] := H29.splice [1, 2] [.blk b4 [(ptr b4 0), v30] 123, .row v30 5 1 (((imP2 pg xs ps) ++ putP ps j) ++ (numS (conN con) 1)).length (List.map vU8 (((imP2 pg xs ps) ++ putP ps j) ++ (numS (conN con) 1)))] [] rfl rfl hq30 (Fits.solid True.intro (Fits.solid True.intro Fits.nil))
          refine WL.nil ?_
          refine WQ.next ?_
          refine WC.seq ?_
          refine WC.region ?_
          refine WL.op rfl rfl (op_fieldAddr rfl Fa.F59_1 ?_)
          refine WL.op rfl rfl (op_load rfl (H30.cell (i := 0) rfl rfl) Try.underlying22 rfl ?_)
          refine WL.op rfl rfl (op_buildSlice (cs := [_]) H30 Try.underlying64 Fa.I22 rfl rfl rfl rfl (by decide) (by decide) (fun b31 w31 H31 => ?_))
          refine WL.op rfl rfl (op_callF Fa.C86 rfl ((nums1_ok b4 v30 (.slice (some ⟨b31, 0, none⟩) 1 1) (((imP2 pg xs ps) ++ putP ps j) ++ (numS (conN con) 1)).length (((imP2 pg xs ps) ++ putP ps j) ++ (numS (conN con) 1)) en 4 _ _ (H31.part [1, 2] rfl rfl) (H31.stayR (I := [1, 2]) (k := 7) rfl rfl rfl) (by have := numE_len (conN con) 1; (try simp only [List.length_append, List.length_cons, List.length_nil]); omega)).mono (fun e w32 hq => ?_)))
          obtain ⟨v32, rfl, hq32⟩ := hq
          refine ⟨_, rfl, ?_⟩
          have H32 : Own [] w w32 [.blk b1 [(vU32 pg), ev, pv, (.bool con), (vU32 en), sv] 59, .blk b4 [(ptr b4 0), v32] 123, .row v32 5 1 ((((imP2 pg xs ps) ++ putP ps j) ++ (numS (conN con) 1)) ++ (numS en 4)).length (List.map vU8 ((((imP2 pg xs ps) ++ putP ps j) ++ (numS (conN con) 1)) ++ (numS en 4))), .row (.slice (some ⟨b7, 0, none⟩) 1 1) 22 1 1 (List.map vU32 [pg]), .row (.slice (some ⟨b9, 0, none⟩) 1 1) 22 1 1 (List.map vU32 [(UInt32.ofNat xs.length)]), .row (.slice (some ⟨b20, 0, none⟩) 1 1) 22 1 1 (List.map vU32 [(UInt32.ofNat ps.length)]), .row (.slice (some ⟨b29, 0, none⟩) 1 1) 22 1 1 (List.map vU32 [(conN con)]), .row (.slice (some ⟨b31, 0, none⟩) 1 1) 22 1 1 (List.map vU32 [en])] := H31.splice [1, 2] [.blk b4 [(ptr b4 0), v32] 123, .row v32 5 1 ((((imP2 pg xs ps) ++ putP ps j) ++ (numS (conN con) 1)) ++ (numS en 4)).length (List.map vU8 ((((imP2 pg xs ps) ++ putP ps j) ++ (numS (conN con) 1)) ++ (numS en 4)))] [] rfl rfl hq32 (Fits.solid True.intro (Fits.solid True.intro Fits.nil))
          refine WL.nil ?_
          refine WQ.next ?_
          refine WC.seq ?_
          refine WC.region ?_
          refine WL.op rfl rfl (op_fieldAddr rfl Fa.F59_2 ?_)
          refine WL.op rfl rfl (op_load rfl (H32.cell (i := 0) rfl rfl) Try.underlying57 rfl ?_)
          refine WL.op rfl rfl (op_lenA Try.underlying57 rfl (H32.arr hS) ?_)
          refine WL.op rfl rfl (op_convNU32 (hs := Try.underlying3) (hd := Try.underlying22) rfl ?_)
          refine WL.op rfl rfl (op_buildSlice (cs := [_]) H32 Try.underlying64 Fa.I22 rfl rfl rfl rfl (by decide) (by decide) (fun b33 w33 H33 => ?_))
          refine WL.op rfl rfl (op_callF Fa.C86 rfl ((nums1_ok b4 v32 (.slice (some ⟨b33, 0, none⟩) 1 1) ((((imP2 pg xs ps) ++ putP ps j) ++ (numS (conN con) 1)) ++ (numS en 4)).length ((((imP2 pg xs ps) ++ putP ps j) ++ (numS (conN con) 1)) ++ (numS en 4)) (UInt32.ofNat sg.length) 1 _ _ (H33.part [1, 2] rfl rfl) (H33.stayR (I := [1, 2]) (k := 8) rfl rfl rfl) (by have := numE_len (conN con) 1; have := numE_len en 4; (try simp only [List.length_append, List.length_cons, List.length_nil]); omega)).mono (fun e w34 hq => ?_)))
          obtain ⟨v34, rfl, hq34⟩ := hq
          refine ⟨_, rfl, ?_⟩
          have H34 : Own [] w w34 [.blk b1 [(vU32 pg), ev, pv, (.bool con), (vU32 en), sv] 59, .blk b4 [(ptr b4 0), v34] 123, .row v34 5 1 (((((imP2 pg xs ps) ++ putP ps j) ++ (numS (conN con) 1)) ++ (numS en 4)) ++ (numS (UInt32.ofNat sg.length) 1)).length (List.map vU8 (((((imP2 pg xs ps) ++ putP ps j) ++ (numS (conN con) 1)) ++ (numS en 4)) ++ (numS (UInt32.ofNat sg.length) 1))), .row (.slice (some ⟨b7, 0, none⟩) 1 1) 22 1 1 (List.map vU32 [pg]), .row (.slice (some ⟨b9, 0, none⟩) 1 1) 22 1 1 (List.map vU32 [(UInt32.ofNat xs.length)]), .row (.slice (some ⟨b20, 0, none⟩) 1 1) 22 1 1 (List.map vU32 [(UInt32.ofNat ps.length)]), .row (.slice (some ⟨b29, 0, none⟩) 1 1) 22 1 1 (List.map vU32 [(conN con)]), .row (.slice (some ⟨b31, 0, none⟩) 1 1) 22 1 1 (List.map vU32 [en]), .row (.slice (some ⟨b33, 0, none⟩) 1 1) 22 1 1 (List.map vU32 [(UInt32.ofNat sg.length)])] := H33.splice [1, 2] [.blk b4 [(ptr b4 0), v34] 123, .row v34 5 1 (((((imP2 pg xs ps) ++ putP ps j) ++ (numS (conN con) 1)) ++ (numS en 4)) ++ (numS (UInt32.ofNat sg.length) 1)).length (List.map vU8 (((((imP2 pg xs ps) ++ putP ps j) ++ (numS (conN con) 1)) ++ (numS en 4)) ++ (numS (UInt32.ofNat sg.length) 1)))] [] rfl rfl hq34 (Fits.solid True.intro (Fits.solid True.intro Fits.nil))
          refine WL.nil ?_
          refine WQ.next ?_
          refine WC.seq ?_
          refine WC.seq ?_
          refine WC.region ?_
          obtain rfl : j = ps.length := by omega
          have H35 : Own [] w w34 [.blk b1 [(vU32 pg), ev, pv, (.bool con), (vU32 en), sv] 59, .blk b4 [(ptr b4 0), v34] 123, .row v34 5 1 (imP3 pg xs ps con en sg).length (List.map vU8 (imP3 pg xs ps con en sg)), .row (.slice (some ⟨b7, 0, none⟩) 1 1) 22 1 1 (List.map vU32 [pg]), .row (.slice (some ⟨b9, 0, none⟩) 1 1) 22 1 1 (List.map vU32 [(UInt32.ofNat xs.length)]), .row (.slice (some ⟨b20, 0, none⟩) 1 1) 22 1 1 (List.map vU32 [(UInt32.ofNat ps.length)]), .row (.slice (some ⟨b29, 0, none⟩) 1 1) 22 1 1 (List.map vU32 [(conN con)]), .row (.slice (some ⟨b31, 0, none⟩) 1 1) 22 1 1 (List.map vU32 [en]), .row (.slice (some ⟨b33, 0, none⟩) 1 1) 22 1 1 (List.map vU32 [(UInt32.ofNat sg.length)])] := Own.rowEqN (i := 2) (f := vU8) H34 rfl rfl rfl
          refine WL.op rfl rfl (op_fieldAddr rfl Fa.F59_2 ?_)
          refine WL.op rfl rfl (op_load rfl (H35.cell (i := 0) rfl rfl) Try.underlying57 rfl ?_)
          refine WL.op rfl rfl (op_lenA Try.underlying57 rfl (H35.arr hS) ?_)
          refine WL.op rfl rfl (op_move rfl ?_)
          refine WL.nil ?_
          refine WQ.next ?_
          refine WC.block ?_
          refine WC.loop (α := Nat × Value) (fun (i, x) => [(1, (ptr b1 0)), (5, (ptr b4 0)), (86, sv), (87, (vN sg.length)), (88, (vN i))]) (fun (i, x) w' => (i ≤ sg.length) ∧ Own [] w w' [.blk b1 [(vU32 pg), ev, pv, (.bool con), (vU32 en), sv] 59, .blk b4 [(ptr b4 0), x] 123, .row x 5 1 ((imP3 pg xs ps con en sg) ++ putS sg i).length (List.map vU8 ((imP3 pg xs ps con en sg) ++ putS sg i)), .row (.slice (some ⟨b7, 0, none⟩) 1 1) 22 1 1 (List.map vU32 [pg]), .row (.slice (some ⟨b9, 0, none⟩) 1 1) 22 1 1 (List.map vU32 [(UInt32.ofNat xs.length)]), .row (.slice (some ⟨b20, 0, none⟩) 1 1) 22 1 1 (List.map vU32 [(UInt32.ofNat ps.length)]), .row (.slice (some ⟨b29, 0, none⟩) 1 1) 22 1 1 (List.map vU32 [(conN con)]), .row (.slice (some ⟨b31, 0, none⟩) 1 1) 22 1 1 (List.map vU32 [en]), .row (.slice (some ⟨b33, 0, none⟩) 1 1) 22 1 1 (List.map vU32 [(UInt32.ofNat sg.length)])]) (fun (i, x) => sg.length - i) (0, v34) ⟨Nat.zero_le _, (Own.rowEqN (i := 2) (f := vU8) H35 rfl (List.append_nil _).symm (congrArg List.length (List.append_nil _).symm))⟩ ⟨rfl, rfl, rfl, rfl, rfl, trivial⟩ ?_
          rintro ⟨i, x⟩ w36 ⟨hi1, H36⟩
          show WC _ _ _ _ _ [(1, (ptr b1 0)), (5, (ptr b4 0)), (86, sv), (87, (vN sg.length)), (88, (vN i))] _
          have hq3 := imP3_len pg xs ps con en sg
          have hqs := putS_len bb i
          have hqb := getS_mem bb i
          have hn1 := numE_len (sg.getD i Sg.zero).a 4
          have hn2 := numE_len (UInt32.ofNat (sg.getD i Sg.zero).p.toNat) 1
          have hn3 := numE_len (UInt32.ofNat (sg.getD i Sg.zero).b.length) 4
          refine WC.seq ?_
          refine WC.region ?_
          refine WL.op rfl rfl (op_lssN rfl rfl ?_)
          refine WL.nil ?_
          refine WQ.next ?_
          refine WC.seq ?_
          refine WC.cond rfl (fun (hb37 : (decide (i < sg.length)) = true) => ?_) (fun (hb37 : (decide (i < sg.length)) = false) => ?_)
          ·
            have hc37 := of_decide_eq_true hb37
            refine WC.skip ?_
            refine WQ.next ?_
            refine WC.seq ?_
            refine WC.block ?_
            refine WC.seq ?_
            refine WC.region ?_
            refine WL.op rfl rfl (op_indexAddr Try.underlying57 Fa.I111 rfl (H36.arr hS) rfl (by omega) ?_)
            refine WL.op rfl rfl (op_loadSP (vs := sgc (sg.getD i Sg.zero)) rfl (Arr.atsF (H36.arr hS) (fun _ => rfl) (by decide) Sg.zero (by omega)) Try.underlying111 rfl Fa.I111 rfl ?_)
            refine WL.op rfl rfl (op_alloc H36 Fa.I111 (fun b38 w38 H38 => ?_))
            refine WL.op rfl rfl (op_storeBW (i := 9) H38 rfl rfl rfl rfl rfl Fa.I111 (fun w39 H39 => ?_))
            refine WL.nil ?_
            refine WQ.next ?_
            refine WC.seq ?_
            refine WC.region ?_
            refine WL.op rfl rfl (op_fieldAddr rfl Fa.F111_0 ?_)
            refine WL.op rfl rfl (op_load rfl (H39.cell (i := 9) rfl rfl) Try.underlying22 rfl ?_)
            refine WL.op rfl rfl (op_buildSlice (cs := [_]) H39 Try.underlying64 Fa.I22 rfl rfl rfl rfl (by decide) (by decide) (fun b40 w40 H40 => ?_))
            refine WL.op rfl rfl (op_callF Fa.C86 rfl ((nums1_ok b4 x (.slice (some ⟨b40, 0, none⟩) 1 1) ((imP3 pg xs ps con en sg) ++ putS sg i).length ((imP3 pg xs ps con en sg) ++ putS sg i) ((sg.getD i Sg.zero).a) 4 _ _ (H40.part [1, 2] rfl rfl) (H40.stayR (I := [1, 2]) (k := 10) rfl rfl rfl) (by (try simp only [List.length_append, List.length_cons, List.length_nil]); omega)).mono (fun e w41 hq => ?_)))
            obtain ⟨v41, rfl, hq41⟩ := hq
            refine ⟨_, rfl, ?_⟩
            have H41 : Own [] w w41 [.blk b1 [(vU32 pg), ev, pv, (.bool con), (vU32 en), sv] 59, .blk b4 [(ptr b4 0), v41] 123, .row v41 5 1 (((imP3 pg xs ps con en sg) ++ putS sg i) ++ (numS ((sg.getD i Sg.zero).a) 4)).length (List.map vU8 (((imP3 pg xs ps con en sg) ++ putS sg i) ++ (numS ((sg.getD i Sg.zero).a) 4))), .row (.slice (some ⟨b7, 0, none⟩) 1 1) 22 1 1 (List.map vU32 [pg]), .row (.slice (some ⟨b9, 0, none⟩) 1 1) 22 1 1 (List.map vU32 [(UInt32.ofNat xs.length)]), .row (.slice (some ⟨b20, 0, none⟩) 1 1) 22 1 1 (List.map vU32 [(UInt32.ofNat ps.length)]), .row (.slice (some ⟨b29, 0, none⟩) 1 1) 22 1 1 (List.map vU32 [(conN con)]), .row (.slice (some ⟨b31, 0, none⟩) 1 1) 22 1 1 (List.map vU32 [en]), .row (.slice (some ⟨b33, 0, none⟩) 1 1) 22 1 1 (List.map vU32 [(UInt32.ofNat sg.length)]), .blk b38 [(vU32 (sg.getD i Sg.zero).a), (vU8 (sg.getD i Sg.zero).p), (str (sg.getD i Sg.zero).b)] 111, .row (.slice (some ⟨b40, 0, none⟩) 1 1) 22 1 1 (List.map vU32 [(sg.getD i Sg.zero).a])] := H40.splice [1, 2] [.blk b4 [(ptr b4 0), v41] 123, .row v41 5 1 (((imP3 pg xs ps con en sg) ++ putS sg i) ++ (numS ((sg.getD i Sg.zero).a) 4)).length (List.map vU8 (((imP3 pg xs ps con en sg) ++ putS sg i) ++ (numS ((sg.getD i Sg.zero).a) 4)))] [] rfl rfl hq41 (Fits.solid True.intro (Fits.solid True.intro Fits.nil))
            refine WL.nil ?_
            refine WQ.next ?_
            refine WC.seq ?_
            refine WC.region ?_
            refine WL.op rfl rfl (op_fieldAddr rfl Fa.F111_1 ?_)
            refine WL.op rfl rfl (op_load rfl (H41.cell (i := 9) rfl rfl) Try.underlying5 rfl ?_)
            refine WL.op rfl rfl (op_convU8U32 (hs := Try.underlying5) (hd := Try.underlying22) rfl ?_)
            refine WL.op rfl rfl (op_buildSlice (cs := [_]) H41 Try.underlying64 Fa.I22 rfl rfl rfl rfl (by decide) (by decide) (fun b42 w42 H42 => ?_))
            refine WL.op rfl rfl (op_callF Fa.C86 rfl ((nums1_ok b4 v41 (.slice (some ⟨b42, 0, none⟩) 1 1) (((imP3 pg xs ps con en sg) ++ putS sg i) ++ (numS ((sg.getD i Sg.zero).a) 4)).length (((imP3 pg xs ps con en sg) ++ putS sg i) ++ (numS ((sg.getD i Sg.zero).a) 4)) (UInt32.ofNat (sg.getD i Sg.zero).p.toNat) 1 _ _ (H42.part [1, 2] rfl rfl) (H42.stayR (I := [1, 2]) (k := 11) rfl rfl rfl) (by have := numE_len ((sg.getD i Sg.zero).a) 4; (try simp only [List.length_append, List.length_cons, List.length_nil]); omega)).mono (fun e w43 hq => ?_)))
            obtain ⟨v43, rfl, hq43⟩ := hq
            refine ⟨_, rfl, ?_⟩
            have H43 : Own [] w w43 [.blk b1 [(vU32 pg), ev, pv, (.bool con), (vU32 en), sv] 59, .blk b4 [(ptr b4 0), v43] 123, .row v43 5 1 ((((imP3 pg xs ps con en sg) ++ putS sg i) ++ (numS ((sg.getD i Sg.zero).a) 4)) ++ (numS (UInt32.ofNat (sg.getD i Sg.zero).p.toNat) 1)).length (List.map vU8 ((((imP3 pg xs ps con en sg) ++ putS sg i) ++ (numS ((sg.getD i Sg.zero).a) 4)) ++ (numS (UInt32.ofNat (sg.getD i Sg.zero).p.toNat) 1))), .row (.slice (some ⟨b7, 0, none⟩) 1 1) 22 1 1 (List.map vU32 [pg]), .row (.slice (some ⟨b9, 0, none⟩) 1 1) 22 1 1 (List.map vU32 [(UInt32.ofNat xs.length)]), .row (.slice (some ⟨b20, 0, none⟩) 1 1) 22 1 1 (List.map vU32 [(UInt32.ofNat ps.length)]), .row (.slice (some ⟨b29, 0, none⟩) 1 1) 22 1 1 (List.map vU32 [(conN con)]), .row (.slice (some ⟨b31, 0, none⟩) 1 1) 22 1 1 (List.map vU32 [en]), .row (.slice (some ⟨b33, 0, none⟩) 1 1) 22 1 1 (List.map vU32 [(UInt32.ofNat sg.length)]), .blk b38 [(vU32 (sg.getD i Sg.zero).a), (vU8 (sg.getD i Sg.zero).p), (str (sg.getD i Sg.zero).b)] 111, .row (.slice (some ⟨b40, 0, none⟩) 1 1) 22 1 1 (List.map vU32 [(sg.getD i Sg.zero).a]), .row (.slice (some ⟨b42, 0, none⟩) 1 1) 22 1 1 (List.map vU32 [(UInt32.ofNat (sg.getD i Sg.zero).p.toNat)])] := H42.splice [1, 2] [.blk b4 [(ptr b4 0), v43] 123, .row v43 5 1 ((((imP3 pg xs ps con en sg) ++ putS sg i) ++ (numS ((sg.getD i Sg.zero).a) 4)) ++ (numS (UInt32.ofNat (sg.getD i Sg.zero).p.toNat) 1)).length (List.map vU8 ((((imP3 pg xs ps con en sg) ++ putS sg i) ++ (numS ((sg.getD i Sg.zero).a) 4)) ++ (numS (UInt32.ofNat (sg.getD i Sg.zero).p.toNat) 1)))] [] rfl rfl hq43 (Fits.solid True.intro (Fits.solid True.intro Fits.nil))
            refine WL.nil ?_
            refine WQ.next ?_
            refine WC.seq ?_
            refine WC.region ?_
            refine WL.op rfl rfl (op_fieldAddr rfl Fa.F111_2 ?_)
            refine WL.op rfl rfl (op_load rfl (H43.cell (i := 9) rfl rfl) Try.underlying9 rfl ?_)
            refine WL.op rfl rfl (op_lenStr Try.underlying9 rfl ?_)
            refine WL.op rfl rfl (op_convNU32 (hs := Try.underlying3) (hd := Try.underlying22) rfl ?_)
            refine WL.op rfl rfl (op_buildSlice (cs := [_]) H43 Try.underlying64 Fa.I22 rfl rfl rfl rfl (by decide) (by decide) (fun b44 w44 H44 => ?_))
            refine WL.op rfl rfl (op_callF Fa.C86 rfl ((nums1_ok b4 v43 (.slice (some ⟨b44, 0, none⟩) 1 1) ((((imP3 pg xs ps con en sg) ++ putS sg i) ++ (numS ((sg.getD i Sg.zero).a) 4)) ++ (numS (UInt32.ofNat (sg.getD i Sg.zero).p.toNat) 1)).length ((((imP3 pg xs ps con en sg) ++ putS sg i) ++ (numS ((sg.getD i Sg.zero).a) 4)) ++ (numS (UInt32.ofNat (sg.getD i Sg.zero).p.toNat) 1)) (UInt32.ofNat (sg.getD i Sg.zero).b.length) 4 _ _ (H44.part [1, 2] rfl rfl) (H44.stayR (I := [1, 2]) (k := 12) rfl rfl rfl) (by have := numE_len ((sg.getD i Sg.zero).a) 4; have := numE_len (UInt32.ofNat (sg.getD i Sg.zero).p.toNat) 1; (try simp only [List.length_append, List.length_cons, List.length_nil]); omega)).mono (fun e w45 hq => ?_)))
            obtain ⟨v45, rfl, hq45⟩ := hq
            refine ⟨_, rfl, ?_⟩
            have H45 : Own [] w w45 [.blk b1 [(vU32 pg), ev, pv, (.bool con), (vU32 en), sv] 59, .blk b4 [(ptr b4 0), v45] 123, .row v45 5 1 (((((imP3 pg xs ps con en sg) ++ putS sg i) ++ (numS ((sg.getD i Sg.zero).a) 4)) ++ (numS (UInt32.ofNat (sg.getD i Sg.zero).p.toNat) 1)) ++ (numS (UInt32.ofNat (sg.getD i Sg.zero).b.length) 4)).length (List.map vU8 (((((imP3 pg xs ps con en sg) ++ putS sg i) ++ (numS ((sg.getD i Sg.zero).a) 4)) ++ (numS (UInt32.ofNat (sg.getD i Sg.zero).p.toNat) 1)) ++ (numS (UInt32.ofNat (sg.getD i Sg.zero).b.length) 4))), .row (.slice (some ⟨b7, 0, none⟩) 1 1) 22 1 1 (List.map vU32 [pg]), .row (.slice (some ⟨b9, 0, none⟩) 1 1) 22 1 1 (List.map vU32 [(UInt32.ofNat xs.length)]), .row (.slice (some ⟨b20, 0, none⟩) 1 1) 22 1 1 (List.map vU32 [(UInt32.ofNat ps.length)]), .row (.slice (some ⟨b29, 0, none⟩) 1 1) 22 1 1 (List.map vU32 [(conN con)]), .row (.slice (some ⟨b31, 0, none⟩) 1 1) 22 1 1 (List.map vU32 [en]), .row (.slice (some ⟨b33, 0, none⟩) 1 1) 22 1 1 (List.map vU32 [(UInt32.ofNat sg.length)]), .blk b38 [(vU32 (sg.getD i Sg.zero).a), (vU8 (sg.getD i Sg.zero).p), (str (sg.getD i Sg.zero).b)] 111, .row (.slice (some ⟨b40, 0, none⟩) 1 1) 22 1 1 (List.map vU32 [(sg.getD i Sg.zero).a]), .row (.slice (some ⟨b42, 0, none⟩) 1 1) 22 1 1 (List.map vU32 [(UInt32.ofNat (sg.getD i Sg.zero).p.toNat)]), .row (.slice (some ⟨b44, 0, none⟩) 1 1) 22 1 1 (List.map vU32 [(UInt32.ofNat (sg.getD i Sg.zero).b.length)])] := H44.splice [1, 2] [.blk b4 [(ptr b4 0), v45] 123, .row v45 5 1 (((((imP3 pg xs ps con en sg) ++ putS sg i) ++ (numS ((sg.getD i Sg.zero).a) 4)) ++ (numS (UInt32.ofNat (sg.getD i Sg.zero).p.toNat) 1)) ++ (numS (UInt32.ofNat (sg.getD i Sg.zero).b.length) 4)).length (List.map vU8 (((((imP3 pg xs ps con en sg) ++ putS sg i) ++ (numS ((sg.getD i Sg.zero).a) 4)) ++ (numS (UInt32.ofNat (sg.getD i Sg.zero).p.toNat) 1)) ++ (numS (UInt32.ofNat (sg.getD i Sg.zero).b.length) 4)))] [] rfl rfl hq45 (Fits.solid True.intro (Fits.solid True.intro Fits.nil))
            refine WL.nil ?_
            refine WQ.next ?_
            refine WC.region ?_
            refine WL.op rfl rfl (op_fieldAddr rfl Fa.F123_0 ?_)
            refine WL.op rfl rfl (op_fieldAddr rfl Fa.F111_2 ?_)
            refine WL.op rfl rfl (op_load rfl (H45.cell (i := 9) rfl rfl) Try.underlying9 rfl ?_)
            refine WL.op rfl rfl (op_callF Fa.C85 rfl ((ws_ok b4 (ptr b4 0) v45 (((((imP3 pg xs ps con en sg) ++ putS sg i) ++ (numS ((sg.getD i Sg.zero).a) 4)) ++ (numS (UInt32.ofNat (sg.getD i Sg.zero).p.toNat) 1)) ++ (numS (UInt32.ofNat (sg.getD i Sg.zero).b.length) 4)).length (((((imP3 pg xs ps con en sg) ++ putS sg i) ++ (numS ((sg.getD i Sg.zero).a) 4)) ++ (numS (UInt32.ofNat (sg.getD i Sg.zero).p.toNat) 1)) ++ (numS (UInt32.ofNat (sg.getD i Sg.zero).b.length) 4)) ((sg.getD i Sg.zero).b) 123 _ _ (H45.part [1, 2] rfl rfl) (.inr rfl) Fa.CO123 Fa.LI123_121 (by first | (show 0 + 4 < 2 ^ 46; decide) | (simp only [List.length_append]; omega))).mono (fun e w46 hq => ?_)))
            obtain ⟨v46, rfl, hq46⟩ := hq
            refine ⟨_, rfl, ?_⟩
            have H46 : Own [] w w46 [.blk b1 [(vU32 pg), ev, pv, (.bool con), (vU32 en), sv] 59, .blk b4 [(ptr b4 0), v46] 123, .row v46 5 1 ((((((imP3 pg xs ps con en sg) ++ putS sg i) ++ (numS ((sg.getD i Sg.zero).a) 4)) ++ (numS (UInt32.ofNat (sg.getD i Sg.zero).p.toNat) 1)) ++ (numS (UInt32.ofNat (sg.getD i Sg.zero).b.length) 4)).length + (sg.getD i Sg.zero).b.length) (List.map vU8 ((((((imP3 pg xs ps con en sg) ++ putS sg i) ++ (numS ((sg.getD i Sg.zero).a) 4)) ++ (numS (UInt32.ofNat (sg.getD i Sg.zero).p.toNat) 1)) ++ (numS (UInt32.ofNat (sg.getD i Sg.zero).b.length) 4)) ++ (sg.getD i Sg.zero).b)), .row (.slice (some ⟨b7, 0, none⟩) 1 1) 22 1 1 (List.map vU32 [pg]), .row (.slice (some ⟨b9, 0, none⟩) 1 1) 22 1 1 (List.map vU32 [(UInt32.ofNat xs.length)]), .row (.slice (some ⟨b20, 0, none⟩) 1 1) 22 1 1 (List.map vU32 [(UInt32.ofNat ps.length)]), .row (.slice (some ⟨b29, 0, none⟩) 1 1) 22 1 1 (List.map vU32 [(conN con)]), .row (.slice (some ⟨b31, 0, none⟩) 1 1) 22 1 1 (List.map vU32 [en]), .row (.slice (some ⟨b33, 0, none⟩) 1 1) 22 1 1 (List.map vU32 [(UInt32.ofNat sg.length)]), .blk b38 [(vU32 (sg.getD i Sg.zero).a), (vU8 (sg.getD i Sg.zero).p), (str (sg.getD i Sg.zero).b)] 111, .row (.slice (some ⟨b40, 0, none⟩) 1 1) 22 1 1 (List.map vU32 [(sg.getD i Sg.zero).a]), .row (.slice (some ⟨b42, 0, none⟩) 1 1) 22 1 1 (List.map vU32 [(UInt32.ofNat (sg.getD i Sg.zero).p.toNat)]), .row (.slice (some ⟨b44, 0, none⟩) 1 1) 22 1 1 (List.map vU32 [(UInt32.ofNat (sg.getD i Sg.zero).b.length)])] := H45.splice [1, 2] [.blk b4 [(ptr b4 0), v46] 123, .row v46 5 1 ((((((imP3 pg xs ps con en sg) ++ putS sg i) ++ (numS ((sg.getD i Sg.zero).a) 4)) ++ (numS (UInt32.ofNat (sg.getD i Sg.zero).p.toNat) 1)) ++ (numS (UInt32.ofNat (sg.getD i Sg.zero).b.length) 4)).length + (sg.getD i Sg.zero).b.length) (List.map vU8 ((((((imP3 pg xs ps con en sg) ++ putS sg i) ++ (numS ((sg.getD i Sg.zero).a) 4)) ++ (numS (UInt32.ofNat (sg.getD i Sg.zero).p.toNat) 1)) ++ (numS (UInt32.ofNat (sg.getD i Sg.zero).b.length) 4)) ++ (sg.getD i Sg.zero).b))] [] rfl rfl hq46 (Fits.solid True.intro (Fits.solid True.intro Fits.nil))
            refine WL.nil ?_
            refine WQ.inNormal ?_
            refine WQ.next ?_
            refine WC.region ?_
            refine WL.op rfl rfl (op_addN (b := 1) rfl rfl (by omega) ?_)
            refine WL.op rfl rfl (op_move rfl ?_)
            refine WL.nil ?_
            exact WQ.round (i + 1, v46) ⟨(by omega), (by have h := (show Own [] w w46 [.blk b1 [(vU32 pg), ev, pv, (.bool con), (vU32 en), sv] 59, .blk b4 [(ptr b4 0), v46] 123, .row v46 5 1 ((((((imP3 pg xs ps con en sg) ++ putS sg i) ++ (numS ((sg.getD i Sg.zero).a) 4)) ++ (numS (UInt32.ofNat (sg.getD i Sg.zero).p.toNat) 1)) ++ (numS (UInt32.ofNat (sg.getD i Sg.zero).b.length) 4)).length + (sg.getD i Sg.zero).b.length) (List.map vU8 ((((((imP3 pg xs ps con en sg) ++ putS sg i) ++ (numS ((sg.getD i Sg.zero).a) 4)) ++ (numS (UInt32.ofNat (sg.getD i Sg.zero).p.toNat) 1)) ++ (numS (UInt32.ofNat (sg.getD i Sg.zero).b.length) 4)) ++ (sg.getD i Sg.zero).b)), .row (.slice (some ⟨b7, 0, none⟩) 1 1) 22 1 1 (List.map vU32 [pg]), .row (.slice (some ⟨b9, 0, none⟩) 1 1) 22 1 1 (List.map vU32 [(UInt32.ofNat xs.length)]), .row (.slice (some ⟨b20, 0, none⟩) 1 1) 22 1 1 (List.map vU32 [(UInt32.ofNat ps.length)]), .row (.slice (some ⟨b29, 0, none⟩) 1 1) 22 1 1 (List.map vU32 [(conN con)]), .row (.slice (some ⟨b31, 0, none⟩) 1 1) 22 1 1 (List.map vU32 [en]), .row (.slice (some ⟨b33, 0, none⟩) 1 1) 22 1 1 (List.map vU32 [(UInt32.ofNat sg.length)])] from (H46.take 9)); exact Own.rowEqN (i := 2) (f := vU8) h rfl (by simp only [putS, List.append_assoc]) (by simp only [putS, List.append_assoc, List.length_append]; try omega))⟩ ⟨rfl, rfl, rfl, rfl, rfl, trivial⟩ (by show sg.length - (i + 1) < sg.length - i; omega)
          ·
            have hc37 := of_decide_eq_false hb37
            refine WC.exit ?_
            refine WQ.thenExit ?_
            refine WQ.thenExit ?_
            refine WQ.inHere ?_
            refine WQ.next ?_
            refine WC.seq ?_
            refine WC.region ?_
            refine WL.op rfl rfl (op_fieldAddr rfl Fa.F123_0 ?_)
            refine WL.op rfl rfl (op_callF Fa.C87 rfl ((bstr_ok b4 (ptr b4 0) x ((imP3 pg xs ps con en sg) ++ putS sg i).length ((imP3 pg xs ps con en sg) ++ putS sg i) 123 _ _ (H36.part [1, 2] rfl rfl) (.inr (imP3_ne _ _ _ _ _ _ _))).mono (fun e w47 hq => ?_)))
            obtain ⟨rfl, hq47⟩ := hq
            refine ⟨_, rfl, ?_⟩
            have H47 : Own [] w w47 [.blk b1 [(vU32 pg), ev, pv, (.bool con), (vU32 en), sv] 59, .row (.slice (some ⟨b7, 0, none⟩) 1 1) 22 1 1 (List.map vU32 [pg]), .row (.slice (some ⟨b9, 0, none⟩) 1 1) 22 1 1 (List.map vU32 [(UInt32.ofNat xs.length)]), .row (.slice (some ⟨b20, 0, none⟩) 1 1) 22 1 1 (List.map vU32 [(UInt32.ofNat ps.length)]), .row (.slice (some ⟨b29, 0, none⟩) 1 1) 22 1 1 (List.map vU32 [(conN con)]), .row (.slice (some ⟨b31, 0, none⟩) 1 1) 22 1 1 (List.map vU32 [en]), .row (.slice (some ⟨b33, 0, none⟩) 1 1) 22 1 1 (List.map vU32 [(UInt32.ofNat sg.length)])] := H36.rest (I := [1, 2]) (J := [0, 3, 4, 5, 6, 7, 8]) rfl rfl rfl rfl hq47
            refine WL.op rfl rfl (op_assign rfl ?_)
            refine WL.op rfl rfl (op_assign rfl ?_)
            refine WL.nil ?_
            refine WQ.next ?_
            refine WC.ret ?_
            refine WQ.out (.tmp rfl (.tmp rfl .nil)) ?_
            obtain rfl : i = sg.length := by omega
            rw [imB, if_pos (Decidable.not_not.mp hc3), Decidable.not_not.mp hc3]
            exact ⟨rfl, H47.fr⟩
end Go.Proofs.Ytpnghdalnghpcaa
