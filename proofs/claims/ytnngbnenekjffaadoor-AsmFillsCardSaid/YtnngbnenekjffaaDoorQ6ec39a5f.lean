/- General lemmas and walks: DAsm3, DAsm4, DAsm5, DAsm6, DAsm8. No condition but what each theorem names. -/
import Derived.Test.YtnngbnenekjffaaDoorQ00071fa8
import Derived.Test.YtnngbnenekjffaaDoorQ888f74e1
/-! from DAsm3 -/
namespace Go.Proofs.YtnngbnenekjffaaDoor
open Go.Owl Go.Spec
set_option maxRecDepth 100000 in
theorem lay_ok (q : Nat) (n0 : List UInt8) (c1 c2 c3 : Value) (bs : List UInt8) (v c6 : Value) (rl : List Rl) (b : Nat) (m : List (List UInt8 × UInt32)) (x : Ln) (FT : TypeId) (T : List Nat) (w : World) (H : Own T w w [.blk q [(str n0), c1, c2, c3, (str bs), v, c6, (.map (some b))] FT, .row v 44 4 rl.length (List.flatMap rlc rl), .obj b (mO vU32 m)]) (hn : rl.length < 2 ^ 40) (hbs : bs.length < 2 ^ 39) :
    Calls Tryd.prog 53 #[(ptr q 0), (.agg #[(str x.lb), (vU8 x.op), (vU8 x.d), (vU8 x.a), (vU8 x.b), (vU32 x.imm), (str x.to), (str x.nm)])] w (fun e w' => ∃ v', e = .returned (vN (layE m x)) ∧ Own T w w' [.blk q [str n0, c1, c2, c3, str (layB bs m x), v', c6, .map (some b)] FT, .row v' 44 4 (layR n0 bs rl m x).length (List.flatMap rlc (layR n0 bs rl m x)), .obj b (mO vU32 m)]) := by
  refine enter (args := [(ptr q 0), (.agg #[(str x.lb), (vU8 x.op), (vU8 x.d), (vU8 x.a), (vU8 x.b), (vU32 x.imm), (str x.to), (str x.nm)])]) Tryd.func53 rfl rfl ?_
  refine WC.seq ?_
  refine WC.region ?_
  refine WL.op rfl rfl (op_box H rfl rfl (fun b1 w1 H1 => ?_))
  refine WL.op rfl rfl (op_assign rfl ?_)
  refine WL.nil ?_
  refine WQ.next ?_
  refine WC.seq ?_
  refine WC.block ?_
  refine WC.seq ?_
  refine WC.region ?_
  refine WL.op rfl rfl (op_fieldAddr rfl Fa.F65_2 ?_)
  refine WL.op rfl rfl (op_load rfl (H1.cell (i := 3) rfl rfl) Tryd.underlying9 rfl ?_)
  refine WL.op rfl rfl (op_neqStr rfl rfl ?_)
  refine WL.op rfl rfl (op_assign rfl ?_)
  refine WL.nil ?_
  refine WQ.next ?_
  refine WC.cond rfl (fun (hb2 : (decide (x.to ≠ [])) = true) => ?_) (fun (hb2 : (decide (x.to ≠ [])) = false) => ?_)
  ·
    have hc2 := of_decide_eq_true hb2
    refine WC.seq ?_
    refine WC.draw 12 Fa.M H1 (HW.op rfl (fun w1 H1 => op_move rfl ⟨rfl, Fr.refl _ _⟩) (HW.op rfl (fun w1 H1 => op_nilCheck rfl ⟨rfl, Fr.refl _ _⟩) (HW.op rfl (fun w1 H1 => op_fieldAddr rfl Fa.F102_1 ⟨rfl, Fr.refl _ _⟩) (HW.op rfl (fun w1 H1 => op_load rfl (H1.cell (i := 0) rfl rfl) Tryd.underlying100 rfl ⟨rfl, Fr.refl _ _⟩) (HW.op rfl (fun w1 H1 => op_fieldAddr rfl Fa.F65_2 ⟨rfl, Fr.refl _ _⟩) (HW.op rfl (fun w1 H1 => op_load rfl (H1.cell (i := 3) rfl rfl) Tryd.underlying9 rfl ⟨rfl, Fr.refl _ _⟩) (HW.op rfl (fun w1 H1 => op_lookupG (i := 2) (c := 0) H1 rfl Tryd.underlying100 Tryd.underlying9 Fa.Z22 rfl rfl ⟨rfl, Fr.refl _ _⟩) (HW.op rfl (fun w1 H1 => op_move rfl ⟨rfl, Fr.refl _ _⟩) (HW.op rfl (fun w1 H1 => op_extract rfl rfl ⟨rfl, Fr.refl _ _⟩) (HW.op rfl (fun w1 H1 => op_extract rfl rfl ⟨rfl, Fr.refl _ _⟩) (HW.op rfl (fun w1 H1 => op_assign rfl ⟨rfl, Fr.refl _ _⟩) (HW.op rfl (fun w1 H1 => op_assign rfl ⟨rfl, Fr.refl _ _⟩)  HW.nil)))))))))))) (by kernel_rfl) ?_
    intro β3 w3 H3
    refine WL.nil ?_
    refine WQ.next ?_
    refine WC.seq ?_
    refine WC.seq ?_
    refine WC.region ?_
    refine WL.op rfl rfl (op_move rfl ?_)
    refine WL.op rfl rfl (op_not rfl ?_)
    refine WL.nil ?_
    refine WQ.next ?_
    refine WC.cond rfl (fun (hb4 : (!(mget x.to m).isSome) = true) => ?_) (fun (hb4 : (!(mget x.to m).isSome) = false) => ?_)
    ·
      have hn4 := (Bool.not_eq_true' _).mp hb4
      refine WC.seq ?_
      refine WC.region ?_
      refine WL.op rfl rfl (op_assign rfl ?_)
      refine WL.nil ?_
      refine WQ.next ?_
      refine WC.ret ?_
      refine WQ.thenRet ?_
      refine WQ.inRet ?_
      refine WQ.thenRet ?_
      refine WQ.out (.tmp rfl .nil) ?_
      have hN : layN m x = true := by rw [layN, hb2, hn4]; rfl
      exact ⟨v, by rw [lay_E hN]; rfl, by rw [layB, hN, layR, hb2, hn4]; exact H3.sel [0, 1, 2] rfl rfl⟩
    ·
      have hn4 := (Bool.not_eq_false' _).mp hb4
      refine WC.skip ?_
      refine WQ.next ?_
      refine WC.seq ?_
      refine WC.region ?_
      refine WL.op rfl rfl (op_move rfl ?_)
      refine WL.op rfl rfl (op_move rfl ?_)
      refine WL.op rfl rfl (op_nilCheck rfl ?_)
      refine WL.op rfl rfl (op_fieldAddr rfl Fa.F102_0 ?_)
      refine WL.op rfl rfl (op_fieldAddr rfl Fa.F26_0 ?_)
      refine WL.op rfl rfl (op_load rfl (H3.cell (i := 0) rfl rfl) Tryd.underlying9 rfl ?_)
      refine WL.op rfl rfl (op_move rfl ?_)
      refine WL.op rfl rfl (op_callF Fa.C75 rfl ((place_ok q n0 c1 c2 c3 bs v c6 (.map (some b)) rl.length rl n0 ((mget x.to m).getD 0) FT _ _ (H3.part [0, 1] rfl rfl) hn (by omega)).mono (fun e w5 hq => ?_)))
      obtain ⟨v5, rfl, hq5⟩ := hq
      refine ⟨_, rfl, ?_⟩
      have H5 : Own T w w5 [.blk q [(str n0), c1, c2, c3, (str bs), v5, c6, (.map (some b))] FT, .row v5 44 4 (rl.length + 1) (List.flatMap rlc (rl ++ [⟨UInt32.ofNat bs.length + 4, 1, n0, ((mget x.to m).getD 0)⟩])), .obj b (mO vU32 m), .blk b1 [(str x.lb), (vU8 x.op), (vU8 x.d), (vU8 x.a), (vU8 x.b), (vU32 x.imm), (str x.to), (str x.nm)] 65] := H3.splice [0, 1] [.blk q [(str n0), c1, c2, c3, (str bs), v5, c6, (.map (some b))] FT, .row v5 44 4 (rl.length + 1) (List.flatMap rlc (rl ++ [⟨UInt32.ofNat bs.length + 4, 1, n0, ((mget x.to m).getD 0)⟩]))] [] rfl rfl hq5 (Fits.solid True.intro (Fits.solid True.intro Fits.nil))
      refine WL.nil ?_
      refine WQ.next ?_
      refine WC.region ?_
      refine WL.op rfl rfl (op_fieldAddr rfl Fa.F65_1 ?_)
      refine WL.op rfl rfl (op_fieldAddr rfl Fa.F61_4 ?_)
      refine WL.op rfl rfl (op_storeB (i := 3) H5 rfl rfl rfl rfl rfl Fa.I22 (fun w6 H6 => ?_))
      refine WL.nil ?_
      refine WQ.inNormal ?_
      refine WQ.next ?_
      refine WC.seq ?_
      refine WC.region ?_
      refine WL.op rfl rfl (op_fieldAddr rfl Fa.F65_1 ?_)
      refine WL.op rfl rfl (op_loadS (vs := [_, _, _, _, _]) rfl (H6.cells (i := 3) rfl rfl) Tryd.underlying61 rfl Fa.I61 rfl ?_)
      refine WL.op rfl rfl (op_callF Fa.C76 rfl ((encode_ok x.op x.d x.a x.b 0 _).mono (fun e w7 hq => ?_)))
      obtain ⟨rfl, hf7⟩ := hq
      refine ⟨_, rfl, ?_⟩
      have H7 := H6.fr' hf7
      refine WL.op rfl rfl (op_move rfl ?_)
      refine WL.op rfl rfl (op_extract rfl rfl ?_)
      refine WL.op rfl rfl (op_extract rfl rfl ?_)
      refine WL.op rfl rfl (op_assign rfl ?_)
      refine WL.op rfl rfl (op_assign rfl ?_)
      refine WL.nil ?_
      refine WQ.next ?_
      refine WC.seq ?_
      refine WC.region ?_
      refine WL.op rfl rfl (op_move rfl ?_)
      refine WL.op rfl rfl (op_nilCheck rfl ?_)
      refine WL.op rfl rfl (op_fieldAddr rfl Fa.F102_0 ?_)
      refine WL.op rfl rfl (op_fieldAddr rfl Fa.F26_4 ?_)
      refine WL.op rfl rfl (op_load rfl (H7.cell (i := 0) rfl rfl) Tryd.underlying9 rfl ?_)
      refine WL.op rfl rfl (op_move rfl ?_)
      refine WL.op rfl rfl (op_addStr rfl rfl (by have := encS_length x.op x.d x.a x.b 0; omega) ?_)
      refine WL.op rfl rfl (op_nilCheck rfl ?_)
      refine WL.op rfl rfl (op_fieldAddr rfl Fa.F102_0 ?_)
      refine WL.op rfl rfl (op_fieldAddr rfl Fa.F26_4 ?_)
      refine WL.op rfl rfl (op_storeB (i := 0) H7 rfl rfl rfl rfl rfl Fa.I9 (fun w8 H8 => ?_))
      refine WL.nil ?_
      refine WQ.next ?_
      refine WC.seq ?_
      refine WC.region ?_
      refine WL.op rfl rfl (op_move rfl ?_)
      refine WL.op rfl rfl (op_assign rfl ?_)
      refine WL.nil ?_
      refine WQ.next ?_
      refine WC.ret ?_
      refine WQ.out (.tmp rfl .nil) ?_
      have hN : layN m x = false := by (rw [layN, hb2, hn4]) <;> rfl
      have hI : bareI x = 0 := by (rw [bareI, show refB x = _ from ref_T hb2]) <;> rfl
      have hR : layR n0 bs rl m x = rl ++ [⟨UInt32.ofNat bs.length + 4, 1, n0, (mget x.to m).getD 0⟩] := by (rw [layR, hb2, hn4]) <;> rfl
      exact ⟨_, by rw [layE, hN, hI]; rfl, by rw [layB, hN, lnEnc, hI, hR, List.length_append]; exact H8.sel [0, 1, 2] rfl rfl⟩
  ·
    have hc2 := of_decide_eq_false hb2
    refine WC.seq ?_
    refine WC.region ?_
    refine WL.op rfl rfl (op_fieldAddr rfl Fa.F65_3 ?_)
    refine WL.op rfl rfl (op_load rfl (H1.cell (i := 3) rfl rfl) Tryd.underlying9 rfl ?_)
    refine WL.op rfl rfl (op_neqStr rfl rfl ?_)
    refine WL.op rfl rfl (op_assign rfl ?_)
    refine WL.nil ?_
    refine WQ.next ?_
    refine WC.cond rfl (fun (hb9 : (decide (x.nm ≠ [])) = true) => ?_) (fun (hb9 : (decide (x.nm ≠ [])) = false) => ?_)
    ·
      have hc9 := of_decide_eq_true hb9
      refine WC.seq ?_
      refine WC.region ?_
      refine WL.op rfl rfl (op_move rfl ?_)
      refine WL.op rfl rfl (op_fieldAddr rfl Fa.F65_3 ?_)
      refine WL.op rfl rfl (op_load rfl (H1.cell (i := 3) rfl rfl) Tryd.underlying9 rfl ?_)
      refine WL.op rfl rfl (op_fieldAddr rfl Fa.F65_1 ?_)
      refine WL.op rfl rfl (op_fieldAddr rfl Fa.F61_4 ?_)
      refine WL.op rfl rfl (op_load rfl (H1.cell (i := 3) rfl rfl) Tryd.underlying22 rfl ?_)
      refine WL.op rfl rfl (op_callF Fa.C75 rfl ((place_ok q n0 c1 c2 c3 bs v c6 (.map (some b)) rl.length rl x.nm x.imm FT _ _ (H1.part [0, 1] rfl rfl) hn (by omega)).mono (fun e w10 hq => ?_)))
      obtain ⟨v10, rfl, hq10⟩ := hq
      refine ⟨_, rfl, ?_⟩
      have H10 : Own T w w10 [.blk q [(str n0), c1, c2, c3, (str bs), v10, c6, (.map (some b))] FT, .row v10 44 4 (rl.length + 1) (List.flatMap rlc (rl ++ [⟨UInt32.ofNat bs.length + 4, 1, x.nm, x.imm⟩])), .obj b (mO vU32 m), .blk b1 [(str x.lb), (vU8 x.op), (vU8 x.d), (vU8 x.a), (vU8 x.b), (vU32 x.imm), (str x.to), (str x.nm)] 65] := H1.splice [0, 1] [.blk q [(str n0), c1, c2, c3, (str bs), v10, c6, (.map (some b))] FT, .row v10 44 4 (rl.length + 1) (List.flatMap rlc (rl ++ [⟨UInt32.ofNat bs.length + 4, 1, x.nm, x.imm⟩]))] [] rfl rfl hq10 (Fits.solid True.intro (Fits.solid True.intro Fits.nil))
      refine WL.nil ?_
      refine WQ.next ?_
      refine WC.region ?_
      refine WL.op rfl rfl (op_fieldAddr rfl Fa.F65_1 ?_)
      refine WL.op rfl rfl (op_fieldAddr rfl Fa.F61_4 ?_)
      refine WL.op rfl rfl (op_storeB (i := 3) H10 rfl rfl rfl rfl rfl Fa.I22 (fun w11 H11 => ?_))
      refine WL.nil ?_
      refine WQ.inNormal ?_
      refine WQ.next ?_
      refine WC.seq ?_
      refine WC.region ?_
      refine WL.op rfl rfl (op_fieldAddr rfl Fa.F65_1 ?_)
      refine WL.op rfl rfl (op_loadS (vs := [_, _, _, _, _]) rfl (H11.cells (i := 3) rfl rfl) Tryd.underlying61 rfl Fa.I61 rfl ?_)
      refine WL.op rfl rfl (op_callF Fa.C76 rfl ((encode_ok x.op x.d x.a x.b 0 _).mono (fun e w12 hq => ?_)))
      obtain ⟨rfl, hf12⟩ := hq
      refine ⟨_, rfl, ?_⟩
      have H12 := H11.fr' hf12
      refine WL.op rfl rfl (op_move rfl ?_)
      refine WL.op rfl rfl (op_extract rfl rfl ?_)
      refine WL.op rfl rfl (op_extract rfl rfl ?_)
      refine WL.op rfl rfl (op_assign rfl ?_)
      refine WL.op rfl rfl (op_assign rfl ?_)
      refine WL.nil ?_
      refine WQ.next ?_
      refine WC.seq ?_
      refine WC.region ?_
      refine WL.op rfl rfl (op_move rfl ?_)
      refine WL.op rfl rfl (op_nilCheck rfl ?_)
      refine WL.op rfl rfl (op_fieldAddr rfl Fa.F102_0 ?_)
      refine WL.op rfl rfl (op_fieldAddr rfl Fa.F26_4 ?_)
      refine WL.op rfl rfl (op_load rfl (H12.cell (i := 0) rfl rfl) Tryd.underlying9 rfl ?_)
      refine WL.op rfl rfl (op_move rfl ?_)
      refine WL.op rfl rfl (op_addStr rfl rfl (by have := encS_length x.op x.d x.a x.b 0; omega) ?_)
      refine WL.op rfl rfl (op_nilCheck rfl ?_)
      refine WL.op rfl rfl (op_fieldAddr rfl Fa.F102_0 ?_)
      refine WL.op rfl rfl (op_fieldAddr rfl Fa.F26_4 ?_)
      refine WL.op rfl rfl (op_storeB (i := 0) H12 rfl rfl rfl rfl rfl Fa.I9 (fun w13 H13 => ?_))
      refine WL.nil ?_
      refine WQ.next ?_
      refine WC.seq ?_
      refine WC.region ?_
      refine WL.op rfl rfl (op_move rfl ?_)
      refine WL.op rfl rfl (op_assign rfl ?_)
      refine WL.nil ?_
      refine WQ.next ?_
      refine WC.ret ?_
      refine WQ.out (.tmp rfl .nil) ?_
      have hN : layN m x = false := by (rw [layN, hb2]) <;> rfl
      have hI : bareI x = 0 := by (rw [bareI, show refB x = _ from ref_N hb9]) <;> rfl
      have hR : layR n0 bs rl m x = rl ++ [⟨UInt32.ofNat bs.length + 4, 1, x.nm, x.imm⟩] := by (rw [layR, hb2, hb9]) <;> rfl
      exact ⟨_, by rw [layE, hN, hI]; rfl, by rw [layB, hN, lnEnc, hI, hR, List.length_append]; exact H13.sel [0, 1, 2] rfl rfl⟩
    ·
      have hc9 := of_decide_eq_false hb9
      refine WC.skip ?_
      refine WQ.inNormal ?_
      refine WQ.next ?_
      refine WC.seq ?_
      refine WC.region ?_
      refine WL.op rfl rfl (op_fieldAddr rfl Fa.F65_1 ?_)
      refine WL.op rfl rfl (op_loadS (vs := [_, _, _, _, _]) rfl (H1.cells (i := 3) rfl rfl) Tryd.underlying61 rfl Fa.I61 rfl ?_)
      refine WL.op rfl rfl (op_callF Fa.C76 rfl ((encode_ok x.op x.d x.a x.b x.imm _).mono (fun e w14 hq => ?_)))
      obtain ⟨rfl, hf14⟩ := hq
      refine ⟨_, rfl, ?_⟩
      have H14 := H1.fr' hf14
      refine WL.op rfl rfl (op_move rfl ?_)
      refine WL.op rfl rfl (op_extract rfl rfl ?_)
      refine WL.op rfl rfl (op_extract rfl rfl ?_)
      refine WL.op rfl rfl (op_assign rfl ?_)
      refine WL.op rfl rfl (op_assign rfl ?_)
      refine WL.nil ?_
      refine WQ.next ?_
      refine WC.seq ?_
      refine WC.region ?_
      refine WL.op rfl rfl (op_move rfl ?_)
      refine WL.op rfl rfl (op_nilCheck rfl ?_)
      refine WL.op rfl rfl (op_fieldAddr rfl Fa.F102_0 ?_)
      refine WL.op rfl rfl (op_fieldAddr rfl Fa.F26_4 ?_)
      refine WL.op rfl rfl (op_load rfl (H14.cell (i := 0) rfl rfl) Tryd.underlying9 rfl ?_)
      refine WL.op rfl rfl (op_move rfl ?_)
      refine WL.op rfl rfl (op_addStr rfl rfl (by have := encS_length x.op x.d x.a x.b x.imm; omega) ?_)
      refine WL.op rfl rfl (op_nilCheck rfl ?_)
      refine WL.op rfl rfl (op_fieldAddr rfl Fa.F102_0 ?_)
      refine WL.op rfl rfl (op_fieldAddr rfl Fa.F26_4 ?_)
      refine WL.op rfl rfl (op_storeB (i := 0) H14 rfl rfl rfl rfl rfl Fa.I9 (fun w15 H15 => ?_))
      refine WL.nil ?_
      refine WQ.next ?_
      refine WC.seq ?_
      refine WC.region ?_
      refine WL.op rfl rfl (op_move rfl ?_)
      refine WL.op rfl rfl (op_assign rfl ?_)
      refine WL.nil ?_
      refine WQ.next ?_
      refine WC.ret ?_
      refine WQ.out (.tmp rfl .nil) ?_
      have hN : layN m x = false := by (rw [layN, hb2]) <;> rfl
      have hI : bareI x = x.imm := by (rw [bareI, show refB x = _ from (show refB x = false by (rw [refB, hb2, hb9]) <;> rfl)]) <;> rfl
      have hR : layR n0 bs rl m x = rl := by (rw [layR, hb2, hb9]) <;> rfl
      exact ⟨_, by rw [layE, hN, hI]; rfl, by rw [layB, hN, lnEnc, hI, hR]; exact H15.sel [0, 1, 2] rfl rfl⟩
end Go.Proofs.YtnngbnenekjffaaDoor
/-! from DAsm4 -/
namespace Go.Proofs.YtnngbnenekjffaaDoor
open Go.Owl Go.Spec
set_option maxHeartbeats 1000000 in
set_option maxRecDepth 100000 in
theorem amake_ok (nm : List UInt8) (bi : UInt8) (nv : Value) (nt : List Nt) (lv : Value) (l : List Ln) (w : World) (hA : Arr w lv 8 l.length (List.flatMap lnc l)) (hN : Arr w nv 3 nt.length (List.flatMap ntc nt)) (hnm : nm.length < 2 ^ 47) (hfx : ∀ k, (l.getD k Ln.zero).lb.length < 2 ^ 47 ∧ (l.getD k Ln.zero).to.length < 2 ^ 47 ∧ (l.getD k Ln.zero).nm.length < 2 ^ 47) (hln : l.length < 2 ^ 40) (hnt : nt.length < 2 ^ 40) :
    Calls Tryd.prog 22 #[(str nm), (vU8 bi), nv, lv] w (fun e w' => ∃ y : Sy, e = .returned (.tuple #[.agg #[str y.nm, vU8 y.bind, vU8 y.kind, vU32 y.size, str y.b, y.rv, y.nv], vN (mkE nm bi nt l)]) ∧ y.bare = mkS nm bi nt l ∧ Own [] w w' [.row y.rv 44 4 y.rl.length (List.flatMap rlc y.rl), .row y.nv 68 3 y.nt.length (List.flatMap ntc y.nt)]) := by
  refine enter (args := [(str nm), (vU8 bi), nv, lv]) Tryd.func22 rfl rfl ?_
  have H0 : Own [] w w [] := Own.start w []
  refine WC.seq ?_
  refine WC.region ?_
  refine WL.op rfl rfl (op_alloc H0 Fa.I26 (fun b1 w1 H1 => ?_))
  refine WL.op rfl rfl (op_assign rfl ?_)
  refine WL.nil ?_
  refine WQ.next ?_
  refine WC.seq ?_
  refine WC.seq ?_
  refine WC.region ?_
  refine WL.op rfl rfl (op_move rfl ?_)
  refine WL.op rfl rfl (op_lenA Tryd.underlying48 rfl (H1.arr hA) ?_)
  refine WL.op rfl rfl (op_gtrN (b := 1024) rfl rfl ?_)
  refine WL.nil ?_
  refine WQ.next ?_
  refine WC.cond rfl (fun (hb2 : (decide (l.length > 1024)) = true) => ?_) (fun (hb2 : (decide (l.length > 1024)) = false) => ?_)
  ·
    have hc2 := of_decide_eq_true hb2
    refine WC.seq ?_
    refine WC.region ?_
    refine WL.op rfl rfl (op_build (cs := [_, _, _, _, _, _, _]) Fa.I26 Fa.PL26 rfl rfl ?_)
    refine WL.op rfl rfl (op_storeBW (i := 0) H1 rfl rfl rfl rfl rfl Fa.I26 (fun w3 H3 => ?_))
    refine WL.op rfl rfl (op_assign rfl ?_)
    refine WL.nil ?_
    refine WQ.next ?_
    refine WC.ret ?_
    refine WQ.thenRet ?_
    refine WQ.out (.cell rfl (run_loadVarS (vs := [_, _, _, _, _, _, _]) (H3.cells (i := 0) rfl rfl) Tryd.underlying26 rfl Fa.I26 rfl) (.tmp rfl .nil)) ?_
    have he := mk_5 (nm := nm) (bi := bi) (nt := nt) hb2
    exact ⟨Sy.zero, by rw [he]; rfl, (mk_bad he (by decide)).symm, ((H3.sel [] rfl rfl).nilRow 44 4).nilRow 68 3⟩
  ·
    have hc2 := of_decide_eq_false hb2
    have hg1 := hb2
    refine WC.skip ?_
    refine WQ.next ?_
    refine WC.seq ?_
    refine WC.seq ?_
    refine WC.region ?_
    refine WL.op rfl rfl (op_move rfl ?_)
    refine WL.op rfl rfl (op_callF Fa.C48 rfl ((conL_ok _ l _ (H1.arr hA) hfx (by omega)).mono (fun e w4 hq => ?_)))
    obtain ⟨rfl, hf4⟩ := hq
    refine ⟨_, rfl, ?_⟩
    have H4 := H1.fr' hf4
    refine WL.nil ?_
    refine WQ.next ?_
    refine WC.cond rfl (fun (hb5 : (l.any (fun n => !lnMay n)) = true) => ?_) (fun (hb5 : (l.any (fun n => !lnMay n)) = false) => ?_)
    ·
      refine WC.seq ?_
      refine WC.region ?_
      refine WL.op rfl rfl (op_build (cs := [_, _, _, _, _, _, _]) Fa.I26 Fa.PL26 rfl rfl ?_)
      refine WL.op rfl rfl (op_storeBW (i := 0) H4 rfl rfl rfl rfl rfl Fa.I26 (fun w6 H6 => ?_))
      refine WL.op rfl rfl (op_assign rfl ?_)
      refine WL.nil ?_
      refine WQ.next ?_
      refine WC.ret ?_
      refine WQ.thenRet ?_
      refine WQ.out (.cell rfl (run_loadVarS (vs := [_, _, _, _, _, _, _]) (H6.cells (i := 0) rfl rfl) Tryd.underlying26 rfl Fa.I26 rfl) (.tmp rfl .nil)) ?_
      have he := mk_2 (nm := nm) (bi := bi) (nt := nt) hg1 hb5
      exact ⟨Sy.zero, by rw [he]; rfl, (mk_bad he (by decide)).symm, ((H6.sel [] rfl rfl).nilRow 44 4).nilRow 68 3⟩
    ·
      have hg2 := hb5
      have hall := all_may hg2
      refine WC.skip ?_
      refine WQ.next ?_
      refine WC.seq ?_
      refine WC.region ?_
      refine WL.op rfl rfl (op_move rfl ?_)
      refine WL.op rfl rfl (op_move rfl ?_)
      refine WL.op rfl rfl (op_move rfl ?_)
      refine WL.op rfl rfl (op_lenA Tryd.underlying48 rfl (H4.arr hA) ?_)
      refine WL.op rfl rfl (op_convNU32 (hs := Tryd.underlying3) (hd := Tryd.underlying22) rfl ?_)
      refine WL.op rfl rfl (op_mulU32 (b := 8) rfl rfl ?_)
      refine WL.op rfl rfl (op_move rfl ?_)
      refine WL.op rfl rfl (op_callF Fa.C51 rfl ((cloneN_ok _ nt _ (H4.arr hN) (by omega)).mono (fun e w7 hq => ?_)))
      obtain ⟨v7, rfl, hq7⟩ := hq
      refine ⟨_, rfl, ?_⟩
      have H7 : Own [] w w7 [.blk b1 [(str []), (vU8 0), (vU8 0), (vU32 0), (str []), (.slice none 0 0), (.slice none 0 0)] 26, .row v7 68 3 nt.length (List.flatMap ntc nt)] := H4.splice [] [] [.row v7 68 3 nt.length (List.flatMap ntc nt)] rfl rfl hq7 (Fits.solid True.intro Fits.nil)
      refine WL.op rfl rfl (op_build (cs := [(str nm), (vU8 bi), (vU8 1), (vU32 ((UInt32.ofNat l.length) * (8 : UInt32))), (str []), (.slice none 0 0), v7]) Fa.I26 Fa.PL26 rfl (by obtain ⟨_, _, e0, _⟩ := (H7.arrR (i := 1) rfl).form; rw [e0]; rfl) ?_)
      refine WL.op rfl rfl (op_makeMap H7 vU32 (fun b8 w8 H8 => ?_))
      refine WL.op rfl rfl (op_build (cs := [_, _, _, _, _, _, _, _]) Fa.I102 Fa.PL102 rfl rfl ?_)
      refine WL.op rfl rfl (op_box H8 rfl rfl (fun b9 w9 H9 => ?_))
      refine WL.op rfl rfl (op_assign rfl ?_)
      refine WL.nil ?_
      refine WQ.next ?_
      refine WC.seq ?_
      refine WC.seq ?_
      refine WC.region ?_
      have H10 : Own [] w w9 [.blk b1 [(str []), (vU8 0), (vU8 0), (vU32 0), (str []), (.slice none 0 0), (.slice none 0 0)] 26, .row v7 68 3 nt.length (List.flatMap ntc nt), .obj b8 (mO vU32 []), .blk b9 [(str nm), (vU8 bi), (vU8 1), (vU32 ((UInt32.ofNat l.length) * (8 : UInt32))), (str []), (.slice none 0 0), v7, (.map (some b8))] 102, .row (.slice none 0 0) 44 4 0 (List.flatMap rlc [])] := (show Own [] w w9 [.blk b1 [(str []), (vU8 0), (vU8 0), (vU32 0), (str []), (.slice none 0 0), (.slice none 0 0)] 26, .row v7 68 3 nt.length (List.flatMap ntc nt), .obj b8 (mO vU32 []), .blk b9 [(str nm), (vU8 bi), (vU8 1), (vU32 ((UInt32.ofNat l.length) * (8 : UInt32))), (str []), (.slice none 0 0), v7, (.map (some b8))] 102] from H9).nilRow 44 4
      refine WL.op rfl rfl (op_move rfl ?_)
      refine WL.op rfl rfl (op_move rfl ?_)
      refine WL.op rfl rfl (op_callF Fa.C52 rfl ((label_ok b9 (str nm) (vU8 bi) (vU8 1) (vU32 ((UInt32.ofNat l.length) * (8 : UInt32))) (str []) (.slice none 0 0) v7 b8 lv l 102 _ _ (H10.part [3, 2] rfl rfl) (fun w1 hf => (fun w1 hf => hA.fr hf (by simp)) w1 (H10.frPart (I := [3, 2]) rfl hf)) (by omega)).mono (fun e w11 hq => ?_)))
      obtain ⟨m11, rfl, hd11, hq11⟩ := hq
      refine ⟨_, rfl, ?_⟩
      have H11 : Own [] w w11 [.blk b1 [(str []), (vU8 0), (vU8 0), (vU32 0), (str []), (.slice none 0 0), (.slice none 0 0)] 26, .row v7 68 3 nt.length (List.flatMap ntc nt), .obj b8 (mO vU32 m11), .blk b9 [(str nm), (vU8 bi), (vU8 1), (vU32 ((UInt32.ofNat l.length) * (8 : UInt32))), (str []), (.slice none 0 0), v7, (.map (some b8))] 102, .row (.slice none 0 0) 44 4 0 (List.flatMap rlc [])] := H10.splice [3, 2] [.blk b9 [(str nm), (vU8 bi), (vU8 1), (vU32 ((UInt32.ofNat l.length) * (8 : UInt32))), (str []), (.slice none 0 0), v7, (.map (some b8))] 102, .obj b8 (mO vU32 m11)] [] rfl rfl hq11 (Fits.solid True.intro (Fits.solid True.intro Fits.nil))
      refine WL.op rfl rfl (op_assign rfl ?_)
      refine WL.nil ?_
      refine WQ.next ?_
      refine WC.seq ?_
      refine WC.region ?_
      refine WL.op rfl rfl (op_move rfl ?_)
      refine WL.op rfl rfl (op_neqN (b := 0) rfl rfl ?_)
      refine WL.nil ?_
      refine WQ.next ?_
      refine WC.cond rfl (fun (hb12 : (decide ((labE l) ≠ 0)) = true) => ?_) (fun (hb12 : (decide ((labE l) ≠ 0)) = false) => ?_)
      ·
        have hc12 := of_decide_eq_true hb12
        refine WC.seq ?_
        refine WC.region ?_
        refine WL.op rfl rfl (op_build (cs := [_, _, _, _, _, _, _]) Fa.I26 Fa.PL26 rfl rfl ?_)
        refine WL.op rfl rfl (op_move rfl ?_)
        refine WL.op rfl rfl (op_storeBW (i := 0) H11 rfl rfl rfl rfl rfl Fa.I26 (fun w13 H13 => ?_))
        refine WL.op rfl rfl (op_assign rfl ?_)
        refine WL.nil ?_
        refine WQ.next ?_
        refine WC.ret ?_
        refine WQ.thenRet ?_
        refine WQ.out (.cell rfl (run_loadVarS (vs := [_, _, _, _, _, _, _]) (H13.cells (i := 0) rfl rfl) Tryd.underlying26 rfl Fa.I26 rfl) (.tmp rfl .nil)) ?_
        have h9 := lab_9 hc12
        have he := mk_9 (nm := nm) (bi := bi) (nt := nt) hg1 hg2 hb12
        exact ⟨Sy.zero, by rw [he, h9]; rfl, (mk_bad he (by decide)).symm, ((H13.sel [] rfl rfl).nilRow 44 4).nilRow 68 3⟩
      ·
        have hc12 := of_decide_eq_false hb12
        have hg3 : labE l = 0 := Decidable.not_not.mp hc12
        have hnd := labE_no hg3
        refine WC.skip ?_
        refine WQ.next ?_
        refine WC.seq ?_
        refine WC.seq ?_
        refine WC.region ?_
        have hm11 := hd11 hg3
        subst hm11
        refine WL.op rfl rfl (op_move rfl ?_)
        refine WL.op rfl rfl (op_lenA Tryd.underlying48 rfl (H11.arr hA) ?_)
        refine WL.op rfl rfl (op_move rfl ?_)
        refine WL.nil ?_
        refine WQ.next ?_
        refine WC.block ?_
        refine WC.loop (α := Nat × Value) (fun (k, v) => [(8, (ptr b1 0)), (9, (vN 0)), (10, (ptr b9 0)), (42, lv), (43, (vN l.length)), (44, (vN k))]) (fun (k, v) w' => (k ≤ l.length ∧ (∀ j, j < k → noneB l j = false)) ∧ Own [] w w' [.blk b1 [(str []), (vU8 0), (vU8 0), (vU32 0), (str []), (.slice none 0 0), (.slice none 0 0)] 26, .row v7 68 3 nt.length (List.flatMap ntc nt), .obj b8 (mO vU32 (labTo l l.length)), .blk b9 [(str nm), (vU8 bi), (vU8 1), (vU32 ((UInt32.ofNat l.length) * (8 : UInt32))), (str (bytesTo l k)), v, v7, (.map (some b8))] 102, .row v 44 4 (relsTo nm l k).length (List.flatMap rlc (relsTo nm l k))]) (fun (k, v) => l.length - k) (0, (.slice none 0 0)) ⟨⟨Nat.zero_le _, fun j h => by omega⟩, H11⟩ ⟨rfl, rfl, rfl, rfl, rfl, rfl, trivial⟩ ?_
        rintro ⟨k, v⟩ w14 ⟨⟨hk1, hok⟩, H14⟩
        show WC _ _ _ _ _ [(8, (ptr b1 0)), (9, (vN 0)), (10, (ptr b9 0)), (42, lv), (43, (vN l.length)), (44, (vN k))] _
        refine WC.seq ?_
        refine WC.region ?_
        refine WL.op rfl rfl (op_lssN rfl rfl ?_)
        refine WL.nil ?_
        refine WQ.next ?_
        refine WC.seq ?_
        refine WC.cond rfl (fun (hb15 : (decide (k < l.length)) = true) => ?_) (fun (hb15 : (decide (k < l.length)) = false) => ?_)
        ·
          have hc15 := of_decide_eq_true hb15
          refine WC.skip ?_
          refine WQ.next ?_
          refine WC.seq ?_
          refine WC.block ?_
          refine WC.seq ?_
          refine WC.region ?_
          refine WL.op rfl rfl (op_indexAddr Tryd.underlying48 Fa.I65 rfl (H14.arr hA) rfl (by omega) ?_)
          refine WL.op rfl rfl (op_loadSP (vs := lnc (l.getD k Ln.zero)) rfl (Arr.atsF (H14.arr hA) (fun _ => rfl) (by decide) Ln.zero (by omega)) Tryd.underlying65 rfl Fa.I65 rfl ?_)
          refine WL.op rfl rfl (op_alloc H14 Fa.I65 (fun b16 w16 H16 => ?_))
          refine WL.op rfl rfl (op_storeBW (i := 5) H16 rfl rfl rfl rfl rfl Fa.I65 (fun w17 H17 => ?_))
          refine WL.nil ?_
          refine WQ.next ?_
          refine WC.seq ?_
          refine WC.region ?_
          refine WL.op rfl rfl (op_move rfl ?_)
          refine WL.op rfl rfl (op_loadS (vs := [_, _, _, _, _, _, _, _]) rfl (H17.cells (i := 5) rfl rfl) Tryd.underlying65 rfl Fa.I65 rfl ?_)
          refine WL.op rfl rfl (op_callF Fa.C53 rfl ((lay_ok b9 nm (vU8 bi) (vU8 1) (vU32 ((UInt32.ofNat l.length) * (8 : UInt32))) (bytesTo l k) v v7 (relsTo nm l k) b8 (labTo l l.length) (l.getD k Ln.zero) 102 _ _ (H17.part [3, 4, 2] rfl rfl) (by have := relsTo_len nm l k; omega) (by rw [bytesTo_len (fun j hj => hall j (by omega))]; omega)).mono (fun e w18 hq => ?_)))
          obtain ⟨v18, rfl, hq18⟩ := hq
          refine ⟨_, rfl, ?_⟩
          have H18 : Own [] w w18 [.blk b1 [(str []), (vU8 0), (vU8 0), (vU32 0), (str []), (.slice none 0 0), (.slice none 0 0)] 26, .row v7 68 3 nt.length (List.flatMap ntc nt), .obj b8 (mO vU32 (labTo l l.length)), .blk b9 [(str nm), (vU8 bi), (vU8 1), (vU32 ((UInt32.ofNat l.length) * (8 : UInt32))), (str (layB (bytesTo l k) (labTo l l.length) (l.getD k Ln.zero))), v18, v7, (.map (some b8))] 102, .row v18 44 4 (layR nm (bytesTo l k) (relsTo nm l k) (labTo l l.length) (l.getD k Ln.zero)).length (List.flatMap rlc (layR nm (bytesTo l k) (relsTo nm l k) (labTo l l.length) (l.getD k Ln.zero))), .blk b16 [(str (l.getD k Ln.zero).lb), (vU8 (l.getD k Ln.zero).op), (vU8 (l.getD k Ln.zero).d), (vU8 (l.getD k Ln.zero).a), (vU8 (l.getD k Ln.zero).b), (vU32 (l.getD k Ln.zero).imm), (str (l.getD k Ln.zero).to), (str (l.getD k Ln.zero).nm)] 65] := H17.splice [3, 4, 2] [.blk b9 [(str nm), (vU8 bi), (vU8 1), (vU32 ((UInt32.ofNat l.length) * (8 : UInt32))), (str (layB (bytesTo l k) (labTo l l.length) (l.getD k Ln.zero))), v18, v7, (.map (some b8))] 102, .row v18 44 4 (layR nm (bytesTo l k) (relsTo nm l k) (labTo l l.length) (l.getD k Ln.zero)).length (List.flatMap rlc (layR nm (bytesTo l k) (relsTo nm l k) (labTo l l.length) (l.getD k Ln.zero))), .obj b8 (mO vU32 (labTo l l.length))] [] rfl rfl hq18 (Fits.solid True.intro (Fits.solid True.intro (Fits.solid True.intro Fits.nil)))
          refine WL.op rfl rfl (op_assign rfl ?_)
          refine WL.nil ?_
          refine WQ.next ?_
          refine WC.seq ?_
          refine WC.region ?_
          refine WL.op rfl rfl (op_move rfl ?_)
          refine WL.op rfl rfl (op_neqN (b := 0) rfl rfl ?_)
          refine WL.nil ?_
          refine WQ.next ?_
          refine WC.cond rfl (fun (hb19 : (decide ((layE (labTo l l.length) (l.getD k Ln.zero)) ≠ 0)) = true) => ?_) (fun (hb19 : (decide ((layE (labTo l l.length) (l.getD k Ln.zero)) ≠ 0)) = false) => ?_)
          ·
            have hc19 := of_decide_eq_true hb19
            refine WC.seq ?_
            refine WC.region ?_
            refine WL.op rfl rfl (op_build (cs := [_, _, _, _, _, _, _]) Fa.I26 Fa.PL26 rfl rfl ?_)
            refine WL.op rfl rfl (op_move rfl ?_)
            refine WL.op rfl rfl (op_storeBW (i := 0) H18 rfl rfl rfl rfl rfl Fa.I26 (fun w20 H20 => ?_))
            refine WL.op rfl rfl (op_assign rfl ?_)
            refine WL.nil ?_
            refine WQ.next ?_
            refine WC.ret ?_
            refine WQ.inRet ?_
            refine WQ.thenRet ?_
            refine WQ.thenRet ?_
            refine WQ.inRet ?_
            refine WQ.thenRet ?_
            refine WQ.out (.cell rfl (run_loadVarS (vs := [_, _, _, _, _, _, _]) (H20.cells (i := 0) rfl rfl) Tryd.underlying26 rfl Fa.I26 rfl) (.tmp rfl .nil)) ?_
            have hL := lay_ne (hall k (by omega)) hc19
            have h3 := lay_E hL
            have he := mk_3 (nm := nm) (bi := bi) (nt := nt) hg1 hg2 hg3 (none_yes (by omega) ((lay_none hnd).symm.trans hL))
            exact ⟨Sy.zero, by rw [he, h3]; rfl, (mk_bad he (by decide)).symm, ((H20.sel [] rfl rfl).nilRow 44 4).nilRow 68 3⟩
          ·
            have hc19 := of_decide_eq_false hb19
            refine WC.skip ?_
            refine WQ.inNormal ?_
            refine WQ.next ?_
            refine WC.region ?_
            refine WL.op rfl rfl (op_addN (b := 1) rfl rfl (by omega) ?_)
            refine WL.op rfl rfl (op_move rfl ?_)
            refine WL.nil ?_
            have hN := lay_eq (Decidable.not_not.mp hc19)
            have hnn := (lay_none hnd).symm.trans hN
            have hbl := bytesTo_len (k := k) (fun j hj => hall j (by omega))
            exact WQ.round (k + 1, v18) ⟨⟨by omega, allPrev hok hnn⟩, (by have h := (show Own [] w w18 [.blk b1 [(str []), (vU8 0), (vU8 0), (vU32 0), (str []), (.slice none 0 0), (.slice none 0 0)] 26, .row v7 68 3 nt.length (List.flatMap ntc nt), .obj b8 (mO vU32 (labTo l l.length)), .blk b9 [(str nm), (vU8 bi), (vU8 1), (vU32 ((UInt32.ofNat l.length) * (8 : UInt32))), (str (layB (bytesTo l k) (labTo l l.length) (l.getD k Ln.zero))), v18, v7, (.map (some b8))] 102, .row v18 44 4 (layR nm (bytesTo l k) (relsTo nm l k) (labTo l l.length) (l.getD k Ln.zero)).length (List.flatMap rlc (layR nm (bytesTo l k) (relsTo nm l k) (labTo l l.length) (l.getD k Ln.zero)))] from (H18.take 5)); rw [lay_B hN, lay_R hnd hbl hnn] at h; exact h)⟩ ⟨rfl, rfl, rfl, rfl, rfl, rfl, trivial⟩ (by show l.length - (k + 1) < l.length - k; omega)
        ·
          have hc15 := of_decide_eq_false hb15
          refine WC.exit ?_
          refine WQ.thenExit ?_
          refine WQ.thenExit ?_
          refine WQ.inHere ?_
          refine WQ.next ?_
          refine WC.seq ?_
          refine WC.seq ?_
          refine WC.region ?_
          refine WL.op rfl rfl (op_move rfl ?_)
          refine WL.op rfl rfl (op_nilCheck rfl ?_)
          refine WL.op rfl rfl (op_fieldAddr rfl Fa.F102_0 ?_)
          refine WL.op rfl rfl (op_loadS (vs := [_, _, _, _, _, _, _]) rfl (H14.cells (i := 3) rfl rfl) Tryd.underlying26 rfl Fa.I26 rfl ?_)
          refine WL.op rfl rfl (op_callF Fa.C27 rfl ((osym_ok (Sy.mk nm bi 1 ((UInt32.ofNat l.length) * (8 : UInt32)) (bytesTo l k) v (relsTo nm l k) v7 nt) _ (SyD_mk (x := (Sy.mk nm bi 1 ((UInt32.ofNat l.length) * (8 : UInt32)) (bytesTo l k) v (relsTo nm l k) v7 nt)) (H14.arrR (i := 4) rfl) (H14.arrR (i := 1) rfl)) (by exact hnm) (by show (bytesTo l k).length < 2 ^ 32; rw [bytesTo_len (fun j hj => hall j (by omega))]; omega) (relsTo_names hnm (fun k => (hfx k).2.2) _) (by show (relsTo nm l k).length < 2 ^ 40; have := relsTo_len nm l k; omega) (by exact hnt)).mono (fun e w21 hq => ?_)))
          obtain ⟨rfl, hf21⟩ := hq
          refine ⟨_, rfl, ?_⟩
          have H21 := H14.fr' hf21
          refine WL.op rfl rfl (op_assign rfl ?_)
          refine WL.nil ?_
          refine WQ.next ?_
          refine WC.seq ?_
          refine WC.region ?_
          refine WL.op rfl rfl (op_move rfl ?_)
          refine WL.op rfl rfl (op_neqN (b := 0) rfl rfl ?_)
          refine WL.nil ?_
          refine WQ.next ?_
          refine WC.cond rfl (fun (hb22 : (decide ((symE (Sy.mk nm bi 1 ((UInt32.ofNat l.length) * (8 : UInt32)) (bytesTo l k) v (relsTo nm l k) v7 nt)) ≠ 0)) = true) => ?_) (fun (hb22 : (decide ((symE (Sy.mk nm bi 1 ((UInt32.ofNat l.length) * (8 : UInt32)) (bytesTo l k) v (relsTo nm l k) v7 nt)) ≠ 0)) = false) => ?_)
          ·
            have hc22 := of_decide_eq_true hb22
            refine WC.seq ?_
            refine WC.region ?_
            refine WL.op rfl rfl (op_build (cs := [_, _, _, _, _, _, _]) Fa.I26 Fa.PL26 rfl rfl ?_)
            refine WL.op rfl rfl (op_move rfl ?_)
            refine WL.op rfl rfl (op_storeBW (i := 0) H21 rfl rfl rfl rfl rfl Fa.I26 (fun w23 H23 => ?_))
            refine WL.op rfl rfl (op_assign rfl ?_)
            refine WL.nil ?_
            refine WQ.next ?_
            refine WC.ret ?_
            refine WQ.thenRet ?_
            refine WQ.out (.cell rfl (run_loadVarS (vs := [_, _, _, _, _, _, _]) (H23.cells (i := 0) rfl rfl) Tryd.underlying26 rfl Fa.I26 rfl) (.tmp rfl .nil)) ?_
            obtain rfl : k = l.length := by omega
            have he := mk_s (nm := nm) (bi := bi) (nt := nt) hg1 hg2 hg3 (none_no hok)
            exact ⟨Sy.zero, by rw [he]; rfl, (show Sy.zero = mkS nm bi nt l by rw [mkS, if_neg (by rw [he]; exact hc22)]), ((H23.sel [] rfl rfl).nilRow 44 4).nilRow 68 3⟩
          ·
            have hc22 := of_decide_eq_false hb22
            refine WC.skip ?_
            refine WQ.next ?_
            refine WC.seq ?_
            refine WC.region ?_
            refine WL.op rfl rfl (op_move rfl ?_)
            refine WL.op rfl rfl (op_nilCheck rfl ?_)
            refine WL.op rfl rfl (op_fieldAddr rfl Fa.F102_0 ?_)
            refine WL.op rfl rfl (op_loadS (vs := [_, _, _, _, _, _, _]) rfl (H21.cells (i := 3) rfl rfl) Tryd.underlying26 rfl Fa.I26 rfl ?_)
            refine WL.op rfl rfl (op_storeBW (i := 0) H21 rfl rfl rfl rfl (one_cons rfl (one_cons rfl (one_cons rfl (one_cons rfl (one_cons rfl (one_cons (Arr.one (H21.arrR (i := 4) rfl)) (one_cons (Arr.one (H21.arrR (i := 1) rfl)) one_nil))))))) Fa.I26 (fun w24 H24 => ?_))
            refine WL.op rfl rfl (op_assign rfl ?_)
            refine WL.nil ?_
            refine WQ.next ?_
            refine WC.ret ?_
            refine WQ.out (.cell rfl (run_loadVarS (vs := [_, _, _, _, _, _, _]) (H24.cells (i := 0) rfl rfl) Tryd.underlying26 rfl Fa.I26 rfl) (.tmp rfl .nil)) ?_
            obtain rfl : k = l.length := by omega
            have he := mk_s (nm := nm) (bi := bi) (nt := nt) hg1 hg2 hg3 (none_no hok)
            have h0 : mkE nm bi nt l = 0 := by rw [he]; exact Decidable.not_not.mp hc22
            exact ⟨(Sy.mk nm bi 1 ((UInt32.ofNat l.length) * (8 : UInt32)) (bytesTo l l.length) v (relsTo nm l l.length) v7 nt), by rw [h0]; rfl, (show _ = mkS nm bi nt l by rw [mkS, if_pos h0]; rfl), H24.sel [4, 1] rfl rfl⟩
end Go.Proofs.YtnngbnenekjffaaDoor
/-! from DAsm5 -/
namespace Go.Proofs.YtnngbnenekjffaaDoor
open Go.Owl Go.Spec
end Go.Proofs.YtnngbnenekjffaaDoor
/-! from DAsm6 -/
namespace Go.Proofs.YtnngbnenekjffaaDoor
open Go.Owl Go.Spec
set_option maxRecDepth 100000 in
theorem long_ok (lv : Value) (l : List Ln) (nv : Value) (nt : List Nt) (w : World) (hA : Arr w lv 8 l.length (List.flatMap lnc l)) (hN : Arr w nv 3 nt.length (List.flatMap ntc nt)) (hfx : LnFit l) (hl : l.length < 2 ^ 47) :
    Calls Tryd.prog 20 #[lv, nv] w (fun e w' => e = .returned (.bool (longB l nt)) ∧ Fr [] w w') := by
  refine enter (args := [lv, nv]) Tryd.func20 rfl rfl ?_
  have H0 : Own [] w w [] := Own.start w []
  refine WC.seq ?_
  refine WC.region ?_
  refine WL.op rfl rfl (op_assign rfl ?_)
  refine WL.nil ?_
  refine WQ.next ?_
  refine WC.seq ?_
  refine WC.region ?_
  refine WL.op rfl rfl (op_move rfl ?_)
  refine WL.op rfl rfl (op_lenA Tryd.underlying48 rfl (H0.arr hA) ?_)
  refine WL.op rfl rfl (op_assign rfl ?_)
  refine WL.nil ?_
  refine WQ.next ?_
  refine WC.cut (α := Nat) (fun k => [(0, lv), (1, nv), (4, (.bool false)), (5, (vN (l.length + lgTo l k)))]) (fun k w' => (k = min l.length 1200) ∧ Own [] w w' []) ?_ ?_
  ·
    refine WC.seq ?_
    refine WC.region ?_
    refine WL.op rfl rfl (op_assign rfl ?_)
    refine WL.nil ?_
    refine WQ.next ?_
    refine WC.block ?_
    refine WC.loop (α := Nat) (fun k => [(0, lv), (1, nv), (4, (.bool false)), (5, (vN (l.length + lgTo l k))), (6, (vN k))]) (fun k w' => (k ≤ l.length ∧ k ≤ 1200) ∧ Own [] w w' []) (fun k => l.length - k) 0 ⟨⟨by omega, by omega⟩, H0⟩ ⟨rfl, rfl, rfl, rfl, rfl, trivial⟩ ?_
    rintro k w1 ⟨hinv, H1⟩
    show WC _ _ _ _ _ [(0, lv), (1, nv), (4, (.bool false)), (5, (vN (l.length + lgTo l k))), (6, (vN k))] _
    have hlg := lgTo_le hfx k
    obtain ⟨hf1, hf2, hf3⟩ := hfx k
    refine WC.seq ?_
    refine WC.seq ?_
    refine WC.region ?_
    refine WL.op rfl rfl (op_move rfl ?_)
    refine WL.op rfl rfl (op_move rfl ?_)
    refine WL.op rfl rfl (op_lenA Tryd.underlying48 rfl (H1.arr hA) ?_)
    refine WL.op rfl rfl (op_lssN rfl rfl ?_)
    refine WL.op rfl rfl (op_move rfl ?_)
    refine WL.split (t := 13) rfl (fun (hb2 : (decide (k < l.length)) = true) => ?_) (fun (hb2 : (decide (k < l.length)) = false) => ?_)
    ·
      have hc2 := of_decide_eq_true hb2
      refine WL.yes rfl rfl rfl hb2 rfl (op_move rfl ?_)
      refine WL.yes rfl rfl rfl hb2 rfl (op_lssN (b := 1200) rfl rfl ?_)
      refine WL.op rfl rfl (op_pickT rfl hb2 rfl ?_)
      refine WL.nil ?_
      refine WQ.next ?_
      refine WC.cond rfl (fun (hb3 : (decide (k < 1200)) = true) => ?_) (fun (hb3 : (decide (k < 1200)) = false) => ?_)
      ·
        have hc3 := of_decide_eq_true hb3
        refine WC.skip ?_
        refine WQ.next ?_
        refine WC.seq ?_
        refine WC.block ?_
        refine WC.draw 24 Fa.M H1 (HW.op rfl (fun w1 H1 => op_move rfl ⟨rfl, Fr.refl _ _⟩) (HW.op rfl (fun w1 H1 => op_move rfl ⟨rfl, Fr.refl _ _⟩) (HW.op rfl (fun w1 H1 => op_move rfl ⟨rfl, Fr.refl _ _⟩) (HW.op rfl (fun w1 H1 => op_indexAddr Tryd.underlying48 Fa.I65 rfl (H1.arr hA) rfl (by omega) ⟨rfl, Fr.refl _ _⟩) (HW.op rfl (fun w1 H1 => op_fieldAddrS rfl Fa.F65_0 ⟨rfl, Fr.refl _ _⟩) (HW.op rfl (fun w1 H1 => op_load rfl (Arr.atF (k := 0) (H1.arr hA) (fun _ => rfl) (by decide) Ln.zero (by omega) rfl) Tryd.underlying9 rfl ⟨rfl, Fr.refl _ _⟩) (HW.op rfl (fun w1 H1 => op_lenStr Tryd.underlying9 rfl ⟨rfl, Fr.refl _ _⟩) (HW.op rfl (fun w1 H1 => op_move rfl ⟨rfl, Fr.refl _ _⟩) (HW.op rfl (fun w1 H1 => op_move rfl ⟨rfl, Fr.refl _ _⟩) (HW.op rfl (fun w1 H1 => op_indexAddr Tryd.underlying48 Fa.I65 rfl (H1.arr hA) rfl (by omega) ⟨rfl, Fr.refl _ _⟩) (HW.op rfl (fun w1 H1 => op_fieldAddrS rfl Fa.F65_2 ⟨rfl, Fr.refl _ _⟩) (HW.op rfl (fun w1 H1 => op_load rfl (Arr.atF (k := 6) (H1.arr hA) (fun _ => rfl) (by decide) Ln.zero (by omega) rfl) Tryd.underlying9 rfl ⟨rfl, Fr.refl _ _⟩) (HW.op rfl (fun w1 H1 => op_lenStr Tryd.underlying9 rfl ⟨rfl, Fr.refl _ _⟩) (HW.op rfl (fun w1 H1 => op_addN rfl rfl (by omega) ⟨rfl, Fr.refl _ _⟩) (HW.op rfl (fun w1 H1 => op_move rfl ⟨rfl, Fr.refl _ _⟩) (HW.op rfl (fun w1 H1 => op_move rfl ⟨rfl, Fr.refl _ _⟩) (HW.op rfl (fun w1 H1 => op_indexAddr Tryd.underlying48 Fa.I65 rfl (H1.arr hA) rfl (by omega) ⟨rfl, Fr.refl _ _⟩) (HW.op rfl (fun w1 H1 => op_fieldAddrS rfl Fa.F65_3 ⟨rfl, Fr.refl _ _⟩) (HW.op rfl (fun w1 H1 => op_load rfl (Arr.atF (k := 7) (H1.arr hA) (fun _ => rfl) (by decide) Ln.zero (by omega) rfl) Tryd.underlying9 rfl ⟨rfl, Fr.refl _ _⟩) (HW.op rfl (fun w1 H1 => op_lenStr Tryd.underlying9 rfl ⟨rfl, Fr.refl _ _⟩) (HW.op rfl (fun w1 H1 => op_addN rfl rfl (by omega) ⟨rfl, Fr.refl _ _⟩) (HW.op rfl (fun w1 H1 => op_quoN (b := 16) rfl rfl (by omega) (by omega) ⟨rfl, Fr.refl _ _⟩) (HW.op rfl (fun w1 H1 => op_addN rfl rfl (by omega) ⟨rfl, Fr.refl _ _⟩) (HW.op rfl (fun w1 H1 => op_assign rfl ⟨rfl, Fr.refl _ _⟩)  HW.nil)))))))))))))))))))))))) (by kernel_rfl) ?_
        intro β4 w4 H4
        refine WL.nil ?_
        refine WQ.inNormal ?_
        refine WQ.next ?_
        refine WC.region ?_
        refine WL.op rfl rfl (op_move rfl ?_)
        refine WL.op rfl rfl (op_addN (b := 1) rfl rfl (by omega) ?_)
        refine WL.op rfl rfl (op_assign rfl ?_)
        refine WL.nil ?_
        exact WQ.round (k + 1) ⟨(by omega), H4⟩ ⟨rfl, rfl, rfl, (congrArg (fun x => some (vN x)) (by rw [lgTo]; omega)), rfl, trivial⟩ (by omega)
      ·
        have hc3 := of_decide_eq_false hb3
        refine WC.exit ?_
        refine WQ.thenExit ?_
        refine WQ.thenExit ?_
        refine WQ.inHere ?_
        exact WQ.here k ⟨(by omega), H1⟩ ⟨rfl, rfl, rfl, rfl, trivial⟩
    ·
      have hc2 := of_decide_eq_false hb2
      refine WL.no rfl rfl rfl hb2 rfl ?_
      refine WL.no rfl rfl rfl hb2 rfl ?_
      refine WL.op rfl rfl (op_pickF rfl hb2 rfl ?_)
      refine WL.nil ?_
      refine WQ.next ?_
      refine WC.no rfl rfl ?_
      refine WC.exit ?_
      refine WQ.thenExit ?_
      refine WQ.thenExit ?_
      refine WQ.inHere ?_
      exact WQ.here k ⟨(by omega), H1⟩ ⟨rfl, rfl, rfl, rfl, trivial⟩
  ·
    rintro k w5 ⟨hinv, H5⟩
    show WC _ _ _ _ _ [(0, lv), (1, nv), (4, (.bool false)), (5, (vN (l.length + lgTo l k)))] _
    refine WC.seq ?_
    refine WC.region ?_
    refine WL.op rfl rfl (op_move rfl ?_)
    refine WL.op rfl rfl (op_gtrN (b := 1300) rfl rfl ?_)
    refine WL.op rfl rfl (op_move rfl ?_)
    refine WL.split (t := 44) rfl (fun (hb6 : (decide ((l.length + lgTo l k) > 1300)) = true) => ?_) (fun (hb6 : (decide ((l.length + lgTo l k) > 1300)) = false) => ?_)
    ·
      have hc6 := of_decide_eq_true hb6
      refine WL.no rfl rfl rfl hb6 rfl ?_
      refine WL.no rfl rfl rfl hb6 rfl ?_
      refine WL.no rfl rfl rfl hb6 rfl ?_
      refine WL.op rfl rfl (op_pickT rfl hb6 rfl ?_)
      refine WL.op rfl rfl (op_assign rfl ?_)
      refine WL.nil ?_
      refine WQ.next ?_
      refine WC.ret ?_
      refine WQ.out (.tmp rfl .nil) ?_
      exact ⟨by (rw [longB, ← hinv, hb6]) <;> rfl, H5.fr⟩
    ·
      have hc6 := of_decide_eq_false hb6
      refine WL.yes rfl rfl rfl hb6 rfl (op_move rfl ?_)
      refine WL.yes rfl rfl rfl hb6 rfl (op_lenA Tryd.underlying24 rfl (H5.arr hN) ?_)
      refine WL.yes rfl rfl rfl hb6 rfl (op_gtrN (b := 100) rfl rfl ?_)
      refine WL.op rfl rfl (op_pickF rfl hb6 rfl ?_)
      refine WL.op rfl rfl (op_assign rfl ?_)
      refine WL.nil ?_
      refine WQ.next ?_
      refine WC.ret ?_
      refine WQ.out (.tmp rfl .nil) ?_
      exact ⟨by (rw [longB, ← hinv, hb6]) <;> rfl, H5.fr⟩
set_option maxRecDepth 100000 in
theorem br_ok (op a b : UInt8) (s : List UInt8) (w : World) :
    Calls Tryd.prog 71 #[(vU8 op), (vU8 a), (vU8 b), (str s)] w (fun e w' => e = .returned (.agg #[str [], vU8 op, vU8 0, vU8 a, vU8 b, vU32 0, str s, str []]) ∧ Fr [] w w') := by
  refine enter (args := [(vU8 op), (vU8 a), (vU8 b), (str s)]) Tryd.func71 rfl rfl ?_
  have H0 : Own [] w w [] := Own.start w []
  refine WC.seq ?_
  refine WC.region ?_
  refine WL.op rfl rfl (op_alloc H0 Fa.I65 (fun b1 w1 H1 => ?_))
  refine WL.nil ?_
  refine WQ.next ?_
  refine WC.seq ?_
  refine WC.region ?_
  refine WL.op rfl rfl (op_move rfl ?_)
  refine WL.op rfl rfl (op_move rfl ?_)
  refine WL.op rfl rfl (op_move rfl ?_)
  refine WL.op rfl rfl (op_build (cs := [_, _, _, _, _]) Fa.I61 Fa.PL61 rfl rfl ?_)
  refine WL.op rfl rfl (op_move rfl ?_)
  refine WL.op rfl rfl (op_build (cs := [_, _, _, _, _, _, _, _]) Fa.I65 Fa.PL65 rfl rfl ?_)
  refine WL.op rfl rfl (op_storeBW (i := 0) H1 rfl rfl rfl rfl rfl Fa.I65 (fun w2 H2 => ?_))
  refine WL.nil ?_
  refine WQ.next ?_
  refine WC.ret ?_
  refine WQ.out (.cell rfl (run_loadVarS (vs := [_, _, _, _, _, _, _, _]) (H2.cells (i := 0) rfl rfl) Tryd.underlying65 rfl Fa.I65 rfl) .nil) ?_
  exact ⟨rfl, H2.fr⟩
set_option maxRecDepth 100000 in
theorem jmp_ok (s : List UInt8) (w : World) :
    Calls Tryd.prog 47 #[(str s)] w (fun e w' => e = .returned (.agg #[str [], vU8 40, vU8 0, vU8 0, vU8 0, vU32 0, str s, str []]) ∧ Fr [] w w') := by
  refine enter (args := [(str s)]) Tryd.func47 rfl rfl ?_
  have H0 : Own [] w w [] := Own.start w []
  refine WC.seq ?_
  refine WC.region ?_
  refine WL.op rfl rfl (op_alloc H0 Fa.I65 (fun b1 w1 H1 => ?_))
  refine WL.nil ?_
  refine WQ.next ?_
  refine WC.seq ?_
  refine WC.region ?_
  refine WL.op rfl rfl (op_move rfl ?_)
  refine WL.op rfl rfl (op_callF Fa.C71 rfl ((br_ok 40 0 0 s _).mono (fun e w2 hq => ?_)))
  obtain ⟨rfl, hf2⟩ := hq
  refine ⟨_, rfl, ?_⟩
  have H2 := H1.fr' hf2
  refine WL.op rfl rfl (op_storeBW (i := 0) H2 rfl rfl rfl rfl rfl Fa.I65 (fun w3 H3 => ?_))
  refine WL.nil ?_
  refine WQ.next ?_
  refine WC.ret ?_
  refine WQ.out (.cell rfl (run_loadVarS (vs := [_, _, _, _, _, _, _, _]) (H3.cells (i := 0) rfl rfl) Tryd.underlying65 rfl Fa.I65 rfl) .nil) ?_
  exact ⟨rfl, H3.fr⟩
set_option maxRecDepth 100000 in
theorem at10_ok (s : List UInt8) (x : Ln) (w : World) :
    Calls Tryd.prog 46 #[(str s), (.agg #[(str x.lb), (vU8 x.op), (vU8 x.d), (vU8 x.a), (vU8 x.b), (vU32 x.imm), (str x.to), (str x.nm)])] w (fun e w' => e = .returned (.agg #[str s, vU8 x.op, vU8 x.d, vU8 x.a, vU8 x.b, vU32 x.imm, str x.to, str x.nm]) ∧ Fr [] w w') := by
  refine enter (args := [(str s), (.agg #[(str x.lb), (vU8 x.op), (vU8 x.d), (vU8 x.a), (vU8 x.b), (vU32 x.imm), (str x.to), (str x.nm)])]) Tryd.func46 rfl rfl ?_
  have H0 : Own [] w w [] := Own.start w []
  refine WC.seq ?_
  refine WC.region ?_
  refine WL.op rfl rfl (op_box H0 rfl rfl (fun b1 w1 H1 => ?_))
  refine WL.op rfl rfl (op_alloc H1 Fa.I65 (fun b2 w2 H2 => ?_))
  refine WL.nil ?_
  refine WQ.next ?_
  refine WC.seq ?_
  refine WC.region ?_
  refine WL.op rfl rfl (op_move rfl ?_)
  refine WL.op rfl rfl (op_fieldAddr rfl Fa.F65_0 ?_)
  refine WL.op rfl rfl (op_storeB (i := 0) H2 rfl rfl rfl rfl rfl Fa.I9 (fun w3 H3 => ?_))
  refine WL.nil ?_
  refine WQ.next ?_
  refine WC.seq ?_
  refine WC.region ?_
  refine WL.op rfl rfl (op_loadS (vs := [_, _, _, _, _, _, _, _]) rfl (H3.cells (i := 0) rfl rfl) Tryd.underlying65 rfl Fa.I65 rfl ?_)
  refine WL.op rfl rfl (op_storeBW (i := 1) H3 rfl rfl rfl rfl rfl Fa.I65 (fun w4 H4 => ?_))
  refine WL.nil ?_
  refine WQ.next ?_
  refine WC.ret ?_
  refine WQ.out (.cell rfl (run_loadVarS (vs := [_, _, _, _, _, _, _, _]) (H4.cells (i := 1) rfl rfl) Tryd.underlying65 rfl Fa.I65 rfl) .nil) ?_
  exact ⟨rfl, H4.fr⟩
set_option maxRecDepth 100000 in
theorem data_ok (nm : List UInt8) (bi ki : UInt8) (sz : UInt32) (b : List UInt8) (nv : Value) (nt : List Nt) (w : World) (hN : Arr w nv 3 nt.length (List.flatMap ntc nt)) (hnm : nm.length < 2 ^ 47) (hb : b.length < 2 ^ 32) (hnt : nt.length < 2 ^ 40) :
    Calls Tryd.prog 25 #[(str nm), (vU8 bi), (vU8 ki), (vU32 sz), (str b), nv] w (fun e w' => ∃ y : Sy, e = .returned (.tuple #[.agg #[str y.nm, vU8 y.bind, vU8 y.kind, vU32 y.size, str y.b, y.rv, y.nv], vN (dtE nm bi ki sz b nt)]) ∧ y.bare = dtS nm bi ki sz b nt ∧ Own [] w w' [.row y.rv 44 4 y.rl.length (List.flatMap rlc y.rl), .row y.nv 68 3 y.nt.length (List.flatMap ntc y.nt)]) := by
  refine enter (args := [(str nm), (vU8 bi), (vU8 ki), (vU32 sz), (str b), nv]) Tryd.func25 rfl rfl ?_
  have H0 : Own [] w w [] := Own.start w []
  refine WC.seq ?_
  refine WC.region ?_
  refine WL.op rfl rfl (op_alloc H0 Fa.I26 (fun b1 w1 H1 => ?_))
  refine WL.op rfl rfl (op_assign rfl ?_)
  refine WL.nil ?_
  refine WQ.next ?_
  refine WC.seq ?_
  refine WC.region ?_
  refine WL.op rfl rfl (op_move rfl ?_)
  refine WL.op rfl rfl (op_move rfl ?_)
  refine WL.op rfl rfl (op_move rfl ?_)
  refine WL.op rfl rfl (op_move rfl ?_)
  refine WL.op rfl rfl (op_move rfl ?_)
  refine WL.op rfl rfl (op_move rfl ?_)
  refine WL.op rfl rfl (op_callF Fa.C51 rfl ((cloneN_ok _ nt _ (H1.arr hN) hnt).mono (fun e w2 hq => ?_)))
  obtain ⟨v2, rfl, hq2⟩ := hq
  refine ⟨_, rfl, ?_⟩
  have H2 : Own [] w w2 [.blk b1 [(str []), (vU8 0), (vU8 0), (vU32 0), (str []), (.slice none 0 0), (.slice none 0 0)] 26, .row v2 68 3 nt.length (List.flatMap ntc nt)] := H1.splice [] [] [.row v2 68 3 nt.length (List.flatMap ntc nt)] rfl rfl hq2 (Fits.solid True.intro Fits.nil)
  refine WL.op rfl rfl (op_build (cs := [(str nm), (vU8 bi), (vU8 ki), (vU32 sz), (str b), (.slice none 0 0), v2]) Fa.I26 Fa.PL26 rfl (by obtain ⟨_, _, e0, _⟩ := (H2.arrR (i := 1) rfl).form; rw [e0]; rfl) ?_)
  refine WL.op rfl rfl (op_alloc H2 Fa.I26 (fun b3 w3 H3 => ?_))
  refine WL.op rfl rfl (op_storeBW (i := 2) H3 rfl rfl rfl rfl (one_cons rfl (one_cons rfl (one_cons rfl (one_cons rfl (one_cons rfl (one_cons rfl (one_cons (Arr.one (H3.arrR (i := 1) rfl)) one_nil))))))) Fa.I26 (fun w4 H4 => ?_))
  refine WL.nil ?_
  refine WQ.next ?_
  refine WC.seq ?_
  refine WC.seq ?_
  refine WC.region ?_
  refine WL.op rfl rfl (op_move rfl ?_)
  refine WL.op rfl rfl (op_eqlU8 (b := 1) rfl rfl ?_)
  refine WL.op rfl rfl (op_move rfl ?_)
  refine WL.split (t := 25) rfl (fun (hb5 : (decide (ki = (1 : UInt8))) = true) => ?_) (fun (hb5 : (decide (ki = (1 : UInt8))) = false) => ?_)
  ·
    have hc5 := of_decide_eq_true hb5
    refine WL.no rfl rfl rfl hb5 rfl ?_
    refine WL.no rfl rfl rfl hb5 rfl ?_
    refine WL.no rfl rfl rfl hb5 rfl ?_
    refine WL.op rfl rfl (op_pickT rfl hb5 rfl ?_)
    refine WL.nil ?_
    refine WQ.next ?_
    refine WC.yes rfl rfl ?_
    refine WC.seq ?_
    refine WC.region ?_
    refine WL.op rfl rfl (op_build (cs := [_, _, _, _, _, _, _]) Fa.I26 Fa.PL26 rfl rfl ?_)
    refine WL.op rfl rfl (op_storeBW (i := 0) H4 rfl rfl rfl rfl rfl Fa.I26 (fun w6 H6 => ?_))
    refine WL.op rfl rfl (op_assign rfl ?_)
    refine WL.nil ?_
    refine WQ.next ?_
    refine WC.ret ?_
    refine WQ.thenRet ?_
    refine WQ.out (.cell rfl (run_loadVarS (vs := [_, _, _, _, _, _, _]) (H6.cells (i := 0) rfl rfl) Tryd.underlying26 rfl Fa.I26 rfl) (.tmp rfl .nil)) ?_
    have he : dtE nm bi ki sz b nt = 2 := by rw [dtE, hb5]; rfl
    exact ⟨Sy.zero, by rw [he]; rfl, (show Sy.zero = dtS nm bi ki sz b nt by rw [dtS, if_neg (by rw [he]; decide)]), ((H6.sel [] rfl rfl).nilRow 44 4).nilRow 68 3⟩
  ·
    have hc5 := of_decide_eq_false hb5
    refine WL.yes rfl rfl rfl hb5 rfl (op_loadS (vs := [_, _, _, _, _, _, _]) rfl (H4.cells (i := 2) rfl rfl) Tryd.underlying26 rfl Fa.I26 rfl ?_)
    refine WL.yes rfl rfl rfl hb5 rfl (op_callF Fa.C27 rfl ((osym_ok (Sy.mk nm bi ki sz b (.slice none 0 0) [] v2 nt) _ (SyD_mk (x := (Sy.mk nm bi ki sz b (.slice none 0 0) [] v2 nt)) (Arr.nil _ _) (H4.arrR (i := 1) rfl)) (by exact hnm) (by exact hb) (fun y hy => by cases hy) (by show 0 < 2 ^ 40; decide) (by exact hnt)).mono (fun e w7 hq => ?_)))
    obtain ⟨rfl, hf7⟩ := hq
    refine ⟨_, rfl, ?_⟩
    have H7 := H4.fr' hf7
    refine WL.yes rfl rfl rfl hb5 rfl (op_neqN (b := 0) rfl rfl ?_)
    refine WL.op rfl rfl (op_pickF rfl hb5 rfl ?_)
    refine WL.nil ?_
    refine WQ.next ?_
    refine WC.cond rfl (fun (hb8 : (decide ((symE (Sy.mk nm bi ki sz b (.slice none 0 0) [] v2 nt)) ≠ 0)) = true) => ?_) (fun (hb8 : (decide ((symE (Sy.mk nm bi ki sz b (.slice none 0 0) [] v2 nt)) ≠ 0)) = false) => ?_)
    ·
      have hc8 := of_decide_eq_true hb8
      refine WC.seq ?_
      refine WC.region ?_
      refine WL.op rfl rfl (op_build (cs := [_, _, _, _, _, _, _]) Fa.I26 Fa.PL26 rfl rfl ?_)
      refine WL.op rfl rfl (op_storeBW (i := 0) H7 rfl rfl rfl rfl rfl Fa.I26 (fun w9 H9 => ?_))
      refine WL.op rfl rfl (op_assign rfl ?_)
      refine WL.nil ?_
      refine WQ.next ?_
      refine WC.ret ?_
      refine WQ.thenRet ?_
      refine WQ.out (.cell rfl (run_loadVarS (vs := [_, _, _, _, _, _, _]) (H9.cells (i := 0) rfl rfl) Tryd.underlying26 rfl Fa.I26 rfl) (.tmp rfl .nil)) ?_
      have hs : symE (dtOf nm bi ki sz b nt) = 2 := symE_2 (of_decide_eq_true hb8)
      have he : dtE nm bi ki sz b nt = 2 := by rw [dtE, hb5]; exact hs
      exact ⟨Sy.zero, by rw [he]; rfl, (show Sy.zero = dtS nm bi ki sz b nt by rw [dtS, if_neg (by rw [he]; decide)]), ((H9.sel [] rfl rfl).nilRow 44 4).nilRow 68 3⟩
    ·
      have hc8 := of_decide_eq_false hb8
      refine WC.skip ?_
      refine WQ.next ?_
      refine WC.seq ?_
      refine WC.region ?_
      refine WL.op rfl rfl (op_loadS (vs := [_, _, _, _, _, _, _]) rfl (H7.cells (i := 2) rfl rfl) Tryd.underlying26 rfl Fa.I26 rfl ?_)
      refine WL.op rfl rfl (op_storeBW (i := 0) H7 rfl rfl rfl rfl (one_cons rfl (one_cons rfl (one_cons rfl (one_cons rfl (one_cons rfl (one_cons rfl (one_cons (Arr.one (H7.arrR (i := 1) rfl)) one_nil))))))) Fa.I26 (fun w10 H10 => ?_))
      refine WL.op rfl rfl (op_assign rfl ?_)
      refine WL.nil ?_
      refine WQ.next ?_
      refine WC.ret ?_
      refine WQ.out (.cell rfl (run_loadVarS (vs := [_, _, _, _, _, _, _]) (H10.cells (i := 0) rfl rfl) Tryd.underlying26 rfl Fa.I26 rfl) (.tmp rfl .nil)) ?_
      have hs : symE (dtOf nm bi ki sz b nt) = 0 := Decidable.not_not.mp (of_decide_eq_false hb8)
      have he : dtE nm bi ki sz b nt = 0 := by rw [dtE, hb5]; exact hs
      exact ⟨(Sy.mk nm bi ki sz b (.slice none 0 0) [] v2 nt), by rw [he]; rfl, (show _ = dtS nm bi ki sz b nt by rw [dtS, if_pos he]; rfl), (H10.nilRow 44 4).sel [3, 1] rfl rfl⟩
set_option maxRecDepth 100000 in
theorem alive10_ok  (w : World) :
    Calls Tryd.prog 21 #[] w (fun e w' => e = .returned (.bool true) ∧ Fr [] w w') := by
  refine enter (args := []) Tryd.func21 rfl rfl ?_
  have H0 : Own [] w w [] := Own.start w []
  refine WC.seq ?_
  refine WC.region ?_
  refine WL.op rfl rfl (op_assign rfl ?_)
  refine WL.nil ?_
  refine WQ.next ?_
  refine WC.seq ?_
  refine WC.region ?_
  refine WL.op rfl rfl (op_callF Fa.C47 rfl ((jmp_ok ([97, 103, 97, 105, 110]) _).mono (fun e w1 hq => ?_)))
  obtain ⟨rfl, hf1⟩ := hq
  refine ⟨_, rfl, ?_⟩
  have H1 := H0.fr' hf1
  refine WL.op rfl rfl (op_callF Fa.C46 rfl ((at10_ok ([97, 103, 97, 105, 110]) (Ln.mk [] 40 0 0 0 0 [97, 103, 97, 105, 110] []) _).mono (fun e w2 hq => ?_)))
  obtain ⟨rfl, hf2⟩ := hq
  refine ⟨_, rfl, ?_⟩
  have H2 := H1.fr' hf2
  refine WL.op rfl rfl (op_buildSlice (cs := [_, _, _, _, _, _, _, _]) H2 Tryd.underlying48 Fa.I65 rfl rfl rfl rfl (by decide) (by decide) (fun b3 w3 H3 => ?_))
  refine WL.op rfl rfl (op_callF Fa.C22 rfl ((amake_ok ([109, 97, 105, 110]) 1 _ [] _ ([(Ln.mk [97, 103, 97, 105, 110] 40 0 0 0 0 [97, 103, 97, 105, 110] [])]) _ (Arr.lenF ((H3.arrR (i := 0) rfl)) (fun _ => rfl) (by decide)) (Arr.nil _ _) (by decide) (lnfit_one (by decide)) (by decide) (by decide)).mono (fun e w4 hq => ?_)))
  obtain ⟨y4, rfl, hc4, hq4⟩ := hq
  refine ⟨_, rfl, ?_⟩
  have H4 : Own [] w w4 [.row (.slice (some ⟨b3, 0, none⟩) 1 1) 65 8 1 (List.flatMap lnc [(Ln.mk [97, 103, 97, 105, 110] 40 0 0 0 0 [97, 103, 97, 105, 110] [])]), .row y4.rv 44 4 y4.rl.length (List.flatMap rlc y4.rl), .row y4.nv 68 3 y4.nt.length (List.flatMap ntc y4.nt)] := H3.splice [] [] [.row y4.rv 44 4 y4.rl.length (List.flatMap rlc y4.rl), .row y4.nv 68 3 y4.nt.length (List.flatMap ntc y4.nt)] rfl rfl hq4 (Fits.solid True.intro (Fits.solid True.intro Fits.nil))
  refine WL.op rfl rfl (op_move rfl ?_)
  refine WL.op rfl rfl (op_extract rfl rfl ?_)
  refine WL.op rfl rfl (op_extract rfl rfl ?_)
  refine WL.op rfl rfl (op_alloc H4 Fa.I26 (fun b5 w5 H5 => ?_))
  refine WL.op rfl rfl (op_storeBW (i := 3) H5 rfl rfl rfl rfl (one_cons rfl (one_cons rfl (one_cons rfl (one_cons rfl (one_cons rfl (one_cons (Arr.one (H5.arrR (i := 1) rfl)) (one_cons (Arr.one (H5.arrR (i := 2) rfl)) one_nil))))))) Fa.I26 (fun w6 H6 => ?_))
  refine WL.op rfl rfl (op_assign rfl ?_)
  refine WL.nil ?_
  refine WQ.next ?_
  refine WC.seq ?_
  refine WC.region ?_
  refine WL.op rfl rfl (op_callF Fa.C47 rfl ((jmp_ok ([120]) _).mono (fun e w7 hq => ?_)))
  obtain ⟨rfl, hf7⟩ := hq
  refine ⟨_, rfl, ?_⟩
  have H7 := H6.fr' hf7
  refine WL.op rfl rfl (op_buildSlice (cs := [_, _, _, _, _, _, _, _]) H7 Tryd.underlying48 Fa.I65 rfl rfl rfl rfl (by decide) (by decide) (fun b8 w8 H8 => ?_))
  refine WL.op rfl rfl (op_callF Fa.C22 rfl ((amake_ok ([109, 97, 105, 110]) 1 _ [] _ ([(Ln.mk [] 40 0 0 0 0 [120] [])]) _ (Arr.lenF ((H8.arrR (i := 4) rfl)) (fun _ => rfl) (by decide)) (Arr.nil _ _) (by decide) (lnfit_one (by decide)) (by decide) (by decide)).mono (fun e w9 hq => ?_)))
  obtain ⟨y9, rfl, hc9, hq9⟩ := hq
  refine ⟨_, rfl, ?_⟩
  have H9 : Own [] w w9 [.row (.slice (some ⟨b3, 0, none⟩) 1 1) 65 8 1 (List.flatMap lnc [(Ln.mk [97, 103, 97, 105, 110] 40 0 0 0 0 [97, 103, 97, 105, 110] [])]), .row y4.rv 44 4 y4.rl.length (List.flatMap rlc y4.rl), .row y4.nv 68 3 y4.nt.length (List.flatMap ntc y4.nt), .blk b5 [(str y4.nm), (vU8 y4.bind), (vU8 y4.kind), (vU32 y4.size), (str y4.b), y4.rv, y4.nv] 26, .row (.slice (some ⟨b8, 0, none⟩) 1 1) 65 8 1 (List.flatMap lnc [(Ln.mk [] 40 0 0 0 0 [120] [])]), .row y9.rv 44 4 y9.rl.length (List.flatMap rlc y9.rl), .row y9.nv 68 3 y9.nt.length (List.flatMap ntc y9.nt)] := H8.splice [] [] [.row y9.rv 44 4 y9.rl.length (List.flatMap rlc y9.rl), .row y9.nv 68 3 y9.nt.length (List.flatMap ntc y9.nt)] rfl rfl hq9 (Fits.solid True.intro (Fits.solid True.intro Fits.nil))
  refine WL.op rfl rfl (op_move rfl ?_)
  refine WL.op rfl rfl (op_extract rfl rfl ?_)
  refine WL.op rfl rfl (op_extract rfl rfl ?_)
  refine WL.op rfl rfl (op_alloc H9 Fa.I26 (fun b10 w10 H10 => ?_))
  refine WL.op rfl rfl (op_storeBW (i := 7) H10 rfl rfl rfl rfl (one_cons rfl (one_cons rfl (one_cons rfl (one_cons rfl (one_cons rfl (one_cons (Arr.one (H10.arrR (i := 5) rfl)) (one_cons (Arr.one (H10.arrR (i := 6) rfl)) one_nil))))))) Fa.I26 (fun w11 H11 => ?_))
  refine WL.op rfl rfl (op_assign rfl ?_)
  refine WL.nil ?_
  refine WQ.next ?_
  refine WC.seq ?_
  refine WC.region ?_
  refine WL.op rfl rfl (op_callF Fa.C25 rfl ((data_ok ([100]) 0 2 4 ([97, 98]) _ [] _ (Arr.nil _ _) (by decide) (by decide) (by decide)).mono (fun e w12 hq => ?_)))
  obtain ⟨y12, rfl, hc12, hq12⟩ := hq
  refine ⟨_, rfl, ?_⟩
  have H12 : Own [] w w12 [.row (.slice (some ⟨b3, 0, none⟩) 1 1) 65 8 1 (List.flatMap lnc [(Ln.mk [97, 103, 97, 105, 110] 40 0 0 0 0 [97, 103, 97, 105, 110] [])]), .row y4.rv 44 4 y4.rl.length (List.flatMap rlc y4.rl), .row y4.nv 68 3 y4.nt.length (List.flatMap ntc y4.nt), .blk b5 [(str y4.nm), (vU8 y4.bind), (vU8 y4.kind), (vU32 y4.size), (str y4.b), y4.rv, y4.nv] 26, .row (.slice (some ⟨b8, 0, none⟩) 1 1) 65 8 1 (List.flatMap lnc [(Ln.mk [] 40 0 0 0 0 [120] [])]), .row y9.rv 44 4 y9.rl.length (List.flatMap rlc y9.rl), .row y9.nv 68 3 y9.nt.length (List.flatMap ntc y9.nt), .blk b10 [(str y9.nm), (vU8 y9.bind), (vU8 y9.kind), (vU32 y9.size), (str y9.b), y9.rv, y9.nv] 26, .row y12.rv 44 4 y12.rl.length (List.flatMap rlc y12.rl), .row y12.nv 68 3 y12.nt.length (List.flatMap ntc y12.nt)] := H11.splice [] [] [.row y12.rv 44 4 y12.rl.length (List.flatMap rlc y12.rl), .row y12.nv 68 3 y12.nt.length (List.flatMap ntc y12.nt)] rfl rfl hq12 (Fits.solid True.intro (Fits.solid True.intro Fits.nil))
  refine WL.op rfl rfl (op_move rfl ?_)
  refine WL.op rfl rfl (op_extract rfl rfl ?_)
  refine WL.op rfl rfl (op_extract rfl rfl ?_)
  refine WL.op rfl rfl (op_alloc H12 Fa.I26 (fun b13 w13 H13 => ?_))
  refine WL.op rfl rfl (op_storeBW (i := 10) H13 rfl rfl rfl rfl (one_cons rfl (one_cons rfl (one_cons rfl (one_cons rfl (one_cons rfl (one_cons (Arr.one (H13.arrR (i := 8) rfl)) (one_cons (Arr.one (H13.arrR (i := 9) rfl)) one_nil))))))) Fa.I26 (fun w14 H14 => ?_))
  refine WL.op rfl rfl (op_assign rfl ?_)
  refine WL.nil ?_
  refine WQ.next ?_
  refine WC.seq ?_
  refine WC.region ?_
  refine WL.op rfl rfl (op_move rfl ?_)
  refine WL.op rfl rfl (op_eqlN (b := 0) rfl rfl ?_)
  refine WL.op rfl rfl (op_move rfl ?_)
  refine WL.yes rfl rfl rfl (by kernel_rfl) rfl (op_fieldAddr rfl Fa.F26_4 ?_)
  refine WL.yes rfl rfl rfl (by kernel_rfl) rfl (op_load rfl (H14.cell (i := 3) rfl rfl) Tryd.underlying9 rfl ?_)
  refine WL.yes rfl rfl rfl (by kernel_rfl) rfl (op_eqlStr rfl rfl ?_)
  refine WL.op rfl rfl (op_pickT rfl (by kernel_rfl) rfl ?_)
  refine WL.op rfl rfl (op_move rfl ?_)
  refine WL.yes rfl rfl rfl (decide_eq_true ((bare_len hc4).2.2.1.trans (by kernel_rfl))) rfl (op_fieldAddr rfl Fa.F26_5 ?_)
  refine WL.yes rfl rfl rfl (decide_eq_true ((bare_len hc4).2.2.1.trans (by kernel_rfl))) rfl (op_load rfl (H14.cell (i := 3) rfl rfl) Tryd.underlying23 rfl ?_)
  refine WL.yes rfl rfl rfl (decide_eq_true ((bare_len hc4).2.2.1.trans (by kernel_rfl))) rfl (op_lenA Tryd.underlying23 rfl (H14.arrR (i := 1) rfl) ?_)
  refine WL.yes rfl rfl rfl (decide_eq_true ((bare_len hc4).2.2.1.trans (by kernel_rfl))) rfl (op_eqlN (b := 1) rfl rfl ?_)
  refine WL.op rfl rfl (op_pickT rfl (decide_eq_true ((bare_len hc4).2.2.1.trans (by kernel_rfl))) rfl ?_)
  refine WL.op rfl rfl (op_move rfl ?_)
  refine WL.yes rfl rfl rfl (decide_eq_true ((congrArg List.length (bare_len hc4).1).trans (by kernel_rfl))) rfl (op_fieldAddr rfl Fa.F26_5 ?_)
  refine WL.yes rfl rfl rfl (decide_eq_true ((congrArg List.length (bare_len hc4).1).trans (by kernel_rfl))) rfl (op_load rfl (H14.cell (i := 3) rfl rfl) Tryd.underlying23 rfl ?_)
  refine WL.yes rfl rfl rfl (decide_eq_true ((congrArg List.length (bare_len hc4).1).trans (by kernel_rfl))) rfl (op_indexAddr (m := 0) Tryd.underlying23 Fa.I44 rfl (H14.arrR (i := 1) rfl) rfl (by rw [(bare_len hc4).1]; decide +kernel) ?_)
  refine WL.yes rfl rfl rfl (decide_eq_true ((congrArg List.length (bare_len hc4).1).trans (by kernel_rfl))) rfl (op_loadSP (vs := rlc (y4.rl.getD 0 Rl.zero)) rfl (Arr.atsF (H14.arrR (i := 1) rfl) (fun _ => rfl) (by decide) Rl.zero (by rw [(bare_len hc4).1]; decide +kernel)) Tryd.underlying44 rfl Fa.I44 rfl ?_)
  refine WL.yes rfl rfl rfl (decide_eq_true ((congrArg List.length (bare_len hc4).1).trans (by kernel_rfl))) rfl (op_build (cs := [_, _, _, _]) Fa.I44 Fa.PL44 rfl rfl ?_)
  refine WL.yes rfl rfl rfl (decide_eq_true ((congrArg List.length (bare_len hc4).1).trans (by kernel_rfl))) rfl (op_eqlS (xs := [_, _, _, _]) (ys := [_, _, _, _]) (b := ((decide ((y4.rl.getD 0 Rl.zero).off = (4 : UInt32))) && ((decide ((y4.rl.getD 0 Rl.zero).kind = (1 : UInt8))) && ((decide ((y4.rl.getD 0 Rl.zero).nm = [109, 97, 105, 110])) && (decide ((y4.rl.getD 0 Rl.zero).add = (0 : UInt32))))))) Fa.FL44 rfl rfl rfl (andc (veqU32 (y4.rl.getD 0 Rl.zero).off (4 : UInt32)) (andc (veqU8 (y4.rl.getD 0 Rl.zero).kind (1 : UInt8)) (andc (veqStr (y4.rl.getD 0 Rl.zero).nm [109, 97, 105, 110]) (andt (veqU32 (y4.rl.getD 0 Rl.zero).add (0 : UInt32)))))) ?_)
  refine WL.op rfl rfl (op_pickT rfl (decide_eq_true ((congrArg List.length (bare_len hc4).1).trans (by kernel_rfl))) rfl ?_)
  refine WL.op rfl rfl (op_move rfl ?_)
  refine WL.yes rfl rfl rfl (by rw [(bare_len hc4).1]; kernel_rfl) rfl (op_move rfl ?_)
  refine WL.yes rfl rfl rfl (by rw [(bare_len hc4).1]; kernel_rfl) rfl (op_eqlN (b := 3) rfl rfl ?_)
  refine WL.op rfl rfl (op_pickT rfl (by rw [(bare_len hc4).1]; kernel_rfl) rfl ?_)
  refine WL.op rfl rfl (op_move rfl ?_)
  refine WL.yes rfl rfl rfl (by kernel_rfl) rfl (op_move rfl ?_)
  refine WL.yes rfl rfl rfl (by kernel_rfl) rfl (op_eqlN (b := 0) rfl rfl ?_)
  refine WL.op rfl rfl (op_pickT rfl (by kernel_rfl) rfl ?_)
  refine WL.op rfl rfl (op_move rfl ?_)
  refine WL.yes rfl rfl rfl (by kernel_rfl) rfl (op_fieldAddr rfl Fa.F26_3 ?_)
  refine WL.yes rfl rfl rfl (by kernel_rfl) rfl (op_load rfl (H14.cell (i := 10) rfl rfl) Tryd.underlying22 rfl ?_)
  refine WL.yes rfl rfl rfl (by kernel_rfl) rfl (op_eqlU32 (b := 4) rfl rfl ?_)
  refine WL.op rfl rfl (op_pickT rfl (by kernel_rfl) rfl ?_)
  refine WL.op rfl rfl (op_assign rfl ?_)
  refine WL.nil ?_
  refine WQ.next ?_
  refine WC.ret ?_
  refine WQ.out (.tmp rfl .nil) ?_
  exact ⟨by rw [decide_eq_true ((bare_len hc12).2.2.2.1.trans (by kernel_rfl))]; rfl, H14.fr⟩
end Go.Proofs.YtnngbnenekjffaaDoor
/-! from DAsm8 -/
namespace Go.Proofs.YtnngbnenekjffaaDoor
open Go.Owl Go.Spec
set_option maxHeartbeats 2000000 in
set_option maxRecDepth 100000 in
theorem asmFills_ok (lv : Value) (l : List Ln) (own oth : UInt32) (w : World) (hA : Arr w lv 8 l.length (List.flatMap lnc l)) (hfx : LnFit l) (hll : l.length < 2 ^ 46) :
    Calls Tryd.prog 7 #[lv, (vU32 own), (vU32 oth)] w (fun e w' => e = .returned (.bool true) ∧ Fr [] w w') := by
  refine enter (args := [lv, (vU32 own), (vU32 oth)]) Tryd.func7 rfl rfl ?_
  have H0 : Own [] w w [] := Own.start w []
  refine WC.seq ?_
  refine WC.region ?_
  refine WL.op rfl rfl (op_assign rfl ?_)
  refine WL.nil ?_
  refine WQ.next ?_
  refine WC.seq ?_
  refine WC.seq ?_
  refine WC.region ?_
  refine WL.op rfl rfl (op_move rfl ?_)
  refine WL.op rfl rfl (op_callF Fa.C20 rfl ((long_ok _ l _ [] _ (H0.arr hA) (Arr.nil _ _) hfx (by omega)).mono (fun e w1 hq => ?_)))
  obtain ⟨rfl, hf1⟩ := hq
  refine ⟨_, rfl, ?_⟩
  have H1 := H0.fr' hf1
  refine WL.nil ?_
  refine WQ.next ?_
  refine WC.cond rfl (fun (hb2 : (longB l []) = true) => ?_) (fun (hb2 : (longB l []) = false) => ?_)
  ·
    refine WC.seq ?_
    refine WC.region ?_
    refine WL.op rfl rfl (op_callF Fa.C21 rfl ((alive10_ok _).mono (fun e w3 hq => ?_)))
    obtain ⟨rfl, hf3⟩ := hq
    refine ⟨_, rfl, ?_⟩
    have H3 := H1.fr' hf3
    refine WL.op rfl rfl (op_assign rfl ?_)
    refine WL.nil ?_
    refine WQ.next ?_
    refine WC.ret ?_
    refine WQ.thenRet ?_
    refine WQ.out (.tmp rfl .nil) ?_
    exact ⟨rfl, H3.fr⟩
  ·
    have hl1 := (long_no hb2).1
    refine WC.skip ?_
    refine WQ.next ?_
    refine WC.seq ?_
    refine WC.region ?_
    refine WL.op rfl rfl (op_move rfl ?_)
    refine WL.op rfl rfl (op_callF Fa.C22 rfl ((amake_ok ([115, 101, 108, 102]) 1 _ [] _ l _ (H1.arr hA) (Arr.nil _ _) (by decide) hfx (by omega) (by decide)).mono (fun e w4 hq => ?_)))
    obtain ⟨y4, rfl, hc4, hq4⟩ := hq
    refine ⟨_, rfl, ?_⟩
    have H4 : Own [] w w4 [.row y4.rv 44 4 y4.rl.length (List.flatMap rlc y4.rl), .row y4.nv 68 3 y4.nt.length (List.flatMap ntc y4.nt)] := H1.splice [] [] [.row y4.rv 44 4 y4.rl.length (List.flatMap rlc y4.rl), .row y4.nv 68 3 y4.nt.length (List.flatMap ntc y4.nt)] rfl rfl hq4 (Fits.solid True.intro (Fits.solid True.intro Fits.nil))
    refine WL.op rfl rfl (op_move rfl ?_)
    refine WL.op rfl rfl (op_extract rfl rfl ?_)
    refine WL.op rfl rfl (op_extract rfl rfl ?_)
    refine WL.op rfl rfl (op_alloc H4 Fa.I26 (fun b5 w5 H5 => ?_))
    refine WL.op rfl rfl (op_storeBW (i := 2) H5 rfl rfl rfl rfl (one_cons rfl (one_cons rfl (one_cons rfl (one_cons rfl (one_cons rfl (one_cons (Arr.one (H5.arrR (i := 0) rfl)) (one_cons (Arr.one (H5.arrR (i := 1) rfl)) one_nil))))))) Fa.I26 (fun w6 H6 => ?_))
    refine WL.op rfl rfl (op_assign rfl ?_)
    refine WL.nil ?_
    refine WQ.next ?_
    refine WC.seq ?_
    refine WC.seq ?_
    refine WC.region ?_
    refine WL.op rfl rfl (op_move rfl ?_)
    refine WL.op rfl rfl (op_neqN (b := 0) rfl rfl ?_)
    refine WL.nil ?_
    refine WQ.next ?_
    refine WC.cond rfl (fun (hb7 : (decide ((mkE ([115, 101, 108, 102]) 1 [] l) ≠ 0)) = true) => ?_) (fun (hb7 : (decide ((mkE ([115, 101, 108, 102]) 1 [] l) ≠ 0)) = false) => ?_)
    ·
      have hc7 := of_decide_eq_true hb7
      refine WC.seq ?_
      refine WC.region ?_
      refine WL.op rfl rfl (op_callF Fa.C21 rfl ((alive10_ok _).mono (fun e w8 hq => ?_)))
      obtain ⟨rfl, hf8⟩ := hq
      refine ⟨_, rfl, ?_⟩
      have H8 := H6.fr' hf8
      refine WL.op rfl rfl (op_assign rfl ?_)
      refine WL.nil ?_
      refine WQ.next ?_
      refine WC.ret ?_
      refine WQ.thenRet ?_
      refine WQ.out (.tmp rfl .nil) ?_
      exact ⟨rfl, H8.fr⟩
    ·
      have hc7 := of_decide_eq_false hb7
      have h0 := Decidable.not_not.mp hc7
      obtain ⟨hsy, hrl, hbb, hsz, hnt, hnm⟩ := mk_sym h0 hc4
      obtain ⟨hle, hall, hdup, hnone, -⟩ := mk_0 h0
      have hbl : y4.b.length = 8 * l.length := by rw [hbb]; exact bytesTo_len hall
      have hrf := rel_facts h0 hc4
      have hrn := relsTo_len [115, 101, 108, 102] l l.length
      rw [← hrl] at hrn
      refine WC.skip ?_
      refine WQ.next ?_
      refine WC.seq ?_
      refine WC.seq ?_
      refine WC.region ?_
      refine WL.op rfl rfl (op_loadS (vs := [_, _, _, _, _, _, _]) rfl (H6.cells (i := 2) rfl rfl) Tryd.underlying26 rfl Fa.I26 rfl ?_)
      refine WL.op rfl rfl (op_callF Fa.C27 rfl ((osym_ok y4 _ (SyD_mk (x := y4) (H6.arrR (i := 0) rfl) (H6.arrR (i := 1) rfl)) (by rw [hnm]; decide) (by omega) (by rw [hrl]; exact relsTo_names (by decide) (fun k => (hfx k).2.2) _) (by omega) (by rw [hnt]; decide)).mono (fun e w9 hq => ?_)))
      obtain ⟨rfl, hf9⟩ := hq
      refine ⟨_, rfl, ?_⟩
      have H9 := H6.fr' hf9
      refine WL.op rfl rfl (op_neqN (b := 0) rfl rfl ?_)
      refine WL.op rfl rfl (op_move rfl ?_)
      refine WL.yes rfl rfl rfl (decide_eq_false (fun h => h (by rw [symE, hsy]; rfl))) rfl (op_fieldAddr rfl Fa.F26_4 ?_)
      refine WL.yes rfl rfl rfl (decide_eq_false (fun h => h (by rw [symE, hsy]; rfl))) rfl (op_load rfl (H9.cell (i := 2) rfl rfl) Tryd.underlying9 rfl ?_)
      refine WL.yes rfl rfl rfl (decide_eq_false (fun h => h (by rw [symE, hsy]; rfl))) rfl (op_lenStr Tryd.underlying9 rfl ?_)
      refine WL.yes rfl rfl rfl (decide_eq_false (fun h => h (by rw [symE, hsy]; rfl))) rfl (op_move rfl ?_)
      refine WL.yes rfl rfl rfl (decide_eq_false (fun h => h (by rw [symE, hsy]; rfl))) rfl (op_lenA Tryd.underlying48 rfl (H9.arr hA) ?_)
      refine WL.yes rfl rfl rfl (decide_eq_false (fun h => h (by rw [symE, hsy]; rfl))) rfl (op_mulN (a := 8) rfl rfl (by omega) ?_)
      refine WL.yes rfl rfl rfl (decide_eq_false (fun h => h (by rw [symE, hsy]; rfl))) rfl (op_neqN rfl rfl ?_)
      refine WL.op rfl rfl (op_pickF rfl (decide_eq_false (fun h => h (by rw [symE, hsy]; rfl))) rfl ?_)
      refine WL.nil ?_
      refine WQ.next ?_
      refine WC.no rfl (decide_eq_false (fun h => h hbl)) ?_
      refine WC.skip ?_
      refine WQ.next ?_
      refine WC.seq ?_
      refine WC.region ?_
      refine WL.op rfl rfl (op_fieldAddr rfl Fa.F26_4 ?_)
      refine WL.op rfl rfl (op_load rfl (H9.cell (i := 2) rfl rfl) Tryd.underlying9 rfl ?_)
      refine WL.op rfl rfl (op_strBytes H9 Tryd.underlying9 Tryd.underlying5 Tryd.underlying58 rfl (by omega) (fun v10 w10 H10 => ?_))
      refine WL.op rfl rfl (op_assign rfl ?_)
      refine WL.nil ?_
      refine WQ.next ?_
      refine WC.seq ?_
      refine WC.seq ?_
      refine WC.region ?_
      refine WL.op rfl rfl (op_assign rfl ?_)
      refine WL.nil ?_
      refine WQ.next ?_
      refine WC.block ?_
      refine WC.loop (α := Nat) (fun k => [(0, lv), (1, (vU32 own)), (2, (vU32 oth)), (7, (ptr b5 0)), (8, (vN (mkE ([115, 101, 108, 102]) 1 [] l))), (9, v10), (10, (vN k))]) (fun k w' => (k ≤ y4.rl.length) ∧ Own [] w w' [.row y4.rv 44 4 y4.rl.length (List.flatMap rlc y4.rl), .row y4.nv 68 3 y4.nt.length (List.flatMap ntc y4.nt), .blk b5 [(str y4.nm), (vU8 y4.bind), (vU8 y4.kind), (vU32 y4.size), (str y4.b), y4.rv, y4.nv] 26, .row v10 5 1 y4.b.length (List.map vU8 (fillN y4.b y4.rl (adsF own oth y4.rl) k))]) (fun k => y4.rl.length - k) 0 ⟨(Nat.zero_le _), H10⟩ ⟨rfl, rfl, rfl, rfl, rfl, rfl, rfl, trivial⟩ ?_
      rintro k w11 ⟨hk1, H11⟩
      show WC _ _ _ _ _ [(0, lv), (1, (vU32 own)), (2, (vU32 oth)), (7, (ptr b5 0)), (8, (vN (mkE ([115, 101, 108, 102]) 1 [] l))), (9, v10), (10, (vN k))] _
      refine WC.seq ?_
      refine WC.seq ?_
      refine WC.region ?_
      refine WL.op rfl rfl (op_move rfl ?_)
      refine WL.op rfl rfl (op_fieldAddr rfl Fa.F26_5 ?_)
      refine WL.op rfl rfl (op_load rfl (H11.cell (i := 2) rfl rfl) Tryd.underlying23 rfl ?_)
      refine WL.op rfl rfl (op_lenA Tryd.underlying23 rfl (H11.arrR (i := 0) rfl) ?_)
      refine WL.op rfl rfl (op_lssN rfl rfl ?_)
      refine WL.nil ?_
      refine WQ.next ?_
      refine WC.cond rfl (fun (hb12 : (decide (k < y4.rl.length)) = true) => ?_) (fun (hb12 : (decide (k < y4.rl.length)) = false) => ?_)
      ·
        have hc12 := of_decide_eq_true hb12
        have hrk := hrf k (by omega)
        have hfn := fillN_len (b := y4.b) (l := y4.rl) (ads := adsF own oth y4.rl) (fun j hj => by rw [endOf, (hrf j hj).1]; exact (hrf j hj).2) k (by omega)
        refine WC.skip ?_
        refine WQ.next ?_
        refine WC.seq ?_
        refine WC.block ?_
        refine WC.seq ?_
        refine WC.region ?_
        refine WL.op rfl rfl (op_fieldAddr rfl Fa.F26_5 ?_)
        refine WL.op rfl rfl (op_load rfl (H11.cell (i := 2) rfl rfl) Tryd.underlying23 rfl ?_)
        refine WL.op rfl rfl (op_move rfl ?_)
        refine WL.op rfl rfl (op_indexAddr Tryd.underlying23 Fa.I44 rfl (H11.arrR (i := 0) rfl) rfl (by omega) ?_)
        refine WL.op rfl rfl (op_loadSP (vs := rlc (y4.rl.getD k Rl.zero)) rfl (Arr.atsF (H11.arrR (i := 0) rfl) (fun _ => rfl) (by decide) Rl.zero (by omega)) Tryd.underlying44 rfl Fa.I44 rfl ?_)
        refine WL.op rfl rfl (op_alloc H11 Fa.I44 (fun b13 w13 H13 => ?_))
        refine WL.op rfl rfl (op_storeBW (i := 4) H13 rfl rfl rfl rfl rfl Fa.I44 (fun w14 H14 => ?_))
        refine WL.nil ?_
        refine WQ.next ?_
        refine WC.seq ?_
        refine WC.region ?_
        refine WL.op rfl rfl (op_move rfl ?_)
        refine WL.op rfl rfl (op_assign rfl ?_)
        refine WL.nil ?_
        refine WQ.next ?_
        refine WC.seq ?_
        refine WC.seq ?_
        refine WC.region ?_
        refine WL.op rfl rfl (op_fieldAddr rfl Fa.F44_2 ?_)
        refine WL.op rfl rfl (op_load rfl (H14.cell (i := 4) rfl rfl) Tryd.underlying9 rfl ?_)
        refine WL.op rfl rfl (op_eqlStr rfl rfl ?_)
        refine WL.nil ?_
        refine WQ.next ?_
        refine WC.cond rfl (fun (hb15 : (decide ((y4.rl.getD k Rl.zero).nm = [115, 101, 108, 102])) = true) => ?_) (fun (hb15 : (decide ((y4.rl.getD k Rl.zero).nm = [115, 101, 108, 102])) = false) => ?_)
        ·
          have hc15 := of_decide_eq_true hb15
          refine WC.region ?_
          refine WL.op rfl rfl (op_move rfl ?_)
          refine WL.op rfl rfl (op_assign rfl ?_)
          refine WL.nil ?_
          refine WQ.next ?_
          refine WC.seq ?_
          refine WC.region ?_
          refine WL.op rfl rfl (op_move rfl ?_)
          refine WL.op rfl rfl (op_fieldAddr rfl Fa.F44_3 ?_)
          refine WL.op rfl rfl (op_load rfl (H14.cell (i := 4) rfl rfl) Tryd.underlying22 rfl ?_)
          refine WL.op rfl rfl (op_addU32 rfl rfl ?_)
          refine WL.op rfl rfl (op_assign rfl ?_)
          refine WL.nil ?_
          refine WQ.next ?_
          refine WC.seq ?_
          refine WC.seq ?_
          refine WC.region ?_
          refine WL.op rfl rfl (op_fieldAddr rfl Fa.F44_0 ?_)
          refine WL.op rfl rfl (op_load rfl (H14.cell (i := 4) rfl rfl) Tryd.underlying22 rfl ?_)
          refine WL.op rfl rfl (op_convU32N (hs := Tryd.underlying22) (hd := Tryd.underlying3) rfl ?_)
          refine WL.op rfl rfl (op_addN (b := 4) rfl rfl (by omega) ?_)
          refine WL.op rfl rfl (op_move rfl ?_)
          refine WL.op rfl rfl (op_lenA Tryd.underlying58 rfl (H14.arrR (i := 3) rfl) ?_)
          refine WL.op rfl rfl (op_gtrN rfl rfl ?_)
          refine WL.op rfl rfl (op_move rfl ?_)
          refine WL.yes rfl rfl rfl (decide_eq_false (by omega)) rfl (op_fieldAddr rfl Fa.F44_1 ?_)
          refine WL.yes rfl rfl rfl (decide_eq_false (by omega)) rfl (op_load rfl (H14.cell (i := 4) rfl rfl) Tryd.underlying5 rfl ?_)
          refine WL.yes rfl rfl rfl (decide_eq_false (by omega)) rfl (op_neqU8 (b := 1) rfl rfl ?_)
          refine WL.op rfl rfl (op_pickF rfl (decide_eq_false (by omega)) rfl ?_)
          refine WL.nil ?_
          refine WQ.next ?_
          refine WC.no rfl (decide_eq_false (fun h => h hrk.1)) ?_
          refine WC.skip ?_
          refine WQ.next ?_
          refine WC.seq ?_
          refine WC.region ?_
          refine WL.op rfl rfl (op_assign rfl ?_)
          refine WL.nil ?_
          refine WQ.next ?_
          refine WC.block ?_
          refine WC.loop (α := Nat) (fun j => [(0, lv), (1, (vU32 own)), (2, (vU32 oth)), (7, (ptr b5 0)), (8, (vN (mkE ([115, 101, 108, 102]) 1 [] l))), (9, v10), (10, (vN k)), (11, (ptr b13 0)), (12, (vU32 (own + (y4.rl.getD k Rl.zero).add))), (13, (vN j))]) (fun j w' => (j ≤ 4) ∧ Own [] w w' [.row y4.rv 44 4 y4.rl.length (List.flatMap rlc y4.rl), .row y4.nv 68 3 y4.nt.length (List.flatMap ntc y4.nt), .blk b5 [(str y4.nm), (vU8 y4.bind), (vU8 y4.kind), (vU32 y4.size), (str y4.b), y4.rv, y4.nv] 26, .row v10 5 1 y4.b.length (List.map vU8 (putAt (fillN y4.b y4.rl (adsF own oth y4.rl) k) (y4.rl.getD k Rl.zero).off.toNat (rB (own + (y4.rl.getD k Rl.zero).add) j))), .blk b13 [(vU32 (y4.rl.getD k Rl.zero).off), (vU8 (y4.rl.getD k Rl.zero).kind), (str (y4.rl.getD k Rl.zero).nm), (vU32 (y4.rl.getD k Rl.zero).add)] 44]) (fun j => 4 - j) 0 ⟨(Nat.zero_le _), (Own.rowEq (i := 3) (f := vU8) H14 rfl putAt_nil.symm)⟩ ⟨rfl, rfl, rfl, rfl, rfl, rfl, rfl, rfl, rfl, rfl, trivial⟩ ?_
          rintro j w16 ⟨hj1, H16⟩
          show WC _ _ _ _ _ [(0, lv), (1, (vU32 own)), (2, (vU32 oth)), (7, (ptr b5 0)), (8, (vN (mkE ([115, 101, 108, 102]) 1 [] l))), (9, v10), (10, (vN k)), (11, (ptr b13 0)), (12, (vU32 (own + (y4.rl.getD k Rl.zero).add))), (13, (vN j))] _
          refine WC.seq ?_
          refine WC.seq ?_
          refine WC.region ?_
          refine WL.op rfl rfl (op_move rfl ?_)
          refine WL.op rfl rfl (op_lssN (b := 4) rfl rfl ?_)
          refine WL.nil ?_
          refine WQ.next ?_
          refine WC.cond rfl (fun (hb17 : (decide (j < 4)) = true) => ?_) (fun (hb17 : (decide (j < 4)) = false) => ?_)
          ·
            have hc17 := of_decide_eq_true hb17
            refine WC.skip ?_
            refine WQ.next ?_
            refine WC.seq ?_
            refine WC.block ?_
            refine WC.region ?_
            refine WL.op rfl rfl (op_move rfl ?_)
            refine WL.op rfl rfl (op_fieldAddr rfl Fa.F44_0 ?_)
            refine WL.op rfl rfl (op_load rfl (H16.cell (i := 4) rfl rfl) Tryd.underlying22 rfl ?_)
            refine WL.op rfl rfl (op_convU32N (hs := Tryd.underlying22) (hd := Tryd.underlying3) rfl ?_)
            refine WL.op rfl rfl (op_move rfl ?_)
            refine WL.op rfl rfl (op_addN rfl rfl (by omega) ?_)
            refine WL.op rfl rfl (op_move rfl ?_)
            refine WL.op rfl rfl (op_move rfl ?_)
            refine WL.op rfl rfl (op_mulN (a := 8) rfl rfl (by omega) ?_)
            refine WL.op rfl rfl (op_convNU64 (hs := Tryd.underlying3) (hd := Tryd.underlying59) rfl ?_)
            refine WL.op rfl rfl (op_shrU32 rfl rfl ?_)
            refine WL.op rfl rfl (op_convU32U8 (hs := Tryd.underlying22) (hd := Tryd.underlying5) rfl ?_)
            refine WL.op rfl rfl (op_indexAddr1 Tryd.underlying58 Fa.I5 rfl (H16.arrR (i := 3) rfl) rfl (by omega) ?_)
            refine WL.op rfl rfl (op_storeRM (i := 3) (f := vU8) (l := (putAt (fillN y4.b y4.rl (adsF own oth y4.rl) k) (y4.rl.getD k Rl.zero).off.toNat (rB (own + (y4.rl.getD k Rl.zero).add) j))) (c := (UInt8.ofNat (shrU32 (own + (y4.rl.getD k Rl.zero).add) (UInt64.ofNat (8 * j)).toNat).toNat)) H16 rfl rfl rfl (by omega) rfl Fa.I5 (fun w18 H18 => ?_))
            refine WL.nil ?_
            refine WQ.inNormal ?_
            refine WQ.next ?_
            refine WC.region ?_
            refine WL.op rfl rfl (op_move rfl ?_)
            refine WL.op rfl rfl (op_addN (b := 1) rfl rfl (by omega) ?_)
            refine WL.op rfl rfl (op_assign rfl ?_)
            refine WL.nil ?_
            exact WQ.round (j + 1) ⟨(by omega), (Own.rowEq (i := 3) (f := vU8) (show Own [] w w18 [.row y4.rv 44 4 y4.rl.length (List.flatMap rlc y4.rl), .row y4.nv 68 3 y4.nt.length (List.flatMap ntc y4.nt), .blk b5 [(str y4.nm), (vU8 y4.bind), (vU8 y4.kind), (vU32 y4.size), (str y4.b), y4.rv, y4.nv] 26, .row v10 5 1 y4.b.length (List.map vU8 ((putAt (fillN y4.b y4.rl (adsF own oth y4.rl) k) (y4.rl.getD k Rl.zero).off.toNat (rB (own + (y4.rl.getD k Rl.zero).add) j)).set ((y4.rl.getD k Rl.zero).off.toNat + j) (UInt8.ofNat (shrU32 (own + (y4.rl.getD k Rl.zero).add) (UInt64.ofNat (8 * j)).toNat).toNat))), .blk b13 [(vU32 (y4.rl.getD k Rl.zero).off), (vU8 (y4.rl.getD k Rl.zero).kind), (str (y4.rl.getD k Rl.zero).nm), (vU32 (y4.rl.getD k Rl.zero).add)] 44] from H18) rfl (put_shr6 (r := (y4.rl.getD k Rl.zero)) (j := j) (by omega) (by rw [hfn]; omega)))⟩ ⟨rfl, rfl, rfl, rfl, rfl, rfl, rfl, rfl, rfl, rfl, trivial⟩ (by omega)
          ·
            have hc17 := of_decide_eq_false hb17
            refine WC.exit ?_
            refine WQ.thenExit ?_
            refine WQ.thenExit ?_
            refine WQ.inHere ?_
            refine WQ.inNormal ?_
            refine WQ.next ?_
            refine WC.region ?_
            refine WL.op rfl rfl (op_move rfl ?_)
            refine WL.op rfl rfl (op_addN (b := 1) rfl rfl (by omega) ?_)
            refine WL.op rfl rfl (op_assign rfl ?_)
            refine WL.nil ?_
            exact WQ.round (k + 1) ⟨(by omega), (by have h := (show Own [] w w16 [.row y4.rv 44 4 y4.rl.length (List.flatMap rlc y4.rl), .row y4.nv 68 3 y4.nt.length (List.flatMap ntc y4.nt), .blk b5 [(str y4.nm), (vU8 y4.bind), (vU8 y4.kind), (vU32 y4.size), (str y4.b), y4.rv, y4.nv] 26, .row v10 5 1 y4.b.length (List.map vU8 (putAt (fillN y4.b y4.rl (adsF own oth y4.rl) k) (y4.rl.getD k Rl.zero).off.toNat (rB (own + (y4.rl.getD k Rl.zero).add) j)))] from (H16.take 4)); rw [show j = 4 by omega, fill_own (by omega) (hrf k (by omega)).1 hb15] at h; exact h)⟩ ⟨rfl, rfl, rfl, rfl, rfl, rfl, rfl, trivial⟩ (by omega)
        ·
          have hc15 := of_decide_eq_false hb15
          refine WC.skip ?_
          refine WQ.next ?_
          refine WC.seq ?_
          refine WC.region ?_
          refine WL.op rfl rfl (op_move rfl ?_)
          refine WL.op rfl rfl (op_fieldAddr rfl Fa.F44_3 ?_)
          refine WL.op rfl rfl (op_load rfl (H14.cell (i := 4) rfl rfl) Tryd.underlying22 rfl ?_)
          refine WL.op rfl rfl (op_addU32 rfl rfl ?_)
          refine WL.op rfl rfl (op_assign rfl ?_)
          refine WL.nil ?_
          refine WQ.next ?_
          refine WC.seq ?_
          refine WC.seq ?_
          refine WC.region ?_
          refine WL.op rfl rfl (op_fieldAddr rfl Fa.F44_0 ?_)
          refine WL.op rfl rfl (op_load rfl (H14.cell (i := 4) rfl rfl) Tryd.underlying22 rfl ?_)
          refine WL.op rfl rfl (op_convU32N (hs := Tryd.underlying22) (hd := Tryd.underlying3) rfl ?_)
          refine WL.op rfl rfl (op_addN (b := 4) rfl rfl (by omega) ?_)
          refine WL.op rfl rfl (op_move rfl ?_)
          refine WL.op rfl rfl (op_lenA Tryd.underlying58 rfl (H14.arrR (i := 3) rfl) ?_)
          refine WL.op rfl rfl (op_gtrN rfl rfl ?_)
          refine WL.op rfl rfl (op_move rfl ?_)
          refine WL.yes rfl rfl rfl (decide_eq_false (by omega)) rfl (op_fieldAddr rfl Fa.F44_1 ?_)
          refine WL.yes rfl rfl rfl (decide_eq_false (by omega)) rfl (op_load rfl (H14.cell (i := 4) rfl rfl) Tryd.underlying5 rfl ?_)
          refine WL.yes rfl rfl rfl (decide_eq_false (by omega)) rfl (op_neqU8 (b := 1) rfl rfl ?_)
          refine WL.op rfl rfl (op_pickF rfl (decide_eq_false (by omega)) rfl ?_)
          refine WL.nil ?_
          refine WQ.next ?_
          refine WC.no rfl (decide_eq_false (fun h => h hrk.1)) ?_
          refine WC.skip ?_
          refine WQ.next ?_
          refine WC.seq ?_
          refine WC.region ?_
          refine WL.op rfl rfl (op_assign rfl ?_)
          refine WL.nil ?_
          refine WQ.next ?_
          refine WC.block ?_
          refine WC.loop (α := Nat) (fun j => [(0, lv), (1, (vU32 own)), (2, (vU32 oth)), (7, (ptr b5 0)), (8, (vN (mkE ([115, 101, 108, 102]) 1 [] l))), (9, v10), (10, (vN k)), (11, (ptr b13 0)), (12, (vU32 (oth + (y4.rl.getD k Rl.zero).add))), (13, (vN j))]) (fun j w' => (j ≤ 4) ∧ Own [] w w' [.row y4.rv 44 4 y4.rl.length (List.flatMap rlc y4.rl), .row y4.nv 68 3 y4.nt.length (List.flatMap ntc y4.nt), .blk b5 [(str y4.nm), (vU8 y4.bind), (vU8 y4.kind), (vU32 y4.size), (str y4.b), y4.rv, y4.nv] 26, .row v10 5 1 y4.b.length (List.map vU8 (putAt (fillN y4.b y4.rl (adsF own oth y4.rl) k) (y4.rl.getD k Rl.zero).off.toNat (rB (oth + (y4.rl.getD k Rl.zero).add) j))), .blk b13 [(vU32 (y4.rl.getD k Rl.zero).off), (vU8 (y4.rl.getD k Rl.zero).kind), (str (y4.rl.getD k Rl.zero).nm), (vU32 (y4.rl.getD k Rl.zero).add)] 44]) (fun j => 4 - j) 0 ⟨(Nat.zero_le _), (Own.rowEq (i := 3) (f := vU8) H14 rfl putAt_nil.symm)⟩ ⟨rfl, rfl, rfl, rfl, rfl, rfl, rfl, rfl, rfl, rfl, trivial⟩ ?_
          rintro j w19 ⟨hj1, H19⟩
          show WC _ _ _ _ _ [(0, lv), (1, (vU32 own)), (2, (vU32 oth)), (7, (ptr b5 0)), (8, (vN (mkE ([115, 101, 108, 102]) 1 [] l))), (9, v10), (10, (vN k)), (11, (ptr b13 0)), (12, (vU32 (oth + (y4.rl.getD k Rl.zero).add))), (13, (vN j))] _
          refine WC.seq ?_
          refine WC.seq ?_
          refine WC.region ?_
          refine WL.op rfl rfl (op_move rfl ?_)
          refine WL.op rfl rfl (op_lssN (b := 4) rfl rfl ?_)
          refine WL.nil ?_
          refine WQ.next ?_
          refine WC.cond rfl (fun (hb20 : (decide (j < 4)) = true) => ?_) (fun (hb20 : (decide (j < 4)) = false) => ?_)
          ·
            have hc20 := of_decide_eq_true hb20
            refine WC.skip ?_
            refine WQ.next ?_
            refine WC.seq ?_
            refine WC.block ?_
            refine WC.region ?_
            refine WL.op rfl rfl (op_move rfl ?_)
            refine WL.op rfl rfl (op_fieldAddr rfl Fa.F44_0 ?_)
            refine WL.op rfl rfl (op_load rfl (H19.cell (i := 4) rfl rfl) Tryd.underlying22 rfl ?_)
            refine WL.op rfl rfl (op_convU32N (hs := Tryd.underlying22) (hd := Tryd.underlying3) rfl ?_)
            refine WL.op rfl rfl (op_move rfl ?_)
            refine WL.op rfl rfl (op_addN rfl rfl (by omega) ?_)
            refine WL.op rfl rfl (op_move rfl ?_)
            refine WL.op rfl rfl (op_move rfl ?_)
            refine WL.op rfl rfl (op_mulN (a := 8) rfl rfl (by omega) ?_)
            refine WL.op rfl rfl (op_convNU64 (hs := Tryd.underlying3) (hd := Tryd.underlying59) rfl ?_)
            refine WL.op rfl rfl (op_shrU32 rfl rfl ?_)
            refine WL.op rfl rfl (op_convU32U8 (hs := Tryd.underlying22) (hd := Tryd.underlying5) rfl ?_)
            refine WL.op rfl rfl (op_indexAddr1 Tryd.underlying58 Fa.I5 rfl (H19.arrR (i := 3) rfl) rfl (by omega) ?_)
            refine WL.op rfl rfl (op_storeRM (i := 3) (f := vU8) (l := (putAt (fillN y4.b y4.rl (adsF own oth y4.rl) k) (y4.rl.getD k Rl.zero).off.toNat (rB (oth + (y4.rl.getD k Rl.zero).add) j))) (c := (UInt8.ofNat (shrU32 (oth + (y4.rl.getD k Rl.zero).add) (UInt64.ofNat (8 * j)).toNat).toNat)) H19 rfl rfl rfl (by omega) rfl Fa.I5 (fun w21 H21 => ?_))
            refine WL.nil ?_
            refine WQ.inNormal ?_
            refine WQ.next ?_
            refine WC.region ?_
            refine WL.op rfl rfl (op_move rfl ?_)
            refine WL.op rfl rfl (op_addN (b := 1) rfl rfl (by omega) ?_)
            refine WL.op rfl rfl (op_assign rfl ?_)
            refine WL.nil ?_
            exact WQ.round (j + 1) ⟨(by omega), (Own.rowEq (i := 3) (f := vU8) (show Own [] w w21 [.row y4.rv 44 4 y4.rl.length (List.flatMap rlc y4.rl), .row y4.nv 68 3 y4.nt.length (List.flatMap ntc y4.nt), .blk b5 [(str y4.nm), (vU8 y4.bind), (vU8 y4.kind), (vU32 y4.size), (str y4.b), y4.rv, y4.nv] 26, .row v10 5 1 y4.b.length (List.map vU8 ((putAt (fillN y4.b y4.rl (adsF own oth y4.rl) k) (y4.rl.getD k Rl.zero).off.toNat (rB (oth + (y4.rl.getD k Rl.zero).add) j)).set ((y4.rl.getD k Rl.zero).off.toNat + j) (UInt8.ofNat (shrU32 (oth + (y4.rl.getD k Rl.zero).add) (UInt64.ofNat (8 * j)).toNat).toNat))), .blk b13 [(vU32 (y4.rl.getD k Rl.zero).off), (vU8 (y4.rl.getD k Rl.zero).kind), (str (y4.rl.getD k Rl.zero).nm), (vU32 (y4.rl.getD k Rl.zero).add)] 44] from H21) rfl (put_shr6 (r := (y4.rl.getD k Rl.zero)) (j := j) (by omega) (by rw [hfn]; omega)))⟩ ⟨rfl, rfl, rfl, rfl, rfl, rfl, rfl, rfl, rfl, rfl, trivial⟩ (by omega)
          ·
            have hc20 := of_decide_eq_false hb20
            refine WC.exit ?_
            refine WQ.thenExit ?_
            refine WQ.thenExit ?_
            refine WQ.inHere ?_
            refine WQ.inNormal ?_
            refine WQ.next ?_
            refine WC.region ?_
            refine WL.op rfl rfl (op_move rfl ?_)
            refine WL.op rfl rfl (op_addN (b := 1) rfl rfl (by omega) ?_)
            refine WL.op rfl rfl (op_assign rfl ?_)
            refine WL.nil ?_
            exact WQ.round (k + 1) ⟨(by omega), (by have h := (show Own [] w w19 [.row y4.rv 44 4 y4.rl.length (List.flatMap rlc y4.rl), .row y4.nv 68 3 y4.nt.length (List.flatMap ntc y4.nt), .blk b5 [(str y4.nm), (vU8 y4.bind), (vU8 y4.kind), (vU32 y4.size), (str y4.b), y4.rv, y4.nv] 26, .row v10 5 1 y4.b.length (List.map vU8 (putAt (fillN y4.b y4.rl (adsF own oth y4.rl) k) (y4.rl.getD k Rl.zero).off.toNat (rB (oth + (y4.rl.getD k Rl.zero).add) j)))] from (H19.take 4)); rw [show j = 4 by omega, fill_oth (by omega) (hrf k (by omega)).1 hb15] at h; exact h)⟩ ⟨rfl, rfl, rfl, rfl, rfl, rfl, rfl, trivial⟩ (by omega)
      ·
        have hc12 := of_decide_eq_false hb12
        refine WC.exit ?_
        refine WQ.thenExit ?_
        refine WQ.thenExit ?_
        refine WQ.inHere ?_
        refine WQ.next ?_
        refine WC.seq ?_
        refine WC.seq ?_
        refine WC.region ?_
        have hwl := wtN_len (own := own) (oth := oth) (l := l) hall
        have H22 : Own [] w w11 [.row y4.rv 44 4 y4.rl.length (List.flatMap rlc y4.rl), .row y4.nv 68 3 y4.nt.length (List.flatMap ntc y4.nt), .blk b5 [(str y4.nm), (vU8 y4.bind), (vU8 y4.kind), (vU32 y4.size), (str y4.b), y4.rv, y4.nv] 26, .row v10 5 1 (8 * l.length) (List.map vU8 (wtN l own oth l.length))] := Own.rowEqN (i := 3) (f := vU8) (show Own [] w w11 [.row y4.rv 44 4 y4.rl.length (List.flatMap rlc y4.rl), .row y4.nv 68 3 y4.nt.length (List.flatMap ntc y4.nt), .blk b5 [(str y4.nm), (vU8 y4.bind), (vU8 y4.kind), (vU32 y4.size), (str y4.b), y4.rv, y4.nv] 26, .row v10 5 1 y4.b.length (List.map vU8 (fillN y4.b y4.rl (adsF own oth y4.rl) k))] from H11) rfl (by rw [show k = y4.rl.length by omega, hrl, hbb]; exact fills_all hle hall hnone) hbl
        refine WL.op rfl rfl (op_assign rfl ?_)
        refine WL.nil ?_
        refine WQ.next ?_
        refine WC.block ?_
        refine WC.loop (α := Nat) (fun i => [(0, lv), (1, (vU32 own)), (2, (vU32 oth)), (9, v10), (14, (vN i))]) (fun i w' => (i ≤ l.length) ∧ Own [] w w' [.row y4.rv 44 4 y4.rl.length (List.flatMap rlc y4.rl), .row y4.nv 68 3 y4.nt.length (List.flatMap ntc y4.nt), .blk b5 [(str y4.nm), (vU8 y4.bind), (vU8 y4.kind), (vU32 y4.size), (str y4.b), y4.rv, y4.nv] 26, .row v10 5 1 (8 * l.length) (List.map vU8 (wtN l own oth l.length))]) (fun i => l.length - i) 0 ⟨(Nat.zero_le _), H22⟩ ⟨rfl, rfl, rfl, rfl, rfl, trivial⟩ ?_
        rintro i w23 ⟨hi1, H23⟩
        show WC _ _ _ _ _ [(0, lv), (1, (vU32 own)), (2, (vU32 oth)), (9, v10), (14, (vN i))] _
        refine WC.seq ?_
        refine WC.seq ?_
        refine WC.region ?_
        refine WL.op rfl rfl (op_move rfl ?_)
        refine WL.op rfl rfl (op_move rfl ?_)
        refine WL.op rfl rfl (op_lenA Tryd.underlying48 rfl (H23.arr hA) ?_)
        refine WL.op rfl rfl (op_lssN rfl rfl ?_)
        refine WL.nil ?_
        refine WQ.next ?_
        refine WC.cond rfl (fun (hb24 : (decide (i < l.length)) = true) => ?_) (fun (hb24 : (decide (i < l.length)) = false) => ?_)
        ·
          have hc24 := of_decide_eq_true hb24
          refine WC.skip ?_
          refine WQ.next ?_
          refine WC.seq ?_
          refine WC.block ?_
          refine WC.seq ?_
          refine WC.region ?_
          refine WL.op rfl rfl (op_move rfl ?_)
          refine WL.op rfl rfl (op_move rfl ?_)
          refine WL.op rfl rfl (op_mulN (a := 8) rfl rfl (by omega) ?_)
          refine WL.op rfl rfl (op_move rfl ?_)
          refine WL.op rfl rfl (op_mulN (a := 8) rfl rfl (by omega) ?_)
          refine WL.op rfl rfl (op_addN (b := 8) rfl rfl (by omega) ?_)
          refine WL.op rfl rfl (op_cut Tryd.underlying58 Fa.I5 rfl (H23.arrR (i := 3) rfl) rfl rfl (by omega) (by omega) ?_)
          refine WL.op rfl rfl (op_bytesStr (l := (((wtN l own oth l.length).drop (8 * i)).take (((8 * i) + 8) - (8 * i)))) Tryd.underlying58 Tryd.underlying5 Tryd.underlying9 rfl (((H23.arrR (i := 3) rfl)).cutM (f := vU8) (l := (wtN l own oth l.length)) (a := (8 * i)) (b := ((8 * i) + 8)) (by omega) (by omega)) rfl ?_)
          refine WL.op rfl rfl (op_callF Fa.C28 rfl ((decode_ok (((wtN l own oth l.length).drop (8 * i)).take (((8 * i) + 8) - (8 * i))) _).mono (fun e w25 hq => ?_)))
          obtain ⟨rfl, hf25⟩ := hq
          refine ⟨_, rfl, ?_⟩
          have H25 := H23.fr' hf25
          refine WL.op rfl rfl (op_move rfl ?_)
          refine WL.op rfl rfl (op_extract rfl rfl ?_)
          refine WL.op rfl rfl (op_extract rfl rfl ?_)
          refine WL.op rfl rfl (op_alloc H25 Fa.I61 (fun b26 w26 H26 => ?_))
          refine WL.op rfl rfl (op_storeBW (i := 4) H26 rfl rfl rfl rfl rfl Fa.I61 (fun w27 H27 => ?_))
          refine WL.op rfl rfl (op_assign rfl ?_)
          refine WL.nil ?_
          refine WQ.next ?_
          refine WC.seq ?_
          refine WC.region ?_
          refine WL.op rfl rfl (op_move rfl ?_)
          refine WL.op rfl rfl (op_move rfl ?_)
          refine WL.op rfl rfl (op_indexAddr Tryd.underlying48 Fa.I65 rfl (H27.arr hA) rfl (by omega) ?_)
          refine WL.op rfl rfl (op_fieldAddrS rfl Fa.F65_1 ?_)
          refine WL.op rfl rfl (op_loadSP (vs := [(vU8 (l.getD i Ln.zero).op), (vU8 (l.getD i Ln.zero).d), (vU8 (l.getD i Ln.zero).a), (vU8 (l.getD i Ln.zero).b), (vU32 (l.getD i Ln.zero).imm)]) rfl (Arr.atsP (off := 1) (H27.arr hA) (fun _ => rfl) (by decide) Ln.zero (by omega) rfl) Tryd.underlying61 rfl Fa.I61 rfl ?_)
          refine WL.op rfl rfl (op_alloc H27 Fa.I61 (fun b28 w28 H28 => ?_))
          refine WL.op rfl rfl (op_storeBW (i := 5) H28 rfl rfl rfl rfl rfl Fa.I61 (fun w29 H29 => ?_))
          refine WL.nil ?_
          refine WQ.next ?_
          refine WC.seq ?_
          refine WC.seq ?_
          refine WC.region ?_
          refine WL.op rfl rfl (op_move rfl ?_)
          refine WL.op rfl rfl (op_move rfl ?_)
          refine WL.op rfl rfl (op_indexAddr Tryd.underlying48 Fa.I65 rfl (H29.arr hA) rfl (by omega) ?_)
          refine WL.op rfl rfl (op_fieldAddrS rfl Fa.F65_3 ?_)
          refine WL.op rfl rfl (op_load rfl (Arr.atF (k := 7) (H29.arr hA) (fun _ => rfl) (by decide) Ln.zero (by omega) rfl) Tryd.underlying9 rfl ?_)
          refine WL.op rfl rfl (op_neqStr rfl rfl ?_)
          refine WL.nil ?_
          refine WQ.next ?_
          refine WC.cond rfl (fun (hb30 : (decide ((l.getD i Ln.zero).nm ≠ [])) = true) => ?_) (fun (hb30 : (decide ((l.getD i Ln.zero).nm ≠ [])) = false) => ?_)
          ·
            have hc30 := of_decide_eq_true hb30
            refine WC.seq ?_
            refine WC.region ?_
            refine WL.op rfl rfl (op_move rfl ?_)
            refine WL.op rfl rfl (op_move rfl ?_)
            refine WL.op rfl rfl (op_move rfl ?_)
            refine WL.op rfl rfl (op_indexAddr Tryd.underlying48 Fa.I65 rfl (H29.arr hA) rfl (by omega) ?_)
            refine WL.op rfl rfl (op_fieldAddrS rfl Fa.F65_1 ?_)
            refine WL.op rfl rfl (op_fieldAddrS rfl Fa.F61_4 ?_)
            refine WL.op rfl rfl (op_load rfl (Arr.atF (k := 5) (H29.arr hA) (fun _ => rfl) (by decide) Ln.zero (by omega) rfl) Tryd.underlying22 rfl ?_)
            refine WL.op rfl rfl (op_addU32 rfl rfl ?_)
            refine WL.op rfl rfl (op_fieldAddr rfl Fa.F61_4 ?_)
            refine WL.op rfl rfl (op_storeB (i := 5) H29 rfl rfl rfl rfl rfl Fa.I22 (fun w31 H31 => ?_))
            refine WL.nil ?_
            refine WQ.next ?_
            refine WC.seq ?_
            refine WC.region ?_
            refine WL.op rfl rfl (op_move rfl ?_)
            refine WL.op rfl rfl (op_move rfl ?_)
            refine WL.op rfl rfl (op_indexAddr Tryd.underlying48 Fa.I65 rfl (H31.arr hA) rfl (by omega) ?_)
            refine WL.op rfl rfl (op_fieldAddrS rfl Fa.F65_3 ?_)
            refine WL.op rfl rfl (op_load rfl (Arr.atF (k := 7) (H31.arr hA) (fun _ => rfl) (by decide) Ln.zero (by omega) rfl) Tryd.underlying9 rfl ?_)
            refine WL.op rfl rfl (op_eqlStr rfl rfl ?_)
            refine WL.nil ?_
            refine WQ.next ?_
            refine WC.cond rfl (fun (hb32 : (decide ((l.getD i Ln.zero).nm = [115, 101, 108, 102])) = true) => ?_) (fun (hb32 : (decide ((l.getD i Ln.zero).nm = [115, 101, 108, 102])) = false) => ?_)
            ·
              have hc32 := of_decide_eq_true hb32
              refine WC.region ?_
              refine WL.op rfl rfl (op_move rfl ?_)
              refine WL.op rfl rfl (op_move rfl ?_)
              refine WL.op rfl rfl (op_move rfl ?_)
              refine WL.op rfl rfl (op_indexAddr Tryd.underlying48 Fa.I65 rfl (H31.arr hA) rfl (by omega) ?_)
              refine WL.op rfl rfl (op_fieldAddrS rfl Fa.F65_1 ?_)
              refine WL.op rfl rfl (op_fieldAddrS rfl Fa.F61_4 ?_)
              refine WL.op rfl rfl (op_load rfl (Arr.atF (k := 5) (H31.arr hA) (fun _ => rfl) (by decide) Ln.zero (by omega) rfl) Tryd.underlying22 rfl ?_)
              refine WL.op rfl rfl (op_addU32 rfl rfl ?_)
              refine WL.op rfl rfl (op_fieldAddr rfl Fa.F61_4 ?_)
              refine WL.op rfl rfl (op_storeB (i := 5) H31 rfl rfl rfl rfl rfl Fa.I22 (fun w33 H33 => ?_))
              refine WL.nil ?_
              refine WQ.next ?_
              refine WC.seq ?_
              refine WC.seq ?_
              refine WC.region ?_
              refine WL.op rfl rfl (op_assign rfl ?_)
              refine WL.nil ?_
              refine WQ.next ?_
              refine WC.block ?_
              refine WC.loop (α := Nat) (fun m => [(0, lv), (1, (vU32 own)), (2, (vU32 oth)), (9, v10), (14, (vN i)), (15, (ptr b26 0)), (16, (vN (decE (((wtN l own oth l.length).drop (8 * i)).take (((8 * i) + 8) - (8 * i)))))), (17, (ptr b28 0)), (18, (vN m))]) (fun m w' => (m ≤ l.length) ∧ Own [] w w' [.row y4.rv 44 4 y4.rl.length (List.flatMap rlc y4.rl), .row y4.nv 68 3 y4.nt.length (List.flatMap ntc y4.nt), .blk b5 [(str y4.nm), (vU8 y4.bind), (vU8 y4.kind), (vU32 y4.size), (str y4.b), y4.rv, y4.nv] 26, .row v10 5 1 (8 * l.length) (List.map vU8 (wtN l own oth l.length)), .blk b26 [(vU8 (decOp (((wtN l own oth l.length).drop (8 * i)).take (((8 * i) + 8) - (8 * i))))), (vU8 (decD (((wtN l own oth l.length).drop (8 * i)).take (((8 * i) + 8) - (8 * i))))), (vU8 (decA (((wtN l own oth l.length).drop (8 * i)).take (((8 * i) + 8) - (8 * i))))), (vU8 (decBr (((wtN l own oth l.length).drop (8 * i)).take (((8 * i) + 8) - (8 * i))))), (vU32 (decI (((wtN l own oth l.length).drop (8 * i)).take (((8 * i) + 8) - (8 * i)))))] 61, .blk b28 [(vU8 (l.getD i Ln.zero).op), (vU8 (l.getD i Ln.zero).d), (vU8 (l.getD i Ln.zero).a), (vU8 (l.getD i Ln.zero).b), (vU32 (wantTo l own oth i m))] 61]) (fun m => l.length - m) 0 ⟨(Nat.zero_le _), (by have h := H33; rw [show (own + (l.getD i Ln.zero).imm) = wantTo l own oth i 0 from (wantB_self hb30 hb32).trans want_0.symm] at h; exact h)⟩ ⟨rfl, rfl, rfl, rfl, rfl, rfl, rfl, rfl, rfl, trivial⟩ ?_
              rintro m w34 ⟨hm1, H34⟩
              show WC _ _ _ _ _ [(0, lv), (1, (vU32 own)), (2, (vU32 oth)), (9, v10), (14, (vN i)), (15, (ptr b26 0)), (16, (vN (decE (((wtN l own oth l.length).drop (8 * i)).take (((8 * i) + 8) - (8 * i)))))), (17, (ptr b28 0)), (18, (vN m))] _
              refine WC.seq ?_
              refine WC.seq ?_
              refine WC.region ?_
              refine WL.op rfl rfl (op_move rfl ?_)
              refine WL.op rfl rfl (op_move rfl ?_)
              refine WL.op rfl rfl (op_lenA Tryd.underlying48 rfl (H34.arr hA) ?_)
              refine WL.op rfl rfl (op_lssN rfl rfl ?_)
              refine WL.nil ?_
              refine WQ.next ?_
              refine WC.cond rfl (fun (hb35 : (decide (m < l.length)) = true) => ?_) (fun (hb35 : (decide (m < l.length)) = false) => ?_)
              ·
                have hc35 := of_decide_eq_true hb35
                refine WC.skip ?_
                refine WQ.next ?_
                refine WC.seq ?_
                refine WC.block ?_
                refine WC.seq ?_
                refine bsplit (fun (hb36 : (decide ((l.getD i Ln.zero).to ≠ [])) = true) => ?_) (fun (hb36 : (decide ((l.getD i Ln.zero).to ≠ [])) = false) => ?_)
                ·
                  have hc36 := of_decide_eq_true hb36
                  refine WC.draw 19 Fa.M H34 (HW.op rfl (fun w1 H1 => op_move rfl ⟨rfl, Fr.refl _ _⟩) (HW.op rfl (fun w1 H1 => op_move rfl ⟨rfl, Fr.refl _ _⟩) (HW.op rfl (fun w1 H1 => op_indexAddr Tryd.underlying48 Fa.I65 rfl (H1.arr hA) rfl (by omega) ⟨rfl, Fr.refl _ _⟩) (HW.op rfl (fun w1 H1 => op_fieldAddrS rfl Fa.F65_2 ⟨rfl, Fr.refl _ _⟩) (HW.op rfl (fun w1 H1 => op_load rfl (Arr.atF (k := 6) (H1.arr hA) (fun _ => rfl) (by decide) Ln.zero (by omega) rfl) Tryd.underlying9 rfl ⟨rfl, Fr.refl _ _⟩) (HW.op rfl (fun w1 H1 => op_neqStr rfl rfl ⟨rfl, Fr.refl _ _⟩) (HW.op rfl (fun w1 H1 => op_move rfl ⟨rfl, Fr.refl _ _⟩) (HW.yes rfl rfl rfl hb36 (fun w1 H1 => op_move rfl ⟨rfl, Fr.refl _ _⟩) (HW.yes rfl rfl rfl hb36 (fun w1 H1 => op_move rfl ⟨rfl, Fr.refl _ _⟩) (HW.yes rfl rfl rfl hb36 (fun w1 H1 => op_indexAddr Tryd.underlying48 Fa.I65 rfl (H1.arr hA) rfl (by omega) ⟨rfl, Fr.refl _ _⟩) (HW.yes rfl rfl rfl hb36 (fun w1 H1 => op_fieldAddrS rfl Fa.F65_0 ⟨rfl, Fr.refl _ _⟩) (HW.yes rfl rfl rfl hb36 (fun w1 H1 => op_load rfl (Arr.atF (k := 0) (H1.arr hA) (fun _ => rfl) (by decide) Ln.zero (by omega) rfl) Tryd.underlying9 rfl ⟨rfl, Fr.refl _ _⟩) (HW.yes rfl rfl rfl hb36 (fun w1 H1 => op_move rfl ⟨rfl, Fr.refl _ _⟩) (HW.yes rfl rfl rfl hb36 (fun w1 H1 => op_move rfl ⟨rfl, Fr.refl _ _⟩) (HW.yes rfl rfl rfl hb36 (fun w1 H1 => op_indexAddr Tryd.underlying48 Fa.I65 rfl (H1.arr hA) rfl (by omega) ⟨rfl, Fr.refl _ _⟩) (HW.yes rfl rfl rfl hb36 (fun w1 H1 => op_fieldAddrS rfl Fa.F65_2 ⟨rfl, Fr.refl _ _⟩) (HW.yes rfl rfl rfl hb36 (fun w1 H1 => op_load rfl (Arr.atF (k := 6) (H1.arr hA) (fun _ => rfl) (by decide) Ln.zero (by omega) rfl) Tryd.underlying9 rfl ⟨rfl, Fr.refl _ _⟩) (HW.yes rfl rfl rfl hb36 (fun w1 H1 => op_eqlStr rfl rfl ⟨rfl, Fr.refl _ _⟩) (HW.op rfl (fun w1 H1 => op_pickT rfl hb36 rfl ⟨rfl, Fr.refl _ _⟩)  HW.nil))))))))))))))))))) (by kernel_rfl) ?_
                  intro β37 w37 H37
                  refine WL.nil ?_
                  refine WQ.next ?_
                  refine WC.cond rfl (fun (hb38 : (decide ((l.getD m Ln.zero).lb = (l.getD i Ln.zero).to)) = true) => ?_) (fun (hb38 : (decide ((l.getD m Ln.zero).lb = (l.getD i Ln.zero).to)) = false) => ?_)
                  ·
                    have hc38 := of_decide_eq_true hb38
                    refine WC.region ?_
                    refine WL.op rfl rfl (op_move rfl ?_)
                    refine WL.op rfl rfl (op_move rfl ?_)
                    refine WL.op rfl rfl (op_mulN (a := 8) rfl rfl (by omega) ?_)
                    refine WL.op rfl rfl (op_convNU32 (hs := Tryd.underlying3) (hd := Tryd.underlying22) rfl ?_)
                    refine WL.op rfl rfl (op_addU32 rfl rfl ?_)
                    refine WL.op rfl rfl (op_fieldAddr rfl Fa.F61_4 ?_)
                    refine WL.op rfl rfl (op_storeB (i := 5) H37 rfl rfl rfl rfl rfl Fa.I22 (fun w39 H39 => ?_))
                    refine WL.nil ?_
                    refine WQ.inNormal ?_
                    refine WQ.next ?_
                    refine WC.region ?_
                    refine WL.op rfl rfl (op_move rfl ?_)
                    refine WL.op rfl rfl (op_addN (b := 1) rfl rfl (by omega) ?_)
                    refine WL.op rfl rfl (op_assign rfl ?_)
                    refine WL.nil ?_
                    exact WQ.round (m + 1) ⟨(by omega), (by have h := (show Own [] w w39 [.row y4.rv 44 4 y4.rl.length (List.flatMap rlc y4.rl), .row y4.nv 68 3 y4.nt.length (List.flatMap ntc y4.nt), .blk b5 [(str y4.nm), (vU8 y4.bind), (vU8 y4.kind), (vU32 y4.size), (str y4.b), y4.rv, y4.nv] 26, .row v10 5 1 (8 * l.length) (List.map vU8 (wtN l own oth l.length)), .blk b26 [(vU8 (decOp (((wtN l own oth l.length).drop (8 * i)).take (((8 * i) + 8) - (8 * i))))), (vU8 (decD (((wtN l own oth l.length).drop (8 * i)).take (((8 * i) + 8) - (8 * i))))), (vU8 (decA (((wtN l own oth l.length).drop (8 * i)).take (((8 * i) + 8) - (8 * i))))), (vU8 (decBr (((wtN l own oth l.length).drop (8 * i)).take (((8 * i) + 8) - (8 * i))))), (vU32 (decI (((wtN l own oth l.length).drop (8 * i)).take (((8 * i) + 8) - (8 * i)))))] 61, .blk b28 [(vU8 (l.getD i Ln.zero).op), (vU8 (l.getD i Ln.zero).d), (vU8 (l.getD i Ln.zero).a), (vU8 (l.getD i Ln.zero).b), (vU32 (own + (UInt32.ofNat (8 * m))))] 61] from H39); rw [want_hit hdup (by omega) hb36 hb38] at h; exact h)⟩ ⟨rfl, rfl, rfl, rfl, rfl, rfl, rfl, rfl, rfl, trivial⟩ (by omega)
                  ·
                    have hc38 := of_decide_eq_false hb38
                    refine WC.skip ?_
                    refine WQ.inNormal ?_
                    refine WQ.next ?_
                    refine WC.region ?_
                    refine WL.op rfl rfl (op_move rfl ?_)
                    refine WL.op rfl rfl (op_addN (b := 1) rfl rfl (by omega) ?_)
                    refine WL.op rfl rfl (op_assign rfl ?_)
                    refine WL.nil ?_
                    exact WQ.round (m + 1) ⟨(by omega), (by have h := (show Own [] w w37 [.row y4.rv 44 4 y4.rl.length (List.flatMap rlc y4.rl), .row y4.nv 68 3 y4.nt.length (List.flatMap ntc y4.nt), .blk b5 [(str y4.nm), (vU8 y4.bind), (vU8 y4.kind), (vU32 y4.size), (str y4.b), y4.rv, y4.nv] 26, .row v10 5 1 (8 * l.length) (List.map vU8 (wtN l own oth l.length)), .blk b26 [(vU8 (decOp (((wtN l own oth l.length).drop (8 * i)).take (((8 * i) + 8) - (8 * i))))), (vU8 (decD (((wtN l own oth l.length).drop (8 * i)).take (((8 * i) + 8) - (8 * i))))), (vU8 (decA (((wtN l own oth l.length).drop (8 * i)).take (((8 * i) + 8) - (8 * i))))), (vU8 (decBr (((wtN l own oth l.length).drop (8 * i)).take (((8 * i) + 8) - (8 * i))))), (vU32 (decI (((wtN l own oth l.length).drop (8 * i)).take (((8 * i) + 8) - (8 * i)))))] 61, .blk b28 [(vU8 (l.getD i Ln.zero).op), (vU8 (l.getD i Ln.zero).d), (vU8 (l.getD i Ln.zero).a), (vU8 (l.getD i Ln.zero).b), (vU32 (wantTo l own oth i m))] 61] from H37); rw [want_skip hb38] at h; exact h)⟩ ⟨rfl, rfl, rfl, rfl, rfl, rfl, rfl, rfl, rfl, trivial⟩ (by omega)
                ·
                  have hc36 := of_decide_eq_false hb36
                  refine WC.draw 19 Fa.M H34 (HW.op rfl (fun w1 H1 => op_move rfl ⟨rfl, Fr.refl _ _⟩) (HW.op rfl (fun w1 H1 => op_move rfl ⟨rfl, Fr.refl _ _⟩) (HW.op rfl (fun w1 H1 => op_indexAddr Tryd.underlying48 Fa.I65 rfl (H1.arr hA) rfl (by omega) ⟨rfl, Fr.refl _ _⟩) (HW.op rfl (fun w1 H1 => op_fieldAddrS rfl Fa.F65_2 ⟨rfl, Fr.refl _ _⟩) (HW.op rfl (fun w1 H1 => op_load rfl (Arr.atF (k := 6) (H1.arr hA) (fun _ => rfl) (by decide) Ln.zero (by omega) rfl) Tryd.underlying9 rfl ⟨rfl, Fr.refl _ _⟩) (HW.op rfl (fun w1 H1 => op_neqStr rfl rfl ⟨rfl, Fr.refl _ _⟩) (HW.op rfl (fun w1 H1 => op_move rfl ⟨rfl, Fr.refl _ _⟩) (HW.no rfl rfl rfl hb36 (HW.no rfl rfl rfl hb36 (HW.no rfl rfl rfl hb36 (HW.no rfl rfl rfl hb36 (HW.no rfl rfl rfl hb36 (HW.no rfl rfl rfl hb36 (HW.no rfl rfl rfl hb36 (HW.no rfl rfl rfl hb36 (HW.no rfl rfl rfl hb36 (HW.no rfl rfl rfl hb36 (HW.no rfl rfl rfl hb36 (HW.op rfl (fun w1 H1 => op_pickF rfl hb36 rfl ⟨rfl, Fr.refl _ _⟩)  HW.nil))))))))))))))))))) (by kernel_rfl) ?_
                  intro β40 w40 H40
                  refine WL.nil ?_
                  refine WQ.next ?_
                  refine WC.no rfl rfl ?_
                  refine WC.skip ?_
                  refine WQ.inNormal ?_
                  refine WQ.next ?_
                  refine WC.region ?_
                  refine WL.op rfl rfl (op_move rfl ?_)
                  refine WL.op rfl rfl (op_addN (b := 1) rfl rfl (by omega) ?_)
                  refine WL.op rfl rfl (op_assign rfl ?_)
                  refine WL.nil ?_
                  exact WQ.round (m + 1) ⟨(by omega), (by have h := (show Own [] w w40 [.row y4.rv 44 4 y4.rl.length (List.flatMap rlc y4.rl), .row y4.nv 68 3 y4.nt.length (List.flatMap ntc y4.nt), .blk b5 [(str y4.nm), (vU8 y4.bind), (vU8 y4.kind), (vU32 y4.size), (str y4.b), y4.rv, y4.nv] 26, .row v10 5 1 (8 * l.length) (List.map vU8 (wtN l own oth l.length)), .blk b26 [(vU8 (decOp (((wtN l own oth l.length).drop (8 * i)).take (((8 * i) + 8) - (8 * i))))), (vU8 (decD (((wtN l own oth l.length).drop (8 * i)).take (((8 * i) + 8) - (8 * i))))), (vU8 (decA (((wtN l own oth l.length).drop (8 * i)).take (((8 * i) + 8) - (8 * i))))), (vU8 (decBr (((wtN l own oth l.length).drop (8 * i)).take (((8 * i) + 8) - (8 * i))))), (vU32 (decI (((wtN l own oth l.length).drop (8 * i)).take (((8 * i) + 8) - (8 * i)))))] 61, .blk b28 [(vU8 (l.getD i Ln.zero).op), (vU8 (l.getD i Ln.zero).d), (vU8 (l.getD i Ln.zero).a), (vU8 (l.getD i Ln.zero).b), (vU32 (wantTo l own oth i m))] 61] from H40); rw [want_same hb36] at h; exact h)⟩ ⟨rfl, rfl, rfl, rfl, rfl, rfl, rfl, rfl, rfl, trivial⟩ (by omega)
              ·
                have hc35 := of_decide_eq_false hb35
                have hm : m = l.length := by omega
                have hS : ((wtN l own oth l.length).drop (8 * i)).take (8 * i + 8 - 8 * i) = encS (l.getD i Ln.zero).op (l.getD i Ln.zero).d (l.getD i Ln.zero).a (l.getD i Ln.zero).b (wantTo l own oth i m) := by rw [hm, Nat.add_sub_cancel_left]; exact wt_get (own := own) (oth := oth) hall (by omega)
                have hE : encE (l.getD i Ln.zero).op (l.getD i Ln.zero).d (l.getD i Ln.zero).a (l.getD i Ln.zero).b (wantTo l own oth i m) = 0 := by rw [hm]; exact want_dec (own := own) (oth := oth) hall (show i < l.length by omega)
                refine WC.exit ?_
                refine WQ.thenExit ?_
                refine WQ.thenExit ?_
                refine WQ.inHere ?_
                refine WQ.next ?_
                refine WC.seq ?_
                refine WC.region ?_
                refine WL.op rfl rfl (op_move rfl ?_)
                refine WL.op rfl rfl (op_neqN (b := 0) rfl rfl ?_)
                refine WL.op rfl rfl (op_move rfl ?_)
                refine WL.yes rfl rfl rfl (by rw [hS]; exact back1_e hE) rfl (op_loadS (vs := [_, _, _, _, _]) rfl (H34.cells (i := 4) rfl rfl) Tryd.underlying61 rfl Fa.I61 rfl ?_)
                refine WL.yes rfl rfl rfl (by rw [hS]; exact back1_e hE) rfl (op_loadS (vs := [_, _, _, _, _]) rfl (H34.cells (i := 5) rfl rfl) Tryd.underlying61 rfl Fa.I61 rfl ?_)
                refine WL.yes rfl rfl rfl (by rw [hS]; exact back1_e hE) rfl (op_neqS (xs := [_, _, _, _, _]) (ys := [_, _, _, _, _]) (b := (!((decide ((decOp (((wtN l own oth l.length).drop (8 * i)).take (((8 * i) + 8) - (8 * i)))) = (l.getD i Ln.zero).op)) && ((decide ((decD (((wtN l own oth l.length).drop (8 * i)).take (((8 * i) + 8) - (8 * i)))) = (l.getD i Ln.zero).d)) && ((decide ((decA (((wtN l own oth l.length).drop (8 * i)).take (((8 * i) + 8) - (8 * i)))) = (l.getD i Ln.zero).a)) && ((decide ((decBr (((wtN l own oth l.length).drop (8 * i)).take (((8 * i) + 8) - (8 * i)))) = (l.getD i Ln.zero).b)) && (decide ((decI (((wtN l own oth l.length).drop (8 * i)).take (((8 * i) + 8) - (8 * i)))) = (wantTo l own oth i m))))))))) Fa.FL61 rfl rfl rfl (by simp [eqAll, veqU32, veqU8]) ?_)
                refine WL.op rfl rfl (op_pickF rfl (by rw [hS]; exact back1_e hE) rfl ?_)
                refine WL.nil ?_
                refine WQ.next ?_
                refine WC.no rfl (by rw [hS]; exact back1_ne hE) ?_
                refine WC.skip ?_
                refine WQ.inNormal ?_
                refine WQ.next ?_
                refine WC.region ?_
                refine WL.op rfl rfl (op_move rfl ?_)
                refine WL.op rfl rfl (op_addN (b := 1) rfl rfl (by omega) ?_)
                refine WL.op rfl rfl (op_assign rfl ?_)
                refine WL.nil ?_
                exact WQ.round (i + 1) ⟨(by omega), (H34.take 4)⟩ ⟨rfl, rfl, rfl, rfl, rfl, trivial⟩ (by omega)
            ·
              have hc32 := of_decide_eq_false hb32
              refine WC.skip ?_
              refine WQ.next ?_
              refine WC.seq ?_
              refine WC.seq ?_
              refine WC.region ?_
              refine WL.op rfl rfl (op_assign rfl ?_)
              refine WL.nil ?_
              refine WQ.next ?_
              refine WC.block ?_
              refine WC.loop (α := Nat) (fun m => [(0, lv), (1, (vU32 own)), (2, (vU32 oth)), (9, v10), (14, (vN i)), (15, (ptr b26 0)), (16, (vN (decE (((wtN l own oth l.length).drop (8 * i)).take (((8 * i) + 8) - (8 * i)))))), (17, (ptr b28 0)), (18, (vN m))]) (fun m w' => (m ≤ l.length) ∧ Own [] w w' [.row y4.rv 44 4 y4.rl.length (List.flatMap rlc y4.rl), .row y4.nv 68 3 y4.nt.length (List.flatMap ntc y4.nt), .blk b5 [(str y4.nm), (vU8 y4.bind), (vU8 y4.kind), (vU32 y4.size), (str y4.b), y4.rv, y4.nv] 26, .row v10 5 1 (8 * l.length) (List.map vU8 (wtN l own oth l.length)), .blk b26 [(vU8 (decOp (((wtN l own oth l.length).drop (8 * i)).take (((8 * i) + 8) - (8 * i))))), (vU8 (decD (((wtN l own oth l.length).drop (8 * i)).take (((8 * i) + 8) - (8 * i))))), (vU8 (decA (((wtN l own oth l.length).drop (8 * i)).take (((8 * i) + 8) - (8 * i))))), (vU8 (decBr (((wtN l own oth l.length).drop (8 * i)).take (((8 * i) + 8) - (8 * i))))), (vU32 (decI (((wtN l own oth l.length).drop (8 * i)).take (((8 * i) + 8) - (8 * i)))))] 61, .blk b28 [(vU8 (l.getD i Ln.zero).op), (vU8 (l.getD i Ln.zero).d), (vU8 (l.getD i Ln.zero).a), (vU8 (l.getD i Ln.zero).b), (vU32 (wantTo l own oth i m))] 61]) (fun m => l.length - m) 0 ⟨(Nat.zero_le _), (by have h := H31; rw [show (oth + (l.getD i Ln.zero).imm) = wantTo l own oth i 0 from (wantB_oth hb30 hb32).trans want_0.symm] at h; exact h)⟩ ⟨rfl, rfl, rfl, rfl, rfl, rfl, rfl, rfl, rfl, trivial⟩ ?_
              rintro m w41 ⟨hm1, H41⟩
              show WC _ _ _ _ _ [(0, lv), (1, (vU32 own)), (2, (vU32 oth)), (9, v10), (14, (vN i)), (15, (ptr b26 0)), (16, (vN (decE (((wtN l own oth l.length).drop (8 * i)).take (((8 * i) + 8) - (8 * i)))))), (17, (ptr b28 0)), (18, (vN m))] _
              refine WC.seq ?_
              refine WC.seq ?_
              refine WC.region ?_
              refine WL.op rfl rfl (op_move rfl ?_)
              refine WL.op rfl rfl (op_move rfl ?_)
              refine WL.op rfl rfl (op_lenA Tryd.underlying48 rfl (H41.arr hA) ?_)
              refine WL.op rfl rfl (op_lssN rfl rfl ?_)
              refine WL.nil ?_
              refine WQ.next ?_
              refine WC.cond rfl (fun (hb42 : (decide (m < l.length)) = true) => ?_) (fun (hb42 : (decide (m < l.length)) = false) => ?_)
              ·
                have hc42 := of_decide_eq_true hb42
                refine WC.skip ?_
                refine WQ.next ?_
                refine WC.seq ?_
                refine WC.block ?_
                refine WC.seq ?_
                refine bsplit (fun (hb43 : (decide ((l.getD i Ln.zero).to ≠ [])) = true) => ?_) (fun (hb43 : (decide ((l.getD i Ln.zero).to ≠ [])) = false) => ?_)
                ·
                  have hc43 := of_decide_eq_true hb43
                  refine WC.draw 19 Fa.M H41 (HW.op rfl (fun w1 H1 => op_move rfl ⟨rfl, Fr.refl _ _⟩) (HW.op rfl (fun w1 H1 => op_move rfl ⟨rfl, Fr.refl _ _⟩) (HW.op rfl (fun w1 H1 => op_indexAddr Tryd.underlying48 Fa.I65 rfl (H1.arr hA) rfl (by omega) ⟨rfl, Fr.refl _ _⟩) (HW.op rfl (fun w1 H1 => op_fieldAddrS rfl Fa.F65_2 ⟨rfl, Fr.refl _ _⟩) (HW.op rfl (fun w1 H1 => op_load rfl (Arr.atF (k := 6) (H1.arr hA) (fun _ => rfl) (by decide) Ln.zero (by omega) rfl) Tryd.underlying9 rfl ⟨rfl, Fr.refl _ _⟩) (HW.op rfl (fun w1 H1 => op_neqStr rfl rfl ⟨rfl, Fr.refl _ _⟩) (HW.op rfl (fun w1 H1 => op_move rfl ⟨rfl, Fr.refl _ _⟩) (HW.yes rfl rfl rfl hb43 (fun w1 H1 => op_move rfl ⟨rfl, Fr.refl _ _⟩) (HW.yes rfl rfl rfl hb43 (fun w1 H1 => op_move rfl ⟨rfl, Fr.refl _ _⟩) (HW.yes rfl rfl rfl hb43 (fun w1 H1 => op_indexAddr Tryd.underlying48 Fa.I65 rfl (H1.arr hA) rfl (by omega) ⟨rfl, Fr.refl _ _⟩) (HW.yes rfl rfl rfl hb43 (fun w1 H1 => op_fieldAddrS rfl Fa.F65_0 ⟨rfl, Fr.refl _ _⟩) (HW.yes rfl rfl rfl hb43 (fun w1 H1 => op_load rfl (Arr.atF (k := 0) (H1.arr hA) (fun _ => rfl) (by decide) Ln.zero (by omega) rfl) Tryd.underlying9 rfl ⟨rfl, Fr.refl _ _⟩) (HW.yes rfl rfl rfl hb43 (fun w1 H1 => op_move rfl ⟨rfl, Fr.refl _ _⟩) (HW.yes rfl rfl rfl hb43 (fun w1 H1 => op_move rfl ⟨rfl, Fr.refl _ _⟩) (HW.yes rfl rfl rfl hb43 (fun w1 H1 => op_indexAddr Tryd.underlying48 Fa.I65 rfl (H1.arr hA) rfl (by omega) ⟨rfl, Fr.refl _ _⟩) (HW.yes rfl rfl rfl hb43 (fun w1 H1 => op_fieldAddrS rfl Fa.F65_2 ⟨rfl, Fr.refl _ _⟩) (HW.yes rfl rfl rfl hb43 (fun w1 H1 => op_load rfl (Arr.atF (k := 6) (H1.arr hA) (fun _ => rfl) (by decide) Ln.zero (by omega) rfl) Tryd.underlying9 rfl ⟨rfl, Fr.refl _ _⟩) (HW.yes rfl rfl rfl hb43 (fun w1 H1 => op_eqlStr rfl rfl ⟨rfl, Fr.refl _ _⟩) (HW.op rfl (fun w1 H1 => op_pickT rfl hb43 rfl ⟨rfl, Fr.refl _ _⟩)  HW.nil))))))))))))))))))) (by kernel_rfl) ?_
                  intro β44 w44 H44
                  refine WL.nil ?_
                  refine WQ.next ?_
                  refine WC.cond rfl (fun (hb45 : (decide ((l.getD m Ln.zero).lb = (l.getD i Ln.zero).to)) = true) => ?_) (fun (hb45 : (decide ((l.getD m Ln.zero).lb = (l.getD i Ln.zero).to)) = false) => ?_)
                  ·
                    have hc45 := of_decide_eq_true hb45
                    refine WC.region ?_
                    refine WL.op rfl rfl (op_move rfl ?_)
                    refine WL.op rfl rfl (op_move rfl ?_)
                    refine WL.op rfl rfl (op_mulN (a := 8) rfl rfl (by omega) ?_)
                    refine WL.op rfl rfl (op_convNU32 (hs := Tryd.underlying3) (hd := Tryd.underlying22) rfl ?_)
                    refine WL.op rfl rfl (op_addU32 rfl rfl ?_)
                    refine WL.op rfl rfl (op_fieldAddr rfl Fa.F61_4 ?_)
                    refine WL.op rfl rfl (op_storeB (i := 5) H44 rfl rfl rfl rfl rfl Fa.I22 (fun w46 H46 => ?_))
                    refine WL.nil ?_
                    refine WQ.inNormal ?_
                    refine WQ.next ?_
                    refine WC.region ?_
                    refine WL.op rfl rfl (op_move rfl ?_)
                    refine WL.op rfl rfl (op_addN (b := 1) rfl rfl (by omega) ?_)
                    refine WL.op rfl rfl (op_assign rfl ?_)
                    refine WL.nil ?_
                    exact WQ.round (m + 1) ⟨(by omega), (by have h := (show Own [] w w46 [.row y4.rv 44 4 y4.rl.length (List.flatMap rlc y4.rl), .row y4.nv 68 3 y4.nt.length (List.flatMap ntc y4.nt), .blk b5 [(str y4.nm), (vU8 y4.bind), (vU8 y4.kind), (vU32 y4.size), (str y4.b), y4.rv, y4.nv] 26, .row v10 5 1 (8 * l.length) (List.map vU8 (wtN l own oth l.length)), .blk b26 [(vU8 (decOp (((wtN l own oth l.length).drop (8 * i)).take (((8 * i) + 8) - (8 * i))))), (vU8 (decD (((wtN l own oth l.length).drop (8 * i)).take (((8 * i) + 8) - (8 * i))))), (vU8 (decA (((wtN l own oth l.length).drop (8 * i)).take (((8 * i) + 8) - (8 * i))))), (vU8 (decBr (((wtN l own oth l.length).drop (8 * i)).take (((8 * i) + 8) - (8 * i))))), (vU32 (decI (((wtN l own oth l.length).drop (8 * i)).take (((8 * i) + 8) - (8 * i)))))] 61, .blk b28 [(vU8 (l.getD i Ln.zero).op), (vU8 (l.getD i Ln.zero).d), (vU8 (l.getD i Ln.zero).a), (vU8 (l.getD i Ln.zero).b), (vU32 (own + (UInt32.ofNat (8 * m))))] 61] from H46); rw [want_hit hdup (by omega) hb43 hb45] at h; exact h)⟩ ⟨rfl, rfl, rfl, rfl, rfl, rfl, rfl, rfl, rfl, trivial⟩ (by omega)
                  ·
                    have hc45 := of_decide_eq_false hb45
                    refine WC.skip ?_
                    refine WQ.inNormal ?_
                    refine WQ.next ?_
                    refine WC.region ?_
                    refine WL.op rfl rfl (op_move rfl ?_)
                    refine WL.op rfl rfl (op_addN (b := 1) rfl rfl (by omega) ?_)
                    refine WL.op rfl rfl (op_assign rfl ?_)
                    refine WL.nil ?_
                    exact WQ.round (m + 1) ⟨(by omega), (by have h := (show Own [] w w44 [.row y4.rv 44 4 y4.rl.length (List.flatMap rlc y4.rl), .row y4.nv 68 3 y4.nt.length (List.flatMap ntc y4.nt), .blk b5 [(str y4.nm), (vU8 y4.bind), (vU8 y4.kind), (vU32 y4.size), (str y4.b), y4.rv, y4.nv] 26, .row v10 5 1 (8 * l.length) (List.map vU8 (wtN l own oth l.length)), .blk b26 [(vU8 (decOp (((wtN l own oth l.length).drop (8 * i)).take (((8 * i) + 8) - (8 * i))))), (vU8 (decD (((wtN l own oth l.length).drop (8 * i)).take (((8 * i) + 8) - (8 * i))))), (vU8 (decA (((wtN l own oth l.length).drop (8 * i)).take (((8 * i) + 8) - (8 * i))))), (vU8 (decBr (((wtN l own oth l.length).drop (8 * i)).take (((8 * i) + 8) - (8 * i))))), (vU32 (decI (((wtN l own oth l.length).drop (8 * i)).take (((8 * i) + 8) - (8 * i)))))] 61, .blk b28 [(vU8 (l.getD i Ln.zero).op), (vU8 (l.getD i Ln.zero).d), (vU8 (l.getD i Ln.zero).a), (vU8 (l.getD i Ln.zero).b), (vU32 (wantTo l own oth i m))] 61] from H44); rw [want_skip hb45] at h; exact h)⟩ ⟨rfl, rfl, rfl, rfl, rfl, rfl, rfl, rfl, rfl, trivial⟩ (by omega)
                ·
                  have hc43 := of_decide_eq_false hb43
                  refine WC.draw 19 Fa.M H41 (HW.op rfl (fun w1 H1 => op_move rfl ⟨rfl, Fr.refl _ _⟩) (HW.op rfl (fun w1 H1 => op_move rfl ⟨rfl, Fr.refl _ _⟩) (HW.op rfl (fun w1 H1 => op_indexAddr Tryd.underlying48 Fa.I65 rfl (H1.arr hA) rfl (by omega) ⟨rfl, Fr.refl _ _⟩) (HW.op rfl (fun w1 H1 => op_fieldAddrS rfl Fa.F65_2 ⟨rfl, Fr.refl _ _⟩) (HW.op rfl (fun w1 H1 => op_load rfl (Arr.atF (k := 6) (H1.arr hA) (fun _ => rfl) (by decide) Ln.zero (by omega) rfl) Tryd.underlying9 rfl ⟨rfl, Fr.refl _ _⟩) (HW.op rfl (fun w1 H1 => op_neqStr rfl rfl ⟨rfl, Fr.refl _ _⟩) (HW.op rfl (fun w1 H1 => op_move rfl ⟨rfl, Fr.refl _ _⟩) (HW.no rfl rfl rfl hb43 (HW.no rfl rfl rfl hb43 (HW.no rfl rfl rfl hb43 (HW.no rfl rfl rfl hb43 (HW.no rfl rfl rfl hb43 (HW.no rfl rfl rfl hb43 (HW.no rfl rfl rfl hb43 (HW.no rfl rfl rfl hb43 (HW.no rfl rfl rfl hb43 (HW.no rfl rfl rfl hb43 (HW.no rfl rfl rfl hb43 (HW.op rfl (fun w1 H1 => op_pickF rfl hb43 rfl ⟨rfl, Fr.refl _ _⟩)  HW.nil))))))))))))))))))) (by kernel_rfl) ?_
                  intro β47 w47 H47
                  refine WL.nil ?_
                  refine WQ.next ?_
                  refine WC.no rfl rfl ?_
                  refine WC.skip ?_
                  refine WQ.inNormal ?_
                  refine WQ.next ?_
                  refine WC.region ?_
                  refine WL.op rfl rfl (op_move rfl ?_)
                  refine WL.op rfl rfl (op_addN (b := 1) rfl rfl (by omega) ?_)
                  refine WL.op rfl rfl (op_assign rfl ?_)
                  refine WL.nil ?_
                  exact WQ.round (m + 1) ⟨(by omega), (by have h := (show Own [] w w47 [.row y4.rv 44 4 y4.rl.length (List.flatMap rlc y4.rl), .row y4.nv 68 3 y4.nt.length (List.flatMap ntc y4.nt), .blk b5 [(str y4.nm), (vU8 y4.bind), (vU8 y4.kind), (vU32 y4.size), (str y4.b), y4.rv, y4.nv] 26, .row v10 5 1 (8 * l.length) (List.map vU8 (wtN l own oth l.length)), .blk b26 [(vU8 (decOp (((wtN l own oth l.length).drop (8 * i)).take (((8 * i) + 8) - (8 * i))))), (vU8 (decD (((wtN l own oth l.length).drop (8 * i)).take (((8 * i) + 8) - (8 * i))))), (vU8 (decA (((wtN l own oth l.length).drop (8 * i)).take (((8 * i) + 8) - (8 * i))))), (vU8 (decBr (((wtN l own oth l.length).drop (8 * i)).take (((8 * i) + 8) - (8 * i))))), (vU32 (decI (((wtN l own oth l.length).drop (8 * i)).take (((8 * i) + 8) - (8 * i)))))] 61, .blk b28 [(vU8 (l.getD i Ln.zero).op), (vU8 (l.getD i Ln.zero).d), (vU8 (l.getD i Ln.zero).a), (vU8 (l.getD i Ln.zero).b), (vU32 (wantTo l own oth i m))] 61] from H47); rw [want_same hb43] at h; exact h)⟩ ⟨rfl, rfl, rfl, rfl, rfl, rfl, rfl, rfl, rfl, trivial⟩ (by omega)
              ·
                have hc42 := of_decide_eq_false hb42
                have hm : m = l.length := by omega
                have hS : ((wtN l own oth l.length).drop (8 * i)).take (8 * i + 8 - 8 * i) = encS (l.getD i Ln.zero).op (l.getD i Ln.zero).d (l.getD i Ln.zero).a (l.getD i Ln.zero).b (wantTo l own oth i m) := by rw [hm, Nat.add_sub_cancel_left]; exact wt_get (own := own) (oth := oth) hall (by omega)
                have hE : encE (l.getD i Ln.zero).op (l.getD i Ln.zero).d (l.getD i Ln.zero).a (l.getD i Ln.zero).b (wantTo l own oth i m) = 0 := by rw [hm]; exact want_dec (own := own) (oth := oth) hall (show i < l.length by omega)
                refine WC.exit ?_
                refine WQ.thenExit ?_
                refine WQ.thenExit ?_
                refine WQ.inHere ?_
                refine WQ.next ?_
                refine WC.seq ?_
                refine WC.region ?_
                refine WL.op rfl rfl (op_move rfl ?_)
                refine WL.op rfl rfl (op_neqN (b := 0) rfl rfl ?_)
                refine WL.op rfl rfl (op_move rfl ?_)
                refine WL.yes rfl rfl rfl (by rw [hS]; exact back1_e hE) rfl (op_loadS (vs := [_, _, _, _, _]) rfl (H41.cells (i := 4) rfl rfl) Tryd.underlying61 rfl Fa.I61 rfl ?_)
                refine WL.yes rfl rfl rfl (by rw [hS]; exact back1_e hE) rfl (op_loadS (vs := [_, _, _, _, _]) rfl (H41.cells (i := 5) rfl rfl) Tryd.underlying61 rfl Fa.I61 rfl ?_)
                refine WL.yes rfl rfl rfl (by rw [hS]; exact back1_e hE) rfl (op_neqS (xs := [_, _, _, _, _]) (ys := [_, _, _, _, _]) (b := (!((decide ((decOp (((wtN l own oth l.length).drop (8 * i)).take (((8 * i) + 8) - (8 * i)))) = (l.getD i Ln.zero).op)) && ((decide ((decD (((wtN l own oth l.length).drop (8 * i)).take (((8 * i) + 8) - (8 * i)))) = (l.getD i Ln.zero).d)) && ((decide ((decA (((wtN l own oth l.length).drop (8 * i)).take (((8 * i) + 8) - (8 * i)))) = (l.getD i Ln.zero).a)) && ((decide ((decBr (((wtN l own oth l.length).drop (8 * i)).take (((8 * i) + 8) - (8 * i)))) = (l.getD i Ln.zero).b)) && (decide ((decI (((wtN l own oth l.length).drop (8 * i)).take (((8 * i) + 8) - (8 * i)))) = (wantTo l own oth i m))))))))) Fa.FL61 rfl rfl rfl (by simp [eqAll, veqU32, veqU8]) ?_)
                refine WL.op rfl rfl (op_pickF rfl (by rw [hS]; exact back1_e hE) rfl ?_)
                refine WL.nil ?_
                refine WQ.next ?_
                refine WC.no rfl (by rw [hS]; exact back1_ne hE) ?_
                refine WC.skip ?_
                refine WQ.inNormal ?_
                refine WQ.next ?_
                refine WC.region ?_
                refine WL.op rfl rfl (op_move rfl ?_)
                refine WL.op rfl rfl (op_addN (b := 1) rfl rfl (by omega) ?_)
                refine WL.op rfl rfl (op_assign rfl ?_)
                refine WL.nil ?_
                exact WQ.round (i + 1) ⟨(by omega), (H41.take 4)⟩ ⟨rfl, rfl, rfl, rfl, rfl, trivial⟩ (by omega)
          ·
            have hc30 := of_decide_eq_false hb30
            refine WC.skip ?_
            refine WQ.next ?_
            refine WC.seq ?_
            refine WC.seq ?_
            refine WC.region ?_
            refine WL.op rfl rfl (op_assign rfl ?_)
            refine WL.nil ?_
            refine WQ.next ?_
            refine WC.block ?_
            refine WC.loop (α := Nat) (fun m => [(0, lv), (1, (vU32 own)), (2, (vU32 oth)), (9, v10), (14, (vN i)), (15, (ptr b26 0)), (16, (vN (decE (((wtN l own oth l.length).drop (8 * i)).take (((8 * i) + 8) - (8 * i)))))), (17, (ptr b28 0)), (18, (vN m))]) (fun m w' => (m ≤ l.length) ∧ Own [] w w' [.row y4.rv 44 4 y4.rl.length (List.flatMap rlc y4.rl), .row y4.nv 68 3 y4.nt.length (List.flatMap ntc y4.nt), .blk b5 [(str y4.nm), (vU8 y4.bind), (vU8 y4.kind), (vU32 y4.size), (str y4.b), y4.rv, y4.nv] 26, .row v10 5 1 (8 * l.length) (List.map vU8 (wtN l own oth l.length)), .blk b26 [(vU8 (decOp (((wtN l own oth l.length).drop (8 * i)).take (((8 * i) + 8) - (8 * i))))), (vU8 (decD (((wtN l own oth l.length).drop (8 * i)).take (((8 * i) + 8) - (8 * i))))), (vU8 (decA (((wtN l own oth l.length).drop (8 * i)).take (((8 * i) + 8) - (8 * i))))), (vU8 (decBr (((wtN l own oth l.length).drop (8 * i)).take (((8 * i) + 8) - (8 * i))))), (vU32 (decI (((wtN l own oth l.length).drop (8 * i)).take (((8 * i) + 8) - (8 * i)))))] 61, .blk b28 [(vU8 (l.getD i Ln.zero).op), (vU8 (l.getD i Ln.zero).d), (vU8 (l.getD i Ln.zero).a), (vU8 (l.getD i Ln.zero).b), (vU32 (wantTo l own oth i m))] 61]) (fun m => l.length - m) 0 ⟨(Nat.zero_le _), (by have h := H29; rw [show (l.getD i Ln.zero).imm = wantTo l own oth i 0 from (wantB_no hb30).trans want_0.symm] at h; exact h)⟩ ⟨rfl, rfl, rfl, rfl, rfl, rfl, rfl, rfl, rfl, trivial⟩ ?_
            rintro m w48 ⟨hm1, H48⟩
            show WC _ _ _ _ _ [(0, lv), (1, (vU32 own)), (2, (vU32 oth)), (9, v10), (14, (vN i)), (15, (ptr b26 0)), (16, (vN (decE (((wtN l own oth l.length).drop (8 * i)).take (((8 * i) + 8) - (8 * i)))))), (17, (ptr b28 0)), (18, (vN m))] _
            refine WC.seq ?_
            refine WC.seq ?_
            refine WC.region ?_
            refine WL.op rfl rfl (op_move rfl ?_)
            refine WL.op rfl rfl (op_move rfl ?_)
            refine WL.op rfl rfl (op_lenA Tryd.underlying48 rfl (H48.arr hA) ?_)
            refine WL.op rfl rfl (op_lssN rfl rfl ?_)
            refine WL.nil ?_
            refine WQ.next ?_
            refine WC.cond rfl (fun (hb49 : (decide (m < l.length)) = true) => ?_) (fun (hb49 : (decide (m < l.length)) = false) => ?_)
            ·
              have hc49 := of_decide_eq_true hb49
              refine WC.skip ?_
              refine WQ.next ?_
              refine WC.seq ?_
              refine WC.block ?_
              refine WC.seq ?_
              refine bsplit (fun (hb50 : (decide ((l.getD i Ln.zero).to ≠ [])) = true) => ?_) (fun (hb50 : (decide ((l.getD i Ln.zero).to ≠ [])) = false) => ?_)
              ·
                have hc50 := of_decide_eq_true hb50
                refine WC.draw 19 Fa.M H48 (HW.op rfl (fun w1 H1 => op_move rfl ⟨rfl, Fr.refl _ _⟩) (HW.op rfl (fun w1 H1 => op_move rfl ⟨rfl, Fr.refl _ _⟩) (HW.op rfl (fun w1 H1 => op_indexAddr Tryd.underlying48 Fa.I65 rfl (H1.arr hA) rfl (by omega) ⟨rfl, Fr.refl _ _⟩) (HW.op rfl (fun w1 H1 => op_fieldAddrS rfl Fa.F65_2 ⟨rfl, Fr.refl _ _⟩) (HW.op rfl (fun w1 H1 => op_load rfl (Arr.atF (k := 6) (H1.arr hA) (fun _ => rfl) (by decide) Ln.zero (by omega) rfl) Tryd.underlying9 rfl ⟨rfl, Fr.refl _ _⟩) (HW.op rfl (fun w1 H1 => op_neqStr rfl rfl ⟨rfl, Fr.refl _ _⟩) (HW.op rfl (fun w1 H1 => op_move rfl ⟨rfl, Fr.refl _ _⟩) (HW.yes rfl rfl rfl hb50 (fun w1 H1 => op_move rfl ⟨rfl, Fr.refl _ _⟩) (HW.yes rfl rfl rfl hb50 (fun w1 H1 => op_move rfl ⟨rfl, Fr.refl _ _⟩) (HW.yes rfl rfl rfl hb50 (fun w1 H1 => op_indexAddr Tryd.underlying48 Fa.I65 rfl (H1.arr hA) rfl (by omega) ⟨rfl, Fr.refl _ _⟩) (HW.yes rfl rfl rfl hb50 (fun w1 H1 => op_fieldAddrS rfl Fa.F65_0 ⟨rfl, Fr.refl _ _⟩) (HW.yes rfl rfl rfl hb50 (fun w1 H1 => op_load rfl (Arr.atF (k := 0) (H1.arr hA) (fun _ => rfl) (by decide) Ln.zero (by omega) rfl) Tryd.underlying9 rfl ⟨rfl, Fr.refl _ _⟩) (HW.yes rfl rfl rfl hb50 (fun w1 H1 => op_move rfl ⟨rfl, Fr.refl _ _⟩) (HW.yes rfl rfl rfl hb50 (fun w1 H1 => op_move rfl ⟨rfl, Fr.refl _ _⟩) (HW.yes rfl rfl rfl hb50 (fun w1 H1 => op_indexAddr Tryd.underlying48 Fa.I65 rfl (H1.arr hA) rfl (by omega) ⟨rfl, Fr.refl _ _⟩) (HW.yes rfl rfl rfl hb50 (fun w1 H1 => op_fieldAddrS rfl Fa.F65_2 ⟨rfl, Fr.refl _ _⟩) (HW.yes rfl rfl rfl hb50 (fun w1 H1 => op_load rfl (Arr.atF (k := 6) (H1.arr hA) (fun _ => rfl) (by decide) Ln.zero (by omega) rfl) Tryd.underlying9 rfl ⟨rfl, Fr.refl _ _⟩) (HW.yes rfl rfl rfl hb50 (fun w1 H1 => op_eqlStr rfl rfl ⟨rfl, Fr.refl _ _⟩) (HW.op rfl (fun w1 H1 => op_pickT rfl hb50 rfl ⟨rfl, Fr.refl _ _⟩)  HW.nil))))))))))))))))))) (by kernel_rfl) ?_
                intro β51 w51 H51
                refine WL.nil ?_
                refine WQ.next ?_
                refine WC.cond rfl (fun (hb52 : (decide ((l.getD m Ln.zero).lb = (l.getD i Ln.zero).to)) = true) => ?_) (fun (hb52 : (decide ((l.getD m Ln.zero).lb = (l.getD i Ln.zero).to)) = false) => ?_)
                ·
                  have hc52 := of_decide_eq_true hb52
                  refine WC.region ?_
                  refine WL.op rfl rfl (op_move rfl ?_)
                  refine WL.op rfl rfl (op_move rfl ?_)
                  refine WL.op rfl rfl (op_mulN (a := 8) rfl rfl (by omega) ?_)
                  refine WL.op rfl rfl (op_convNU32 (hs := Tryd.underlying3) (hd := Tryd.underlying22) rfl ?_)
                  refine WL.op rfl rfl (op_addU32 rfl rfl ?_)
                  refine WL.op rfl rfl (op_fieldAddr rfl Fa.F61_4 ?_)
                  refine WL.op rfl rfl (op_storeB (i := 5) H51 rfl rfl rfl rfl rfl Fa.I22 (fun w53 H53 => ?_))
                  refine WL.nil ?_
                  refine WQ.inNormal ?_
                  refine WQ.next ?_
                  refine WC.region ?_
                  refine WL.op rfl rfl (op_move rfl ?_)
                  refine WL.op rfl rfl (op_addN (b := 1) rfl rfl (by omega) ?_)
                  refine WL.op rfl rfl (op_assign rfl ?_)
                  refine WL.nil ?_
                  exact WQ.round (m + 1) ⟨(by omega), (by have h := (show Own [] w w53 [.row y4.rv 44 4 y4.rl.length (List.flatMap rlc y4.rl), .row y4.nv 68 3 y4.nt.length (List.flatMap ntc y4.nt), .blk b5 [(str y4.nm), (vU8 y4.bind), (vU8 y4.kind), (vU32 y4.size), (str y4.b), y4.rv, y4.nv] 26, .row v10 5 1 (8 * l.length) (List.map vU8 (wtN l own oth l.length)), .blk b26 [(vU8 (decOp (((wtN l own oth l.length).drop (8 * i)).take (((8 * i) + 8) - (8 * i))))), (vU8 (decD (((wtN l own oth l.length).drop (8 * i)).take (((8 * i) + 8) - (8 * i))))), (vU8 (decA (((wtN l own oth l.length).drop (8 * i)).take (((8 * i) + 8) - (8 * i))))), (vU8 (decBr (((wtN l own oth l.length).drop (8 * i)).take (((8 * i) + 8) - (8 * i))))), (vU32 (decI (((wtN l own oth l.length).drop (8 * i)).take (((8 * i) + 8) - (8 * i)))))] 61, .blk b28 [(vU8 (l.getD i Ln.zero).op), (vU8 (l.getD i Ln.zero).d), (vU8 (l.getD i Ln.zero).a), (vU8 (l.getD i Ln.zero).b), (vU32 (own + (UInt32.ofNat (8 * m))))] 61] from H53); rw [want_hit hdup (by omega) hb50 hb52] at h; exact h)⟩ ⟨rfl, rfl, rfl, rfl, rfl, rfl, rfl, rfl, rfl, trivial⟩ (by omega)
                ·
                  have hc52 := of_decide_eq_false hb52
                  refine WC.skip ?_
                  refine WQ.inNormal ?_
                  refine WQ.next ?_
                  refine WC.region ?_
                  refine WL.op rfl rfl (op_move rfl ?_)
                  refine WL.op rfl rfl (op_addN (b := 1) rfl rfl (by omega) ?_)
                  refine WL.op rfl rfl (op_assign rfl ?_)
                  refine WL.nil ?_
                  exact WQ.round (m + 1) ⟨(by omega), (by have h := (show Own [] w w51 [.row y4.rv 44 4 y4.rl.length (List.flatMap rlc y4.rl), .row y4.nv 68 3 y4.nt.length (List.flatMap ntc y4.nt), .blk b5 [(str y4.nm), (vU8 y4.bind), (vU8 y4.kind), (vU32 y4.size), (str y4.b), y4.rv, y4.nv] 26, .row v10 5 1 (8 * l.length) (List.map vU8 (wtN l own oth l.length)), .blk b26 [(vU8 (decOp (((wtN l own oth l.length).drop (8 * i)).take (((8 * i) + 8) - (8 * i))))), (vU8 (decD (((wtN l own oth l.length).drop (8 * i)).take (((8 * i) + 8) - (8 * i))))), (vU8 (decA (((wtN l own oth l.length).drop (8 * i)).take (((8 * i) + 8) - (8 * i))))), (vU8 (decBr (((wtN l own oth l.length).drop (8 * i)).take (((8 * i) + 8) - (8 * i))))), (vU32 (decI (((wtN l own oth l.length).drop (8 * i)).take (((8 * i) + 8) - (8 * i)))))] 61, .blk b28 [(vU8 (l.getD i Ln.zero).op), (vU8 (l.getD i Ln.zero).d), (vU8 (l.getD i Ln.zero).a), (vU8 (l.getD i Ln.zero).b), (vU32 (wantTo l own oth i m))] 61] from H51); rw [want_skip hb52] at h; exact h)⟩ ⟨rfl, rfl, rfl, rfl, rfl, rfl, rfl, rfl, rfl, trivial⟩ (by omega)
              ·
                have hc50 := of_decide_eq_false hb50
                refine WC.draw 19 Fa.M H48 (HW.op rfl (fun w1 H1 => op_move rfl ⟨rfl, Fr.refl _ _⟩) (HW.op rfl (fun w1 H1 => op_move rfl ⟨rfl, Fr.refl _ _⟩) (HW.op rfl (fun w1 H1 => op_indexAddr Tryd.underlying48 Fa.I65 rfl (H1.arr hA) rfl (by omega) ⟨rfl, Fr.refl _ _⟩) (HW.op rfl (fun w1 H1 => op_fieldAddrS rfl Fa.F65_2 ⟨rfl, Fr.refl _ _⟩) (HW.op rfl (fun w1 H1 => op_load rfl (Arr.atF (k := 6) (H1.arr hA) (fun _ => rfl) (by decide) Ln.zero (by omega) rfl) Tryd.underlying9 rfl ⟨rfl, Fr.refl _ _⟩) (HW.op rfl (fun w1 H1 => op_neqStr rfl rfl ⟨rfl, Fr.refl _ _⟩) (HW.op rfl (fun w1 H1 => op_move rfl ⟨rfl, Fr.refl _ _⟩) (HW.no rfl rfl rfl hb50 (HW.no rfl rfl rfl hb50 (HW.no rfl rfl rfl hb50 (HW.no rfl rfl rfl hb50 (HW.no rfl rfl rfl hb50 (HW.no rfl rfl rfl hb50 (HW.no rfl rfl rfl hb50 (HW.no rfl rfl rfl hb50 (HW.no rfl rfl rfl hb50 (HW.no rfl rfl rfl hb50 (HW.no rfl rfl rfl hb50 (HW.op rfl (fun w1 H1 => op_pickF rfl hb50 rfl ⟨rfl, Fr.refl _ _⟩)  HW.nil))))))))))))))))))) (by kernel_rfl) ?_
                intro β54 w54 H54
                refine WL.nil ?_
                refine WQ.next ?_
                refine WC.no rfl rfl ?_
                refine WC.skip ?_
                refine WQ.inNormal ?_
                refine WQ.next ?_
                refine WC.region ?_
                refine WL.op rfl rfl (op_move rfl ?_)
                refine WL.op rfl rfl (op_addN (b := 1) rfl rfl (by omega) ?_)
                refine WL.op rfl rfl (op_assign rfl ?_)
                refine WL.nil ?_
                exact WQ.round (m + 1) ⟨(by omega), (by have h := (show Own [] w w54 [.row y4.rv 44 4 y4.rl.length (List.flatMap rlc y4.rl), .row y4.nv 68 3 y4.nt.length (List.flatMap ntc y4.nt), .blk b5 [(str y4.nm), (vU8 y4.bind), (vU8 y4.kind), (vU32 y4.size), (str y4.b), y4.rv, y4.nv] 26, .row v10 5 1 (8 * l.length) (List.map vU8 (wtN l own oth l.length)), .blk b26 [(vU8 (decOp (((wtN l own oth l.length).drop (8 * i)).take (((8 * i) + 8) - (8 * i))))), (vU8 (decD (((wtN l own oth l.length).drop (8 * i)).take (((8 * i) + 8) - (8 * i))))), (vU8 (decA (((wtN l own oth l.length).drop (8 * i)).take (((8 * i) + 8) - (8 * i))))), (vU8 (decBr (((wtN l own oth l.length).drop (8 * i)).take (((8 * i) + 8) - (8 * i))))), (vU32 (decI (((wtN l own oth l.length).drop (8 * i)).take (((8 * i) + 8) - (8 * i)))))] 61, .blk b28 [(vU8 (l.getD i Ln.zero).op), (vU8 (l.getD i Ln.zero).d), (vU8 (l.getD i Ln.zero).a), (vU8 (l.getD i Ln.zero).b), (vU32 (wantTo l own oth i m))] 61] from H54); rw [want_same hb50] at h; exact h)⟩ ⟨rfl, rfl, rfl, rfl, rfl, rfl, rfl, rfl, rfl, trivial⟩ (by omega)
            ·
              have hc49 := of_decide_eq_false hb49
              have hm : m = l.length := by omega
              have hS : ((wtN l own oth l.length).drop (8 * i)).take (8 * i + 8 - 8 * i) = encS (l.getD i Ln.zero).op (l.getD i Ln.zero).d (l.getD i Ln.zero).a (l.getD i Ln.zero).b (wantTo l own oth i m) := by rw [hm, Nat.add_sub_cancel_left]; exact wt_get (own := own) (oth := oth) hall (by omega)
              have hE : encE (l.getD i Ln.zero).op (l.getD i Ln.zero).d (l.getD i Ln.zero).a (l.getD i Ln.zero).b (wantTo l own oth i m) = 0 := by rw [hm]; exact want_dec (own := own) (oth := oth) hall (show i < l.length by omega)
              refine WC.exit ?_
              refine WQ.thenExit ?_
              refine WQ.thenExit ?_
              refine WQ.inHere ?_
              refine WQ.next ?_
              refine WC.seq ?_
              refine WC.region ?_
              refine WL.op rfl rfl (op_move rfl ?_)
              refine WL.op rfl rfl (op_neqN (b := 0) rfl rfl ?_)
              refine WL.op rfl rfl (op_move rfl ?_)
              refine WL.yes rfl rfl rfl (by rw [hS]; exact back1_e hE) rfl (op_loadS (vs := [_, _, _, _, _]) rfl (H48.cells (i := 4) rfl rfl) Tryd.underlying61 rfl Fa.I61 rfl ?_)
              refine WL.yes rfl rfl rfl (by rw [hS]; exact back1_e hE) rfl (op_loadS (vs := [_, _, _, _, _]) rfl (H48.cells (i := 5) rfl rfl) Tryd.underlying61 rfl Fa.I61 rfl ?_)
              refine WL.yes rfl rfl rfl (by rw [hS]; exact back1_e hE) rfl (op_neqS (xs := [_, _, _, _, _]) (ys := [_, _, _, _, _]) (b := (!((decide ((decOp (((wtN l own oth l.length).drop (8 * i)).take (((8 * i) + 8) - (8 * i)))) = (l.getD i Ln.zero).op)) && ((decide ((decD (((wtN l own oth l.length).drop (8 * i)).take (((8 * i) + 8) - (8 * i)))) = (l.getD i Ln.zero).d)) && ((decide ((decA (((wtN l own oth l.length).drop (8 * i)).take (((8 * i) + 8) - (8 * i)))) = (l.getD i Ln.zero).a)) && ((decide ((decBr (((wtN l own oth l.length).drop (8 * i)).take (((8 * i) + 8) - (8 * i)))) = (l.getD i Ln.zero).b)) && (decide ((decI (((wtN l own oth l.length).drop (8 * i)).take (((8 * i) + 8) - (8 * i)))) = (wantTo l own oth i m))))))))) Fa.FL61 rfl rfl rfl (by simp [eqAll, veqU32, veqU8]) ?_)
              refine WL.op rfl rfl (op_pickF rfl (by rw [hS]; exact back1_e hE) rfl ?_)
              refine WL.nil ?_
              refine WQ.next ?_
              refine WC.no rfl (by rw [hS]; exact back1_ne hE) ?_
              refine WC.skip ?_
              refine WQ.inNormal ?_
              refine WQ.next ?_
              refine WC.region ?_
              refine WL.op rfl rfl (op_move rfl ?_)
              refine WL.op rfl rfl (op_addN (b := 1) rfl rfl (by omega) ?_)
              refine WL.op rfl rfl (op_assign rfl ?_)
              refine WL.nil ?_
              exact WQ.round (i + 1) ⟨(by omega), (H48.take 4)⟩ ⟨rfl, rfl, rfl, rfl, rfl, trivial⟩ (by omega)
        ·
          have hc24 := of_decide_eq_false hb24
          refine WC.exit ?_
          refine WQ.thenExit ?_
          refine WQ.thenExit ?_
          refine WQ.inHere ?_
          refine WQ.next ?_
          refine WC.seq ?_
          refine WC.region ?_
          refine WL.op rfl rfl (op_callF Fa.C21 rfl ((alive10_ok _).mono (fun e w55 hq => ?_)))
          obtain ⟨rfl, hf55⟩ := hq
          refine ⟨_, rfl, ?_⟩
          have H55 := H23.fr' hf55
          refine WL.op rfl rfl (op_assign rfl ?_)
          refine WL.nil ?_
          refine WQ.next ?_
          refine WC.ret ?_
          refine WQ.out (.tmp rfl .nil) ?_
          exact ⟨rfl, H55.fr⟩
end Go.Proofs.YtnngbnenekjffaaDoor
