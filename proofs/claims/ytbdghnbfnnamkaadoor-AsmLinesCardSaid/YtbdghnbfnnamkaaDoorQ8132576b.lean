/- General lemmas and walks: DAsm3, DAsm4, DAsm5, DAsm6, DAsm10. No condition but what each theorem names. -/
import Derived.Test.YtbdghnbfnnamkaaDoorQf553d796
import Derived.Test.YtbdghnbfnnamkaaDoorQ7c8c4c4f
import Derived.Test.YtbdghnbfnnamkaaDoorQ94955992
/-! from DAsm3 -/
namespace Go.Proofs.YtbdghnbfnnamkaaDoor
open Go.Owl Go.Spec
set_option maxRecDepth 100000 in
theorem lay_ok (q : Nat) (n0 : List UInt8) (c1 c2 c3 : Value) (bs : List UInt8) (v c6 : Value) (rl : List Rl) (b : Nat) (m : List (List UInt8 × UInt32)) (x : Ln) (FT : TypeId) (T : List Nat) (w : World) (H : Own T w w [.blk q [(str n0), c1, c2, c3, (str bs), v, c6, (.map (some b))] FT, .row v 52 4 rl.length (List.flatMap rlc rl), .obj b (mO vU32 m)]) (hn : rl.length < 2 ^ 40) (hbs : bs.length < 2 ^ 39) :
    Calls Tryd.prog 30 #[(ptr q 0), (.agg #[(str x.lb), (vU8 x.op), (vU8 x.d), (vU8 x.a), (vU8 x.b), (vU32 x.imm), (str x.to), (str x.nm)])] w (fun e w' => ∃ v', e = .returned (vN (layE m x)) ∧ Own T w w' [.blk q [str n0, c1, c2, c3, str (layB bs m x), v', c6, .map (some b)] FT, .row v' 52 4 (layR n0 bs rl m x).length (List.flatMap rlc (layR n0 bs rl m x)), .obj b (mO vU32 m)]) := by
  refine enter (args := [(ptr q 0), (.agg #[(str x.lb), (vU8 x.op), (vU8 x.d), (vU8 x.a), (vU8 x.b), (vU32 x.imm), (str x.to), (str x.nm)])]) Tryd.func30 rfl rfl ?_
  refine WC.seq ?_
  refine WC.region ?_
  refine WL.op rfl rfl (op_box H rfl rfl (fun b1 w1 H1 => ?_))
  refine WL.op rfl rfl (op_assign rfl ?_)
  refine WL.nil ?_
  refine WQ.next ?_
  refine WC.seq ?_
  refine WC.block ?_
  refine WC.seq ?_
  refine WC.region ?_
  refine WL.op rfl rfl (op_fieldAddr rfl Fa.F26_2 ?_)
  refine WL.op rfl rfl (op_load rfl (H1.cell (i := 3) rfl rfl) Tryd.underlying9 rfl ?_)
  refine WL.op rfl rfl (op_neqStr rfl rfl ?_)
  refine WL.op rfl rfl (op_assign rfl ?_)
  refine WL.nil ?_
  refine WQ.next ?_
  refine WC.cond rfl (fun (hb2 : (decide (x.to ≠ [])) = true) => ?_) (fun (hb2 : (decide (x.to ≠ [])) = false) => ?_)
  ·
    have hc2 := of_decide_eq_true hb2
    refine WC.seq ?_
    refine WC.draw 12 Fa.M H1 (HW.op rfl (fun w1 H1 => op_move rfl ⟨rfl, Fr.refl _ _⟩) (HW.op rfl (fun w1 H1 => op_nilCheck rfl ⟨rfl, Fr.refl _ _⟩) (HW.op rfl (fun w1 H1 => op_fieldAddr rfl Fa.F62_1 ⟨rfl, Fr.refl _ _⟩) (HW.op rfl (fun w1 H1 => op_load rfl (H1.cell (i := 0) rfl rfl) Tryd.underlying60 rfl ⟨rfl, Fr.refl _ _⟩) (HW.op rfl (fun w1 H1 => op_fieldAddr rfl Fa.F26_2 ⟨rfl, Fr.refl _ _⟩) (HW.op rfl (fun w1 H1 => op_load rfl (H1.cell (i := 3) rfl rfl) Tryd.underlying9 rfl ⟨rfl, Fr.refl _ _⟩) (HW.op rfl (fun w1 H1 => op_lookupG (i := 2) (c := 0) H1 rfl Tryd.underlying60 Tryd.underlying9 Fa.Z22 rfl rfl ⟨rfl, Fr.refl _ _⟩) (HW.op rfl (fun w1 H1 => op_move rfl ⟨rfl, Fr.refl _ _⟩) (HW.op rfl (fun w1 H1 => op_extract rfl rfl ⟨rfl, Fr.refl _ _⟩) (HW.op rfl (fun w1 H1 => op_extract rfl rfl ⟨rfl, Fr.refl _ _⟩) (HW.op rfl (fun w1 H1 => op_assign rfl ⟨rfl, Fr.refl _ _⟩) (HW.op rfl (fun w1 H1 => op_assign rfl ⟨rfl, Fr.refl _ _⟩)  HW.nil)))))))))))) (by kernel_rfl) ?_
    intro β3 w3 H3
    refine WL.nil ?_
    refine WQ.next ?_
    refine WC.seq ?_
    refine WC.seq ?_
    refine WC.region ?_
    refine WL.op rfl rfl (op_move rfl ?_)
    refine WL.op rfl rfl (op_not rfl ?_)
    refine WL.nil ?_
    refine WQ.next ?_
    refine WC.cond rfl (fun (hb4 : (!(mget x.to m).isSome) = true) => ?_) (fun (hb4 : (!(mget x.to m).isSome) = false) => ?_)
    ·
      have hn4 := (Bool.not_eq_true' _).mp hb4
      refine WC.seq ?_
      refine WC.region ?_
      refine WL.op rfl rfl (op_assign rfl ?_)
      refine WL.nil ?_
      refine WQ.next ?_
      refine WC.ret ?_
      refine WQ.thenRet ?_
      refine WQ.inRet ?_
      refine WQ.thenRet ?_
      refine WQ.out (.tmp rfl .nil) ?_
      have hN : layN m x = true := by rw [layN, hb2, hn4]; rfl
      exact ⟨v, by rw [lay_E hN]; rfl, by rw [layB, hN, layR, hb2, hn4]; exact H3.sel [0, 1, 2] rfl rfl⟩
    ·
      have hn4 := (Bool.not_eq_false' _).mp hb4
      refine WC.skip ?_
      refine WQ.next ?_
      refine WC.seq ?_
      refine WC.region ?_
      refine WL.op rfl rfl (op_move rfl ?_)
      refine WL.op rfl rfl (op_move rfl ?_)
      refine WL.op rfl rfl (op_nilCheck rfl ?_)
      refine WL.op rfl rfl (op_fieldAddr rfl Fa.F62_0 ?_)
      refine WL.op rfl rfl (op_fieldAddr rfl Fa.F46_0 ?_)
      refine WL.op rfl rfl (op_load rfl (H3.cell (i := 0) rfl rfl) Tryd.underlying9 rfl ?_)
      refine WL.op rfl rfl (op_move rfl ?_)
      refine WL.op rfl rfl (op_callF Fa.C37 rfl ((place_ok q n0 c1 c2 c3 bs v c6 (.map (some b)) rl.length rl n0 ((mget x.to m).getD 0) FT _ _ (H3.part [0, 1] rfl rfl) hn (by omega)).mono (fun e w5 hq => ?_)))
      obtain ⟨v5, rfl, hq5⟩ := hq
      refine ⟨_, rfl, ?_⟩
      have H5 : Own T w w5 [.blk q [(str n0), c1, c2, c3, (str bs), v5, c6, (.map (some b))] FT, .row v5 52 4 (rl.length + 1) (List.flatMap rlc (rl ++ [⟨UInt32.ofNat bs.length + 4, 1, n0, ((mget x.to m).getD 0)⟩])), .obj b (mO vU32 m), .blk b1 [(str x.lb), (vU8 x.op), (vU8 x.d), (vU8 x.a), (vU8 x.b), (vU32 x.imm), (str x.to), (str x.nm)] 26] := H3.splice [0, 1] [.blk q [(str n0), c1, c2, c3, (str bs), v5, c6, (.map (some b))] FT, .row v5 52 4 (rl.length + 1) (List.flatMap rlc (rl ++ [⟨UInt32.ofNat bs.length + 4, 1, n0, ((mget x.to m).getD 0)⟩]))] [] rfl rfl hq5 (Fits.solid True.intro (Fits.solid True.intro Fits.nil))
      refine WL.nil ?_
      refine WQ.next ?_
      refine WC.region ?_
      refine WL.op rfl rfl (op_fieldAddr rfl Fa.F26_1 ?_)
      refine WL.op rfl rfl (op_fieldAddr rfl Fa.F24_4 ?_)
      refine WL.op rfl rfl (op_storeB (i := 3) H5 rfl rfl rfl rfl rfl Fa.I22 (fun w6 H6 => ?_))
      refine WL.nil ?_
      refine WQ.inNormal ?_
      refine WQ.next ?_
      refine WC.seq ?_
      refine WC.region ?_
      refine WL.op rfl rfl (op_fieldAddr rfl Fa.F26_1 ?_)
      refine WL.op rfl rfl (op_loadS (vs := [_, _, _, _, _]) rfl (H6.cells (i := 3) rfl rfl) Tryd.underlying24 rfl Fa.I24 rfl ?_)
      refine WL.op rfl rfl (op_callF Fa.C38 rfl ((encode_ok x.op x.d x.a x.b 0 _).mono (fun e w7 hq => ?_)))
      obtain ⟨rfl, hf7⟩ := hq
      refine ⟨_, rfl, ?_⟩
      have H7 := H6.fr' hf7
      refine WL.op rfl rfl (op_move rfl ?_)
      refine WL.op rfl rfl (op_extract rfl rfl ?_)
      refine WL.op rfl rfl (op_extract rfl rfl ?_)
      refine WL.op rfl rfl (op_assign rfl ?_)
      refine WL.op rfl rfl (op_assign rfl ?_)
      refine WL.nil ?_
      refine WQ.next ?_
      refine WC.seq ?_
      refine WC.region ?_
      refine WL.op rfl rfl (op_move rfl ?_)
      refine WL.op rfl rfl (op_nilCheck rfl ?_)
      refine WL.op rfl rfl (op_fieldAddr rfl Fa.F62_0 ?_)
      refine WL.op rfl rfl (op_fieldAddr rfl Fa.F46_4 ?_)
      refine WL.op rfl rfl (op_load rfl (H7.cell (i := 0) rfl rfl) Tryd.underlying9 rfl ?_)
      refine WL.op rfl rfl (op_move rfl ?_)
      refine WL.op rfl rfl (op_addStr rfl rfl (by have := encS_length x.op x.d x.a x.b 0; omega) ?_)
      refine WL.op rfl rfl (op_nilCheck rfl ?_)
      refine WL.op rfl rfl (op_fieldAddr rfl Fa.F62_0 ?_)
      refine WL.op rfl rfl (op_fieldAddr rfl Fa.F46_4 ?_)
      refine WL.op rfl rfl (op_storeB (i := 0) H7 rfl rfl rfl rfl rfl Fa.I9 (fun w8 H8 => ?_))
      refine WL.nil ?_
      refine WQ.next ?_
      refine WC.seq ?_
      refine WC.region ?_
      refine WL.op rfl rfl (op_move rfl ?_)
      refine WL.op rfl rfl (op_assign rfl ?_)
      refine WL.nil ?_
      refine WQ.next ?_
      refine WC.ret ?_
      refine WQ.out (.tmp rfl .nil) ?_
      have hN : layN m x = false := by (rw [layN, hb2, hn4]) <;> rfl
      have hI : bareI x = 0 := by (rw [bareI, show refB x = _ from ref_T hb2]) <;> rfl
      have hR : layR n0 bs rl m x = rl ++ [⟨UInt32.ofNat bs.length + 4, 1, n0, (mget x.to m).getD 0⟩] := by (rw [layR, hb2, hn4]) <;> rfl
      exact ⟨_, by rw [layE, hN, hI]; rfl, by rw [layB, hN, lnEnc, hI, hR, List.length_append]; exact H8.sel [0, 1, 2] rfl rfl⟩
  ·
    have hc2 := of_decide_eq_false hb2
    refine WC.seq ?_
    refine WC.region ?_
    refine WL.op rfl rfl (op_fieldAddr rfl Fa.F26_3 ?_)
    refine WL.op rfl rfl (op_load rfl (H1.cell (i := 3) rfl rfl) Tryd.underlying9 rfl ?_)
    refine WL.op rfl rfl (op_neqStr rfl rfl ?_)
    refine WL.op rfl rfl (op_assign rfl ?_)
    refine WL.nil ?_
    refine WQ.next ?_
    refine WC.cond rfl (fun (hb9 : (decide (x.nm ≠ [])) = true) => ?_) (fun (hb9 : (decide (x.nm ≠ [])) = false) => ?_)
    ·
      have hc9 := of_decide_eq_true hb9
      refine WC.seq ?_
      refine WC.region ?_
      refine WL.op rfl rfl (op_move rfl ?_)
      refine WL.op rfl rfl (op_fieldAddr rfl Fa.F26_3 ?_)
      refine WL.op rfl rfl (op_load rfl (H1.cell (i := 3) rfl rfl) Tryd.underlying9 rfl ?_)
      refine WL.op rfl rfl (op_fieldAddr rfl Fa.F26_1 ?_)
      refine WL.op rfl rfl (op_fieldAddr rfl Fa.F24_4 ?_)
      refine WL.op rfl rfl (op_load rfl (H1.cell (i := 3) rfl rfl) Tryd.underlying22 rfl ?_)
      refine WL.op rfl rfl (op_callF Fa.C37 rfl ((place_ok q n0 c1 c2 c3 bs v c6 (.map (some b)) rl.length rl x.nm x.imm FT _ _ (H1.part [0, 1] rfl rfl) hn (by omega)).mono (fun e w10 hq => ?_)))
      obtain ⟨v10, rfl, hq10⟩ := hq
      refine ⟨_, rfl, ?_⟩
      have H10 : Own T w w10 [.blk q [(str n0), c1, c2, c3, (str bs), v10, c6, (.map (some b))] FT, .row v10 52 4 (rl.length + 1) (List.flatMap rlc (rl ++ [⟨UInt32.ofNat bs.length + 4, 1, x.nm, x.imm⟩])), .obj b (mO vU32 m), .blk b1 [(str x.lb), (vU8 x.op), (vU8 x.d), (vU8 x.a), (vU8 x.b), (vU32 x.imm), (str x.to), (str x.nm)] 26] := H1.splice [0, 1] [.blk q [(str n0), c1, c2, c3, (str bs), v10, c6, (.map (some b))] FT, .row v10 52 4 (rl.length + 1) (List.flatMap rlc (rl ++ [⟨UInt32.ofNat bs.length + 4, 1, x.nm, x.imm⟩]))] [] rfl rfl hq10 (Fits.solid True.intro (Fits.solid True.intro Fits.nil))
      refine WL.nil ?_
      refine WQ.next ?_
      refine WC.region ?_
      refine WL.op rfl rfl (op_fieldAddr rfl Fa.F26_1 ?_)
      refine WL.op rfl rfl (op_fieldAddr rfl Fa.F24_4 ?_)
      refine WL.op rfl rfl (op_storeB (i := 3) H10 rfl rfl rfl rfl rfl Fa.I22 (fun w11 H11 => ?_))
      refine WL.nil ?_
      refine WQ.inNormal ?_
      refine WQ.next ?_
      refine WC.seq ?_
      refine WC.region ?_
      refine WL.op rfl rfl (op_fieldAddr rfl Fa.F26_1 ?_)
      refine WL.op rfl rfl (op_loadS (vs := [_, _, _, _, _]) rfl (H11.cells (i := 3) rfl rfl) Tryd.underlying24 rfl Fa.I24 rfl ?_)
      refine WL.op rfl rfl (op_callF Fa.C38 rfl ((encode_ok x.op x.d x.a x.b 0 _).mono (fun e w12 hq => ?_)))
      obtain ⟨rfl, hf12⟩ := hq
      refine ⟨_, rfl, ?_⟩
      have H12 := H11.fr' hf12
      refine WL.op rfl rfl (op_move rfl ?_)
      refine WL.op rfl rfl (op_extract rfl rfl ?_)
      refine WL.op rfl rfl (op_extract rfl rfl ?_)
      refine WL.op rfl rfl (op_assign rfl ?_)
      refine WL.op rfl rfl (op_assign rfl ?_)
      refine WL.nil ?_
      refine WQ.next ?_
      refine WC.seq ?_
      refine WC.region ?_
      refine WL.op rfl rfl (op_move rfl ?_)
      refine WL.op rfl rfl (op_nilCheck rfl ?_)
      refine WL.op rfl rfl (op_fieldAddr rfl Fa.F62_0 ?_)
      refine WL.op rfl rfl (op_fieldAddr rfl Fa.F46_4 ?_)
      refine WL.op rfl rfl (op_load rfl (H12.cell (i := 0) rfl rfl) Tryd.underlying9 rfl ?_)
      refine WL.op rfl rfl (op_move rfl ?_)
      refine WL.op rfl rfl (op_addStr rfl rfl (by have := encS_length x.op x.d x.a x.b 0; omega) ?_)
      refine WL.op rfl rfl (op_nilCheck rfl ?_)
      refine WL.op rfl rfl (op_fieldAddr rfl Fa.F62_0 ?_)
      refine WL.op rfl rfl (op_fieldAddr rfl Fa.F46_4 ?_)
      refine WL.op rfl rfl (op_storeB (i := 0) H12 rfl rfl rfl rfl rfl Fa.I9 (fun w13 H13 => ?_))
      refine WL.nil ?_
      refine WQ.next ?_
      refine WC.seq ?_
      refine WC.region ?_
      refine WL.op rfl rfl (op_move rfl ?_)
      refine WL.op rfl rfl (op_assign rfl ?_)
      refine WL.nil ?_
      refine WQ.next ?_
      refine WC.ret ?_
      refine WQ.out (.tmp rfl .nil) ?_
      have hN : layN m x = false := by (rw [layN, hb2]) <;> rfl
      have hI : bareI x = 0 := by (rw [bareI, show refB x = _ from ref_N hb9]) <;> rfl
      have hR : layR n0 bs rl m x = rl ++ [⟨UInt32.ofNat bs.length + 4, 1, x.nm, x.imm⟩] := by (rw [layR, hb2, hb9]) <;> rfl
      exact ⟨_, by rw [layE, hN, hI]; rfl, by rw [layB, hN, lnEnc, hI, hR, List.length_append]; exact H13.sel [0, 1, 2] rfl rfl⟩
    ·
      have hc9 := of_decide_eq_false hb9
      refine WC.skip ?_
      refine WQ.inNormal ?_
      refine WQ.next ?_
      refine WC.seq ?_
      refine WC.region ?_
      refine WL.op rfl rfl (op_fieldAddr rfl Fa.F26_1 ?_)
      refine WL.op rfl rfl (op_loadS (vs := [_, _, _, _, _]) rfl (H1.cells (i := 3) rfl rfl) Tryd.underlying24 rfl Fa.I24 rfl ?_)
      refine WL.op rfl rfl (op_callF Fa.C38 rfl ((encode_ok x.op x.d x.a x.b x.imm _).mono (fun e w14 hq => ?_)))
      obtain ⟨rfl, hf14⟩ := hq
      refine ⟨_, rfl, ?_⟩
      have H14 := H1.fr' hf14
      refine WL.op rfl rfl (op_move rfl ?_)
      refine WL.op rfl rfl (op_extract rfl rfl ?_)
      refine WL.op rfl rfl (op_extract rfl rfl ?_)
      refine WL.op rfl rfl (op_assign rfl ?_)
      refine WL.op rfl rfl (op_assign rfl ?_)
      refine WL.nil ?_
      refine WQ.next ?_
      refine WC.seq ?_
      refine WC.region ?_
      refine WL.op rfl rfl (op_move rfl ?_)
      refine WL.op rfl rfl (op_nilCheck rfl ?_)
      refine WL.op rfl rfl (op_fieldAddr rfl Fa.F62_0 ?_)
      refine WL.op rfl rfl (op_fieldAddr rfl Fa.F46_4 ?_)
      refine WL.op rfl rfl (op_load rfl (H14.cell (i := 0) rfl rfl) Tryd.underlying9 rfl ?_)
      refine WL.op rfl rfl (op_move rfl ?_)
      refine WL.op rfl rfl (op_addStr rfl rfl (by have := encS_length x.op x.d x.a x.b x.imm; omega) ?_)
      refine WL.op rfl rfl (op_nilCheck rfl ?_)
      refine WL.op rfl rfl (op_fieldAddr rfl Fa.F62_0 ?_)
      refine WL.op rfl rfl (op_fieldAddr rfl Fa.F46_4 ?_)
      refine WL.op rfl rfl (op_storeB (i := 0) H14 rfl rfl rfl rfl rfl Fa.I9 (fun w15 H15 => ?_))
      refine WL.nil ?_
      refine WQ.next ?_
      refine WC.seq ?_
      refine WC.region ?_
      refine WL.op rfl rfl (op_move rfl ?_)
      refine WL.op rfl rfl (op_assign rfl ?_)
      refine WL.nil ?_
      refine WQ.next ?_
      refine WC.ret ?_
      refine WQ.out (.tmp rfl .nil) ?_
      have hN : layN m x = false := by (rw [layN, hb2]) <;> rfl
      have hI : bareI x = x.imm := by (rw [bareI, show refB x = _ from (show refB x = false by (rw [refB, hb2, hb9]) <;> rfl)]) <;> rfl
      have hR : layR n0 bs rl m x = rl := by (rw [layR, hb2, hb9]) <;> rfl
      exact ⟨_, by rw [layE, hN, hI]; rfl, by rw [layB, hN, lnEnc, hI, hR]; exact H15.sel [0, 1, 2] rfl rfl⟩
end Go.Proofs.YtbdghnbfnnamkaaDoor
/-! from DAsm4 -/
namespace Go.Proofs.YtbdghnbfnnamkaaDoor
open Go.Owl Go.Spec
set_option maxHeartbeats 1000000 in
set_option maxRecDepth 100000 in
theorem amake_ok (nm : List UInt8) (bi : UInt8) (nv : Value) (nt : List Nt) (lv : Value) (l : List Ln) (w : World) (hA : Arr w lv 8 l.length (List.flatMap lnc l)) (hN : Arr w nv 3 nt.length (List.flatMap ntc nt)) (hnm : nm.length < 2 ^ 47) (hfx : ∀ k, (l.getD k Ln.zero).lb.length < 2 ^ 47 ∧ (l.getD k Ln.zero).to.length < 2 ^ 47 ∧ (l.getD k Ln.zero).nm.length < 2 ^ 47) (hln : l.length < 2 ^ 40) (hnt : nt.length < 2 ^ 40) :
    Calls Tryd.prog 22 #[(str nm), (vU8 bi), nv, lv] w (fun e w' => ∃ y : Sy, e = .returned (.tuple #[.agg #[str y.nm, vU8 y.bind, vU8 y.kind, vU32 y.size, str y.b, y.rv, y.nv], vN (mkE nm bi nt l)]) ∧ y.bare = mkS nm bi nt l ∧ Own [] w w' [.row y.rv 52 4 y.rl.length (List.flatMap rlc y.rl), .row y.nv 59 3 y.nt.length (List.flatMap ntc y.nt)]) := by
  refine enter (args := [(str nm), (vU8 bi), nv, lv]) Tryd.func22 rfl rfl ?_
  have H0 : Own [] w w [] := Own.start w []
  refine WC.seq ?_
  refine WC.region ?_
  refine WL.op rfl rfl (op_alloc H0 Fa.I46 (fun b1 w1 H1 => ?_))
  refine WL.op rfl rfl (op_assign rfl ?_)
  refine WL.nil ?_
  refine WQ.next ?_
  refine WC.seq ?_
  refine WC.seq ?_
  refine WC.region ?_
  refine WL.op rfl rfl (op_move rfl ?_)
  refine WL.op rfl rfl (op_lenA Tryd.underlying27 rfl (H1.arr hA) ?_)
  refine WL.op rfl rfl (op_gtrN (b := 1024) rfl rfl ?_)
  refine WL.nil ?_
  refine WQ.next ?_
  refine WC.cond rfl (fun (hb2 : (decide (l.length > 1024)) = true) => ?_) (fun (hb2 : (decide (l.length > 1024)) = false) => ?_)
  ·
    have hc2 := of_decide_eq_true hb2
    refine WC.seq ?_
    refine WC.region ?_
    refine WL.op rfl rfl (op_build (cs := [_, _, _, _, _, _, _]) Fa.I46 Fa.PL46 rfl rfl ?_)
    refine WL.op rfl rfl (op_storeBW (i := 0) H1 rfl rfl rfl rfl rfl Fa.I46 (fun w3 H3 => ?_))
    refine WL.op rfl rfl (op_assign rfl ?_)
    refine WL.nil ?_
    refine WQ.next ?_
    refine WC.ret ?_
    refine WQ.thenRet ?_
    refine WQ.out (.cell rfl (run_loadVarS (vs := [_, _, _, _, _, _, _]) (H3.cells (i := 0) rfl rfl) Tryd.underlying46 rfl Fa.I46 rfl) (.tmp rfl .nil)) ?_
    have he := mk_5 (nm := nm) (bi := bi) (nt := nt) hb2
    exact ⟨Sy.zero, by rw [he]; rfl, (mk_bad he (by decide)).symm, ((H3.sel [] rfl rfl).nilRow 52 4).nilRow 59 3⟩
  ·
    have hc2 := of_decide_eq_false hb2
    have hg1 := hb2
    refine WC.skip ?_
    refine WQ.next ?_
    refine WC.seq ?_
    refine WC.seq ?_
    refine WC.region ?_
    refine WL.op rfl rfl (op_move rfl ?_)
    refine WL.op rfl rfl (op_callF Fa.C25 rfl ((conL_ok _ l _ (H1.arr hA) hfx (by omega)).mono (fun e w4 hq => ?_)))
    obtain ⟨rfl, hf4⟩ := hq
    refine ⟨_, rfl, ?_⟩
    have H4 := H1.fr' hf4
    refine WL.nil ?_
    refine WQ.next ?_
    refine WC.cond rfl (fun (hb5 : (l.any (fun n => !lnMay n)) = true) => ?_) (fun (hb5 : (l.any (fun n => !lnMay n)) = false) => ?_)
    ·
      refine WC.seq ?_
      refine WC.region ?_
      refine WL.op rfl rfl (op_build (cs := [_, _, _, _, _, _, _]) Fa.I46 Fa.PL46 rfl rfl ?_)
      refine WL.op rfl rfl (op_storeBW (i := 0) H4 rfl rfl rfl rfl rfl Fa.I46 (fun w6 H6 => ?_))
      refine WL.op rfl rfl (op_assign rfl ?_)
      refine WL.nil ?_
      refine WQ.next ?_
      refine WC.ret ?_
      refine WQ.thenRet ?_
      refine WQ.out (.cell rfl (run_loadVarS (vs := [_, _, _, _, _, _, _]) (H6.cells (i := 0) rfl rfl) Tryd.underlying46 rfl Fa.I46 rfl) (.tmp rfl .nil)) ?_
      have he := mk_2 (nm := nm) (bi := bi) (nt := nt) hg1 hb5
      exact ⟨Sy.zero, by rw [he]; rfl, (mk_bad he (by decide)).symm, ((H6.sel [] rfl rfl).nilRow 52 4).nilRow 59 3⟩
    ·
      have hg2 := hb5
      have hall := all_may hg2
      refine WC.skip ?_
      refine WQ.next ?_
      refine WC.seq ?_
      refine WC.region ?_
      refine WL.op rfl rfl (op_move rfl ?_)
      refine WL.op rfl rfl (op_move rfl ?_)
      refine WL.op rfl rfl (op_move rfl ?_)
      refine WL.op rfl rfl (op_lenA Tryd.underlying27 rfl (H4.arr hA) ?_)
      refine WL.op rfl rfl (op_convNU32 (hs := Tryd.underlying3) (hd := Tryd.underlying22) rfl ?_)
      refine WL.op rfl rfl (op_mulU32 (b := 8) rfl rfl ?_)
      refine WL.op rfl rfl (op_move rfl ?_)
      refine WL.op rfl rfl (op_callF Fa.C28 rfl ((cloneN_ok _ nt _ (H4.arr hN) (by omega)).mono (fun e w7 hq => ?_)))
      obtain ⟨v7, rfl, hq7⟩ := hq
      refine ⟨_, rfl, ?_⟩
      have H7 : Own [] w w7 [.blk b1 [(str []), (vU8 0), (vU8 0), (vU32 0), (str []), (.slice none 0 0), (.slice none 0 0)] 46, .row v7 59 3 nt.length (List.flatMap ntc nt)] := H4.splice [] [] [.row v7 59 3 nt.length (List.flatMap ntc nt)] rfl rfl hq7 (Fits.solid True.intro Fits.nil)
      refine WL.op rfl rfl (op_build (cs := [(str nm), (vU8 bi), (vU8 1), (vU32 ((UInt32.ofNat l.length) * (8 : UInt32))), (str []), (.slice none 0 0), v7]) Fa.I46 Fa.PL46 rfl (by obtain ⟨_, _, e0, _⟩ := (H7.arrR (i := 1) rfl).form; rw [e0]; rfl) ?_)
      refine WL.op rfl rfl (op_makeMap H7 vU32 (fun b8 w8 H8 => ?_))
      refine WL.op rfl rfl (op_build (cs := [_, _, _, _, _, _, _, _]) Fa.I62 Fa.PL62 rfl rfl ?_)
      refine WL.op rfl rfl (op_box H8 rfl rfl (fun b9 w9 H9 => ?_))
      refine WL.op rfl rfl (op_assign rfl ?_)
      refine WL.nil ?_
      refine WQ.next ?_
      refine WC.seq ?_
      refine WC.seq ?_
      refine WC.region ?_
      have H10 : Own [] w w9 [.blk b1 [(str []), (vU8 0), (vU8 0), (vU32 0), (str []), (.slice none 0 0), (.slice none 0 0)] 46, .row v7 59 3 nt.length (List.flatMap ntc nt), .obj b8 (mO vU32 []), .blk b9 [(str nm), (vU8 bi), (vU8 1), (vU32 ((UInt32.ofNat l.length) * (8 : UInt32))), (str []), (.slice none 0 0), v7, (.map (some b8))] 62, .row (.slice none 0 0) 52 4 0 (List.flatMap rlc [])] := (show Own [] w w9 [.blk b1 [(str []), (vU8 0), (vU8 0), (vU32 0), (str []), (.slice none 0 0), (.slice none 0 0)] 46, .row v7 59 3 nt.length (List.flatMap ntc nt), .obj b8 (mO vU32 []), .blk b9 [(str nm), (vU8 bi), (vU8 1), (vU32 ((UInt32.ofNat l.length) * (8 : UInt32))), (str []), (.slice none 0 0), v7, (.map (some b8))] 62] from H9).nilRow 52 4
      refine WL.op rfl rfl (op_move rfl ?_)
      refine WL.op rfl rfl (op_move rfl ?_)
      refine WL.op rfl rfl (op_callF Fa.C29 rfl ((label_ok b9 (str nm) (vU8 bi) (vU8 1) (vU32 ((UInt32.ofNat l.length) * (8 : UInt32))) (str []) (.slice none 0 0) v7 b8 lv l 62 _ _ (H10.part [3, 2] rfl rfl) (fun w1 hf => (fun w1 hf => hA.fr hf (by simp)) w1 (H10.frPart (I := [3, 2]) rfl hf)) (by omega)).mono (fun e w11 hq => ?_)))
      obtain ⟨m11, rfl, hd11, hq11⟩ := hq
      refine ⟨_, rfl, ?_⟩
      have H11 : Own [] w w11 [.blk b1 [(str []), (vU8 0), (vU8 0), (vU32 0), (str []), (.slice none 0 0), (.slice none 0 0)] 46, .row v7 59 3 nt.length (List.flatMap ntc nt), .obj b8 (mO vU32 m11), .blk b9 [(str nm), (vU8 bi), (vU8 1), (vU32 ((UInt32.ofNat l.length) * (8 : UInt32))), (str []), (.slice none 0 0), v7, (.map (some b8))] 62, .row (.slice none 0 0) 52 4 0 (List.flatMap rlc [])] := H10.splice [3, 2] [.blk b9 [(str nm), (vU8 bi), (vU8 1), (vU32 ((UInt32.ofNat l.length) * (8 : UInt32))), (str []), (.slice none 0 0), v7, (.map (some b8))] 62, .obj b8 (mO vU32 m11)] [] rfl rfl hq11 (Fits.solid True.intro (Fits.solid True.intro Fits.nil))
      refine WL.op rfl rfl (op_assign rfl ?_)
      refine WL.nil ?_
      refine WQ.next ?_
      refine WC.seq ?_
      refine WC.region ?_
      refine WL.op rfl rfl (op_move rfl ?_)
      refine WL.op rfl rfl (op_neqN (b := 0) rfl rfl ?_)
      refine WL.nil ?_
      refine WQ.next ?_
      refine WC.cond rfl (fun (hb12 : (decide ((labE l) ≠ 0)) = true) => ?_) (fun (hb12 : (decide ((labE l) ≠ 0)) = false) => ?_)
      ·
        have hc12 := of_decide_eq_true hb12
        refine WC.seq ?_
        refine WC.region ?_
        refine WL.op rfl rfl (op_build (cs := [_, _, _, _, _, _, _]) Fa.I46 Fa.PL46 rfl rfl ?_)
        refine WL.op rfl rfl (op_move rfl ?_)
        refine WL.op rfl rfl (op_storeBW (i := 0) H11 rfl rfl rfl rfl rfl Fa.I46 (fun w13 H13 => ?_))
        refine WL.op rfl rfl (op_assign rfl ?_)
        refine WL.nil ?_
        refine WQ.next ?_
        refine WC.ret ?_
        refine WQ.thenRet ?_
        refine WQ.out (.cell rfl (run_loadVarS (vs := [_, _, _, _, _, _, _]) (H13.cells (i := 0) rfl rfl) Tryd.underlying46 rfl Fa.I46 rfl) (.tmp rfl .nil)) ?_
        have h9 := lab_9 hc12
        have he := mk_9 (nm := nm) (bi := bi) (nt := nt) hg1 hg2 hb12
        exact ⟨Sy.zero, by rw [he, h9]; rfl, (mk_bad he (by decide)).symm, ((H13.sel [] rfl rfl).nilRow 52 4).nilRow 59 3⟩
      ·
        have hc12 := of_decide_eq_false hb12
        have hg3 : labE l = 0 := Decidable.not_not.mp hc12
        have hnd := labE_no hg3
        refine WC.skip ?_
        refine WQ.next ?_
        refine WC.seq ?_
        refine WC.seq ?_
        refine WC.region ?_
        have hm11 := hd11 hg3
        subst hm11
        refine WL.op rfl rfl (op_move rfl ?_)
        refine WL.op rfl rfl (op_lenA Tryd.underlying27 rfl (H11.arr hA) ?_)
        refine WL.op rfl rfl (op_move rfl ?_)
        refine WL.nil ?_
        refine WQ.next ?_
        refine WC.block ?_
        refine WC.loop (α := Nat × Value) (fun (k, v) => [(8, (ptr b1 0)), (9, (vN 0)), (10, (ptr b9 0)), (42, lv), (43, (vN l.length)), (44, (vN k))]) (fun (k, v) w' => (k ≤ l.length ∧ (∀ j, j < k → noneB l j = false)) ∧ Own [] w w' [.blk b1 [(str []), (vU8 0), (vU8 0), (vU32 0), (str []), (.slice none 0 0), (.slice none 0 0)] 46, .row v7 59 3 nt.length (List.flatMap ntc nt), .obj b8 (mO vU32 (labTo l l.length)), .blk b9 [(str nm), (vU8 bi), (vU8 1), (vU32 ((UInt32.ofNat l.length) * (8 : UInt32))), (str (bytesTo l k)), v, v7, (.map (some b8))] 62, .row v 52 4 (relsTo nm l k).length (List.flatMap rlc (relsTo nm l k))]) (fun (k, v) => l.length - k) (0, (.slice none 0 0)) ⟨⟨Nat.zero_le _, fun j h => by omega⟩, H11⟩ ⟨rfl, rfl, rfl, rfl, rfl, rfl, trivial⟩ ?_
        rintro ⟨k, v⟩ w14 ⟨⟨hk1, hok⟩, H14⟩
        show WC _ _ _ _ _ [(8, (ptr b1 0)), (9, (vN 0)), (10, (ptr b9 0)), (42, lv), (43, (vN l.length)), (44, (vN k))] _
        refine WC.seq ?_
        refine WC.region ?_
        refine WL.op rfl rfl (op_lssN rfl rfl ?_)
        refine WL.nil ?_
        refine WQ.next ?_
        refine WC.seq ?_
        refine WC.cond rfl (fun (hb15 : (decide (k < l.length)) = true) => ?_) (fun (hb15 : (decide (k < l.length)) = false) => ?_)
        ·
          have hc15 := of_decide_eq_true hb15
          refine WC.skip ?_
          refine WQ.next ?_
          refine WC.seq ?_
          refine WC.block ?_
          refine WC.seq ?_
          refine WC.region ?_
          refine WL.op rfl rfl (op_indexAddr Tryd.underlying27 Fa.I26 rfl (H14.arr hA) rfl (by omega) ?_)
          refine WL.op rfl rfl (op_loadSP (vs := lnc (l.getD k Ln.zero)) rfl (Arr.atsF (H14.arr hA) (fun _ => rfl) (by decide) Ln.zero (by omega)) Tryd.underlying26 rfl Fa.I26 rfl ?_)
          refine WL.op rfl rfl (op_alloc H14 Fa.I26 (fun b16 w16 H16 => ?_))
          refine WL.op rfl rfl (op_storeBW (i := 5) H16 rfl rfl rfl rfl rfl Fa.I26 (fun w17 H17 => ?_))
          refine WL.nil ?_
          refine WQ.next ?_
          refine WC.seq ?_
          refine WC.region ?_
          refine WL.op rfl rfl (op_move rfl ?_)
          refine WL.op rfl rfl (op_loadS (vs := [_, _, _, _, _, _, _, _]) rfl (H17.cells (i := 5) rfl rfl) Tryd.underlying26 rfl Fa.I26 rfl ?_)
          refine WL.op rfl rfl (op_callF Fa.C30 rfl ((lay_ok b9 nm (vU8 bi) (vU8 1) (vU32 ((UInt32.ofNat l.length) * (8 : UInt32))) (bytesTo l k) v v7 (relsTo nm l k) b8 (labTo l l.length) (l.getD k Ln.zero) 62 _ _ (H17.part [3, 4, 2] rfl rfl) (by have := relsTo_len nm l k; omega) (by rw [bytesTo_len (fun j hj => hall j (by omega))]; omega)).mono (fun e w18 hq => ?_)))
          obtain ⟨v18, rfl, hq18⟩ := hq
          refine ⟨_, rfl, ?_⟩
          have H18 : Own [] w w18 [.blk b1 [(str []), (vU8 0), (vU8 0), (vU32 0), (str []), (.slice none 0 0), (.slice none 0 0)] 46, .row v7 59 3 nt.length (List.flatMap ntc nt), .obj b8 (mO vU32 (labTo l l.length)), .blk b9 [(str nm), (vU8 bi), (vU8 1), (vU32 ((UInt32.ofNat l.length) * (8 : UInt32))), (str (layB (bytesTo l k) (labTo l l.length) (l.getD k Ln.zero))), v18, v7, (.map (some b8))] 62, .row v18 52 4 (layR nm (bytesTo l k) (relsTo nm l k) (labTo l l.length) (l.getD k Ln.zero)).length (List.flatMap rlc (layR nm (bytesTo l k) (relsTo nm l k) (labTo l l.length) (l.getD k Ln.zero))), .blk b16 [(str (l.getD k Ln.zero).lb), (vU8 (l.getD k Ln.zero).op), (vU8 (l.getD k Ln.zero).d), (vU8 (l.getD k Ln.zero).a), (vU8 (l.getD k Ln.zero).b), (vU32 (l.getD k Ln.zero).imm), (str (l.getD k Ln.zero).to), (str (l.getD k Ln.zero).nm)] 26] := H17.splice [3, 4, 2] [.blk b9 [(str nm), (vU8 bi), (vU8 1), (vU32 ((UInt32.ofNat l.length) * (8 : UInt32))), (str (layB (bytesTo l k) (labTo l l.length) (l.getD k Ln.zero))), v18, v7, (.map (some b8))] 62, .row v18 52 4 (layR nm (bytesTo l k) (relsTo nm l k) (labTo l l.length) (l.getD k Ln.zero)).length (List.flatMap rlc (layR nm (bytesTo l k) (relsTo nm l k) (labTo l l.length) (l.getD k Ln.zero))), .obj b8 (mO vU32 (labTo l l.length))] [] rfl rfl hq18 (Fits.solid True.intro (Fits.solid True.intro (Fits.solid True.intro Fits.nil)))
          refine WL.op rfl rfl (op_assign rfl ?_)
          refine WL.nil ?_
          refine WQ.next ?_
          refine WC.seq ?_
          refine WC.region ?_
          refine WL.op rfl rfl (op_move rfl ?_)
          refine WL.op rfl rfl (op_neqN (b := 0) rfl rfl ?_)
          refine WL.nil ?_
          refine WQ.next ?_
          refine WC.cond rfl (fun (hb19 : (decide ((layE (labTo l l.length) (l.getD k Ln.zero)) ≠ 0)) = true) => ?_) (fun (hb19 : (decide ((layE (labTo l l.length) (l.getD k Ln.zero)) ≠ 0)) = false) => ?_)
          ·
            have hc19 := of_decide_eq_true hb19
            refine WC.seq ?_
            refine WC.region ?_
            refine WL.op rfl rfl (op_build (cs := [_, _, _, _, _, _, _]) Fa.I46 Fa.PL46 rfl rfl ?_)
            refine WL.op rfl rfl (op_move rfl ?_)
            refine WL.op rfl rfl (op_storeBW (i := 0) H18 rfl rfl rfl rfl rfl Fa.I46 (fun w20 H20 => ?_))
            refine WL.op rfl rfl (op_assign rfl ?_)
            refine WL.nil ?_
            refine WQ.next ?_
            refine WC.ret ?_
            refine WQ.inRet ?_
            refine WQ.thenRet ?_
            refine WQ.thenRet ?_
            refine WQ.inRet ?_
            refine WQ.thenRet ?_
            refine WQ.out (.cell rfl (run_loadVarS (vs := [_, _, _, _, _, _, _]) (H20.cells (i := 0) rfl rfl) Tryd.underlying46 rfl Fa.I46 rfl) (.tmp rfl .nil)) ?_
            have hL := lay_ne (hall k (by omega)) hc19
            have h3 := lay_E hL
            have he := mk_3 (nm := nm) (bi := bi) (nt := nt) hg1 hg2 hg3 (none_yes (by omega) ((lay_none hnd).symm.trans hL))
            exact ⟨Sy.zero, by rw [he, h3]; rfl, (mk_bad he (by decide)).symm, ((H20.sel [] rfl rfl).nilRow 52 4).nilRow 59 3⟩
          ·
            have hc19 := of_decide_eq_false hb19
            refine WC.skip ?_
            refine WQ.inNormal ?_
            refine WQ.next ?_
            refine WC.region ?_
            refine WL.op rfl rfl (op_addN (b := 1) rfl rfl (by omega) ?_)
            refine WL.op rfl rfl (op_move rfl ?_)
            refine WL.nil ?_
            have hN := lay_eq (Decidable.not_not.mp hc19)
            have hnn := (lay_none hnd).symm.trans hN
            have hbl := bytesTo_len (k := k) (fun j hj => hall j (by omega))
            exact WQ.round (k + 1, v18) ⟨⟨by omega, allPrev hok hnn⟩, (by have h := (show Own [] w w18 [.blk b1 [(str []), (vU8 0), (vU8 0), (vU32 0), (str []), (.slice none 0 0), (.slice none 0 0)] 46, .row v7 59 3 nt.length (List.flatMap ntc nt), .obj b8 (mO vU32 (labTo l l.length)), .blk b9 [(str nm), (vU8 bi), (vU8 1), (vU32 ((UInt32.ofNat l.length) * (8 : UInt32))), (str (layB (bytesTo l k) (labTo l l.length) (l.getD k Ln.zero))), v18, v7, (.map (some b8))] 62, .row v18 52 4 (layR nm (bytesTo l k) (relsTo nm l k) (labTo l l.length) (l.getD k Ln.zero)).length (List.flatMap rlc (layR nm (bytesTo l k) (relsTo nm l k) (labTo l l.length) (l.getD k Ln.zero)))] from (H18.take 5)); rw [lay_B hN, lay_R hnd hbl hnn] at h; exact h)⟩ ⟨rfl, rfl, rfl, rfl, rfl, rfl, trivial⟩ (by show l.length - (k + 1) < l.length - k; omega)
        ·
          have hc15 := of_decide_eq_false hb15
          refine WC.exit ?_
          refine WQ.thenExit ?_
          refine WQ.thenExit ?_
          refine WQ.inHere ?_
          refine WQ.next ?_
          refine WC.seq ?_
          refine WC.seq ?_
          refine WC.region ?_
          refine WL.op rfl rfl (op_move rfl ?_)
          refine WL.op rfl rfl (op_nilCheck rfl ?_)
          refine WL.op rfl rfl (op_fieldAddr rfl Fa.F62_0 ?_)
          refine WL.op rfl rfl (op_loadS (vs := [_, _, _, _, _, _, _]) rfl (H14.cells (i := 3) rfl rfl) Tryd.underlying46 rfl Fa.I46 rfl ?_)
          refine WL.op rfl rfl (op_callF Fa.C31 rfl ((osym_ok (Sy.mk nm bi 1 ((UInt32.ofNat l.length) * (8 : UInt32)) (bytesTo l k) v (relsTo nm l k) v7 nt) _ (SyD_mk (x := (Sy.mk nm bi 1 ((UInt32.ofNat l.length) * (8 : UInt32)) (bytesTo l k) v (relsTo nm l k) v7 nt)) (H14.arrR (i := 4) rfl) (H14.arrR (i := 1) rfl)) (by exact hnm) (by show (bytesTo l k).length < 2 ^ 32; rw [bytesTo_len (fun j hj => hall j (by omega))]; omega) (relsTo_names hnm (fun k => (hfx k).2.2) _) (by show (relsTo nm l k).length < 2 ^ 40; have := relsTo_len nm l k; omega) (by exact hnt)).mono (fun e w21 hq => ?_)))
          obtain ⟨rfl, hf21⟩ := hq
          refine ⟨_, rfl, ?_⟩
          have H21 := H14.fr' hf21
          refine WL.op rfl rfl (op_assign rfl ?_)
          refine WL.nil ?_
          refine WQ.next ?_
          refine WC.seq ?_
          refine WC.region ?_
          refine WL.op rfl rfl (op_move rfl ?_)
          refine WL.op rfl rfl (op_neqN (b := 0) rfl rfl ?_)
          refine WL.nil ?_
          refine WQ.next ?_
          refine WC.cond rfl (fun (hb22 : (decide ((symE (Sy.mk nm bi 1 ((UInt32.ofNat l.length) * (8 : UInt32)) (bytesTo l k) v (relsTo nm l k) v7 nt)) ≠ 0)) = true) => ?_) (fun (hb22 : (decide ((symE (Sy.mk nm bi 1 ((UInt32.ofNat l.length) * (8 : UInt32)) (bytesTo l k) v (relsTo nm l k) v7 nt)) ≠ 0)) = false) => ?_)
          ·
            have hc22 := of_decide_eq_true hb22
            refine WC.seq ?_
            refine WC.region ?_
            refine WL.op rfl rfl (op_build (cs := [_, _, _, _, _, _, _]) Fa.I46 Fa.PL46 rfl rfl ?_)
            refine WL.op rfl rfl (op_move rfl ?_)
            refine WL.op rfl rfl (op_storeBW (i := 0) H21 rfl rfl rfl rfl rfl Fa.I46 (fun w23 H23 => ?_))
            refine WL.op rfl rfl (op_assign rfl ?_)
            refine WL.nil ?_
            refine WQ.next ?_
            refine WC.ret ?_
            refine WQ.thenRet ?_
            refine WQ.out (.cell rfl (run_loadVarS (vs := [_, _, _, _, _, _, _]) (H23.cells (i := 0) rfl rfl) Tryd.underlying46 rfl Fa.I46 rfl) (.tmp rfl .nil)) ?_
            obtain rfl : k = l.length := by omega
            have he := mk_s (nm := nm) (bi := bi) (nt := nt) hg1 hg2 hg3 (none_no hok)
            exact ⟨Sy.zero, by rw [he]; rfl, (show Sy.zero = mkS nm bi nt l by rw [mkS, if_neg (by rw [he]; exact hc22)]), ((H23.sel [] rfl rfl).nilRow 52 4).nilRow 59 3⟩
          ·
            have hc22 := of_decide_eq_false hb22
            refine WC.skip ?_
            refine WQ.next ?_
            refine WC.seq ?_
            refine WC.region ?_
            refine WL.op rfl rfl (op_move rfl ?_)
            refine WL.op rfl rfl (op_nilCheck rfl ?_)
            refine WL.op rfl rfl (op_fieldAddr rfl Fa.F62_0 ?_)
            refine WL.op rfl rfl (op_loadS (vs := [_, _, _, _, _, _, _]) rfl (H21.cells (i := 3) rfl rfl) Tryd.underlying46 rfl Fa.I46 rfl ?_)
            refine WL.op rfl rfl (op_storeBW (i := 0) H21 rfl rfl rfl rfl (one_cons rfl (one_cons rfl (one_cons rfl (one_cons rfl (one_cons rfl (one_cons (Arr.one (H21.arrR (i := 4) rfl)) (one_cons (Arr.one (H21.arrR (i := 1) rfl)) one_nil))))))) Fa.I46 (fun w24 H24 => ?_))
            refine WL.op rfl rfl (op_assign rfl ?_)
            refine WL.nil ?_
            refine WQ.next ?_
            refine WC.ret ?_
            refine WQ.out (.cell rfl (run_loadVarS (vs := [_, _, _, _, _, _, _]) (H24.cells (i := 0) rfl rfl) Tryd.underlying46 rfl Fa.I46 rfl) (.tmp rfl .nil)) ?_
            obtain rfl : k = l.length := by omega
            have he := mk_s (nm := nm) (bi := bi) (nt := nt) hg1 hg2 hg3 (none_no hok)
            have h0 : mkE nm bi nt l = 0 := by rw [he]; exact Decidable.not_not.mp hc22
            exact ⟨(Sy.mk nm bi 1 ((UInt32.ofNat l.length) * (8 : UInt32)) (bytesTo l l.length) v (relsTo nm l l.length) v7 nt), by rw [h0]; rfl, (show _ = mkS nm bi nt l by rw [mkS, if_pos h0]; rfl), H24.sel [4, 1] rfl rfl⟩
end Go.Proofs.YtbdghnbfnnamkaaDoor
/-! from DAsm5 -/
namespace Go.Proofs.YtbdghnbfnnamkaaDoor
open Go.Owl Go.Spec
end Go.Proofs.YtbdghnbfnnamkaaDoor
/-! from DAsm6 -/
namespace Go.Proofs.YtbdghnbfnnamkaaDoor
open Go.Owl Go.Spec
set_option maxRecDepth 100000 in
theorem long_ok (lv : Value) (l : List Ln) (nv : Value) (nt : List Nt) (w : World) (hA : Arr w lv 8 l.length (List.flatMap lnc l)) (hN : Arr w nv 3 nt.length (List.flatMap ntc nt)) (hfx : LnFit l) (hl : l.length < 2 ^ 47) :
    Calls Tryd.prog 4 #[lv, nv] w (fun e w' => e = .returned (.bool (longB l nt)) ∧ Fr [] w w') := by
  refine enter (args := [lv, nv]) Tryd.func4 rfl rfl ?_
  have H0 : Own [] w w [] := Own.start w []
  refine WC.seq ?_
  refine WC.region ?_
  refine WL.op rfl rfl (op_assign rfl ?_)
  refine WL.nil ?_
  refine WQ.next ?_
  refine WC.seq ?_
  refine WC.region ?_
  refine WL.op rfl rfl (op_move rfl ?_)
  refine WL.op rfl rfl (op_lenA Tryd.underlying27 rfl (H0.arr hA) ?_)
  refine WL.op rfl rfl (op_assign rfl ?_)
  refine WL.nil ?_
  refine WQ.next ?_
  refine WC.cut (α := Nat) (fun k => [(0, lv), (1, nv), (4, (.bool false)), (5, (vN (l.length + lgTo l k)))]) (fun k w' => (k = min l.length 1200) ∧ Own [] w w' []) ?_ ?_
  ·
    refine WC.seq ?_
    refine WC.region ?_
    refine WL.op rfl rfl (op_assign rfl ?_)
    refine WL.nil ?_
    refine WQ.next ?_
    refine WC.block ?_
    refine WC.loop (α := Nat) (fun k => [(0, lv), (1, nv), (4, (.bool false)), (5, (vN (l.length + lgTo l k))), (6, (vN k))]) (fun k w' => (k ≤ l.length ∧ k ≤ 1200) ∧ Own [] w w' []) (fun k => l.length - k) 0 ⟨⟨by omega, by omega⟩, H0⟩ ⟨rfl, rfl, rfl, rfl, rfl, trivial⟩ ?_
    rintro k w1 ⟨hinv, H1⟩
    show WC _ _ _ _ _ [(0, lv), (1, nv), (4, (.bool false)), (5, (vN (l.length + lgTo l k))), (6, (vN k))] _
    have hlg := lgTo_le hfx k
    obtain ⟨hf1, hf2, hf3⟩ := hfx k
    refine WC.seq ?_
    refine WC.seq ?_
    refine WC.region ?_
    refine WL.op rfl rfl (op_move rfl ?_)
    refine WL.op rfl rfl (op_move rfl ?_)
    refine WL.op rfl rfl (op_lenA Tryd.underlying27 rfl (H1.arr hA) ?_)
    refine WL.op rfl rfl (op_lssN rfl rfl ?_)
    refine WL.op rfl rfl (op_move rfl ?_)
    refine WL.split (t := 13) rfl (fun (hb2 : (decide (k < l.length)) = true) => ?_) (fun (hb2 : (decide (k < l.length)) = false) => ?_)
    ·
      have hc2 := of_decide_eq_true hb2
      refine WL.yes rfl rfl rfl hb2 rfl (op_move rfl ?_)
      refine WL.yes rfl rfl rfl hb2 rfl (op_lssN (b := 1200) rfl rfl ?_)
      refine WL.op rfl rfl (op_pickT rfl hb2 rfl ?_)
      refine WL.nil ?_
      refine WQ.next ?_
      refine WC.cond rfl (fun (hb3 : (decide (k < 1200)) = true) => ?_) (fun (hb3 : (decide (k < 1200)) = false) => ?_)
      ·
        have hc3 := of_decide_eq_true hb3
        refine WC.skip ?_
        refine WQ.next ?_
        refine WC.seq ?_
        refine WC.block ?_
        refine WC.draw 24 Fa.M H1 (HW.op rfl (fun w1 H1 => op_move rfl ⟨rfl, Fr.refl _ _⟩) (HW.op rfl (fun w1 H1 => op_move rfl ⟨rfl, Fr.refl _ _⟩) (HW.op rfl (fun w1 H1 => op_move rfl ⟨rfl, Fr.refl _ _⟩) (HW.op rfl (fun w1 H1 => op_indexAddr Tryd.underlying27 Fa.I26 rfl (H1.arr hA) rfl (by omega) ⟨rfl, Fr.refl _ _⟩) (HW.op rfl (fun w1 H1 => op_fieldAddrS rfl Fa.F26_0 ⟨rfl, Fr.refl _ _⟩) (HW.op rfl (fun w1 H1 => op_load rfl (Arr.atF (k := 0) (H1.arr hA) (fun _ => rfl) (by decide) Ln.zero (by omega) rfl) Tryd.underlying9 rfl ⟨rfl, Fr.refl _ _⟩) (HW.op rfl (fun w1 H1 => op_lenStr Tryd.underlying9 rfl ⟨rfl, Fr.refl _ _⟩) (HW.op rfl (fun w1 H1 => op_move rfl ⟨rfl, Fr.refl _ _⟩) (HW.op rfl (fun w1 H1 => op_move rfl ⟨rfl, Fr.refl _ _⟩) (HW.op rfl (fun w1 H1 => op_indexAddr Tryd.underlying27 Fa.I26 rfl (H1.arr hA) rfl (by omega) ⟨rfl, Fr.refl _ _⟩) (HW.op rfl (fun w1 H1 => op_fieldAddrS rfl Fa.F26_2 ⟨rfl, Fr.refl _ _⟩) (HW.op rfl (fun w1 H1 => op_load rfl (Arr.atF (k := 6) (H1.arr hA) (fun _ => rfl) (by decide) Ln.zero (by omega) rfl) Tryd.underlying9 rfl ⟨rfl, Fr.refl _ _⟩) (HW.op rfl (fun w1 H1 => op_lenStr Tryd.underlying9 rfl ⟨rfl, Fr.refl _ _⟩) (HW.op rfl (fun w1 H1 => op_addN rfl rfl (by omega) ⟨rfl, Fr.refl _ _⟩) (HW.op rfl (fun w1 H1 => op_move rfl ⟨rfl, Fr.refl _ _⟩) (HW.op rfl (fun w1 H1 => op_move rfl ⟨rfl, Fr.refl _ _⟩) (HW.op rfl (fun w1 H1 => op_indexAddr Tryd.underlying27 Fa.I26 rfl (H1.arr hA) rfl (by omega) ⟨rfl, Fr.refl _ _⟩) (HW.op rfl (fun w1 H1 => op_fieldAddrS rfl Fa.F26_3 ⟨rfl, Fr.refl _ _⟩) (HW.op rfl (fun w1 H1 => op_load rfl (Arr.atF (k := 7) (H1.arr hA) (fun _ => rfl) (by decide) Ln.zero (by omega) rfl) Tryd.underlying9 rfl ⟨rfl, Fr.refl _ _⟩) (HW.op rfl (fun w1 H1 => op_lenStr Tryd.underlying9 rfl ⟨rfl, Fr.refl _ _⟩) (HW.op rfl (fun w1 H1 => op_addN rfl rfl (by omega) ⟨rfl, Fr.refl _ _⟩) (HW.op rfl (fun w1 H1 => op_quoN (b := 16) rfl rfl (by omega) (by omega) ⟨rfl, Fr.refl _ _⟩) (HW.op rfl (fun w1 H1 => op_addN rfl rfl (by omega) ⟨rfl, Fr.refl _ _⟩) (HW.op rfl (fun w1 H1 => op_assign rfl ⟨rfl, Fr.refl _ _⟩)  HW.nil)))))))))))))))))))))))) (by kernel_rfl) ?_
        intro β4 w4 H4
        refine WL.nil ?_
        refine WQ.inNormal ?_
        refine WQ.next ?_
        refine WC.region ?_
        refine WL.op rfl rfl (op_move rfl ?_)
        refine WL.op rfl rfl (op_addN (b := 1) rfl rfl (by omega) ?_)
        refine WL.op rfl rfl (op_assign rfl ?_)
        refine WL.nil ?_
        exact WQ.round (k + 1) ⟨(by omega), H4⟩ ⟨rfl, rfl, rfl, (congrArg (fun x => some (vN x)) (by rw [lgTo]; omega)), rfl, trivial⟩ (by omega)
      ·
        have hc3 := of_decide_eq_false hb3
        refine WC.exit ?_
        refine WQ.thenExit ?_
        refine WQ.thenExit ?_
        refine WQ.inHere ?_
        exact WQ.here k ⟨(by omega), H1⟩ ⟨rfl, rfl, rfl, rfl, trivial⟩
    ·
      have hc2 := of_decide_eq_false hb2
      refine WL.no rfl rfl rfl hb2 rfl ?_
      refine WL.no rfl rfl rfl hb2 rfl ?_
      refine WL.op rfl rfl (op_pickF rfl hb2 rfl ?_)
      refine WL.nil ?_
      refine WQ.next ?_
      refine WC.no rfl rfl ?_
      refine WC.exit ?_
      refine WQ.thenExit ?_
      refine WQ.thenExit ?_
      refine WQ.inHere ?_
      exact WQ.here k ⟨(by omega), H1⟩ ⟨rfl, rfl, rfl, rfl, trivial⟩
  ·
    rintro k w5 ⟨hinv, H5⟩
    show WC _ _ _ _ _ [(0, lv), (1, nv), (4, (.bool false)), (5, (vN (l.length + lgTo l k)))] _
    refine WC.seq ?_
    refine WC.region ?_
    refine WL.op rfl rfl (op_move rfl ?_)
    refine WL.op rfl rfl (op_gtrN (b := 1300) rfl rfl ?_)
    refine WL.op rfl rfl (op_move rfl ?_)
    refine WL.split (t := 44) rfl (fun (hb6 : (decide ((l.length + lgTo l k) > 1300)) = true) => ?_) (fun (hb6 : (decide ((l.length + lgTo l k) > 1300)) = false) => ?_)
    ·
      have hc6 := of_decide_eq_true hb6
      refine WL.no rfl rfl rfl hb6 rfl ?_
      refine WL.no rfl rfl rfl hb6 rfl ?_
      refine WL.no rfl rfl rfl hb6 rfl ?_
      refine WL.op rfl rfl (op_pickT rfl hb6 rfl ?_)
      refine WL.op rfl rfl (op_assign rfl ?_)
      refine WL.nil ?_
      refine WQ.next ?_
      refine WC.ret ?_
      refine WQ.out (.tmp rfl .nil) ?_
      exact ⟨by (rw [longB, ← hinv, hb6]) <;> rfl, H5.fr⟩
    ·
      have hc6 := of_decide_eq_false hb6
      refine WL.yes rfl rfl rfl hb6 rfl (op_move rfl ?_)
      refine WL.yes rfl rfl rfl hb6 rfl (op_lenA Tryd.underlying43 rfl (H5.arr hN) ?_)
      refine WL.yes rfl rfl rfl hb6 rfl (op_gtrN (b := 100) rfl rfl ?_)
      refine WL.op rfl rfl (op_pickF rfl hb6 rfl ?_)
      refine WL.op rfl rfl (op_assign rfl ?_)
      refine WL.nil ?_
      refine WQ.next ?_
      refine WC.ret ?_
      refine WQ.out (.tmp rfl .nil) ?_
      exact ⟨by (rw [longB, ← hinv, hb6]) <;> rfl, H5.fr⟩
set_option maxRecDepth 100000 in
theorem br_ok (op a b : UInt8) (s : List UInt8) (w : World) :
    Calls Tryd.prog 15 #[(vU8 op), (vU8 a), (vU8 b), (str s)] w (fun e w' => e = .returned (.agg #[str [], vU8 op, vU8 0, vU8 a, vU8 b, vU32 0, str s, str []]) ∧ Fr [] w w') := by
  refine enter (args := [(vU8 op), (vU8 a), (vU8 b), (str s)]) Tryd.func15 rfl rfl ?_
  have H0 : Own [] w w [] := Own.start w []
  refine WC.seq ?_
  refine WC.region ?_
  refine WL.op rfl rfl (op_alloc H0 Fa.I26 (fun b1 w1 H1 => ?_))
  refine WL.nil ?_
  refine WQ.next ?_
  refine WC.seq ?_
  refine WC.region ?_
  refine WL.op rfl rfl (op_move rfl ?_)
  refine WL.op rfl rfl (op_move rfl ?_)
  refine WL.op rfl rfl (op_move rfl ?_)
  refine WL.op rfl rfl (op_build (cs := [_, _, _, _, _]) Fa.I24 Fa.PL24 rfl rfl ?_)
  refine WL.op rfl rfl (op_move rfl ?_)
  refine WL.op rfl rfl (op_build (cs := [_, _, _, _, _, _, _, _]) Fa.I26 Fa.PL26 rfl rfl ?_)
  refine WL.op rfl rfl (op_storeBW (i := 0) H1 rfl rfl rfl rfl rfl Fa.I26 (fun w2 H2 => ?_))
  refine WL.nil ?_
  refine WQ.next ?_
  refine WC.ret ?_
  refine WQ.out (.cell rfl (run_loadVarS (vs := [_, _, _, _, _, _, _, _]) (H2.cells (i := 0) rfl rfl) Tryd.underlying26 rfl Fa.I26 rfl) .nil) ?_
  exact ⟨rfl, H2.fr⟩
set_option maxRecDepth 100000 in
theorem jmp_ok (s : List UInt8) (w : World) :
    Calls Tryd.prog 14 #[(str s)] w (fun e w' => e = .returned (.agg #[str [], vU8 40, vU8 0, vU8 0, vU8 0, vU32 0, str s, str []]) ∧ Fr [] w w') := by
  refine enter (args := [(str s)]) Tryd.func14 rfl rfl ?_
  have H0 : Own [] w w [] := Own.start w []
  refine WC.seq ?_
  refine WC.region ?_
  refine WL.op rfl rfl (op_alloc H0 Fa.I26 (fun b1 w1 H1 => ?_))
  refine WL.nil ?_
  refine WQ.next ?_
  refine WC.seq ?_
  refine WC.region ?_
  refine WL.op rfl rfl (op_move rfl ?_)
  refine WL.op rfl rfl (op_callF Fa.C15 rfl ((br_ok 40 0 0 s _).mono (fun e w2 hq => ?_)))
  obtain ⟨rfl, hf2⟩ := hq
  refine ⟨_, rfl, ?_⟩
  have H2 := H1.fr' hf2
  refine WL.op rfl rfl (op_storeBW (i := 0) H2 rfl rfl rfl rfl rfl Fa.I26 (fun w3 H3 => ?_))
  refine WL.nil ?_
  refine WQ.next ?_
  refine WC.ret ?_
  refine WQ.out (.cell rfl (run_loadVarS (vs := [_, _, _, _, _, _, _, _]) (H3.cells (i := 0) rfl rfl) Tryd.underlying26 rfl Fa.I26 rfl) .nil) ?_
  exact ⟨rfl, H3.fr⟩
set_option maxRecDepth 100000 in
theorem at10_ok (s : List UInt8) (x : Ln) (w : World) :
    Calls Tryd.prog 20 #[(str s), (.agg #[(str x.lb), (vU8 x.op), (vU8 x.d), (vU8 x.a), (vU8 x.b), (vU32 x.imm), (str x.to), (str x.nm)])] w (fun e w' => e = .returned (.agg #[str s, vU8 x.op, vU8 x.d, vU8 x.a, vU8 x.b, vU32 x.imm, str x.to, str x.nm]) ∧ Fr [] w w') := by
  refine enter (args := [(str s), (.agg #[(str x.lb), (vU8 x.op), (vU8 x.d), (vU8 x.a), (vU8 x.b), (vU32 x.imm), (str x.to), (str x.nm)])]) Tryd.func20 rfl rfl ?_
  have H0 : Own [] w w [] := Own.start w []
  refine WC.seq ?_
  refine WC.region ?_
  refine WL.op rfl rfl (op_box H0 rfl rfl (fun b1 w1 H1 => ?_))
  refine WL.op rfl rfl (op_alloc H1 Fa.I26 (fun b2 w2 H2 => ?_))
  refine WL.nil ?_
  refine WQ.next ?_
  refine WC.seq ?_
  refine WC.region ?_
  refine WL.op rfl rfl (op_move rfl ?_)
  refine WL.op rfl rfl (op_fieldAddr rfl Fa.F26_0 ?_)
  refine WL.op rfl rfl (op_storeB (i := 0) H2 rfl rfl rfl rfl rfl Fa.I9 (fun w3 H3 => ?_))
  refine WL.nil ?_
  refine WQ.next ?_
  refine WC.seq ?_
  refine WC.region ?_
  refine WL.op rfl rfl (op_loadS (vs := [_, _, _, _, _, _, _, _]) rfl (H3.cells (i := 0) rfl rfl) Tryd.underlying26 rfl Fa.I26 rfl ?_)
  refine WL.op rfl rfl (op_storeBW (i := 1) H3 rfl rfl rfl rfl rfl Fa.I26 (fun w4 H4 => ?_))
  refine WL.nil ?_
  refine WQ.next ?_
  refine WC.ret ?_
  refine WQ.out (.cell rfl (run_loadVarS (vs := [_, _, _, _, _, _, _, _]) (H4.cells (i := 1) rfl rfl) Tryd.underlying26 rfl Fa.I26 rfl) .nil) ?_
  exact ⟨rfl, H4.fr⟩
set_option maxRecDepth 100000 in
theorem data_ok (nm : List UInt8) (bi ki : UInt8) (sz : UInt32) (b : List UInt8) (nv : Value) (nt : List Nt) (w : World) (hN : Arr w nv 3 nt.length (List.flatMap ntc nt)) (hnm : nm.length < 2 ^ 47) (hb : b.length < 2 ^ 32) (hnt : nt.length < 2 ^ 40) :
    Calls Tryd.prog 23 #[(str nm), (vU8 bi), (vU8 ki), (vU32 sz), (str b), nv] w (fun e w' => ∃ y : Sy, e = .returned (.tuple #[.agg #[str y.nm, vU8 y.bind, vU8 y.kind, vU32 y.size, str y.b, y.rv, y.nv], vN (dtE nm bi ki sz b nt)]) ∧ y.bare = dtS nm bi ki sz b nt ∧ Own [] w w' [.row y.rv 52 4 y.rl.length (List.flatMap rlc y.rl), .row y.nv 59 3 y.nt.length (List.flatMap ntc y.nt)]) := by
  refine enter (args := [(str nm), (vU8 bi), (vU8 ki), (vU32 sz), (str b), nv]) Tryd.func23 rfl rfl ?_
  have H0 : Own [] w w [] := Own.start w []
  refine WC.seq ?_
  refine WC.region ?_
  refine WL.op rfl rfl (op_alloc H0 Fa.I46 (fun b1 w1 H1 => ?_))
  refine WL.op rfl rfl (op_assign rfl ?_)
  refine WL.nil ?_
  refine WQ.next ?_
  refine WC.seq ?_
  refine WC.region ?_
  refine WL.op rfl rfl (op_move rfl ?_)
  refine WL.op rfl rfl (op_move rfl ?_)
  refine WL.op rfl rfl (op_move rfl ?_)
  refine WL.op rfl rfl (op_move rfl ?_)
  refine WL.op rfl rfl (op_move rfl ?_)
  refine WL.op rfl rfl (op_move rfl ?_)
  refine WL.op rfl rfl (op_callF Fa.C28 rfl ((cloneN_ok _ nt _ (H1.arr hN) hnt).mono (fun e w2 hq => ?_)))
  obtain ⟨v2, rfl, hq2⟩ := hq
  refine ⟨_, rfl, ?_⟩
  have H2 : Own [] w w2 [.blk b1 [(str []), (vU8 0), (vU8 0), (vU32 0), (str []), (.slice none 0 0), (.slice none 0 0)] 46, .row v2 59 3 nt.length (List.flatMap ntc nt)] := H1.splice [] [] [.row v2 59 3 nt.length (List.flatMap ntc nt)] rfl rfl hq2 (Fits.solid True.intro Fits.nil)
  refine WL.op rfl rfl (op_build (cs := [(str nm), (vU8 bi), (vU8 ki), (vU32 sz), (str b), (.slice none 0 0), v2]) Fa.I46 Fa.PL46 rfl (by obtain ⟨_, _, e0, _⟩ := (H2.arrR (i := 1) rfl).form; rw [e0]; rfl) ?_)
  refine WL.op rfl rfl (op_alloc H2 Fa.I46 (fun b3 w3 H3 => ?_))
  refine WL.op rfl rfl (op_storeBW (i := 2) H3 rfl rfl rfl rfl (one_cons rfl (one_cons rfl (one_cons rfl (one_cons rfl (one_cons rfl (one_cons rfl (one_cons (Arr.one (H3.arrR (i := 1) rfl)) one_nil))))))) Fa.I46 (fun w4 H4 => ?_))
  refine WL.nil ?_
  refine WQ.next ?_
  refine WC.seq ?_
  refine WC.seq ?_
  refine WC.region ?_
  refine WL.op rfl rfl (op_move rfl ?_)
  refine WL.op rfl rfl (op_eqlU8 (b := 1) rfl rfl ?_)
  refine WL.op rfl rfl (op_move rfl ?_)
  refine WL.split (t := 25) rfl (fun (hb5 : (decide (ki = (1 : UInt8))) = true) => ?_) (fun (hb5 : (decide (ki = (1 : UInt8))) = false) => ?_)
  ·
    have hc5 := of_decide_eq_true hb5
    refine WL.no rfl rfl rfl hb5 rfl ?_
    refine WL.no rfl rfl rfl hb5 rfl ?_
    refine WL.no rfl rfl rfl hb5 rfl ?_
    refine WL.op rfl rfl (op_pickT rfl hb5 rfl ?_)
    refine WL.nil ?_
    refine WQ.next ?_
    refine WC.yes rfl rfl ?_
    refine WC.seq ?_
    refine WC.region ?_
    refine WL.op rfl rfl (op_build (cs := [_, _, _, _, _, _, _]) Fa.I46 Fa.PL46 rfl rfl ?_)
    refine WL.op rfl rfl (op_storeBW (i := 0) H4 rfl rfl rfl rfl rfl Fa.I46 (fun w6 H6 => ?_))
    refine WL.op rfl rfl (op_assign rfl ?_)
    refine WL.nil ?_
    refine WQ.next ?_
    refine WC.ret ?_
    refine WQ.thenRet ?_
    refine WQ.out (.cell rfl (run_loadVarS (vs := [_, _, _, _, _, _, _]) (H6.cells (i := 0) rfl rfl) Tryd.underlying46 rfl Fa.I46 rfl) (.tmp rfl .nil)) ?_
    have he : dtE nm bi ki sz b nt = 2 := by rw [dtE, hb5]; rfl
    exact ⟨Sy.zero, by rw [he]; rfl, (show Sy.zero = dtS nm bi ki sz b nt by rw [dtS, if_neg (by rw [he]; decide)]), ((H6.sel [] rfl rfl).nilRow 52 4).nilRow 59 3⟩
  ·
    have hc5 := of_decide_eq_false hb5
    refine WL.yes rfl rfl rfl hb5 rfl (op_loadS (vs := [_, _, _, _, _, _, _]) rfl (H4.cells (i := 2) rfl rfl) Tryd.underlying46 rfl Fa.I46 rfl ?_)
    refine WL.yes rfl rfl rfl hb5 rfl (op_callF Fa.C31 rfl ((osym_ok (Sy.mk nm bi ki sz b (.slice none 0 0) [] v2 nt) _ (SyD_mk (x := (Sy.mk nm bi ki sz b (.slice none 0 0) [] v2 nt)) (Arr.nil _ _) (H4.arrR (i := 1) rfl)) (by exact hnm) (by exact hb) (fun y hy => by cases hy) (by show 0 < 2 ^ 40; decide) (by exact hnt)).mono (fun e w7 hq => ?_)))
    obtain ⟨rfl, hf7⟩ := hq
    refine ⟨_, rfl, ?_⟩
    have H7 := H4.fr' hf7
    refine WL.yes rfl rfl rfl hb5 rfl (op_neqN (b := 0) rfl rfl ?_)
    refine WL.op rfl rfl (op_pickF rfl hb5 rfl ?_)
    refine WL.nil ?_
    refine WQ.next ?_
    refine WC.cond rfl (fun (hb8 : (decide ((symE (Sy.mk nm bi ki sz b (.slice none 0 0) [] v2 nt)) ≠ 0)) = true) => ?_) (fun (hb8 : (decide ((symE (Sy.mk nm bi ki sz b (.slice none 0 0) [] v2 nt)) ≠ 0)) = false) => ?_)
    ·
      have hc8 := of_decide_eq_true hb8
      refine WC.seq ?_
      refine WC.region ?_
      refine WL.op rfl rfl (op_build (cs := [_, _, _, _, _, _, _]) Fa.I46 Fa.PL46 rfl rfl ?_)
      refine WL.op rfl rfl (op_storeBW (i := 0) H7 rfl rfl rfl rfl rfl Fa.I46 (fun w9 H9 => ?_))
      refine WL.op rfl rfl (op_assign rfl ?_)
      refine WL.nil ?_
      refine WQ.next ?_
      refine WC.ret ?_
      refine WQ.thenRet ?_
      refine WQ.out (.cell rfl (run_loadVarS (vs := [_, _, _, _, _, _, _]) (H9.cells (i := 0) rfl rfl) Tryd.underlying46 rfl Fa.I46 rfl) (.tmp rfl .nil)) ?_
      have hs : symE (dtOf nm bi ki sz b nt) = 2 := symE_2 (of_decide_eq_true hb8)
      have he : dtE nm bi ki sz b nt = 2 := by rw [dtE, hb5]; exact hs
      exact ⟨Sy.zero, by rw [he]; rfl, (show Sy.zero = dtS nm bi ki sz b nt by rw [dtS, if_neg (by rw [he]; decide)]), ((H9.sel [] rfl rfl).nilRow 52 4).nilRow 59 3⟩
    ·
      have hc8 := of_decide_eq_false hb8
      refine WC.skip ?_
      refine WQ.next ?_
      refine WC.seq ?_
      refine WC.region ?_
      refine WL.op rfl rfl (op_loadS (vs := [_, _, _, _, _, _, _]) rfl (H7.cells (i := 2) rfl rfl) Tryd.underlying46 rfl Fa.I46 rfl ?_)
      refine WL.op rfl rfl (op_storeBW (i := 0) H7 rfl rfl rfl rfl (one_cons rfl (one_cons rfl (one_cons rfl (one_cons rfl (one_cons rfl (one_cons rfl (one_cons (Arr.one (H7.arrR (i := 1) rfl)) one_nil))))))) Fa.I46 (fun w10 H10 => ?_))
      refine WL.op rfl rfl (op_assign rfl ?_)
      refine WL.nil ?_
      refine WQ.next ?_
      refine WC.ret ?_
      refine WQ.out (.cell rfl (run_loadVarS (vs := [_, _, _, _, _, _, _]) (H10.cells (i := 0) rfl rfl) Tryd.underlying46 rfl Fa.I46 rfl) (.tmp rfl .nil)) ?_
      have hs : symE (dtOf nm bi ki sz b nt) = 0 := Decidable.not_not.mp (of_decide_eq_false hb8)
      have he : dtE nm bi ki sz b nt = 0 := by rw [dtE, hb5]; exact hs
      exact ⟨(Sy.mk nm bi ki sz b (.slice none 0 0) [] v2 nt), by rw [he]; rfl, (show _ = dtS nm bi ki sz b nt by rw [dtS, if_pos he]; rfl), (H10.nilRow 52 4).sel [3, 1] rfl rfl⟩
set_option maxRecDepth 100000 in
theorem alive10_ok  (w : World) :
    Calls Tryd.prog 5 #[] w (fun e w' => e = .returned (.bool true) ∧ Fr [] w w') := by
  refine enter (args := []) Tryd.func5 rfl rfl ?_
  have H0 : Own [] w w [] := Own.start w []
  refine WC.seq ?_
  refine WC.region ?_
  refine WL.op rfl rfl (op_assign rfl ?_)
  refine WL.nil ?_
  refine WQ.next ?_
  refine WC.seq ?_
  refine WC.region ?_
  refine WL.op rfl rfl (op_callF Fa.C14 rfl ((jmp_ok ([97, 103, 97, 105, 110]) _).mono (fun e w1 hq => ?_)))
  obtain ⟨rfl, hf1⟩ := hq
  refine ⟨_, rfl, ?_⟩
  have H1 := H0.fr' hf1
  refine WL.op rfl rfl (op_callF Fa.C20 rfl ((at10_ok ([97, 103, 97, 105, 110]) (Ln.mk [] 40 0 0 0 0 [97, 103, 97, 105, 110] []) _).mono (fun e w2 hq => ?_)))
  obtain ⟨rfl, hf2⟩ := hq
  refine ⟨_, rfl, ?_⟩
  have H2 := H1.fr' hf2
  refine WL.op rfl rfl (op_buildSlice (cs := [_, _, _, _, _, _, _, _]) H2 Tryd.underlying27 Fa.I26 rfl rfl rfl rfl (by decide) (by decide) (fun b3 w3 H3 => ?_))
  refine WL.op rfl rfl (op_callF Fa.C22 rfl ((amake_ok ([109, 97, 105, 110]) 1 _ [] _ ([(Ln.mk [97, 103, 97, 105, 110] 40 0 0 0 0 [97, 103, 97, 105, 110] [])]) _ (H3.arrR (i := 0) rfl) (Arr.nil _ _) (by decide) (lnfit_one (by decide)) (by decide) (by decide)).mono (fun e w4 hq => ?_)))
  obtain ⟨y4, rfl, hc4, hq4⟩ := hq
  refine ⟨_, rfl, ?_⟩
  have H4 : Own [] w w4 [.row (.slice (some ⟨b3, 0, none⟩) 1 1) 26 8 1 (List.flatMap lnc [(Ln.mk [97, 103, 97, 105, 110] 40 0 0 0 0 [97, 103, 97, 105, 110] [])]), .row y4.rv 52 4 y4.rl.length (List.flatMap rlc y4.rl), .row y4.nv 59 3 y4.nt.length (List.flatMap ntc y4.nt)] := H3.splice [] [] [.row y4.rv 52 4 y4.rl.length (List.flatMap rlc y4.rl), .row y4.nv 59 3 y4.nt.length (List.flatMap ntc y4.nt)] rfl rfl hq4 (Fits.solid True.intro (Fits.solid True.intro Fits.nil))
  refine WL.op rfl rfl (op_move rfl ?_)
  refine WL.op rfl rfl (op_extract rfl rfl ?_)
  refine WL.op rfl rfl (op_extract rfl rfl ?_)
  refine WL.op rfl rfl (op_alloc H4 Fa.I46 (fun b5 w5 H5 => ?_))
  refine WL.op rfl rfl (op_storeBW (i := 3) H5 rfl rfl rfl rfl (one_cons rfl (one_cons rfl (one_cons rfl (one_cons rfl (one_cons rfl (one_cons (Arr.one (H5.arrR (i := 1) rfl)) (one_cons (Arr.one (H5.arrR (i := 2) rfl)) one_nil))))))) Fa.I46 (fun w6 H6 => ?_))
  refine WL.op rfl rfl (op_assign rfl ?_)
  refine WL.nil ?_
  refine WQ.next ?_
  refine WC.seq ?_
  refine WC.region ?_
  refine WL.op rfl rfl (op_callF Fa.C14 rfl ((jmp_ok ([120]) _).mono (fun e w7 hq => ?_)))
  obtain ⟨rfl, hf7⟩ := hq
  refine ⟨_, rfl, ?_⟩
  have H7 := H6.fr' hf7
  refine WL.op rfl rfl (op_buildSlice (cs := [_, _, _, _, _, _, _, _]) H7 Tryd.underlying27 Fa.I26 rfl rfl rfl rfl (by decide) (by decide) (fun b8 w8 H8 => ?_))
  refine WL.op rfl rfl (op_callF Fa.C22 rfl ((amake_ok ([109, 97, 105, 110]) 1 _ [] _ ([(Ln.mk [] 40 0 0 0 0 [120] [])]) _ (H8.arrR (i := 4) rfl) (Arr.nil _ _) (by decide) (lnfit_one (by decide)) (by decide) (by decide)).mono (fun e w9 hq => ?_)))
  obtain ⟨y9, rfl, hc9, hq9⟩ := hq
  refine ⟨_, rfl, ?_⟩
  have H9 : Own [] w w9 [.row (.slice (some ⟨b3, 0, none⟩) 1 1) 26 8 1 (List.flatMap lnc [(Ln.mk [97, 103, 97, 105, 110] 40 0 0 0 0 [97, 103, 97, 105, 110] [])]), .row y4.rv 52 4 y4.rl.length (List.flatMap rlc y4.rl), .row y4.nv 59 3 y4.nt.length (List.flatMap ntc y4.nt), .blk b5 [(str y4.nm), (vU8 y4.bind), (vU8 y4.kind), (vU32 y4.size), (str y4.b), y4.rv, y4.nv] 46, .row (.slice (some ⟨b8, 0, none⟩) 1 1) 26 8 1 (List.flatMap lnc [(Ln.mk [] 40 0 0 0 0 [120] [])]), .row y9.rv 52 4 y9.rl.length (List.flatMap rlc y9.rl), .row y9.nv 59 3 y9.nt.length (List.flatMap ntc y9.nt)] := H8.splice [] [] [.row y9.rv 52 4 y9.rl.length (List.flatMap rlc y9.rl), .row y9.nv 59 3 y9.nt.length (List.flatMap ntc y9.nt)] rfl rfl hq9 (Fits.solid True.intro (Fits.solid True.intro Fits.nil))
  refine WL.op rfl rfl (op_move rfl ?_)
  refine WL.op rfl rfl (op_extract rfl rfl ?_)
  refine WL.op rfl rfl (op_extract rfl rfl ?_)
  refine WL.op rfl rfl (op_alloc H9 Fa.I46 (fun b10 w10 H10 => ?_))
  refine WL.op rfl rfl (op_storeBW (i := 7) H10 rfl rfl rfl rfl (one_cons rfl (one_cons rfl (one_cons rfl (one_cons rfl (one_cons rfl (one_cons (Arr.one (H10.arrR (i := 5) rfl)) (one_cons (Arr.one (H10.arrR (i := 6) rfl)) one_nil))))))) Fa.I46 (fun w11 H11 => ?_))
  refine WL.op rfl rfl (op_assign rfl ?_)
  refine WL.nil ?_
  refine WQ.next ?_
  refine WC.seq ?_
  refine WC.region ?_
  refine WL.op rfl rfl (op_callF Fa.C23 rfl ((data_ok ([100]) 0 2 4 ([97, 98]) _ [] _ (Arr.nil _ _) (by decide) (by decide) (by decide)).mono (fun e w12 hq => ?_)))
  obtain ⟨y12, rfl, hc12, hq12⟩ := hq
  refine ⟨_, rfl, ?_⟩
  have H12 : Own [] w w12 [.row (.slice (some ⟨b3, 0, none⟩) 1 1) 26 8 1 (List.flatMap lnc [(Ln.mk [97, 103, 97, 105, 110] 40 0 0 0 0 [97, 103, 97, 105, 110] [])]), .row y4.rv 52 4 y4.rl.length (List.flatMap rlc y4.rl), .row y4.nv 59 3 y4.nt.length (List.flatMap ntc y4.nt), .blk b5 [(str y4.nm), (vU8 y4.bind), (vU8 y4.kind), (vU32 y4.size), (str y4.b), y4.rv, y4.nv] 46, .row (.slice (some ⟨b8, 0, none⟩) 1 1) 26 8 1 (List.flatMap lnc [(Ln.mk [] 40 0 0 0 0 [120] [])]), .row y9.rv 52 4 y9.rl.length (List.flatMap rlc y9.rl), .row y9.nv 59 3 y9.nt.length (List.flatMap ntc y9.nt), .blk b10 [(str y9.nm), (vU8 y9.bind), (vU8 y9.kind), (vU32 y9.size), (str y9.b), y9.rv, y9.nv] 46, .row y12.rv 52 4 y12.rl.length (List.flatMap rlc y12.rl), .row y12.nv 59 3 y12.nt.length (List.flatMap ntc y12.nt)] := H11.splice [] [] [.row y12.rv 52 4 y12.rl.length (List.flatMap rlc y12.rl), .row y12.nv 59 3 y12.nt.length (List.flatMap ntc y12.nt)] rfl rfl hq12 (Fits.solid True.intro (Fits.solid True.intro Fits.nil))
  refine WL.op rfl rfl (op_move rfl ?_)
  refine WL.op rfl rfl (op_extract rfl rfl ?_)
  refine WL.op rfl rfl (op_extract rfl rfl ?_)
  refine WL.op rfl rfl (op_alloc H12 Fa.I46 (fun b13 w13 H13 => ?_))
  refine WL.op rfl rfl (op_storeBW (i := 10) H13 rfl rfl rfl rfl (one_cons rfl (one_cons rfl (one_cons rfl (one_cons rfl (one_cons rfl (one_cons (Arr.one (H13.arrR (i := 8) rfl)) (one_cons (Arr.one (H13.arrR (i := 9) rfl)) one_nil))))))) Fa.I46 (fun w14 H14 => ?_))
  refine WL.op rfl rfl (op_assign rfl ?_)
  refine WL.nil ?_
  refine WQ.next ?_
  refine WC.seq ?_
  refine WC.region ?_
  refine WL.op rfl rfl (op_move rfl ?_)
  refine WL.op rfl rfl (op_eqlN (b := 0) rfl rfl ?_)
  refine WL.op rfl rfl (op_move rfl ?_)
  refine WL.yes rfl rfl rfl (by kernel_rfl) rfl (op_fieldAddr rfl Fa.F46_4 ?_)
  refine WL.yes rfl rfl rfl (by kernel_rfl) rfl (op_load rfl (H14.cell (i := 3) rfl rfl) Tryd.underlying9 rfl ?_)
  refine WL.yes rfl rfl rfl (by kernel_rfl) rfl (op_eqlStr rfl rfl ?_)
  refine WL.op rfl rfl (op_pickT rfl (by kernel_rfl) rfl ?_)
  refine WL.op rfl rfl (op_move rfl ?_)
  refine WL.yes rfl rfl rfl (decide_eq_true ((bare_len hc4).2.2.1.trans (by kernel_rfl))) rfl (op_fieldAddr rfl Fa.F46_5 ?_)
  refine WL.yes rfl rfl rfl (decide_eq_true ((bare_len hc4).2.2.1.trans (by kernel_rfl))) rfl (op_load rfl (H14.cell (i := 3) rfl rfl) Tryd.underlying44 rfl ?_)
  refine WL.yes rfl rfl rfl (decide_eq_true ((bare_len hc4).2.2.1.trans (by kernel_rfl))) rfl (op_lenA Tryd.underlying44 rfl (H14.arrR (i := 1) rfl) ?_)
  refine WL.yes rfl rfl rfl (decide_eq_true ((bare_len hc4).2.2.1.trans (by kernel_rfl))) rfl (op_eqlN (b := 1) rfl rfl ?_)
  refine WL.op rfl rfl (op_pickT rfl (decide_eq_true ((bare_len hc4).2.2.1.trans (by kernel_rfl))) rfl ?_)
  refine WL.op rfl rfl (op_move rfl ?_)
  refine WL.yes rfl rfl rfl (decide_eq_true ((congrArg List.length (bare_len hc4).1).trans (by kernel_rfl))) rfl (op_fieldAddr rfl Fa.F46_5 ?_)
  refine WL.yes rfl rfl rfl (decide_eq_true ((congrArg List.length (bare_len hc4).1).trans (by kernel_rfl))) rfl (op_load rfl (H14.cell (i := 3) rfl rfl) Tryd.underlying44 rfl ?_)
  refine WL.yes rfl rfl rfl (decide_eq_true ((congrArg List.length (bare_len hc4).1).trans (by kernel_rfl))) rfl (op_indexAddr (m := 0) Tryd.underlying44 Fa.I52 rfl (H14.arrR (i := 1) rfl) rfl (by rw [(bare_len hc4).1]; decide +kernel) ?_)
  refine WL.yes rfl rfl rfl (decide_eq_true ((congrArg List.length (bare_len hc4).1).trans (by kernel_rfl))) rfl (op_loadSP (vs := rlc (y4.rl.getD 0 Rl.zero)) rfl (Arr.atsF (H14.arrR (i := 1) rfl) (fun _ => rfl) (by decide) Rl.zero (by rw [(bare_len hc4).1]; decide +kernel)) Tryd.underlying52 rfl Fa.I52 rfl ?_)
  refine WL.yes rfl rfl rfl (decide_eq_true ((congrArg List.length (bare_len hc4).1).trans (by kernel_rfl))) rfl (op_build (cs := [_, _, _, _]) Fa.I52 Fa.PL52 rfl rfl ?_)
  refine WL.yes rfl rfl rfl (decide_eq_true ((congrArg List.length (bare_len hc4).1).trans (by kernel_rfl))) rfl (op_eqlS (xs := [_, _, _, _]) (ys := [_, _, _, _]) (b := ((decide ((y4.rl.getD 0 Rl.zero).off = (4 : UInt32))) && ((decide ((y4.rl.getD 0 Rl.zero).kind = (1 : UInt8))) && ((decide ((y4.rl.getD 0 Rl.zero).nm = [109, 97, 105, 110])) && (decide ((y4.rl.getD 0 Rl.zero).add = (0 : UInt32))))))) Fa.FL52 rfl rfl rfl (andc (veqU32 (y4.rl.getD 0 Rl.zero).off (4 : UInt32)) (andc (veqU8 (y4.rl.getD 0 Rl.zero).kind (1 : UInt8)) (andc (veqStr (y4.rl.getD 0 Rl.zero).nm [109, 97, 105, 110]) (andt (veqU32 (y4.rl.getD 0 Rl.zero).add (0 : UInt32)))))) ?_)
  refine WL.op rfl rfl (op_pickT rfl (decide_eq_true ((congrArg List.length (bare_len hc4).1).trans (by kernel_rfl))) rfl ?_)
  refine WL.op rfl rfl (op_move rfl ?_)
  refine WL.yes rfl rfl rfl (by rw [(bare_len hc4).1]; kernel_rfl) rfl (op_move rfl ?_)
  refine WL.yes rfl rfl rfl (by rw [(bare_len hc4).1]; kernel_rfl) rfl (op_eqlN (b := 3) rfl rfl ?_)
  refine WL.op rfl rfl (op_pickT rfl (by rw [(bare_len hc4).1]; kernel_rfl) rfl ?_)
  refine WL.op rfl rfl (op_move rfl ?_)
  refine WL.yes rfl rfl rfl (by kernel_rfl) rfl (op_move rfl ?_)
  refine WL.yes rfl rfl rfl (by kernel_rfl) rfl (op_eqlN (b := 0) rfl rfl ?_)
  refine WL.op rfl rfl (op_pickT rfl (by kernel_rfl) rfl ?_)
  refine WL.op rfl rfl (op_move rfl ?_)
  refine WL.yes rfl rfl rfl (by kernel_rfl) rfl (op_fieldAddr rfl Fa.F46_3 ?_)
  refine WL.yes rfl rfl rfl (by kernel_rfl) rfl (op_load rfl (H14.cell (i := 10) rfl rfl) Tryd.underlying22 rfl ?_)
  refine WL.yes rfl rfl rfl (by kernel_rfl) rfl (op_eqlU32 (b := 4) rfl rfl ?_)
  refine WL.op rfl rfl (op_pickT rfl (by kernel_rfl) rfl ?_)
  refine WL.op rfl rfl (op_assign rfl ?_)
  refine WL.nil ?_
  refine WQ.next ?_
  refine WC.ret ?_
  refine WQ.out (.tmp rfl .nil) ?_
  exact ⟨by rw [decide_eq_true ((bare_len hc12).2.2.2.1.trans (by kernel_rfl))]; rfl, H14.fr⟩
end Go.Proofs.YtbdghnbfnnamkaaDoor
/-! from DAsm10 -/
namespace Go.Proofs.YtbdghnbfnnamkaaDoor
open Go.Owl Go.Spec
set_option maxRecDepth 100000 in
theorem r_ok (a0 : UInt8) (a1 : UInt8) (a2 : UInt8) (a3 : UInt8) (w : World) :
    Calls Tryd.prog 6 #[(vU8 a0), (vU8 a1), (vU8 a2), (vU8 a3)] w (fun e w' => e = .returned (.agg #[(str []), (vU8 a0), (vU8 a1), (vU8 a2), (vU8 a3), (vU32 0), (str []), (str [])]) ∧ Fr [] w w') := by
  refine enter (args := [(vU8 a0), (vU8 a1), (vU8 a2), (vU8 a3)]) Tryd.func6 rfl rfl ?_
  have H0 : Own [] w w [] := Own.start w []
  refine WC.seq ?_
  refine WC.region ?_
  refine WL.op rfl rfl (op_alloc H0 Fa.I26 (fun b1 w1 H1 => ?_))
  refine WL.nil ?_
  refine WQ.next ?_
  refine WC.seq ?_
  refine WC.region ?_
  refine WL.op rfl rfl (op_move rfl ?_)
  refine WL.op rfl rfl (op_move rfl ?_)
  refine WL.op rfl rfl (op_move rfl ?_)
  refine WL.op rfl rfl (op_move rfl ?_)
  refine WL.op rfl rfl (op_build (cs := [_, _, _, _, _]) Fa.I24 Fa.PL24 rfl rfl ?_)
  refine WL.op rfl rfl (op_build (cs := [_, _, _, _, _, _, _, _]) Fa.I26 Fa.PL26 rfl rfl ?_)
  refine WL.op rfl rfl (op_storeBW (i := 0) H1 rfl rfl rfl rfl rfl Fa.I26 (fun w2 H2 => ?_))
  refine WL.nil ?_
  refine WQ.next ?_
  refine WC.ret ?_
  refine WQ.out (.cell rfl (run_loadVarS (vs := [_, _, _, _, _, _, _, _]) (H2.cells (i := 0) rfl rfl) Tryd.underlying26 rfl Fa.I26 rfl) .nil) ?_
  exact ⟨rfl, H2.fr⟩
set_option maxRecDepth 100000 in
theorem i_ok (a0 : UInt8) (a1 : UInt8) (a2 : UInt8) (a3 : UInt32) (w : World) :
    Calls Tryd.prog 7 #[(vU8 a0), (vU8 a1), (vU8 a2), (vU32 a3)] w (fun e w' => e = .returned (.agg #[(str []), (vU8 a0), (vU8 a1), (vU8 a2), (vU8 0), (vU32 a3), (str []), (str [])]) ∧ Fr [] w w') := by
  refine enter (args := [(vU8 a0), (vU8 a1), (vU8 a2), (vU32 a3)]) Tryd.func7 rfl rfl ?_
  have H0 : Own [] w w [] := Own.start w []
  refine WC.seq ?_
  refine WC.region ?_
  refine WL.op rfl rfl (op_alloc H0 Fa.I26 (fun b1 w1 H1 => ?_))
  refine WL.nil ?_
  refine WQ.next ?_
  refine WC.seq ?_
  refine WC.region ?_
  refine WL.op rfl rfl (op_move rfl ?_)
  refine WL.op rfl rfl (op_move rfl ?_)
  refine WL.op rfl rfl (op_move rfl ?_)
  refine WL.op rfl rfl (op_move rfl ?_)
  refine WL.op rfl rfl (op_build (cs := [_, _, _, _, _]) Fa.I24 Fa.PL24 rfl rfl ?_)
  refine WL.op rfl rfl (op_build (cs := [_, _, _, _, _, _, _, _]) Fa.I26 Fa.PL26 rfl rfl ?_)
  refine WL.op rfl rfl (op_storeBW (i := 0) H1 rfl rfl rfl rfl rfl Fa.I26 (fun w2 H2 => ?_))
  refine WL.nil ?_
  refine WQ.next ?_
  refine WC.ret ?_
  refine WQ.out (.cell rfl (run_loadVarS (vs := [_, _, _, _, _, _, _, _]) (H2.cells (i := 0) rfl rfl) Tryd.underlying26 rfl Fa.I26 rfl) .nil) ?_
  exact ⟨rfl, H2.fr⟩
set_option maxRecDepth 100000 in
theorem li_ok (a0 : UInt8) (a1 : UInt32) (w : World) :
    Calls Tryd.prog 8 #[(vU8 a0), (vU32 a1)] w (fun e w' => e = .returned (.agg #[(str []), (vU8 32), (vU8 a0), (vU8 0), (vU8 0), (vU32 a1), (str []), (str [])]) ∧ Fr [] w w') := by
  refine enter (args := [(vU8 a0), (vU32 a1)]) Tryd.func8 rfl rfl ?_
  have H0 : Own [] w w [] := Own.start w []
  refine WC.seq ?_
  refine WC.region ?_
  refine WL.op rfl rfl (op_alloc H0 Fa.I26 (fun b1 w1 H1 => ?_))
  refine WL.nil ?_
  refine WQ.next ?_
  refine WC.seq ?_
  refine WC.region ?_
  refine WL.op rfl rfl (op_move rfl ?_)
  refine WL.op rfl rfl (op_move rfl ?_)
  refine WL.op rfl rfl (op_callF Fa.C7 rfl ((i_ok 32 a0 0 a1 _).mono (fun e w2 hq => ?_)))
  obtain ⟨rfl, hf2⟩ := hq
  refine ⟨_, rfl, ?_⟩
  have H2 := H1.fr' hf2
  refine WL.op rfl rfl (op_storeBW (i := 0) H2 rfl rfl rfl rfl rfl Fa.I26 (fun w3 H3 => ?_))
  refine WL.nil ?_
  refine WQ.next ?_
  refine WC.ret ?_
  refine WQ.out (.cell rfl (run_loadVarS (vs := [_, _, _, _, _, _, _, _]) (H3.cells (i := 0) rfl rfl) Tryd.underlying26 rfl Fa.I26 rfl) .nil) ?_
  exact ⟨rfl, H3.fr⟩
set_option maxRecDepth 100000 in
theorem ldat_ok (a0 : UInt8) (a1 : UInt8) (a2 : List UInt8) (a3 : UInt32) (w : World) :
    Calls Tryd.prog 12 #[(vU8 a0), (vU8 a1), (str a2), (vU32 a3)] w (fun e w' => e = .returned (.agg #[(str []), (vU8 a0), (vU8 a1), (vU8 0), (vU8 0), (vU32 a3), (str []), (str a2)]) ∧ Fr [] w w') := by
  refine enter (args := [(vU8 a0), (vU8 a1), (str a2), (vU32 a3)]) Tryd.func12 rfl rfl ?_
  have H0 : Own [] w w [] := Own.start w []
  refine WC.seq ?_
  refine WC.region ?_
  refine WL.op rfl rfl (op_alloc H0 Fa.I26 (fun b1 w1 H1 => ?_))
  refine WL.nil ?_
  refine WQ.next ?_
  refine WC.seq ?_
  refine WC.region ?_
  refine WL.op rfl rfl (op_move rfl ?_)
  refine WL.op rfl rfl (op_move rfl ?_)
  refine WL.op rfl rfl (op_move rfl ?_)
  refine WL.op rfl rfl (op_build (cs := [_, _, _, _, _]) Fa.I24 Fa.PL24 rfl rfl ?_)
  refine WL.op rfl rfl (op_move rfl ?_)
  refine WL.op rfl rfl (op_build (cs := [_, _, _, _, _, _, _, _]) Fa.I26 Fa.PL26 rfl rfl ?_)
  refine WL.op rfl rfl (op_storeBW (i := 0) H1 rfl rfl rfl rfl rfl Fa.I26 (fun w2 H2 => ?_))
  refine WL.nil ?_
  refine WQ.next ?_
  refine WC.ret ?_
  refine WQ.out (.cell rfl (run_loadVarS (vs := [_, _, _, _, _, _, _, _]) (H2.cells (i := 0) rfl rfl) Tryd.underlying26 rfl Fa.I26 rfl) .nil) ?_
  exact ⟨rfl, H2.fr⟩
set_option maxRecDepth 100000 in
theorem la_ok (a0 : UInt8) (a1 : List UInt8) (a2 : UInt32) (w : World) :
    Calls Tryd.prog 9 #[(vU8 a0), (str a1), (vU32 a2)] w (fun e w' => e = .returned (.agg #[(str []), (vU8 32), (vU8 a0), (vU8 0), (vU8 0), (vU32 a2), (str []), (str a1)]) ∧ Fr [] w w') := by
  refine enter (args := [(vU8 a0), (str a1), (vU32 a2)]) Tryd.func9 rfl rfl ?_
  have H0 : Own [] w w [] := Own.start w []
  refine WC.seq ?_
  refine WC.region ?_
  refine WL.op rfl rfl (op_alloc H0 Fa.I26 (fun b1 w1 H1 => ?_))
  refine WL.nil ?_
  refine WQ.next ?_
  refine WC.seq ?_
  refine WC.region ?_
  refine WL.op rfl rfl (op_move rfl ?_)
  refine WL.op rfl rfl (op_move rfl ?_)
  refine WL.op rfl rfl (op_move rfl ?_)
  refine WL.op rfl rfl (op_callF Fa.C12 rfl ((ldat_ok 32 a0 a1 a2 _).mono (fun e w2 hq => ?_)))
  obtain ⟨rfl, hf2⟩ := hq
  refine ⟨_, rfl, ?_⟩
  have H2 := H1.fr' hf2
  refine WL.op rfl rfl (op_storeBW (i := 0) H2 rfl rfl rfl rfl rfl Fa.I26 (fun w3 H3 => ?_))
  refine WL.nil ?_
  refine WQ.next ?_
  refine WC.ret ?_
  refine WQ.out (.cell rfl (run_loadVarS (vs := [_, _, _, _, _, _, _, _]) (H3.cells (i := 0) rfl rfl) Tryd.underlying26 rfl Fa.I26 rfl) .nil) ?_
  exact ⟨rfl, H3.fr⟩
set_option maxRecDepth 100000 in
theorem ld_ok (a0 : UInt8) (a1 : UInt8) (a2 : UInt8) (a3 : UInt32) (w : World) :
    Calls Tryd.prog 10 #[(vU8 a0), (vU8 a1), (vU8 a2), (vU32 a3)] w (fun e w' => e = .returned (.agg #[(str []), (vU8 a0), (vU8 a1), (vU8 a2), (vU8 0), (vU32 a3), (str []), (str [])]) ∧ Fr [] w w') := by
  refine enter (args := [(vU8 a0), (vU8 a1), (vU8 a2), (vU32 a3)]) Tryd.func10 rfl rfl ?_
  have H0 : Own [] w w [] := Own.start w []
  refine WC.seq ?_
  refine WC.region ?_
  refine WL.op rfl rfl (op_alloc H0 Fa.I26 (fun b1 w1 H1 => ?_))
  refine WL.nil ?_
  refine WQ.next ?_
  refine WC.seq ?_
  refine WC.region ?_
  refine WL.op rfl rfl (op_move rfl ?_)
  refine WL.op rfl rfl (op_move rfl ?_)
  refine WL.op rfl rfl (op_move rfl ?_)
  refine WL.op rfl rfl (op_move rfl ?_)
  refine WL.op rfl rfl (op_callF Fa.C7 rfl ((i_ok a0 a1 a2 a3 _).mono (fun e w2 hq => ?_)))
  obtain ⟨rfl, hf2⟩ := hq
  refine ⟨_, rfl, ?_⟩
  have H2 := H1.fr' hf2
  refine WL.op rfl rfl (op_storeBW (i := 0) H2 rfl rfl rfl rfl rfl Fa.I26 (fun w3 H3 => ?_))
  refine WL.nil ?_
  refine WQ.next ?_
  refine WC.ret ?_
  refine WQ.out (.cell rfl (run_loadVarS (vs := [_, _, _, _, _, _, _, _]) (H3.cells (i := 0) rfl rfl) Tryd.underlying26 rfl Fa.I26 rfl) .nil) ?_
  exact ⟨rfl, H3.fr⟩
set_option maxRecDepth 100000 in
theorem st_ok (a0 : UInt8) (a1 : UInt8) (a2 : UInt8) (a3 : UInt32) (w : World) :
    Calls Tryd.prog 11 #[(vU8 a0), (vU8 a1), (vU8 a2), (vU32 a3)] w (fun e w' => e = .returned (.agg #[(str []), (vU8 a0), (vU8 0), (vU8 a2), (vU8 a1), (vU32 a3), (str []), (str [])]) ∧ Fr [] w w') := by
  refine enter (args := [(vU8 a0), (vU8 a1), (vU8 a2), (vU32 a3)]) Tryd.func11 rfl rfl ?_
  have H0 : Own [] w w [] := Own.start w []
  refine WC.seq ?_
  refine WC.region ?_
  refine WL.op rfl rfl (op_alloc H0 Fa.I26 (fun b1 w1 H1 => ?_))
  refine WL.nil ?_
  refine WQ.next ?_
  refine WC.seq ?_
  refine WC.region ?_
  refine WL.op rfl rfl (op_move rfl ?_)
  refine WL.op rfl rfl (op_move rfl ?_)
  refine WL.op rfl rfl (op_move rfl ?_)
  refine WL.op rfl rfl (op_move rfl ?_)
  refine WL.op rfl rfl (op_build (cs := [_, _, _, _, _]) Fa.I24 Fa.PL24 rfl rfl ?_)
  refine WL.op rfl rfl (op_build (cs := [_, _, _, _, _, _, _, _]) Fa.I26 Fa.PL26 rfl rfl ?_)
  refine WL.op rfl rfl (op_storeBW (i := 0) H1 rfl rfl rfl rfl rfl Fa.I26 (fun w2 H2 => ?_))
  refine WL.nil ?_
  refine WQ.next ?_
  refine WC.ret ?_
  refine WQ.out (.cell rfl (run_loadVarS (vs := [_, _, _, _, _, _, _, _]) (H2.cells (i := 0) rfl rfl) Tryd.underlying26 rfl Fa.I26 rfl) .nil) ?_
  exact ⟨rfl, H2.fr⟩
set_option maxRecDepth 100000 in
theorem stat_ok (a0 : UInt8) (a1 : UInt8) (a2 : List UInt8) (a3 : UInt32) (w : World) :
    Calls Tryd.prog 13 #[(vU8 a0), (vU8 a1), (str a2), (vU32 a3)] w (fun e w' => e = .returned (.agg #[(str []), (vU8 a0), (vU8 0), (vU8 0), (vU8 a1), (vU32 a3), (str []), (str a2)]) ∧ Fr [] w w') := by
  refine enter (args := [(vU8 a0), (vU8 a1), (str a2), (vU32 a3)]) Tryd.func13 rfl rfl ?_
  have H0 : Own [] w w [] := Own.start w []
  refine WC.seq ?_
  refine WC.region ?_
  refine WL.op rfl rfl (op_alloc H0 Fa.I26 (fun b1 w1 H1 => ?_))
  refine WL.nil ?_
  refine WQ.next ?_
  refine WC.seq ?_
  refine WC.region ?_
  refine WL.op rfl rfl (op_move rfl ?_)
  refine WL.op rfl rfl (op_move rfl ?_)
  refine WL.op rfl rfl (op_move rfl ?_)
  refine WL.op rfl rfl (op_build (cs := [_, _, _, _, _]) Fa.I24 Fa.PL24 rfl rfl ?_)
  refine WL.op rfl rfl (op_move rfl ?_)
  refine WL.op rfl rfl (op_build (cs := [_, _, _, _, _, _, _, _]) Fa.I26 Fa.PL26 rfl rfl ?_)
  refine WL.op rfl rfl (op_storeBW (i := 0) H1 rfl rfl rfl rfl rfl Fa.I26 (fun w2 H2 => ?_))
  refine WL.nil ?_
  refine WQ.next ?_
  refine WC.ret ?_
  refine WQ.out (.cell rfl (run_loadVarS (vs := [_, _, _, _, _, _, _, _]) (H2.cells (i := 0) rfl rfl) Tryd.underlying26 rfl Fa.I26 rfl) .nil) ?_
  exact ⟨rfl, H2.fr⟩
set_option maxRecDepth 100000 in
theorem call_ok (a0 : List UInt8) (w : World) :
    Calls Tryd.prog 16 #[(str a0)] w (fun e w' => e = .returned (.agg #[(str []), (vU8 41), (vU8 15), (vU8 0), (vU8 0), (vU32 0), (str []), (str a0)]) ∧ Fr [] w w') := by
  refine enter (args := [(str a0)]) Tryd.func16 rfl rfl ?_
  have H0 : Own [] w w [] := Own.start w []
  refine WC.seq ?_
  refine WC.region ?_
  refine WL.op rfl rfl (op_alloc H0 Fa.I26 (fun b1 w1 H1 => ?_))
  refine WL.nil ?_
  refine WQ.next ?_
  refine WC.seq ?_
  refine WC.region ?_
  refine WL.op rfl rfl (op_move rfl ?_)
  refine WL.op rfl rfl (op_callF Fa.C12 rfl ((ldat_ok 41 15 a0 0 _).mono (fun e w2 hq => ?_)))
  obtain ⟨rfl, hf2⟩ := hq
  refine ⟨_, rfl, ?_⟩
  have H2 := H1.fr' hf2
  refine WL.op rfl rfl (op_storeBW (i := 0) H2 rfl rfl rfl rfl rfl Fa.I26 (fun w3 H3 => ?_))
  refine WL.nil ?_
  refine WQ.next ?_
  refine WC.ret ?_
  refine WQ.out (.cell rfl (run_loadVarS (vs := [_, _, _, _, _, _, _, _]) (H3.cells (i := 0) rfl rfl) Tryd.underlying26 rfl Fa.I26 rfl) .nil) ?_
  exact ⟨rfl, H3.fr⟩
set_option maxRecDepth 100000 in
theorem ret_ok  (w : World) :
    Calls Tryd.prog 17 #[] w (fun e w' => e = .returned (.agg #[(str []), (vU8 42), (vU8 0), (vU8 15), (vU8 0), (vU32 0), (str []), (str [])]) ∧ Fr [] w w') := by
  refine enter (args := []) Tryd.func17 rfl rfl ?_
  have H0 : Own [] w w [] := Own.start w []
  refine WC.seq ?_
  refine WC.region ?_
  refine WL.op rfl rfl (op_alloc H0 Fa.I26 (fun b1 w1 H1 => ?_))
  refine WL.nil ?_
  refine WQ.next ?_
  refine WC.seq ?_
  refine WC.region ?_
  refine WL.op rfl rfl (op_callF Fa.C6 rfl ((r_ok 42 0 15 0 _).mono (fun e w2 hq => ?_)))
  obtain ⟨rfl, hf2⟩ := hq
  refine ⟨_, rfl, ?_⟩
  have H2 := H1.fr' hf2
  refine WL.op rfl rfl (op_storeBW (i := 0) H2 rfl rfl rfl rfl rfl Fa.I26 (fun w3 H3 => ?_))
  refine WL.nil ?_
  refine WQ.next ?_
  refine WC.ret ?_
  refine WQ.out (.cell rfl (run_loadVarS (vs := [_, _, _, _, _, _, _, _]) (H3.cells (i := 0) rfl rfl) Tryd.underlying26 rfl Fa.I26 rfl) .nil) ?_
  exact ⟨rfl, H3.fr⟩
set_option maxRecDepth 100000 in
theorem sys_ok (a0 : UInt32) (w : World) :
    Calls Tryd.prog 18 #[(vU32 a0)] w (fun e w' => e = .returned (.agg #[(str []), (vU8 50), (vU8 0), (vU8 0), (vU8 0), (vU32 a0), (str []), (str [])]) ∧ Fr [] w w') := by
  refine enter (args := [(vU32 a0)]) Tryd.func18 rfl rfl ?_
  have H0 : Own [] w w [] := Own.start w []
  refine WC.seq ?_
  refine WC.region ?_
  refine WL.op rfl rfl (op_alloc H0 Fa.I26 (fun b1 w1 H1 => ?_))
  refine WL.nil ?_
  refine WQ.next ?_
  refine WC.seq ?_
  refine WC.region ?_
  refine WL.op rfl rfl (op_move rfl ?_)
  refine WL.op rfl rfl (op_callF Fa.C7 rfl ((i_ok 50 0 0 a0 _).mono (fun e w2 hq => ?_)))
  obtain ⟨rfl, hf2⟩ := hq
  refine ⟨_, rfl, ?_⟩
  have H2 := H1.fr' hf2
  refine WL.op rfl rfl (op_storeBW (i := 0) H2 rfl rfl rfl rfl rfl Fa.I26 (fun w3 H3 => ?_))
  refine WL.nil ?_
  refine WQ.next ?_
  refine WC.ret ?_
  refine WQ.out (.cell rfl (run_loadVarS (vs := [_, _, _, _, _, _, _, _]) (H3.cells (i := 0) rfl rfl) Tryd.underlying26 rfl Fa.I26 rfl) .nil) ?_
  exact ⟨rfl, H3.fr⟩
set_option maxRecDepth 100000 in
theorem growL_ok (n : Nat) (w : World) (hn : n ≤ 1099511627776) :
    Calls Tryd.prog 32 #[(.slice none 0 0), (vN n)] w (fun e w' => ∃ v, e = .returned v ∧ Own [] w w' [.row v 26 8 0 (List.flatMap lnc [])]) := by
  refine enter (args := [(.slice none 0 0), (vN n)]) Tryd.func32 rfl rfl ?_
  have H0 : Own [] w w [] := Own.start w []
  refine WC.seq ?_
  refine WC.region ?_
  refine WL.op rfl rfl (op_assign rfl ?_)
  refine WL.nil ?_
  refine WQ.next ?_
  refine WC.seq ?_
  refine WC.seq ?_
  refine WC.region ?_
  refine WL.op rfl rfl (op_move rfl ?_)
  refine WL.op rfl rfl (op_lssN (b := 0) rfl rfl ?_)
  refine WL.nil ?_
  refine WQ.next ?_
  refine WC.no rfl (decide_eq_false (by omega)) ?_
  refine WC.skip ?_
  refine WQ.next ?_
  refine WC.seq ?_
  refine WC.seq ?_
  refine WC.region ?_
  refine WL.op rfl rfl (op_move rfl ?_)
  refine WL.op rfl rfl (op_move rfl ?_)
  refine WL.op rfl rfl (op_capNil Tryd.underlying27 rfl ?_)
  refine WL.op rfl rfl (op_move rfl ?_)
  refine WL.op rfl rfl (op_lenA Tryd.underlying27 rfl (Arr.nil _ 1) ?_)
  refine WL.op rfl rfl (op_subN rfl rfl (by omega) (by omega) ?_)
  refine WL.op rfl rfl (op_subN rfl rfl (by omega) (by omega) ?_)
  refine WL.op rfl rfl (op_assign rfl ?_)
  refine WL.nil ?_
  refine WQ.next ?_
  refine WC.seq ?_
  refine WC.region ?_
  refine WL.op rfl rfl (op_move rfl ?_)
  refine WL.op rfl rfl (op_gtrN (b := 0) rfl rfl ?_)
  refine WL.nil ?_
  refine WQ.next ?_
  refine WC.cond rfl (fun (hb1 : (decide ((n - (0 - 0)) > 0)) = true) => ?_) (fun (hb1 : (decide ((n - (0 - 0)) > 0)) = false) => ?_)
  ·
    have hc1 := of_decide_eq_true hb1
    refine WC.region ?_
    refine WL.op rfl rfl (op_move rfl ?_)
    refine WL.op rfl rfl (op_move rfl ?_)
    refine WL.op rfl rfl (op_capNil Tryd.underlying27 rfl ?_)
    refine WL.op rfl rfl (op_cutNil Tryd.underlying27 Fa.I26 rfl rfl ?_)
    refine WL.op rfl rfl (op_move rfl ?_)
    refine WL.op rfl rfl (op_appendZ (m := (n - (0 - 0))) H0 Tryd.underlying27 Tryd.underlying3 Fa.I26 rfl rfl rfl (by omega) (by omega) (by omega) (fun v2 w2 xs2 H2 => ?_))
    refine WL.op rfl rfl (op_move rfl ?_)
    refine WL.op rfl rfl (op_lenA Tryd.underlying27 rfl (Arr.nil _ 1) ?_)
    refine WL.op rfl rfl (op_cutHi Tryd.underlying27 Fa.I26 rfl (H2.arrR (i := 0) rfl) rfl (by omega) ?_)
    have H3 := H2.cut (a := 0) (b := 0) (i := 0) rfl (by omega) (by omega)
    refine WL.op rfl rfl (op_assign rfl ?_)
    refine WL.nil ?_
    refine WQ.next ?_
    refine WC.seq ?_
    refine WC.region ?_
    refine WL.op rfl rfl (op_move rfl ?_)
    refine WL.op rfl rfl (op_assign rfl ?_)
    refine WL.nil ?_
    refine WQ.next ?_
    refine WC.ret ?_
    refine WQ.out (.tmp rfl .nil) ?_
    exact ⟨_, rfl, (Own.rowNone (i := 0) H3 rfl cutL_0 (by omega)).sel [0] rfl rfl⟩
  ·
    have hc1 := of_decide_eq_false hb1
    refine WC.skip ?_
    refine WQ.next ?_
    refine WC.seq ?_
    refine WC.region ?_
    refine WL.op rfl rfl (op_move rfl ?_)
    refine WL.op rfl rfl (op_assign rfl ?_)
    refine WL.nil ?_
    refine WQ.next ?_
    refine WC.ret ?_
    refine WQ.out (.tmp rfl .nil) ?_
    exact ⟨_, rfl, (H0.nilRow 26 8).sel [0] rfl rfl⟩
set_option maxRecDepth 100000 in
theorem cat_ok (lv : Value) (l : List LP) (w : World) (hA : Arr w lv 1 l.length (List.map Prod.fst l)) (hI : ∀ k, Arr w (l.getD k LZ).1 8 (l.getD k LZ).2.length (List.flatMap lnc (l.getD k LZ).2)) (hB : ∀ k, lnSum l k ≤ 1099511627776) (hn : l.length ≤ 1000) :
    Calls Tryd.prog 24 #[lv] w (fun e w' => ∃ v, e = .returned v ∧ Own [] w w' [.row v 26 8 (catTo l l.length).length (List.flatMap lnc (catTo l l.length))]) := by
  refine enter (args := [lv]) Tryd.func24 rfl rfl ?_
  have H0 : Own [] w w [] := Own.start w []
  refine WC.seq ?_
  refine WC.region ?_
  refine WL.op rfl rfl (op_assign rfl ?_)
  refine WL.nil ?_
  refine WQ.next ?_
  refine WC.seq ?_
  refine WC.region ?_
  refine WL.op rfl rfl (op_assign rfl ?_)
  refine WL.nil ?_
  refine WQ.next ?_
  refine WC.seq ?_
  refine WC.seq ?_
  refine WC.region ?_
  refine WL.op rfl rfl (op_move rfl ?_)
  refine WL.op rfl rfl (op_lenA Tryd.underlying53 rfl (H0.arr hA) ?_)
  refine WL.op rfl rfl (op_move rfl ?_)
  refine WL.nil ?_
  refine WQ.next ?_
  refine WC.block ?_
  refine WC.loop (α := Nat) (fun k => [(0, lv), (2, (.slice none 0 0)), (3, (vN (lnSum l k))), (9, lv), (10, (vN l.length)), (11, (vN k))]) (fun k w' => (k ≤ l.length) ∧ Own [] w w' []) (fun k => l.length - k) 0 ⟨(Nat.zero_le _), H0⟩ ⟨rfl, rfl, rfl, rfl, rfl, rfl, trivial⟩ ?_
  rintro k w1 ⟨hinv, H1⟩
  show WC _ _ _ _ _ [(0, lv), (2, (.slice none 0 0)), (3, (vN (lnSum l k))), (9, lv), (10, (vN l.length)), (11, (vN k))] _
  have hbk := hB k
  have hbk1 := hB (k + 1)
  rw [lnSum] at hbk1
  refine WC.seq ?_
  refine WC.region ?_
  refine WL.op rfl rfl (op_lssN rfl rfl ?_)
  refine WL.nil ?_
  refine WQ.next ?_
  refine WC.seq ?_
  refine WC.cond rfl (fun (hb2 : (decide (k < l.length)) = true) => ?_) (fun (hb2 : (decide (k < l.length)) = false) => ?_)
  ·
    have hc2 := of_decide_eq_true hb2
    refine WC.skip ?_
    refine WQ.next ?_
    refine WC.seq ?_
    refine WC.block ?_
    refine WC.seq ?_
    refine WC.region ?_
    refine WL.op rfl rfl (op_indexAddr1 Tryd.underlying53 Fa.I27 rfl (H1.arr hA) rfl (by omega) ?_)
    refine WL.op rfl rfl (op_load rfl ((H1.arr hA).at (get_map Prod.fst LZ (by omega))) Tryd.underlying27 rfl ?_)
    refine WL.op rfl rfl (op_assign rfl ?_)
    refine WL.nil ?_
    refine WQ.next ?_
    refine WC.seq ?_
    refine WC.region ?_
    refine WL.op rfl rfl (op_move rfl ?_)
    refine WL.op rfl rfl (op_move rfl ?_)
    refine WL.op rfl rfl (op_lenA Tryd.underlying27 rfl (H1.arr (hI k)) ?_)
    refine WL.op rfl rfl (op_addN rfl rfl (by omega) ?_)
    refine WL.op rfl rfl (op_assign rfl ?_)
    refine WL.nil ?_
    refine WQ.next ?_
    refine WC.seq ?_
    refine WC.region ?_
    refine WL.op rfl rfl (op_move rfl ?_)
    refine WL.op rfl rfl (op_lssN (b := 0) rfl rfl ?_)
    refine WL.nil ?_
    refine WQ.next ?_
    refine WC.no rfl (decide_eq_false (by omega)) ?_
    refine WC.skip ?_
    refine WQ.inNormal ?_
    refine WQ.next ?_
    refine WC.region ?_
    refine WL.op rfl rfl (op_addN (b := 1) rfl rfl (by omega) ?_)
    refine WL.op rfl rfl (op_move rfl ?_)
    refine WL.nil ?_
    exact WQ.round (k + 1) ⟨(by omega), H1⟩ ⟨rfl, rfl, rfl, rfl, rfl, rfl, trivial⟩ (by omega)
  ·
    have hc2 := of_decide_eq_false hb2
    refine WC.exit ?_
    refine WQ.thenExit ?_
    refine WQ.thenExit ?_
    refine WQ.inHere ?_
    refine WQ.next ?_
    refine WC.seq ?_
    refine WC.region ?_
    refine WL.op rfl rfl (op_move rfl ?_)
    refine WL.op rfl rfl (op_callF Fa.C32 rfl ((growL_ok (lnSum l k) _ (hB _)).mono (fun e w3 hq => ?_)))
    obtain ⟨v3, rfl, hq3⟩ := hq
    refine ⟨_, rfl, ?_⟩
    have H3 : Own [] w w3 [.row v3 26 8 0 (List.flatMap lnc [])] := H1.splice [] [] [.row v3 26 8 0 (List.flatMap lnc [])] rfl rfl hq3 (Fits.solid True.intro Fits.nil)
    refine WL.op rfl rfl (op_assign rfl ?_)
    refine WL.nil ?_
    refine WQ.next ?_
    refine WC.seq ?_
    refine WC.seq ?_
    refine WC.region ?_
    refine WL.op rfl rfl (op_move rfl ?_)
    refine WL.op rfl rfl (op_lenA Tryd.underlying53 rfl (H3.arr hA) ?_)
    refine WL.op rfl rfl (op_move rfl ?_)
    refine WL.nil ?_
    refine WQ.next ?_
    refine WC.block ?_
    refine WC.loop (α := Nat × Value) (fun (q, v) => [(2, (.slice none 0 0)), (6, v), (25, lv), (26, (vN l.length)), (27, (vN q))]) (fun (q, v) w' => (q ≤ l.length) ∧ Own [] w w' [.row v 26 8 (catTo l q).length (List.flatMap lnc (catTo l q))]) (fun (q, v) => l.length - q) (0, v3) ⟨Nat.zero_le _, H3⟩ ⟨rfl, rfl, rfl, rfl, rfl, trivial⟩ ?_
    rintro ⟨q, v⟩ w4 ⟨hk1, H4⟩
    show WC _ _ _ _ _ [(2, (.slice none 0 0)), (6, v), (25, lv), (26, (vN l.length)), (27, (vN q))] _
    have hbk1 := hB (q + 1)
    rw [lnSum, ← catTo_len] at hbk1
    refine WC.seq ?_
    refine WC.region ?_
    refine WL.op rfl rfl (op_lssN rfl rfl ?_)
    refine WL.nil ?_
    refine WQ.next ?_
    refine WC.seq ?_
    refine WC.cond rfl (fun (hb5 : (decide (q < l.length)) = true) => ?_) (fun (hb5 : (decide (q < l.length)) = false) => ?_)
    ·
      have hc5 := of_decide_eq_true hb5
      refine WC.skip ?_
      refine WQ.next ?_
      refine WC.seq ?_
      refine WC.block ?_
      refine WC.seq ?_
      refine WC.region ?_
      refine WL.op rfl rfl (op_indexAddr1 Tryd.underlying53 Fa.I27 rfl (H4.arr hA) rfl (by omega) ?_)
      refine WL.op rfl rfl (op_load rfl ((H4.arr hA).at (get_map Prod.fst LZ (by omega))) Tryd.underlying27 rfl ?_)
      refine WL.op rfl rfl (op_assign rfl ?_)
      refine WL.nil ?_
      refine WQ.next ?_
      refine WC.region ?_
      refine WL.op rfl rfl (op_move rfl ?_)
      refine WL.op rfl rfl (op_move rfl ?_)
      refine WL.op rfl rfl (op_appendF (f := lnc) (l := (catTo l q)) (l' := (l.getD q LZ).2) (i := 0) H4 Tryd.underlying27 Fa.I26 rfl rfl rfl rfl (Src.ofArr Tryd.underlying27 (H4.arr (hI q))) (one_flat (fun _ => by simp [lnc, Value.oneCell'])) (by omega) (by omega) (fun v6 w6 H6 => ?_))
      refine WL.op rfl rfl (op_assign rfl ?_)
      refine WL.nil ?_
      refine WQ.inNormal ?_
      refine WQ.next ?_
      refine WC.region ?_
      refine WL.op rfl rfl (op_addN (b := 1) rfl rfl (by omega) ?_)
      refine WL.op rfl rfl (op_move rfl ?_)
      refine WL.nil ?_
      exact WQ.round (q + 1, v6) ⟨(by omega), (Own.rowEqF (i := 0) (f := lnc) (show Own [] w w6 [.row v6 26 8 ((catTo l q).length + (l.getD q LZ).2.length) (List.flatMap lnc ((catTo l q) ++ (l.getD q LZ).2))] from H6) rfl rfl (by rw [catTo, List.length_append]))⟩ ⟨rfl, rfl, rfl, rfl, rfl, trivial⟩ (by show l.length - (q + 1) < l.length - q; omega)
    ·
      have hc5 := of_decide_eq_false hb5
      refine WC.exit ?_
      refine WQ.thenExit ?_
      refine WQ.thenExit ?_
      refine WQ.inHere ?_
      refine WQ.next ?_
      refine WC.seq ?_
      refine WC.region ?_
      refine WL.op rfl rfl (op_move rfl ?_)
      refine WL.op rfl rfl (op_assign rfl ?_)
      refine WL.nil ?_
      refine WQ.next ?_
      refine WC.ret ?_
      refine WQ.out (.tmp rfl .nil) ?_
      obtain rfl : q = l.length := by omega
      exact ⟨_, rfl, H4.sel [0] rfl rfl⟩
set_option maxRecDepth 100000 in
theorem join_ok (lv : Value) (l : List LP) (w : World) (hA : Arr w lv 1 l.length (List.map Prod.fst l)) (hI : ∀ k, Arr w (l.getD k LZ).1 8 (l.getD k LZ).2.length (List.flatMap lnc (l.getD k LZ).2)) (hB : ∀ k, lnSum l k ≤ 1099511627776) (hn : l.length ≤ 1000) :
    Calls Tryd.prog 21 #[lv] w (fun e w' => ∃ v, e = .returned v ∧ Own [] w w' [.row v 26 8 (catTo l l.length).length (List.flatMap lnc (catTo l l.length))]) := by
  refine enter (args := [lv]) Tryd.func21 rfl rfl ?_
  have H0 : Own [] w w [] := Own.start w []
  refine WC.seq ?_
  refine WC.region ?_
  refine WL.op rfl rfl (op_assign rfl ?_)
  refine WL.nil ?_
  refine WQ.next ?_
  refine WC.seq ?_
  refine WC.region ?_
  refine WL.op rfl rfl (op_move rfl ?_)
  refine WL.op rfl rfl (op_callF Fa.C24 rfl ((cat_ok _ l _ (H0.arr hA) (fun k => (hI k).fr H0.fr (by simp)) hB hn).mono (fun e w1 hq => ?_)))
  obtain ⟨v1, rfl, hq1⟩ := hq
  refine ⟨_, rfl, ?_⟩
  have H1 : Own [] w w1 [.row v1 26 8 (catTo l (l).length).length (List.flatMap lnc (catTo l (l).length))] := H0.splice [] [] [.row v1 26 8 (catTo l (l).length).length (List.flatMap lnc (catTo l (l).length))] rfl rfl hq1 (Fits.solid True.intro Fits.nil)
  refine WL.op rfl rfl (op_assign rfl ?_)
  refine WL.nil ?_
  refine WQ.next ?_
  refine WC.ret ?_
  refine WQ.out (.tmp rfl .nil) ?_
  exact ⟨_, rfl, H1⟩
end Go.Proofs.YtbdghnbfnnamkaaDoor
