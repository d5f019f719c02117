/- General lemmas and walks: WSlot14. No condition but what each theorem names. -/
import Derived.Test.YtbjhccnffacbcaaGreatQe22db859
import Derived.Test.YtbjhccnffacbcaaGreatQ982d0309
/-! from WSlot14 -/
namespace Go.Proofs.YtbjhccnffacbcaaGreat
open Go.Owl Go.Spec
set_option maxHeartbeats 8000000 in
set_option maxRecDepth 100000 in
theorem slotsPlays_ok (bl : UInt8) (key : List UInt8) (lv : Value) (l : List Ak) (w : World) (hA : Arr w lv 4 l.length (List.flatMap akc l)) (hfit : AkFit l) (hl : l.length < 2 ^ 47) (hk0 : key.length < 2 ^ 48) :
    Calls Tryz.prog 5 #[(vU8 bl), (str key), lv] w (fun e w' => e = .returned (.bool true) ∧ Fr [] w w') := by
  refine enter (args := [(vU8 bl), (str key), lv]) Tryz.func5 rfl rfl ?_
  have H0 : Own [] w w [] := Own.start w []
  refine WC.seq ?_
  refine WC.region ?_
  refine WL.op rfl rfl (op_assign rfl ?_)
  refine WL.nil ?_
  refine WQ.next ?_
  refine WC.seq ?_
  refine WC.seq ?_
  refine WC.region ?_
  refine WL.op rfl rfl (op_move rfl ?_)
  refine WL.op rfl rfl (op_move rfl ?_)
  refine WL.op rfl rfl (op_callF Fa.C23 rfl ((heavy44_ok key _ l _ (H0.arr hA) hk0 hfit hl).mono (fun e w1 hq => ?_)))
  obtain ⟨rfl, hf1⟩ := hq
  refine ⟨_, rfl, ?_⟩
  have H1 := H0.fr' hf1
  refine WL.nil ?_
  refine WQ.next ?_
  refine WC.cond rfl (fun (hb2 : (heavy44 key l) = true) => ?_) (fun (hb2 : (heavy44 key l) = false) => ?_)
  ·
    refine WC.seq ?_
    refine WC.region ?_
    refine WL.op rfl rfl (op_callF Fa.C10 rfl ((alive44_ok _).mono (fun e w3 hq => ?_)))
    obtain ⟨rfl, hf3⟩ := hq
    refine ⟨_, rfl, ?_⟩
    have H3 := H1.fr' hf3
    refine WL.op rfl rfl (op_assign rfl ?_)
    refine WL.nil ?_
    refine WQ.next ?_
    refine WC.ret ?_
    refine WQ.thenRet ?_
    refine WQ.out (.tmp rfl .nil) ?_
    exact ⟨rfl, H3.fr⟩
  ·
    have hh := heavy_no hb2
    have hk40 : key.length < 2 ^ 40 := by omega
    refine WC.skip ?_
    refine WQ.next ?_
    refine WC.seq ?_
    refine WC.region ?_
    refine WL.op rfl rfl (op_move rfl ?_)
    refine WL.op rfl rfl (op_remU8 (b := 16) rfl rfl (by decide) ?_)
    refine WL.op rfl rfl (op_convU8U32 (hs := Tryz.underlying5) (hd := Tryz.underlying22) rfl ?_)
    refine WL.op rfl rfl (op_assign rfl ?_)
    refine WL.nil ?_
    refine WQ.next ?_
    refine WC.seq ?_
    refine WC.region ?_
    refine WL.op rfl rfl (op_move rfl ?_)
    refine WL.op rfl rfl (op_move rfl ?_)
    refine bsplit (fun (hb4 : (decide ((UInt32.ofNat (bl % (16 : UInt8)).toNat) < (4 : UInt32))) = true) => ?_) (fun (hb4 : (decide ((UInt32.ofNat (bl % (16 : UInt8)).toNat) < (4 : UInt32))) = false) => ?_)
    ·
      have hc4 := of_decide_eq_true hb4
      have hn4 := nb_lt4 (of_decide_eq_true hb4)
      have hn15 := nb_lt bl
      refine WL.op rfl rfl (op_callF Fa.C20 rfl ((made_no (UInt32.ofNat (bl % (16 : UInt8)).toNat) key _ hn4 (by omega)).mono (fun e w5 hq => ?_)))
      obtain ⟨x5, rfl, hq5⟩ := hq
      refine ⟨_, rfl, ?_⟩
      have H5 : Own [] w w5 [] := H1.splice [] [] [] rfl rfl hq5 Fits.nil
      refine WL.op rfl rfl (op_move rfl ?_)
      refine WL.op rfl rfl (op_extract rfl rfl ?_)
      refine WL.op rfl rfl (op_extract rfl rfl ?_)
      refine WL.op rfl rfl (op_assign rfl ?_)
      refine WL.op rfl rfl (op_assign rfl ?_)
      refine WL.nil ?_
      refine WQ.next ?_
      refine WC.seq ?_
      refine WC.seq ?_
      refine WC.region ?_
      refine WL.op rfl rfl (op_move rfl ?_)
      refine WL.op rfl rfl (op_eqlPN Fa.PT47 rfl rfl ?_)
      refine WL.nil ?_
      refine WQ.next ?_
      refine WC.no rfl rfl ?_
      refine WC.skip ?_
      refine WQ.next ?_
      refine WC.seq ?_
      refine WC.seq ?_
      refine WC.region ?_
      refine WL.op rfl rfl (op_move rfl ?_)
      refine WL.op rfl rfl (op_lssU32 (b := 4) rfl rfl ?_)
      refine WL.nil ?_
      refine WQ.next ?_
      refine WC.yes rfl hb4 ?_
      refine WC.seq ?_
      refine WC.region ?_
      refine WL.op rfl rfl (op_move rfl ?_)
      refine WL.op rfl rfl (op_eqlPN Fa.PT24 rfl rfl ?_)
      refine WL.op rfl rfl (op_move rfl ?_)
      refine WL.yes rfl rfl rfl rfl rfl (op_callF Fa.C10 rfl ((alive44_ok _).mono (fun e w6 hq => ?_)))
      obtain ⟨rfl, hf6⟩ := hq
      refine ⟨_, rfl, ?_⟩
      have H6 := H5.fr' hf6
      refine WL.op rfl rfl (op_pickT rfl rfl rfl ?_)
      refine WL.op rfl rfl (op_assign rfl ?_)
      refine WL.nil ?_
      refine WQ.next ?_
      refine WC.ret ?_
      refine WQ.thenRet ?_
      refine WQ.out (.tmp rfl .nil) ?_
      exact ⟨rfl, H6.fr⟩
    ·
      have hc4 := of_decide_eq_false hb4
      have hn4 := nb_ge (of_decide_eq_false hb4)
      have hn15 := nb_lt bl
      have hcc : 2 + (((UInt32.ofNat (bl % (16 : UInt8)).toNat).toNat - 2) / 2) + (((UInt32.ofNat (bl % (16 : UInt8)).toNat).toNat - 2) / 2) ≤ (UInt32.ofNat (bl % (16 : UInt8)).toNat).toNat := by omega
      refine WL.op rfl rfl (op_callF Fa.C20 rfl ((made_ok (UInt32.ofNat (bl % (16 : UInt8)).toNat) key _ hn4 (by omega)).mono (fun e w7 hq => ?_)))
      obtain ⟨s7, x7, k7, bv7, e07, e17, xv7, cv7, nv7, rfl, hf07, hf17, hf27, hf37, hq7⟩ := hq
      refine ⟨_, rfl, ?_⟩
      have H7 : Own [] w w7 [.blk s7 [(ptr x7 0), (vU32 1), (str key), (vN (((UInt32.ofNat (bl % (16 : UInt8)).toNat).toNat - 2) / 2)), (vI (-1))] 95, Ent.bo x7 [(ptr k7 0)], Ent.bo k7 [(vU32 40), xv7, cv7, nv7, bv7], Ent.ar bv7 1 2 [e07, e17], .row e17 9 1 (UInt32.ofNat (bl % (16 : UInt8)).toNat).toNat (List.map str (List.replicate (UInt32.ofNat (bl % (16 : UInt8)).toNat).toNat (List.replicate 64 0))), Ent.ar e07 1 (1 : UInt32).toNat (List.map str (List.replicate (1 : UInt32).toNat (List.replicate 64 0)))] := H1.splice [] [] [.blk s7 [(ptr x7 0), (vU32 1), (str key), (vN (((UInt32.ofNat (bl % (16 : UInt8)).toNat).toNat - 2) / 2)), (vI (-1))] 95, Ent.bo x7 [(ptr k7 0)], Ent.bo k7 [(vU32 40), xv7, cv7, nv7, bv7], Ent.ar bv7 1 2 [e07, e17], .row e17 9 1 (UInt32.ofNat (bl % (16 : UInt8)).toNat).toNat (List.map str (List.replicate (UInt32.ofNat (bl % (16 : UInt8)).toNat).toNat (List.replicate 64 0))), Ent.ar e07 1 (1 : UInt32).toNat (List.map str (List.replicate (1 : UInt32).toNat (List.replicate 64 0)))] rfl rfl hq7 (Fits.solid True.intro (Fits.fresh hf37 (Fits.fresh hf07 (Fits.fresh hf17 (Fits.solid True.intro (Fits.fresh hf27 Fits.nil))))))
      refine WL.op rfl rfl (op_move rfl ?_)
      refine WL.op rfl rfl (op_extract rfl rfl ?_)
      refine WL.op rfl rfl (op_extract rfl rfl ?_)
      refine WL.op rfl rfl (op_assign rfl ?_)
      refine WL.op rfl rfl (op_assign rfl ?_)
      refine WL.nil ?_
      refine WQ.next ?_
      refine WC.seq ?_
      refine WC.seq ?_
      refine WC.region ?_
      refine WL.op rfl rfl (op_move rfl ?_)
      refine WL.op rfl rfl (op_eqlPN Fa.PT47 rfl rfl ?_)
      refine WL.nil ?_
      refine WQ.next ?_
      refine WC.no rfl rfl ?_
      refine WC.skip ?_
      refine WQ.next ?_
      refine WC.seq ?_
      refine WC.seq ?_
      refine WC.region ?_
      refine WL.op rfl rfl (op_move rfl ?_)
      refine WL.op rfl rfl (op_lssU32 (b := 4) rfl rfl ?_)
      refine WL.nil ?_
      refine WQ.next ?_
      refine WC.no rfl hb4 ?_
      refine WC.skip ?_
      refine WQ.next ?_
      refine WC.seq ?_
      refine WC.seq ?_
      refine WC.region ?_
      refine WL.op rfl rfl (op_move rfl ?_)
      refine WL.op rfl rfl (op_eqlPN Fa.PT24 rfl rfl ?_)
      refine WL.nil ?_
      refine WQ.next ?_
      refine WC.no rfl rfl ?_
      refine WC.skip ?_
      refine WQ.next ?_
      refine WC.seq ?_
      refine WC.region ?_
      refine WL.op rfl rfl (op_move rfl ?_)
      refine WL.op rfl rfl (op_convU32N (hs := Tryz.underlying22) (hd := Tryz.underlying3) rfl ?_)
      refine WL.op rfl rfl (op_move rfl ?_)
      refine WL.op rfl rfl (op_callF Fa.C24 rfl ((rnew_ok ((UInt32.ofNat (bl % (16 : UInt8)).toNat).toNat) key _ (by omega)).mono (fun e w8 hq => ?_)))
      obtain ⟨r8, v8, rfl, hq8⟩ := hq
      refine ⟨_, rfl, ?_⟩
      have H8 : Own [] w w8 [.blk s7 [(ptr x7 0), (vU32 1), (str key), (vN (((UInt32.ofNat (bl % (16 : UInt8)).toNat).toNat - 2) / 2)), (vI (-1))] 95, Ent.bo x7 [(ptr k7 0)], Ent.bo k7 [(vU32 40), xv7, cv7, nv7, bv7], Ent.ar bv7 1 2 [e07, e17], .row e17 9 1 (UInt32.ofNat (bl % (16 : UInt8)).toNat).toNat (List.map str (List.replicate (UInt32.ofNat (bl % (16 : UInt8)).toNat).toNat (List.replicate 64 0))), Ent.ar e07 1 (1 : UInt32).toNat (List.map str (List.replicate (1 : UInt32).toNat (List.replicate 64 0))), .blk r8 [v8, (str key), (vI (-1))] 61, .row v8 9 1 ((UInt32.ofNat (bl % (16 : UInt8)).toNat).toNat) (List.map str (List.replicate ((UInt32.ofNat (bl % (16 : UInt8)).toNat).toNat) (List.replicate 64 0)))] := H7.splice [] [] [.blk r8 [v8, (str key), (vI (-1))] 61, .row v8 9 1 ((UInt32.ofNat (bl % (16 : UInt8)).toNat).toNat) (List.map str (List.replicate ((UInt32.ofNat (bl % (16 : UInt8)).toNat).toNat) (List.replicate 64 0)))] rfl rfl hq8 (Fits.solid True.intro (Fits.solid True.intro Fits.nil))
      refine WL.op rfl rfl (op_assign rfl ?_)
      refine WL.nil ?_
      refine WQ.next ?_
      refine WC.seq ?_
      refine WC.seq ?_
      refine WC.region ?_
      refine WL.op rfl rfl (op_assign rfl ?_)
      refine WL.nil ?_
      refine WQ.next ?_
      refine WC.block ?_
      refine WC.loop (α := Nat × Nat × List (List UInt8) × Int × Value) (fun (i, sb, B1, lf, vq) => [(1, (str key)), (2, lv), (7, (vU32 (UInt32.ofNat (bl % (16 : UInt8)).toNat))), (8, (ptr x7 0)), (9, (ptr sb 0)), (10, (ptr r8 0)), (11, (vN i))]) (fun (i, sb, B1, lf, vq) w' => (i ≤ l.length ∧ SOK B1 (UInt32.ofNat (bl % (16 : UInt8)).toNat).toNat ∧ lf < 2 ^ 63) ∧ Own [] w w' [.blk sb [(ptr x7 0), (vU32 1), (str key), (vN (((UInt32.ofNat (bl % (16 : UInt8)).toNat).toNat - 2) / 2)), (vI lf)] 95, Ent.bo x7 [(ptr k7 0)], Ent.bo k7 [(vU32 40), xv7, cv7, nv7, bv7], Ent.ar bv7 1 2 [e07, e17], .row e17 9 1 (UInt32.ofNat (bl % (16 : UInt8)).toNat).toNat (List.map str B1), Ent.ar e07 1 (1 : UInt32).toNat (List.map str (List.replicate (1 : UInt32).toNat (List.replicate 64 0))), .blk r8 [vq, (str key), (vI lf)] 61, .row vq 9 1 ((UInt32.ofNat (bl % (16 : UInt8)).toNat).toNat) (List.map str B1)]) (fun (i, sb, B1, lf, vq) => l.length - i) (0, s7, (List.replicate (UInt32.ofNat (bl % (16 : UInt8)).toNat).toNat (List.replicate 64 0)), (-1), v8) ⟨⟨Nat.zero_le _, SOK.new _, by decide⟩, H8⟩ ⟨rfl, rfl, rfl, rfl, rfl, rfl, rfl, trivial⟩ ?_
      rintro ⟨i, sb, B1, lf, vq⟩ w9 ⟨⟨hi1, hOK, hL0⟩, H9⟩
      show WC _ _ _ _ _ [(1, (str key)), (2, lv), (7, (vU32 (UInt32.ofNat (bl % (16 : UInt8)).toNat))), (8, (ptr x7 0)), (9, (ptr sb 0)), (10, (ptr r8 0)), (11, (vN i))] _
      have htx := hh.2.2 i
      refine WC.seq ?_
      refine WC.seq ?_
      refine WC.region ?_
      refine WL.op rfl rfl (op_move rfl ?_)
      refine WL.op rfl rfl (op_move rfl ?_)
      refine WL.op rfl rfl (op_lenA Tryz.underlying53 rfl (H9.arr hA) ?_)
      refine WL.op rfl rfl (op_lssN rfl rfl ?_)
      refine WL.nil ?_
      refine WQ.next ?_
      refine WC.cond rfl (fun (hb10 : (decide (i < l.length)) = true) => ?_) (fun (hb10 : (decide (i < l.length)) = false) => ?_)
      ·
        have hc10 := of_decide_eq_true hb10
        refine WC.skip ?_
        refine WQ.next ?_
        refine WC.seq ?_
        refine WC.block ?_
        refine WC.seq ?_
        refine WC.seq ?_
        refine WC.region ?_
        refine WL.op rfl rfl (op_move rfl ?_)
        refine WL.op rfl rfl (op_move rfl ?_)
        refine WL.op rfl rfl (op_indexAddr Tryz.underlying53 Fa.I58 rfl (H9.arr hA) rfl (by omega) ?_)
        refine WL.op rfl rfl (op_fieldAddrS rfl Fa.F58_0 ?_)
        refine WL.op rfl rfl (op_load rfl (Arr.atF (k := 0) (H9.arr hA) (fun _ => rfl) (by decide) Ak.zero (by omega) rfl) Tryz.underlying3 rfl ?_)
        refine WL.nil ?_
        refine WQ.next ?_
        refine WC.block ?_
        refine WC.seq ?_
        refine WC.region ?_
        refine WL.op rfl rfl (op_eqlI (b := (0 : Int)) rfl rfl ?_)
        refine WL.op rfl rfl (op_assign rfl ?_)
        refine WL.nil ?_
        refine WQ.next ?_
        refine WC.cond rfl (fun (hb11 : (decide ((l.getD i Ak.zero).d = (0 : Int))) = true) => ?_) (fun (hb11 : (decide ((l.getD i Ak.zero).d = (0 : Int))) = false) => ?_)
        ·
          have hc11 := of_decide_eq_true hb11
          refine WC.seq ?_
          refine WC.held 25 rfl Fa.M H9 (fun w' => ∃ L', Own [] w w' ([] ++ L')) ?_
          intro w12 H12
          refine WH.take (i := 0) (v := (ptr sb 0)) rfl rfl (.inl rfl) rfl (by kernel_rfl) ⟨[.blk sb [(ptr x7 0), (vU32 1), (str key), (vN (((UInt32.ofNat (bl % (16 : UInt8)).toNat).toNat - 2) / 2)), (vI lf)] 95, Ent.bo x7 [(ptr k7 0)], Ent.bo k7 [(vU32 40), xv7, cv7, nv7, bv7], Ent.ar bv7 1 2 [e07, e17], .row e17 9 1 (UInt32.ofNat (bl % (16 : UInt8)).toNat).toNat (List.map str B1), Ent.ar e07 1 (1 : UInt32).toNat (List.map str (List.replicate (1 : UInt32).toNat (List.replicate 64 0))), .blk r8 [vq, (str key), (vI lf)] 61, .row vq 9 1 ((UInt32.ofNat (bl % (16 : UInt8)).toNat).toNat) (List.map str B1)], H12⟩ (fun wX hSX => hSX.elim fun LX HX => op_move rfl ⟨rfl, rfl⟩) ?_
          refine WH.take (i := 1) (v := lv) rfl rfl (.inl rfl) rfl (by kernel_rfl) ⟨[.blk sb [(ptr x7 0), (vU32 1), (str key), (vN (((UInt32.ofNat (bl % (16 : UInt8)).toNat).toNat - 2) / 2)), (vI lf)] 95, Ent.bo x7 [(ptr k7 0)], Ent.bo k7 [(vU32 40), xv7, cv7, nv7, bv7], Ent.ar bv7 1 2 [e07, e17], .row e17 9 1 (UInt32.ofNat (bl % (16 : UInt8)).toNat).toNat (List.map str B1), Ent.ar e07 1 (1 : UInt32).toNat (List.map str (List.replicate (1 : UInt32).toNat (List.replicate 64 0))), .blk r8 [vq, (str key), (vI lf)] 61, .row vq 9 1 ((UInt32.ofNat (bl % (16 : UInt8)).toNat).toNat) (List.map str B1)], H12⟩ (fun wX hSX => hSX.elim fun LX HX => op_move rfl ⟨rfl, rfl⟩) ?_
          refine WH.take (i := 2) (v := (vN i)) rfl rfl (.inl rfl) rfl (by kernel_rfl) ⟨[.blk sb [(ptr x7 0), (vU32 1), (str key), (vN (((UInt32.ofNat (bl % (16 : UInt8)).toNat).toNat - 2) / 2)), (vI lf)] 95, Ent.bo x7 [(ptr k7 0)], Ent.bo k7 [(vU32 40), xv7, cv7, nv7, bv7], Ent.ar bv7 1 2 [e07, e17], .row e17 9 1 (UInt32.ofNat (bl % (16 : UInt8)).toNat).toNat (List.map str B1), Ent.ar e07 1 (1 : UInt32).toNat (List.map str (List.replicate (1 : UInt32).toNat (List.replicate 64 0))), .blk r8 [vq, (str key), (vI lf)] 61, .row vq 9 1 ((UInt32.ofNat (bl % (16 : UInt8)).toNat).toNat) (List.map str B1)], H12⟩ (fun wX hSX => hSX.elim fun LX HX => op_move rfl ⟨rfl, rfl⟩) ?_
          refine WH.take (i := 3) (v := (.pointer (some (sp lv (i * 4))))) rfl rfl (.inl rfl) rfl (by kernel_rfl) ⟨[.blk sb [(ptr x7 0), (vU32 1), (str key), (vN (((UInt32.ofNat (bl % (16 : UInt8)).toNat).toNat - 2) / 2)), (vI lf)] 95, Ent.bo x7 [(ptr k7 0)], Ent.bo k7 [(vU32 40), xv7, cv7, nv7, bv7], Ent.ar bv7 1 2 [e07, e17], .row e17 9 1 (UInt32.ofNat (bl % (16 : UInt8)).toNat).toNat (List.map str B1), Ent.ar e07 1 (1 : UInt32).toNat (List.map str (List.replicate (1 : UInt32).toNat (List.replicate 64 0))), .blk r8 [vq, (str key), (vI lf)] 61, .row vq 9 1 ((UInt32.ofNat (bl % (16 : UInt8)).toNat).toNat) (List.map str B1)], H12⟩ (fun wX hSX => hSX.elim fun LX HX => op_indexAddrW Tryz.underlying53 Fa.I58 rfl (H12.arr hA) rfl (by omega) ⟨rfl, rfl⟩) ?_
          refine WH.take (i := 4) (v := (.pointer (some (sp lv ((i * 4) + 2))))) rfl rfl (.inl rfl) rfl (by kernel_rfl) ⟨[.blk sb [(ptr x7 0), (vU32 1), (str key), (vN (((UInt32.ofNat (bl % (16 : UInt8)).toNat).toNat - 2) / 2)), (vI lf)] 95, Ent.bo x7 [(ptr k7 0)], Ent.bo k7 [(vU32 40), xv7, cv7, nv7, bv7], Ent.ar bv7 1 2 [e07, e17], .row e17 9 1 (UInt32.ofNat (bl % (16 : UInt8)).toNat).toNat (List.map str B1), Ent.ar e07 1 (1 : UInt32).toNat (List.map str (List.replicate (1 : UInt32).toNat (List.replicate 64 0))), .blk r8 [vq, (str key), (vI lf)] 61, .row vq 9 1 ((UInt32.ofNat (bl % (16 : UInt8)).toNat).toNat) (List.map str B1)], H12⟩ (fun wX hSX => hSX.elim fun LX HX => op_fieldAddrS rfl Fa.F58_2 ⟨rfl, rfl⟩) ?_
          refine WH.take (i := 5) (v := (vU32 (l.getD i Ak.zero).v)) rfl rfl (.inl rfl) rfl (by kernel_rfl) ⟨[.blk sb [(ptr x7 0), (vU32 1), (str key), (vN (((UInt32.ofNat (bl % (16 : UInt8)).toNat).toNat - 2) / 2)), (vI lf)] 95, Ent.bo x7 [(ptr k7 0)], Ent.bo k7 [(vU32 40), xv7, cv7, nv7, bv7], Ent.ar bv7 1 2 [e07, e17], .row e17 9 1 (UInt32.ofNat (bl % (16 : UInt8)).toNat).toNat (List.map str B1), Ent.ar e07 1 (1 : UInt32).toNat (List.map str (List.replicate (1 : UInt32).toNat (List.replicate 64 0))), .blk r8 [vq, (str key), (vI lf)] 61, .row vq 9 1 ((UInt32.ofNat (bl % (16 : UInt8)).toNat).toNat) (List.map str B1)], H12⟩ (fun wX hSX => hSX.elim fun LX HX => op_load rfl (Arr.atF (k := 2) (HX.arr hA) (fun _ => rfl) (by decide) Ak.zero (by omega) rfl) Tryz.underlying22 rfl ⟨rfl, rfl⟩) ?_
          refine WH.take (i := 6) (v := lv) rfl rfl (.inl rfl) rfl (by kernel_rfl) ⟨[.blk sb [(ptr x7 0), (vU32 1), (str key), (vN (((UInt32.ofNat (bl % (16 : UInt8)).toNat).toNat - 2) / 2)), (vI lf)] 95, Ent.bo x7 [(ptr k7 0)], Ent.bo k7 [(vU32 40), xv7, cv7, nv7, bv7], Ent.ar bv7 1 2 [e07, e17], .row e17 9 1 (UInt32.ofNat (bl % (16 : UInt8)).toNat).toNat (List.map str B1), Ent.ar e07 1 (1 : UInt32).toNat (List.map str (List.replicate (1 : UInt32).toNat (List.replicate 64 0))), .blk r8 [vq, (str key), (vI lf)] 61, .row vq 9 1 ((UInt32.ofNat (bl % (16 : UInt8)).toNat).toNat) (List.map str B1)], H12⟩ (fun wX hSX => hSX.elim fun LX HX => op_move rfl ⟨rfl, rfl⟩) ?_
          refine WH.take (i := 7) (v := (vN i)) rfl rfl (.inl rfl) rfl (by kernel_rfl) ⟨[.blk sb [(ptr x7 0), (vU32 1), (str key), (vN (((UInt32.ofNat (bl % (16 : UInt8)).toNat).toNat - 2) / 2)), (vI lf)] 95, Ent.bo x7 [(ptr k7 0)], Ent.bo k7 [(vU32 40), xv7, cv7, nv7, bv7], Ent.ar bv7 1 2 [e07, e17], .row e17 9 1 (UInt32.ofNat (bl % (16 : UInt8)).toNat).toNat (List.map str B1), Ent.ar e07 1 (1 : UInt32).toNat (List.map str (List.replicate (1 : UInt32).toNat (List.replicate 64 0))), .blk r8 [vq, (str key), (vI lf)] 61, .row vq 9 1 ((UInt32.ofNat (bl % (16 : UInt8)).toNat).toNat) (List.map str B1)], H12⟩ (fun wX hSX => hSX.elim fun LX HX => op_move rfl ⟨rfl, rfl⟩) ?_
          refine WH.take (i := 8) (v := (.pointer (some (sp lv (i * 4))))) rfl rfl (.inl rfl) rfl (by kernel_rfl) ⟨[.blk sb [(ptr x7 0), (vU32 1), (str key), (vN (((UInt32.ofNat (bl % (16 : UInt8)).toNat).toNat - 2) / 2)), (vI lf)] 95, Ent.bo x7 [(ptr k7 0)], Ent.bo k7 [(vU32 40), xv7, cv7, nv7, bv7], Ent.ar bv7 1 2 [e07, e17], .row e17 9 1 (UInt32.ofNat (bl % (16 : UInt8)).toNat).toNat (List.map str B1), Ent.ar e07 1 (1 : UInt32).toNat (List.map str (List.replicate (1 : UInt32).toNat (List.replicate 64 0))), .blk r8 [vq, (str key), (vI lf)] 61, .row vq 9 1 ((UInt32.ofNat (bl % (16 : UInt8)).toNat).toNat) (List.map str B1)], H12⟩ (fun wX hSX => hSX.elim fun LX HX => op_indexAddrW Tryz.underlying53 Fa.I58 rfl (H12.arr hA) rfl (by omega) ⟨rfl, rfl⟩) ?_
          refine WH.take (i := 9) (v := (.pointer (some (sp lv ((i * 4) + 3))))) rfl rfl (.inl rfl) rfl (by kernel_rfl) ⟨[.blk sb [(ptr x7 0), (vU32 1), (str key), (vN (((UInt32.ofNat (bl % (16 : UInt8)).toNat).toNat - 2) / 2)), (vI lf)] 95, Ent.bo x7 [(ptr k7 0)], Ent.bo k7 [(vU32 40), xv7, cv7, nv7, bv7], Ent.ar bv7 1 2 [e07, e17], .row e17 9 1 (UInt32.ofNat (bl % (16 : UInt8)).toNat).toNat (List.map str B1), Ent.ar e07 1 (1 : UInt32).toNat (List.map str (List.replicate (1 : UInt32).toNat (List.replicate 64 0))), .blk r8 [vq, (str key), (vI lf)] 61, .row vq 9 1 ((UInt32.ofNat (bl % (16 : UInt8)).toNat).toNat) (List.map str B1)], H12⟩ (fun wX hSX => hSX.elim fun LX HX => op_fieldAddrS rfl Fa.F58_3 ⟨rfl, rfl⟩) ?_
          refine WH.take (i := 10) (v := (str (l.getD i Ak.zero).t)) rfl rfl (.inl rfl) rfl (by kernel_rfl) ⟨[.blk sb [(ptr x7 0), (vU32 1), (str key), (vN (((UInt32.ofNat (bl % (16 : UInt8)).toNat).toNat - 2) / 2)), (vI lf)] 95, Ent.bo x7 [(ptr k7 0)], Ent.bo k7 [(vU32 40), xv7, cv7, nv7, bv7], Ent.ar bv7 1 2 [e07, e17], .row e17 9 1 (UInt32.ofNat (bl % (16 : UInt8)).toNat).toNat (List.map str B1), Ent.ar e07 1 (1 : UInt32).toNat (List.map str (List.replicate (1 : UInt32).toNat (List.replicate 64 0))), .blk r8 [vq, (str key), (vI lf)] 61, .row vq 9 1 ((UInt32.ofNat (bl % (16 : UInt8)).toNat).toNat) (List.map str B1)], H12⟩ (fun wX hSX => hSX.elim fun LX HX => op_load rfl (Arr.atF (k := 3) (HX.arr hA) (fun _ => rfl) (by decide) Ak.zero (by omega) rfl) Tryz.underlying9 rfl ⟨rfl, rfl⟩) ?_
          refine WH.take (i := 12) (v := (ptr r8 0)) rfl rfl (.inl rfl) rfl (by kernel_rfl) ⟨[.blk sb [(ptr x7 0), (vU32 1), (str key), (vN (((UInt32.ofNat (bl % (16 : UInt8)).toNat).toNat - 2) / 2)), (vI lf)] 95, Ent.bo x7 [(ptr k7 0)], Ent.bo k7 [(vU32 40), xv7, cv7, nv7, bv7], Ent.ar bv7 1 2 [e07, e17], .row e17 9 1 (UInt32.ofNat (bl % (16 : UInt8)).toNat).toNat (List.map str B1), Ent.ar e07 1 (1 : UInt32).toNat (List.map str (List.replicate (1 : UInt32).toNat (List.replicate 64 0))), .blk r8 [vq, (str key), (vI lf)] 61, .row vq 9 1 ((UInt32.ofNat (bl % (16 : UInt8)).toNat).toNat) (List.map str B1)], H12⟩ (fun wX hSX => hSX.elim fun LX HX => op_move rfl ⟨rfl, rfl⟩) ?_
          refine WH.take (i := 13) (v := lv) rfl rfl (.inl rfl) rfl (by kernel_rfl) ⟨[.blk sb [(ptr x7 0), (vU32 1), (str key), (vN (((UInt32.ofNat (bl % (16 : UInt8)).toNat).toNat - 2) / 2)), (vI lf)] 95, Ent.bo x7 [(ptr k7 0)], Ent.bo k7 [(vU32 40), xv7, cv7, nv7, bv7], Ent.ar bv7 1 2 [e07, e17], .row e17 9 1 (UInt32.ofNat (bl % (16 : UInt8)).toNat).toNat (List.map str B1), Ent.ar e07 1 (1 : UInt32).toNat (List.map str (List.replicate (1 : UInt32).toNat (List.replicate 64 0))), .blk r8 [vq, (str key), (vI lf)] 61, .row vq 9 1 ((UInt32.ofNat (bl % (16 : UInt8)).toNat).toNat) (List.map str B1)], H12⟩ (fun wX hSX => hSX.elim fun LX HX => op_move rfl ⟨rfl, rfl⟩) ?_
          refine WH.take (i := 14) (v := (vN i)) rfl rfl (.inl rfl) rfl (by kernel_rfl) ⟨[.blk sb [(ptr x7 0), (vU32 1), (str key), (vN (((UInt32.ofNat (bl % (16 : UInt8)).toNat).toNat - 2) / 2)), (vI lf)] 95, Ent.bo x7 [(ptr k7 0)], Ent.bo k7 [(vU32 40), xv7, cv7, nv7, bv7], Ent.ar bv7 1 2 [e07, e17], .row e17 9 1 (UInt32.ofNat (bl % (16 : UInt8)).toNat).toNat (List.map str B1), Ent.ar e07 1 (1 : UInt32).toNat (List.map str (List.replicate (1 : UInt32).toNat (List.replicate 64 0))), .blk r8 [vq, (str key), (vI lf)] 61, .row vq 9 1 ((UInt32.ofNat (bl % (16 : UInt8)).toNat).toNat) (List.map str B1)], H12⟩ (fun wX hSX => hSX.elim fun LX HX => op_move rfl ⟨rfl, rfl⟩) ?_
          refine WH.take (i := 15) (v := (.pointer (some (sp lv (i * 4))))) rfl rfl (.inl rfl) rfl (by kernel_rfl) ⟨[.blk sb [(ptr x7 0), (vU32 1), (str key), (vN (((UInt32.ofNat (bl % (16 : UInt8)).toNat).toNat - 2) / 2)), (vI lf)] 95, Ent.bo x7 [(ptr k7 0)], Ent.bo k7 [(vU32 40), xv7, cv7, nv7, bv7], Ent.ar bv7 1 2 [e07, e17], .row e17 9 1 (UInt32.ofNat (bl % (16 : UInt8)).toNat).toNat (List.map str B1), Ent.ar e07 1 (1 : UInt32).toNat (List.map str (List.replicate (1 : UInt32).toNat (List.replicate 64 0))), .blk r8 [vq, (str key), (vI lf)] 61, .row vq 9 1 ((UInt32.ofNat (bl % (16 : UInt8)).toNat).toNat) (List.map str B1)], H12⟩ (fun wX hSX => hSX.elim fun LX HX => op_indexAddrW Tryz.underlying53 Fa.I58 rfl (H12.arr hA) rfl (by omega) ⟨rfl, rfl⟩) ?_
          refine WH.take (i := 16) (v := (.pointer (some (sp lv ((i * 4) + 2))))) rfl rfl (.inl rfl) rfl (by kernel_rfl) ⟨[.blk sb [(ptr x7 0), (vU32 1), (str key), (vN (((UInt32.ofNat (bl % (16 : UInt8)).toNat).toNat - 2) / 2)), (vI lf)] 95, Ent.bo x7 [(ptr k7 0)], Ent.bo k7 [(vU32 40), xv7, cv7, nv7, bv7], Ent.ar bv7 1 2 [e07, e17], .row e17 9 1 (UInt32.ofNat (bl % (16 : UInt8)).toNat).toNat (List.map str B1), Ent.ar e07 1 (1 : UInt32).toNat (List.map str (List.replicate (1 : UInt32).toNat (List.replicate 64 0))), .blk r8 [vq, (str key), (vI lf)] 61, .row vq 9 1 ((UInt32.ofNat (bl % (16 : UInt8)).toNat).toNat) (List.map str B1)], H12⟩ (fun wX hSX => hSX.elim fun LX HX => op_fieldAddrS rfl Fa.F58_2 ⟨rfl, rfl⟩) ?_
          refine WH.take (i := 17) (v := (vU32 (l.getD i Ak.zero).v)) rfl rfl (.inl rfl) rfl (by kernel_rfl) ⟨[.blk sb [(ptr x7 0), (vU32 1), (str key), (vN (((UInt32.ofNat (bl % (16 : UInt8)).toNat).toNat - 2) / 2)), (vI lf)] 95, Ent.bo x7 [(ptr k7 0)], Ent.bo k7 [(vU32 40), xv7, cv7, nv7, bv7], Ent.ar bv7 1 2 [e07, e17], .row e17 9 1 (UInt32.ofNat (bl % (16 : UInt8)).toNat).toNat (List.map str B1), Ent.ar e07 1 (1 : UInt32).toNat (List.map str (List.replicate (1 : UInt32).toNat (List.replicate 64 0))), .blk r8 [vq, (str key), (vI lf)] 61, .row vq 9 1 ((UInt32.ofNat (bl % (16 : UInt8)).toNat).toNat) (List.map str B1)], H12⟩ (fun wX hSX => hSX.elim fun LX HX => op_load rfl (Arr.atF (k := 2) (HX.arr hA) (fun _ => rfl) (by decide) Ak.zero (by omega) rfl) Tryz.underlying22 rfl ⟨rfl, rfl⟩) ?_
          refine WH.take (i := 18) (v := lv) rfl rfl (.inl rfl) rfl (by kernel_rfl) ⟨[.blk sb [(ptr x7 0), (vU32 1), (str key), (vN (((UInt32.ofNat (bl % (16 : UInt8)).toNat).toNat - 2) / 2)), (vI lf)] 95, Ent.bo x7 [(ptr k7 0)], Ent.bo k7 [(vU32 40), xv7, cv7, nv7, bv7], Ent.ar bv7 1 2 [e07, e17], .row e17 9 1 (UInt32.ofNat (bl % (16 : UInt8)).toNat).toNat (List.map str B1), Ent.ar e07 1 (1 : UInt32).toNat (List.map str (List.replicate (1 : UInt32).toNat (List.replicate 64 0))), .blk r8 [vq, (str key), (vI lf)] 61, .row vq 9 1 ((UInt32.ofNat (bl % (16 : UInt8)).toNat).toNat) (List.map str B1)], H12⟩ (fun wX hSX => hSX.elim fun LX HX => op_move rfl ⟨rfl, rfl⟩) ?_
          refine WH.take (i := 19) (v := (vN i)) rfl rfl (.inl rfl) rfl (by kernel_rfl) ⟨[.blk sb [(ptr x7 0), (vU32 1), (str key), (vN (((UInt32.ofNat (bl % (16 : UInt8)).toNat).toNat - 2) / 2)), (vI lf)] 95, Ent.bo x7 [(ptr k7 0)], Ent.bo k7 [(vU32 40), xv7, cv7, nv7, bv7], Ent.ar bv7 1 2 [e07, e17], .row e17 9 1 (UInt32.ofNat (bl % (16 : UInt8)).toNat).toNat (List.map str B1), Ent.ar e07 1 (1 : UInt32).toNat (List.map str (List.replicate (1 : UInt32).toNat (List.replicate 64 0))), .blk r8 [vq, (str key), (vI lf)] 61, .row vq 9 1 ((UInt32.ofNat (bl % (16 : UInt8)).toNat).toNat) (List.map str B1)], H12⟩ (fun wX hSX => hSX.elim fun LX HX => op_move rfl ⟨rfl, rfl⟩) ?_
          refine WH.take (i := 20) (v := (.pointer (some (sp lv (i * 4))))) rfl rfl (.inl rfl) rfl (by kernel_rfl) ⟨[.blk sb [(ptr x7 0), (vU32 1), (str key), (vN (((UInt32.ofNat (bl % (16 : UInt8)).toNat).toNat - 2) / 2)), (vI lf)] 95, Ent.bo x7 [(ptr k7 0)], Ent.bo k7 [(vU32 40), xv7, cv7, nv7, bv7], Ent.ar bv7 1 2 [e07, e17], .row e17 9 1 (UInt32.ofNat (bl % (16 : UInt8)).toNat).toNat (List.map str B1), Ent.ar e07 1 (1 : UInt32).toNat (List.map str (List.replicate (1 : UInt32).toNat (List.replicate 64 0))), .blk r8 [vq, (str key), (vI lf)] 61, .row vq 9 1 ((UInt32.ofNat (bl % (16 : UInt8)).toNat).toNat) (List.map str B1)], H12⟩ (fun wX hSX => hSX.elim fun LX HX => op_indexAddrW Tryz.underlying53 Fa.I58 rfl (H12.arr hA) rfl (by omega) ⟨rfl, rfl⟩) ?_
          refine WH.take (i := 21) (v := (.pointer (some (sp lv ((i * 4) + 3))))) rfl rfl (.inl rfl) rfl (by kernel_rfl) ⟨[.blk sb [(ptr x7 0), (vU32 1), (str key), (vN (((UInt32.ofNat (bl % (16 : UInt8)).toNat).toNat - 2) / 2)), (vI lf)] 95, Ent.bo x7 [(ptr k7 0)], Ent.bo k7 [(vU32 40), xv7, cv7, nv7, bv7], Ent.ar bv7 1 2 [e07, e17], .row e17 9 1 (UInt32.ofNat (bl % (16 : UInt8)).toNat).toNat (List.map str B1), Ent.ar e07 1 (1 : UInt32).toNat (List.map str (List.replicate (1 : UInt32).toNat (List.replicate 64 0))), .blk r8 [vq, (str key), (vI lf)] 61, .row vq 9 1 ((UInt32.ofNat (bl % (16 : UInt8)).toNat).toNat) (List.map str B1)], H12⟩ (fun wX hSX => hSX.elim fun LX HX => op_fieldAddrS rfl Fa.F58_3 ⟨rfl, rfl⟩) ?_
          refine WH.take (i := 22) (v := (str (l.getD i Ak.zero).t)) rfl rfl (.inl rfl) rfl (by kernel_rfl) ⟨[.blk sb [(ptr x7 0), (vU32 1), (str key), (vN (((UInt32.ofNat (bl % (16 : UInt8)).toNat).toNat - 2) / 2)), (vI lf)] 95, Ent.bo x7 [(ptr k7 0)], Ent.bo k7 [(vU32 40), xv7, cv7, nv7, bv7], Ent.ar bv7 1 2 [e07, e17], .row e17 9 1 (UInt32.ofNat (bl % (16 : UInt8)).toNat).toNat (List.map str B1), Ent.ar e07 1 (1 : UInt32).toNat (List.map str (List.replicate (1 : UInt32).toNat (List.replicate 64 0))), .blk r8 [vq, (str key), (vI lf)] 61, .row vq 9 1 ((UInt32.ofNat (bl % (16 : UInt8)).toNat).toNat) (List.map str B1)], H12⟩ (fun wX hSX => hSX.elim fun LX HX => op_load rfl (Arr.atF (k := 3) (HX.arr hA) (fun _ => rfl) (by decide) Ak.zero (by omega) rfl) Tryz.underlying9 rfl ⟨rfl, rfl⟩) ?_
          refine WH.named (fun W hW => ?_)
          have st17_2 : ∀ (v23461 : Value) (wS : World), Own [] w wS [.blk sb [(ptr x7 0), (vU32 1), (str key), (vN (((UInt32.ofNat (bl % (16 : UInt8)).toNat).toNat - 2) / 2)), (vI (updE (Sst.mk B1 lf) (((UInt32.ofNat (bl % (16 : UInt8)).toNat).toNat - 2) / 2) key ((l.getD i Ak.zero).v) ((l.getD i Ak.zero).t)).1.left)] 95, Ent.bo x7 [(ptr k7 0)], Ent.bo k7 [(vU32 40), xv7, cv7, nv7, bv7], Ent.ar bv7 1 2 [e07, e17], .row e17 9 1 (UInt32.ofNat (bl % (16 : UInt8)).toNat).toNat (List.map str (updE (Sst.mk B1 lf) (((UInt32.ofNat (bl % (16 : UInt8)).toNat).toNat - 2) / 2) key ((l.getD i Ak.zero).v) ((l.getD i Ak.zero).t)).1.B), Ent.ar e07 1 (1 : UInt32).toNat (List.map str (List.replicate (1 : UInt32).toNat (List.replicate 64 0))), .blk r8 [v23461, (str key), (vI (updE (Sst.mk B1 lf) ((((UInt32.ofNat (bl % (16 : UInt8)).toNat).toNat) - 2) / 2) key ((l.getD i Ak.zero).v) ((l.getD i Ak.zero).t)).1.left)] 61, .row v23461 9 1 ((UInt32.ofNat (bl % (16 : UInt8)).toNat).toNat) (List.map str (updE (Sst.mk B1 lf) ((((UInt32.ofNat (bl % (16 : UInt8)).toNat).toNat) - 2) / 2) key ((l.getD i Ak.zero).v) ((l.getD i Ak.zero).t)).1.B)] → W 0 #[true, true, true, true, true, true, true, true, true, true, true, true, true, true, true, true, true, true, true, true, true, true, true, true, true] [(1, (str key)), (2, lv), (7, (vU32 (UInt32.ofNat (bl % (16 : UInt8)).toNat))), (8, (ptr x7 0)), (9, (ptr sb 0)), (10, (ptr r8 0)), (11, (vN i)), (47, (vN i)), (48, lv), (49, (vN l.length)), (50, (.bool (decide (i < l.length)))), (53, lv), (54, (vN i)), (55, (.pointer (some (sp lv (i * 4))))), (56, (.pointer (some (sp lv ((i * 4) + 0))))), (57, (vI (l.getD i Ak.zero).d)), (58, (.bool (decide ((l.getD i Ak.zero).d = (0 : Int))))), (59, (.bool (decide ((l.getD i Ak.zero).d = (0 : Int))))), (60, (ptr sb 0)), (61, lv), (62, (vN i)), (63, (.pointer (some (sp lv (i * 4))))), (64, (.pointer (some (sp lv ((i * 4) + 2))))), (65, (vU32 (l.getD i Ak.zero).v)), (66, lv), (67, (vN i)), (68, (.pointer (some (sp lv (i * 4))))), (69, (.pointer (some (sp lv ((i * 4) + 3))))), (70, (str (l.getD i Ak.zero).t)), (71, (vN (updE (Sst.mk B1 lf) (((UInt32.ofNat (bl % (16 : UInt8)).toNat).toNat - 2) / 2) key ((l.getD i Ak.zero).v) ((l.getD i Ak.zero).t)).2)), (72, (ptr r8 0)), (73, lv), (74, (vN i)), (75, (.pointer (some (sp lv (i * 4))))), (76, (.pointer (some (sp lv ((i * 4) + 2))))), (77, (vU32 (l.getD i Ak.zero).v)), (78, lv), (79, (vN i)), (80, (.pointer (some (sp lv (i * 4))))), (81, (.pointer (some (sp lv ((i * 4) + 3))))), (82, (str (l.getD i Ak.zero).t)), (83, (vN (updE (Sst.mk B1 lf) ((((UInt32.ofNat (bl % (16 : UInt8)).toNat).toNat) - 2) / 2) key ((l.getD i Ak.zero).v) ((l.getD i Ak.zero).t)).2)), (84, (.bool (decide ((updE (Sst.mk B1 lf) (((UInt32.ofNat (bl % (16 : UInt8)).toNat).toNat - 2) / 2) key ((l.getD i Ak.zero).v) ((l.getD i Ak.zero).t)).2 ≠ (updE (Sst.mk B1 lf) ((((UInt32.ofNat (bl % (16 : UInt8)).toNat).toNat) - 2) / 2) key ((l.getD i Ak.zero).v) ((l.getD i Ak.zero).t)).2))))] wS := by
            intro v23461 wS HS
            rw [hW]
            refine WH.done (by kernel_rfl) ?_
            refine WQ.next ?_
            refine WC.cond rfl (fun (hb14 : (decide ((updE (Sst.mk B1 lf) (((UInt32.ofNat (bl % (16 : UInt8)).toNat).toNat - 2) / 2) key ((l.getD i Ak.zero).v) ((l.getD i Ak.zero).t)).2 ≠ (updE (Sst.mk B1 lf) ((((UInt32.ofNat (bl % (16 : UInt8)).toNat).toNat) - 2) / 2) key ((l.getD i Ak.zero).v) ((l.getD i Ak.zero).t)).2)) = true) => ?_) (fun (hb14 : (decide ((updE (Sst.mk B1 lf) (((UInt32.ofNat (bl % (16 : UInt8)).toNat).toNat - 2) / 2) key ((l.getD i Ak.zero).v) ((l.getD i Ak.zero).t)).2 ≠ (updE (Sst.mk B1 lf) ((((UInt32.ofNat (bl % (16 : UInt8)).toNat).toNat) - 2) / 2) key ((l.getD i Ak.zero).v) ((l.getD i Ak.zero).t)).2)) = false) => ?_)
            ·
              have hc14 := of_decide_eq_true hb14
              refine WC.seq ?_
              refine WC.region ?_
              refine WL.op rfl rfl (op_assign rfl ?_)
              refine WL.nil ?_
              refine WQ.next ?_
              refine WC.ret ?_
              refine WQ.inRet ?_
              refine WQ.thenRet ?_
              refine WQ.inRet ?_
              refine WQ.thenRet ?_
              refine WQ.thenRet ?_
              refine WQ.inRet ?_
              refine WQ.thenRet ?_
              refine WQ.out (.tmp rfl .nil) ?_
              exact absurd rfl (of_decide_eq_true hb14)
            ·
              have hc14 := of_decide_eq_false hb14
              refine WC.skip ?_
              refine WQ.inNormal ?_
              refine WQ.next ?_
              refine WC.seq ?_
              refine WC.region ?_
              refine WL.op rfl rfl (op_move rfl ?_)
              refine WL.op rfl rfl (op_move rfl ?_)
              refine WL.op rfl rfl (op_callF Fa.C28 rfl ((same_ok sb 1 key ((updE (Sst.mk B1 lf) (((UInt32.ofNat (bl % (16 : UInt8)).toNat).toNat - 2) / 2) key ((l.getD i Ak.zero).v) ((l.getD i Ak.zero).t)).1.left) x7 k7 bv7 e17 xv7 cv7 nv7 40 2 ((UInt32.ofNat (bl % (16 : UInt8)).toNat).toNat) ([e07, e17]) ((updE (Sst.mk B1 lf) (((UInt32.ofNat (bl % (16 : UInt8)).toNat).toNat - 2) / 2) key ((l.getD i Ak.zero).v) ((l.getD i Ak.zero).t)).1.B) r8 v23461 ((updE (Sst.mk B1 lf) ((((UInt32.ofNat (bl % (16 : UInt8)).toNat).toNat) - 2) / 2) key ((l.getD i Ak.zero).v) ((l.getD i Ak.zero).t)).1.left) _ (HS.cellsAt (i := 0) rfl) (HS.cellsAtO (i := 1) rfl) (HS.cellsAtO (i := 2) rfl) (HS.arrO (i := 3) rfl) (HS.arrR (i := 4) rfl) (HS.cellsAt (i := 6) rfl) (HS.arrR (i := 7) rfl) (by decide) rfl ((SOK.upd hOK)).len ((SOK.upd hOK)).all hn4 (by omega) hk40).mono (fun e w15 hq => ?_)))
              obtain ⟨rfl, hf15⟩ := hq
              refine ⟨_, rfl, ?_⟩
              have H15 := HS.fr' hf15
              refine WL.op rfl rfl (op_not rfl ?_)
              refine WL.nil ?_
              refine WQ.next ?_
              refine WC.no rfl (congrArg Bool.not rfl) ?_
              refine WC.skip ?_
              refine WQ.inNormal ?_
              refine WQ.next ?_
              refine WC.region ?_
              refine WL.op rfl rfl (op_move rfl ?_)
              refine WL.op rfl rfl (op_addN (b := 1) rfl rfl (by omega) ?_)
              refine WL.op rfl rfl (op_assign rfl ?_)
              refine WL.nil ?_
              exact WQ.round (i + 1, sb, (updE (Sst.mk B1 lf) (((UInt32.ofNat (bl % (16 : UInt8)).toNat).toNat - 2) / 2) key ((l.getD i Ak.zero).v) ((l.getD i Ak.zero).t)).1.B, (updE (Sst.mk B1 lf) (((UInt32.ofNat (bl % (16 : UInt8)).toNat).toNat - 2) / 2) key ((l.getD i Ak.zero).v) ((l.getD i Ak.zero).t)).1.left, v23461) ⟨⟨by omega, (SOK.upd hOK), (updE_left hL0)⟩, (H15.sel [0, 1, 2, 3, 4, 5, 6, 7] rfl rfl)⟩ ⟨rfl, rfl, rfl, rfl, rfl, rfl, rfl, trivial⟩ (by show l.length - (i + 1) < l.length - i; omega)
          have st17_1 : ∀ (wS : World), Own [] w wS [.blk sb [(ptr x7 0), (vU32 1), (str key), (vN (((UInt32.ofNat (bl % (16 : UInt8)).toNat).toNat - 2) / 2)), (vI (updE (Sst.mk B1 lf) (((UInt32.ofNat (bl % (16 : UInt8)).toNat).toNat - 2) / 2) key ((l.getD i Ak.zero).v) ((l.getD i Ak.zero).t)).1.left)] 95, Ent.bo x7 [(ptr k7 0)], Ent.bo k7 [(vU32 40), xv7, cv7, nv7, bv7], Ent.ar bv7 1 2 [e07, e17], .row e17 9 1 (UInt32.ofNat (bl % (16 : UInt8)).toNat).toNat (List.map str (updE (Sst.mk B1 lf) (((UInt32.ofNat (bl % (16 : UInt8)).toNat).toNat - 2) / 2) key ((l.getD i Ak.zero).v) ((l.getD i Ak.zero).t)).1.B), Ent.ar e07 1 (1 : UInt32).toNat (List.map str (List.replicate (1 : UInt32).toNat (List.replicate 64 0))), .blk r8 [vq, (str key), (vI lf)] 61, .row vq 9 1 ((UInt32.ofNat (bl % (16 : UInt8)).toNat).toNat) (List.map str B1)] → W 2 #[true, true, true, true, true, true, true, true, true, true, true, true, true, true, true, true, true, true, true, true, true, true, true, false, false] [(1, (str key)), (2, lv), (7, (vU32 (UInt32.ofNat (bl % (16 : UInt8)).toNat))), (8, (ptr x7 0)), (9, (ptr sb 0)), (10, (ptr r8 0)), (11, (vN i)), (47, (vN i)), (48, lv), (49, (vN l.length)), (50, (.bool (decide (i < l.length)))), (53, lv), (54, (vN i)), (55, (.pointer (some (sp lv (i * 4))))), (56, (.pointer (some (sp lv ((i * 4) + 0))))), (57, (vI (l.getD i Ak.zero).d)), (58, (.bool (decide ((l.getD i Ak.zero).d = (0 : Int))))), (59, (.bool (decide ((l.getD i Ak.zero).d = (0 : Int))))), (60, (ptr sb 0)), (61, lv), (62, (vN i)), (63, (.pointer (some (sp lv (i * 4))))), (64, (.pointer (some (sp lv ((i * 4) + 2))))), (65, (vU32 (l.getD i Ak.zero).v)), (66, lv), (67, (vN i)), (68, (.pointer (some (sp lv (i * 4))))), (69, (.pointer (some (sp lv ((i * 4) + 3))))), (70, (str (l.getD i Ak.zero).t)), (71, (vN (updE (Sst.mk B1 lf) (((UInt32.ofNat (bl % (16 : UInt8)).toNat).toNat - 2) / 2) key ((l.getD i Ak.zero).v) ((l.getD i Ak.zero).t)).2)), (72, (ptr r8 0)), (73, lv), (74, (vN i)), (75, (.pointer (some (sp lv (i * 4))))), (76, (.pointer (some (sp lv ((i * 4) + 2))))), (77, (vU32 (l.getD i Ak.zero).v)), (78, lv), (79, (vN i)), (80, (.pointer (some (sp lv (i * 4))))), (81, (.pointer (some (sp lv ((i * 4) + 3))))), (82, (str (l.getD i Ak.zero).t))] wS := by
            intro wS HS
            rw [hW]
            refine WH.all1 (i := 23) (by kernel_rfl) ?_
            ·
              refine WHS.op (i := 23) rfl (.inl rfl) rfl (op_callF Fa.C25 rfl ((rupd_ok r8 vq key lf ((UInt32.ofNat (bl % (16 : UInt8)).toNat).toNat) B1 ((l.getD i Ak.zero).v) ((l.getD i Ak.zero).t) _ _ (HS.part [6, 7] rfl rfl) (hOK).len (hOK).all hn4 (by omega) hk40 hL0 (by omega)).mono (fun e w23461 hq => ?_)))
              obtain ⟨v23461, rfl, hq23461⟩ := hq
              refine ⟨_, rfl, ?_⟩
              have H23461 : Own [] w w23461 [.blk sb [(ptr x7 0), (vU32 1), (str key), (vN (((UInt32.ofNat (bl % (16 : UInt8)).toNat).toNat - 2) / 2)), (vI (updE (Sst.mk B1 lf) (((UInt32.ofNat (bl % (16 : UInt8)).toNat).toNat - 2) / 2) key ((l.getD i Ak.zero).v) ((l.getD i Ak.zero).t)).1.left)] 95, Ent.bo x7 [(ptr k7 0)], Ent.bo k7 [(vU32 40), xv7, cv7, nv7, bv7], Ent.ar bv7 1 2 [e07, e17], .row e17 9 1 (UInt32.ofNat (bl % (16 : UInt8)).toNat).toNat (List.map str (updE (Sst.mk B1 lf) (((UInt32.ofNat (bl % (16 : UInt8)).toNat).toNat - 2) / 2) key ((l.getD i Ak.zero).v) ((l.getD i Ak.zero).t)).1.B), Ent.ar e07 1 (1 : UInt32).toNat (List.map str (List.replicate (1 : UInt32).toNat (List.replicate 64 0))), .blk r8 [v23461, (str key), (vI (updE (Sst.mk B1 lf) ((((UInt32.ofNat (bl % (16 : UInt8)).toNat).toNat) - 2) / 2) key ((l.getD i Ak.zero).v) ((l.getD i Ak.zero).t)).1.left)] 61, .row v23461 9 1 ((UInt32.ofNat (bl % (16 : UInt8)).toNat).toNat) (List.map str (updE (Sst.mk B1 lf) ((((UInt32.ofNat (bl % (16 : UInt8)).toNat).toNat) - 2) / 2) key ((l.getD i Ak.zero).v) ((l.getD i Ak.zero).t)).1.B)] := HS.splice [6, 7] [.blk r8 [v23461, (str key), (vI (updE (Sst.mk B1 lf) ((((UInt32.ofNat (bl % (16 : UInt8)).toNat).toNat) - 2) / 2) key ((l.getD i Ak.zero).v) ((l.getD i Ak.zero).t)).1.left)] 61, .row v23461 9 1 ((UInt32.ofNat (bl % (16 : UInt8)).toNat).toNat) (List.map str (updE (Sst.mk B1 lf) ((((UInt32.ofNat (bl % (16 : UInt8)).toNat).toNat) - 2) / 2) key ((l.getD i Ak.zero).v) ((l.getD i Ak.zero).t)).1.B)] [] rfl rfl hq23461 (Fits.solid True.intro (Fits.solid True.intro Fits.nil))
              refine ⟨⟨[.blk sb [(ptr x7 0), (vU32 1), (str key), (vN (((UInt32.ofNat (bl % (16 : UInt8)).toNat).toNat - 2) / 2)), (vI (updE (Sst.mk B1 lf) (((UInt32.ofNat (bl % (16 : UInt8)).toNat).toNat - 2) / 2) key ((l.getD i Ak.zero).v) ((l.getD i Ak.zero).t)).1.left)] 95, Ent.bo x7 [(ptr k7 0)], Ent.bo k7 [(vU32 40), xv7, cv7, nv7, bv7], Ent.ar bv7 1 2 [e07, e17], .row e17 9 1 (UInt32.ofNat (bl % (16 : UInt8)).toNat).toNat (List.map str (updE (Sst.mk B1 lf) (((UInt32.ofNat (bl % (16 : UInt8)).toNat).toNat - 2) / 2) key ((l.getD i Ak.zero).v) ((l.getD i Ak.zero).t)).1.B), Ent.ar e07 1 (1 : UInt32).toNat (List.map str (List.replicate (1 : UInt32).toNat (List.replicate 64 0))), .blk r8 [v23461, (str key), (vI (updE (Sst.mk B1 lf) ((((UInt32.ofNat (bl % (16 : UInt8)).toNat).toNat) - 2) / 2) key ((l.getD i Ak.zero).v) ((l.getD i Ak.zero).t)).1.left)] 61, .row v23461 9 1 ((UInt32.ofNat (bl % (16 : UInt8)).toNat).toNat) (List.map str (updE (Sst.mk B1 lf) ((((UInt32.ofNat (bl % (16 : UInt8)).toNat).toNat) - 2) / 2) key ((l.getD i Ak.zero).v) ((l.getD i Ak.zero).t)).1.B)], H23461⟩, ?_⟩
              refine WH.take (i := 24) (v := (.bool (decide ((updE (Sst.mk B1 lf) (((UInt32.ofNat (bl % (16 : UInt8)).toNat).toNat - 2) / 2) key ((l.getD i Ak.zero).v) ((l.getD i Ak.zero).t)).2 ≠ (updE (Sst.mk B1 lf) ((((UInt32.ofNat (bl % (16 : UInt8)).toNat).toNat) - 2) / 2) key ((l.getD i Ak.zero).v) ((l.getD i Ak.zero).t)).2)))) rfl rfl (.inl rfl) rfl (by kernel_rfl) ⟨[.blk sb [(ptr x7 0), (vU32 1), (str key), (vN (((UInt32.ofNat (bl % (16 : UInt8)).toNat).toNat - 2) / 2)), (vI (updE (Sst.mk B1 lf) (((UInt32.ofNat (bl % (16 : UInt8)).toNat).toNat - 2) / 2) key ((l.getD i Ak.zero).v) ((l.getD i Ak.zero).t)).1.left)] 95, Ent.bo x7 [(ptr k7 0)], Ent.bo k7 [(vU32 40), xv7, cv7, nv7, bv7], Ent.ar bv7 1 2 [e07, e17], .row e17 9 1 (UInt32.ofNat (bl % (16 : UInt8)).toNat).toNat (List.map str (updE (Sst.mk B1 lf) (((UInt32.ofNat (bl % (16 : UInt8)).toNat).toNat - 2) / 2) key ((l.getD i Ak.zero).v) ((l.getD i Ak.zero).t)).1.B), Ent.ar e07 1 (1 : UInt32).toNat (List.map str (List.replicate (1 : UInt32).toNat (List.replicate 64 0))), .blk r8 [v23461, (str key), (vI (updE (Sst.mk B1 lf) ((((UInt32.ofNat (bl % (16 : UInt8)).toNat).toNat) - 2) / 2) key ((l.getD i Ak.zero).v) ((l.getD i Ak.zero).t)).1.left)] 61, .row v23461 9 1 ((UInt32.ofNat (bl % (16 : UInt8)).toNat).toNat) (List.map str (updE (Sst.mk B1 lf) ((((UInt32.ofNat (bl % (16 : UInt8)).toNat).toNat) - 2) / 2) key ((l.getD i Ak.zero).v) ((l.getD i Ak.zero).t)).1.B)], H23461⟩ (fun wX hSX => hSX.elim fun LX HX => op_neqN rfl rfl ⟨rfl, rfl⟩) ?_
              have hq := st17_2 v23461 w23461 H23461
              rw [hW] at hq
              refine WH.cov ?_ hq
              exact by repeat (first | exact trivial | refine ⟨rfl, ?_⟩)
          have st17_0 : ∀ (wS : World), Own [] w wS [.blk sb [(ptr x7 0), (vU32 1), (str key), (vN (((UInt32.ofNat (bl % (16 : UInt8)).toNat).toNat - 2) / 2)), (vI lf)] 95, Ent.bo x7 [(ptr k7 0)], Ent.bo k7 [(vU32 40), xv7, cv7, nv7, bv7], Ent.ar bv7 1 2 [e07, e17], .row e17 9 1 (UInt32.ofNat (bl % (16 : UInt8)).toNat).toNat (List.map str B1), Ent.ar e07 1 (1 : UInt32).toNat (List.map str (List.replicate (1 : UInt32).toNat (List.replicate 64 0))), .blk r8 [vq, (str key), (vI lf)] 61, .row vq 9 1 ((UInt32.ofNat (bl % (16 : UInt8)).toNat).toNat) (List.map str B1)] → W 3 #[true, true, true, true, true, true, true, true, true, true, true, false, true, true, true, true, true, true, true, true, true, true, true, false, false] [(1, (str key)), (2, lv), (7, (vU32 (UInt32.ofNat (bl % (16 : UInt8)).toNat))), (8, (ptr x7 0)), (9, (ptr sb 0)), (10, (ptr r8 0)), (11, (vN i)), (47, (vN i)), (48, lv), (49, (vN l.length)), (50, (.bool (decide (i < l.length)))), (53, lv), (54, (vN i)), (55, (.pointer (some (sp lv (i * 4))))), (56, (.pointer (some (sp lv ((i * 4) + 0))))), (57, (vI (l.getD i Ak.zero).d)), (58, (.bool (decide ((l.getD i Ak.zero).d = (0 : Int))))), (59, (.bool (decide ((l.getD i Ak.zero).d = (0 : Int))))), (60, (ptr sb 0)), (61, lv), (62, (vN i)), (63, (.pointer (some (sp lv (i * 4))))), (64, (.pointer (some (sp lv ((i * 4) + 2))))), (65, (vU32 (l.getD i Ak.zero).v)), (66, lv), (67, (vN i)), (68, (.pointer (some (sp lv (i * 4))))), (69, (.pointer (some (sp lv ((i * 4) + 3))))), (70, (str (l.getD i Ak.zero).t)), (72, (ptr r8 0)), (73, lv), (74, (vN i)), (75, (.pointer (some (sp lv (i * 4))))), (76, (.pointer (some (sp lv ((i * 4) + 2))))), (77, (vU32 (l.getD i Ak.zero).v)), (78, lv), (79, (vN i)), (80, (.pointer (some (sp lv (i * 4))))), (81, (.pointer (some (sp lv ((i * 4) + 3))))), (82, (str (l.getD i Ak.zero).t))] wS := by
            intro wS HS
            rw [hW]
            refine WH.all1 (i := 11) (by kernel_rfl) ?_
            ·
              refine WHS.op (i := 11) rfl (.inl rfl) rfl (op_callF Fa.C17 rfl ((update_ok sb 1 key (((UInt32.ofNat (bl % (16 : UInt8)).toNat).toNat - 2) / 2) lf x7 k7 bv7 e17 xv7 cv7 nv7 40 2 ((UInt32.ofNat (bl % (16 : UInt8)).toNat).toNat) ([e07, e17]) B1 ((l.getD i Ak.zero).v) ((l.getD i Ak.zero).t) _ _ (HS.part [0, 1, 2, 3, 4] rfl rfl) (by decide) rfl (hOK).len (hOK).all hcc (by omega) hk40 hn4 hL0 (by omega)).mono (fun e w23221 hq => ?_)))
              obtain ⟨rfl, hq23221⟩ := hq
              refine ⟨_, rfl, ?_⟩
              have H23221 : Own [] w w23221 [.blk sb [(ptr x7 0), (vU32 1), (str key), (vN (((UInt32.ofNat (bl % (16 : UInt8)).toNat).toNat - 2) / 2)), (vI (updE (Sst.mk B1 lf) (((UInt32.ofNat (bl % (16 : UInt8)).toNat).toNat - 2) / 2) key ((l.getD i Ak.zero).v) ((l.getD i Ak.zero).t)).1.left)] 95, Ent.bo x7 [(ptr k7 0)], Ent.bo k7 [(vU32 40), xv7, cv7, nv7, bv7], Ent.ar bv7 1 2 [e07, e17], .row e17 9 1 (UInt32.ofNat (bl % (16 : UInt8)).toNat).toNat (List.map str (updE (Sst.mk B1 lf) (((UInt32.ofNat (bl % (16 : UInt8)).toNat).toNat - 2) / 2) key ((l.getD i Ak.zero).v) ((l.getD i Ak.zero).t)).1.B), Ent.ar e07 1 (1 : UInt32).toNat (List.map str (List.replicate (1 : UInt32).toNat (List.replicate 64 0))), .blk r8 [vq, (str key), (vI lf)] 61, .row vq 9 1 ((UInt32.ofNat (bl % (16 : UInt8)).toNat).toNat) (List.map str B1)] := HS.splice [0, 1, 2, 3, 4] [.blk sb [(ptr x7 0), (vU32 1), (str key), (vN (((UInt32.ofNat (bl % (16 : UInt8)).toNat).toNat - 2) / 2)), (vI (updE (Sst.mk B1 lf) (((UInt32.ofNat (bl % (16 : UInt8)).toNat).toNat - 2) / 2) key ((l.getD i Ak.zero).v) ((l.getD i Ak.zero).t)).1.left)] 95, Ent.bo x7 [(ptr k7 0)], Ent.bo k7 [(vU32 40), xv7, cv7, nv7, bv7], Ent.ar bv7 1 2 [e07, e17], .row e17 9 1 (UInt32.ofNat (bl % (16 : UInt8)).toNat).toNat (List.map str (updE (Sst.mk B1 lf) (((UInt32.ofNat (bl % (16 : UInt8)).toNat).toNat - 2) / 2) key ((l.getD i Ak.zero).v) ((l.getD i Ak.zero).t)).1.B)] [] rfl rfl hq23221 (Fits.solid True.intro (Fits.same (j := 1) rfl (Fits.same (j := 2) rfl (Fits.same (j := 3) rfl (Fits.solid True.intro Fits.nil)))))
              refine ⟨⟨[.blk sb [(ptr x7 0), (vU32 1), (str key), (vN (((UInt32.ofNat (bl % (16 : UInt8)).toNat).toNat - 2) / 2)), (vI (updE (Sst.mk B1 lf) (((UInt32.ofNat (bl % (16 : UInt8)).toNat).toNat - 2) / 2) key ((l.getD i Ak.zero).v) ((l.getD i Ak.zero).t)).1.left)] 95, Ent.bo x7 [(ptr k7 0)], Ent.bo k7 [(vU32 40), xv7, cv7, nv7, bv7], Ent.ar bv7 1 2 [e07, e17], .row e17 9 1 (UInt32.ofNat (bl % (16 : UInt8)).toNat).toNat (List.map str (updE (Sst.mk B1 lf) (((UInt32.ofNat (bl % (16 : UInt8)).toNat).toNat - 2) / 2) key ((l.getD i Ak.zero).v) ((l.getD i Ak.zero).t)).1.B), Ent.ar e07 1 (1 : UInt32).toNat (List.map str (List.replicate (1 : UInt32).toNat (List.replicate 64 0))), .blk r8 [vq, (str key), (vI lf)] 61, .row vq 9 1 ((UInt32.ofNat (bl % (16 : UInt8)).toNat).toNat) (List.map str B1)], H23221⟩, ?_⟩
              have hq := st17_1 w23221 H23221
              rw [hW] at hq
              refine WH.cov ?_ hq
              exact by repeat (first | exact trivial | refine ⟨rfl, ?_⟩)
          have hq := st17_0 w12 H12
          rw [hW] at hq ⊢
          refine WH.cov ?_ hq
          exact by repeat (first | exact trivial | refine ⟨rfl, ?_⟩)
        ·
          have hc11 := of_decide_eq_false hb11
          refine WC.seq ?_
          refine WC.region ?_
          refine WL.op rfl rfl (op_eqlI (b := (1 : Int)) rfl rfl ?_)
          refine WL.op rfl rfl (op_assign rfl ?_)
          refine WL.nil ?_
          refine WQ.next ?_
          refine WC.cond rfl (fun (hb16 : (decide ((l.getD i Ak.zero).d = (1 : Int))) = true) => ?_) (fun (hb16 : (decide ((l.getD i Ak.zero).d = (1 : Int))) = false) => ?_)
          ·
            have hc16 := of_decide_eq_true hb16
            refine WC.seq ?_
            refine WC.region ?_
            refine WL.op rfl rfl (op_move rfl ?_)
            refine WL.op rfl rfl (op_move rfl ?_)
            refine WL.op rfl rfl (op_move rfl ?_)
            refine WL.op rfl rfl (op_indexAddr Tryz.underlying53 Fa.I58 rfl (H9.arr hA) rfl (by omega) ?_)
            refine WL.op rfl rfl (op_fieldAddrS rfl Fa.F58_1 ?_)
            refine WL.op rfl rfl (op_load rfl (Arr.atF (k := 1) (H9.arr hA) (fun _ => rfl) (by decide) Ak.zero (by omega) rfl) Tryz.underlying3 rfl ?_)
            refine WL.op rfl rfl (op_maxI (b := (-1)) rfl rfl ?_)
            refine WL.op rfl rfl (op_nilCheck rfl ?_)
            refine WL.op rfl rfl (op_fieldAddr rfl Fa.F61_2 ?_)
            refine WL.op rfl rfl (op_storeB (i := 6) H9 rfl rfl rfl rfl rfl Fa.I3 (fun w17 H17 => ?_))
            refine WL.nil ?_
            refine WQ.next ?_
            refine WC.seq ?_
            refine WC.region ?_
            refine WL.op rfl rfl (op_move rfl ?_)
            refine WL.op rfl rfl (op_move rfl ?_)
            refine WL.op rfl rfl (op_move rfl ?_)
            refine WL.op rfl rfl (op_indexAddr Tryz.underlying53 Fa.I58 rfl (H17.arr hA) rfl (by omega) ?_)
            refine WL.op rfl rfl (op_fieldAddrS rfl Fa.F58_1 ?_)
            refine WL.op rfl rfl (op_load rfl (Arr.atF (k := 1) (H17.arr hA) (fun _ => rfl) (by decide) Ak.zero (by omega) rfl) Tryz.underlying3 rfl ?_)
            refine WL.op rfl rfl (op_callF Fa.C16 rfl ((fuse_ok sb (ptr x7 0) rfl 1 key (((UInt32.ofNat (bl % (16 : UInt8)).toNat).toNat - 2) / 2) lf ((l.getD i Ak.zero).n) _ _ (H17.part [0] rfl rfl)).mono (fun e w18 hq => ?_)))
            obtain ⟨rfl, hq18⟩ := hq
            refine ⟨_, rfl, ?_⟩
            have H18 : Own [] w w18 [.blk sb [(ptr x7 0), (vU32 1), (str key), (vN (((UInt32.ofNat (bl % (16 : UInt8)).toNat).toNat - 2) / 2)), (vI (max ((l.getD i Ak.zero).n) (-1)))] 95, Ent.bo x7 [(ptr k7 0)], Ent.bo k7 [(vU32 40), xv7, cv7, nv7, bv7], Ent.ar bv7 1 2 [e07, e17], .row e17 9 1 (UInt32.ofNat (bl % (16 : UInt8)).toNat).toNat (List.map str B1), Ent.ar e07 1 (1 : UInt32).toNat (List.map str (List.replicate (1 : UInt32).toNat (List.replicate 64 0))), .blk r8 [vq, (str key), (vI (max (l.getD i Ak.zero).n (-1)))] 61, .row vq 9 1 ((UInt32.ofNat (bl % (16 : UInt8)).toNat).toNat) (List.map str B1)] := H17.splice [0] [.blk sb [(ptr x7 0), (vU32 1), (str key), (vN (((UInt32.ofNat (bl % (16 : UInt8)).toNat).toNat - 2) / 2)), (vI (max ((l.getD i Ak.zero).n) (-1)))] 95] [] rfl rfl hq18 (Fits.solid True.intro Fits.nil)
            refine WL.op rfl rfl (op_neqN (b := 0) rfl rfl ?_)
            refine WL.nil ?_
            refine WQ.next ?_
            refine WC.no rfl (by decide) ?_
            refine WC.skip ?_
            refine WQ.inNormal ?_
            refine WQ.next ?_
            refine WC.seq ?_
            refine WC.region ?_
            refine WL.op rfl rfl (op_move rfl ?_)
            refine WL.op rfl rfl (op_move rfl ?_)
            refine WL.op rfl rfl (op_callF Fa.C28 rfl ((same_ok sb 1 key (max ((l.getD i Ak.zero).n) (-1)) x7 k7 bv7 e17 xv7 cv7 nv7 40 2 ((UInt32.ofNat (bl % (16 : UInt8)).toNat).toNat) ([e07, e17]) B1 r8 vq (max (l.getD i Ak.zero).n (-1)) _ (H18.cellsAt (i := 0) rfl) (H18.cellsAtO (i := 1) rfl) (H18.cellsAtO (i := 2) rfl) (H18.arrO (i := 3) rfl) (H18.arrR (i := 4) rfl) (H18.cellsAt (i := 6) rfl) (H18.arrR (i := 7) rfl) (by decide) rfl (hOK).len (hOK).all hn4 (by omega) hk40).mono (fun e w19 hq => ?_)))
            obtain ⟨rfl, hf19⟩ := hq
            refine ⟨_, rfl, ?_⟩
            have H19 := H18.fr' hf19
            refine WL.op rfl rfl (op_not rfl ?_)
            refine WL.nil ?_
            refine WQ.next ?_
            refine WC.no rfl (congrArg Bool.not rfl) ?_
            refine WC.skip ?_
            refine WQ.inNormal ?_
            refine WQ.next ?_
            refine WC.region ?_
            refine WL.op rfl rfl (op_move rfl ?_)
            refine WL.op rfl rfl (op_addN (b := 1) rfl rfl (by omega) ?_)
            refine WL.op rfl rfl (op_assign rfl ?_)
            refine WL.nil ?_
            exact WQ.round (i + 1, sb, B1, (max ((l.getD i Ak.zero).n) (-1)), vq) ⟨⟨by omega, hOK, (max_left (hfit i).2)⟩, (H19.sel [0, 1, 2, 3, 4, 5, 6, 7] rfl rfl)⟩ ⟨rfl, rfl, rfl, rfl, rfl, rfl, rfl, trivial⟩ (by show l.length - (i + 1) < l.length - i; omega)
          ·
            have hc16 := of_decide_eq_false hb16
            refine WC.seq ?_
            refine WC.region ?_
            refine WL.op rfl rfl (op_eqlI (b := (2 : Int)) rfl rfl ?_)
            refine WL.op rfl rfl (op_assign rfl ?_)
            refine WL.nil ?_
            refine WQ.next ?_
            refine WC.cond rfl (fun (hb20 : (decide ((l.getD i Ak.zero).d = (2 : Int))) = true) => ?_) (fun (hb20 : (decide ((l.getD i Ak.zero).d = (2 : Int))) = false) => ?_)
            ·
              have hc20 := of_decide_eq_true hb20
              refine WC.seq ?_
              refine WC.region ?_
              refine WL.op rfl rfl (op_move rfl ?_)
              refine WL.op rfl rfl (op_move rfl ?_)
              refine WL.op rfl rfl (op_indexAddr Tryz.underlying53 Fa.I58 rfl (H9.arr hA) rfl (by omega) ?_)
              refine WL.op rfl rfl (op_fieldAddrS rfl Fa.F58_3 ?_)
              refine WL.op rfl rfl (op_load rfl (Arr.atF (k := 3) (H9.arr hA) (fun _ => rfl) (by decide) Ak.zero (by omega) rfl) Tryz.underlying9 rfl ?_)
              refine WL.op rfl rfl (op_callF Fa.C26 rfl ((blk22_ok ((l.getD i Ak.zero).t) _ (by omega)).mono (fun e w21 hq => ?_)))
              obtain ⟨rfl, hf21⟩ := hq
              refine ⟨_, rfl, ?_⟩
              have H21 := H9.fr' hf21
              refine WL.op rfl rfl (op_assign rfl ?_)
              refine WL.nil ?_
              refine WQ.next ?_
              refine WC.seq ?_
              refine WC.seq ?_
              refine WC.region ?_
              refine WL.op rfl rfl (op_move rfl ?_)
              refine WL.op rfl rfl (op_move rfl ?_)
              refine WL.op rfl rfl (op_indexAddr Tryz.underlying53 Fa.I58 rfl (H21.arr hA) rfl (by omega) ?_)
              refine WL.op rfl rfl (op_fieldAddrS rfl Fa.F58_1 ?_)
              refine WL.op rfl rfl (op_load rfl (Arr.atF (k := 1) (H21.arr hA) (fun _ => rfl) (by decide) Ak.zero (by omega) rfl) Tryz.underlying3 rfl ?_)
              refine WL.op rfl rfl (op_lssI (b := (0 : Int)) rfl rfl ?_)
              refine WL.op rfl rfl (op_move rfl ?_)
              refine WL.split (t := 118) rfl (fun (hb22 : (decide ((l.getD i Ak.zero).n < (0 : Int))) = true) => ?_) (fun (hb22 : (decide ((l.getD i Ak.zero).n < (0 : Int))) = false) => ?_)
              ·
                have hc22 := of_decide_eq_true hb22
                refine WL.no rfl rfl rfl hb22 rfl ?_
                refine WL.no rfl rfl rfl hb22 rfl ?_
                refine WL.no rfl rfl rfl hb22 rfl ?_
                refine WL.no rfl rfl rfl hb22 rfl ?_
                refine WL.no rfl rfl rfl hb22 rfl ?_
                refine WL.no rfl rfl rfl hb22 rfl ?_
                refine WL.no rfl rfl rfl hb22 rfl ?_
                refine WL.no rfl rfl rfl hb22 rfl ?_
                refine WL.op rfl rfl (op_pickT rfl hb22 rfl ?_)
                refine WL.op rfl rfl (op_move rfl ?_)
                refine WL.no rfl rfl rfl rfl rfl ?_
                refine WL.no rfl rfl rfl rfl rfl ?_
                refine WL.no rfl rfl rfl rfl rfl ?_
                refine WL.no rfl rfl rfl rfl rfl ?_
                refine WL.no rfl rfl rfl rfl rfl ?_
                refine WL.no rfl rfl rfl rfl rfl ?_
                refine WL.no rfl rfl rfl rfl rfl ?_
                refine WL.no rfl rfl rfl rfl rfl ?_
                refine WL.no rfl rfl rfl rfl rfl ?_
                refine WL.no rfl rfl rfl rfl rfl ?_
                refine WL.op rfl rfl (op_pickT rfl rfl rfl ?_)
                refine WL.nil ?_
                refine WQ.next ?_
                refine WC.yes rfl rfl ?_
                refine WC.exit ?_
                refine WQ.thenExit ?_
                refine WQ.inPass rfl ?_
                refine WQ.thenExit ?_
                refine WQ.inHere ?_
                refine WQ.next ?_
                refine WC.region ?_
                refine WL.op rfl rfl (op_move rfl ?_)
                refine WL.op rfl rfl (op_addN (b := 1) rfl rfl (by omega) ?_)
                refine WL.op rfl rfl (op_assign rfl ?_)
                refine WL.nil ?_
                exact WQ.round (i + 1, sb, B1, lf, vq) ⟨⟨by omega, hOK, hL0⟩, (H21.sel [0, 1, 2, 3, 4, 5, 6, 7] rfl rfl)⟩ ⟨rfl, rfl, rfl, rfl, rfl, rfl, rfl, trivial⟩ (by show l.length - (i + 1) < l.length - i; omega)
              ·
                have hc22 := of_decide_eq_false hb22
                refine WL.yes rfl rfl rfl hb22 rfl (op_move rfl ?_)
                refine WL.yes rfl rfl rfl hb22 rfl (op_move rfl ?_)
                refine WL.yes rfl rfl rfl hb22 rfl (op_indexAddr Tryz.underlying53 Fa.I58 rfl (H21.arr hA) rfl (by omega) ?_)
                refine WL.yes rfl rfl rfl hb22 rfl (op_fieldAddrS rfl Fa.F58_1 ?_)
                refine WL.yes rfl rfl rfl hb22 rfl (op_load rfl (Arr.atF (k := 1) (H21.arr hA) (fun _ => rfl) (by decide) Ak.zero (by omega) rfl) Tryz.underlying3 rfl ?_)
                refine WL.yes rfl rfl rfl hb22 rfl (op_move rfl ?_)
                refine WL.yes rfl rfl rfl hb22 rfl (op_convU32N (hs := Tryz.underlying22) (hd := Tryz.underlying3) rfl ?_)
                refine WL.yes rfl rfl rfl hb22 rfl (op_geqI rfl rfl ?_)
                refine WL.op rfl rfl (op_pickF rfl hb22 rfl ?_)
                refine WL.op rfl rfl (op_move rfl ?_)
                refine WL.split (t := 128) rfl (fun (hb23 : (decide ((l.getD i Ak.zero).n ≥ ((UInt32.ofNat (bl % (16 : UInt8)).toNat).toNat : Int))) = true) => ?_) (fun (hb23 : (decide ((l.getD i Ak.zero).n ≥ ((UInt32.ofNat (bl % (16 : UInt8)).toNat).toNat : Int))) = false) => ?_)
                ·
                  have hc23 := of_decide_eq_true hb23
                  refine WL.no rfl rfl rfl hb23 rfl ?_
                  refine WL.no rfl rfl rfl hb23 rfl ?_
                  refine WL.no rfl rfl rfl hb23 rfl ?_
                  refine WL.no rfl rfl rfl hb23 rfl ?_
                  refine WL.no rfl rfl rfl hb23 rfl ?_
                  refine WL.no rfl rfl rfl hb23 rfl ?_
                  refine WL.no rfl rfl rfl hb23 rfl ?_
                  refine WL.no rfl rfl rfl hb23 rfl ?_
                  refine WL.no rfl rfl rfl hb23 rfl ?_
                  refine WL.no rfl rfl rfl hb23 rfl ?_
                  refine WL.op rfl rfl (op_pickT rfl hb23 rfl ?_)
                  refine WL.nil ?_
                  refine WQ.next ?_
                  refine WC.yes rfl rfl ?_
                  refine WC.exit ?_
                  refine WQ.thenExit ?_
                  refine WQ.inPass rfl ?_
                  refine WQ.thenExit ?_
                  refine WQ.inHere ?_
                  refine WQ.next ?_
                  refine WC.region ?_
                  refine WL.op rfl rfl (op_move rfl ?_)
                  refine WL.op rfl rfl (op_addN (b := 1) rfl rfl (by omega) ?_)
                  refine WL.op rfl rfl (op_assign rfl ?_)
                  refine WL.nil ?_
                  exact WQ.round (i + 1, sb, B1, lf, vq) ⟨⟨by omega, hOK, hL0⟩, (H21.sel [0, 1, 2, 3, 4, 5, 6, 7] rfl rfl)⟩ ⟨rfl, rfl, rfl, rfl, rfl, rfl, rfl, trivial⟩ (by show l.length - (i + 1) < l.length - i; omega)
                ·
                  have hc23 := of_decide_eq_false hb23
                  refine WL.yes rfl rfl rfl hb23 rfl (op_move rfl ?_)
                  refine WL.yes rfl rfl rfl hb23 rfl (op_move rfl ?_)
                  refine WL.yes rfl rfl rfl hb23 rfl (op_move rfl ?_)
                  refine WL.yes rfl rfl rfl hb23 rfl (op_indexAddr Tryz.underlying53 Fa.I58 rfl (H21.arr hA) rfl (by omega) ?_)
                  refine WL.yes rfl rfl rfl hb23 rfl (op_fieldAddrS rfl Fa.F58_1 ?_)
                  refine WL.yes rfl rfl rfl hb23 rfl (op_load rfl (Arr.atF (k := 1) (H21.arr hA) (fun _ => rfl) (by decide) Ak.zero (by omega) rfl) Tryz.underlying3 rfl ?_)
                  refine WL.yes rfl rfl rfl hb23 rfl (op_convIU32 Tryz.underlying3 Tryz.underlying22 rfl ?_)
                  refine WL.yes rfl rfl rfl hb23 rfl (op_move rfl ?_)
                  refine WL.yes rfl rfl rfl hb23 rfl (op_callF Fa.C27 rfl ((xsetI_ok x7 k7 bv7 e17 xv7 cv7 nv7 40 2 ((UInt32.ofNat (bl % (16 : UInt8)).toNat).toNat) ([e07, e17]) B1 1 ((l.getD i Ak.zero).n) (blk64 ((l.getD i Ak.zero).t)) _ _ (H21.part [1, 2, 3, 4] rfl rfl) (by decide) rfl (by omega) (by omega) (by omega) (blk64_len _)).mono (fun e w24 hq => ?_)))
                  obtain ⟨rfl, hq24⟩ := hq
                  refine ⟨_, rfl, ?_⟩
                  have H24 : Own [] w w24 [.blk sb [(ptr x7 0), (vU32 1), (str key), (vN (((UInt32.ofNat (bl % (16 : UInt8)).toNat).toNat - 2) / 2)), (vI lf)] 95, Ent.bo x7 [(ptr k7 0)], Ent.bo k7 [(vU32 40), xv7, cv7, nv7, bv7], Ent.ar bv7 1 2 [e07, e17], .row e17 9 1 (UInt32.ofNat (bl % (16 : UInt8)).toNat).toNat (List.map str (B1.set ((l.getD i Ak.zero).n).toNat (blk64 ((l.getD i Ak.zero).t)))), Ent.ar e07 1 (1 : UInt32).toNat (List.map str (List.replicate (1 : UInt32).toNat (List.replicate 64 0))), .blk r8 [vq, (str key), (vI lf)] 61, .row vq 9 1 ((UInt32.ofNat (bl % (16 : UInt8)).toNat).toNat) (List.map str B1)] := H21.splice [1, 2, 3, 4] [Ent.bo x7 [(ptr k7 0)], Ent.bo k7 [(vU32 40), xv7, cv7, nv7, bv7], Ent.ar bv7 1 2 [e07, e17], .row e17 9 1 (UInt32.ofNat (bl % (16 : UInt8)).toNat).toNat (List.map str (B1.set ((l.getD i Ak.zero).n).toNat (blk64 ((l.getD i Ak.zero).t))))] [] rfl rfl hq24 (Fits.same (j := 0) rfl (Fits.same (j := 1) rfl (Fits.same (j := 2) rfl (Fits.solid True.intro Fits.nil))))
                  refine WL.yes rfl rfl rfl hb23 rfl (op_neqN (b := 0) rfl rfl ?_)
                  refine WL.op rfl rfl (op_pickF rfl hb23 rfl ?_)
                  refine WL.nil ?_
                  refine WQ.next ?_
                  refine WC.no rfl (by decide) ?_
                  refine WC.skip ?_
                  refine WQ.next ?_
                  refine WC.seq ?_
                  refine WC.region ?_
                  refine WL.op rfl rfl (op_move rfl ?_)
                  refine WL.op rfl rfl (op_nilCheck rfl ?_)
                  refine WL.op rfl rfl (op_fieldAddr rfl Fa.F61_0 ?_)
                  refine WL.op rfl rfl (op_load rfl (H24.cell (i := 6) rfl rfl) Tryz.underlying59 rfl ?_)
                  have H26 := H24.nilRow 9 1
                  refine WL.op rfl rfl (op_appendM (f := str) (l := []) (l' := B1) (i := 8) H26 Tryz.underlying59 Fa.I9 rfl rfl rfl rfl (Src.ofArr Tryz.underlying59 (H26.arrR (i := 7) rfl)) (one_mapM (fun _ => rfl)) (by omega) (by omega) (fun v25 w25 H25 => ?_))
                  refine WL.op rfl rfl (op_assign rfl ?_)
                  refine WL.nil ?_
                  refine WQ.next ?_
                  refine WC.seq ?_
                  refine WC.region ?_
                  have H27 : Own [] w w25 [.blk sb [(ptr x7 0), (vU32 1), (str key), (vN (((UInt32.ofNat (bl % (16 : UInt8)).toNat).toNat - 2) / 2)), (vI lf)] 95, Ent.bo x7 [(ptr k7 0)], Ent.bo k7 [(vU32 40), xv7, cv7, nv7, bv7], Ent.ar bv7 1 2 [e07, e17], .row e17 9 1 (UInt32.ofNat (bl % (16 : UInt8)).toNat).toNat (List.map str (B1.set ((l.getD i Ak.zero).n).toNat (blk64 ((l.getD i Ak.zero).t)))), Ent.ar e07 1 (1 : UInt32).toNat (List.map str (List.replicate (1 : UInt32).toNat (List.replicate 64 0))), .blk r8 [vq, (str key), (vI lf)] 61, .row vq 9 1 ((UInt32.ofNat (bl % (16 : UInt8)).toNat).toNat) (List.map str B1), .row v25 9 1 (UInt32.ofNat (bl % (16 : UInt8)).toNat).toNat (List.map str B1)] := by
                    have h := H25
                    rw [show 0 + (UInt32.ofNat (bl % (16 : UInt8)).toNat).toNat = (UInt32.ofNat (bl % (16 : UInt8)).toNat).toNat from Nat.zero_add _] at h
                    exact h
                  refine WL.op rfl rfl (op_move rfl ?_)
                  refine WL.op rfl rfl (op_move rfl ?_)
                  refine WL.op rfl rfl (op_move rfl ?_)
                  refine WL.op rfl rfl (op_indexAddr Tryz.underlying53 Fa.I58 rfl (H27.arr hA) rfl (by omega) ?_)
                  refine WL.op rfl rfl (op_fieldAddrS rfl Fa.F58_1 ?_)
                  refine WL.op rfl rfl (op_load rfl (Arr.atF (k := 1) (H27.arr hA) (fun _ => rfl) (by decide) Ak.zero (by omega) rfl) Tryz.underlying3 rfl ?_)
                  refine WL.op rfl rfl (op_move rfl ?_)
                  rw [show (l.getD i Ak.zero).n = (((l.getD i Ak.zero).n.toNat : Nat) : Int) by omega]
                  refine WL.op rfl rfl (op_indexAddr1 Tryz.underlying59 Fa.I9 rfl (H27.arrR (i := 8) rfl) rfl (by omega) ?_)
                  refine WL.op rfl rfl (op_storeRM (i := 8) (f := str) (l := B1) (c := (blk64 ((l.getD i Ak.zero).t))) H27 rfl rfl rfl (by omega) rfl Fa.I9 (fun w28 H28 => ?_))
                  refine WL.nil ?_
                  refine WQ.next ?_
                  refine WC.region ?_
                  refine WL.op rfl rfl (op_move rfl ?_)
                  refine WL.op rfl rfl (op_move rfl ?_)
                  refine WL.op rfl rfl (op_nilCheck rfl ?_)
                  refine WL.op rfl rfl (op_fieldAddr rfl Fa.F61_0 ?_)
                  refine WL.op rfl rfl (op_storeB (i := 6) H28 rfl rfl rfl rfl (Arr.one (H28.arrR (i := 8) rfl)) Fa.I59 (fun w29 H29 => ?_))
                  refine WL.nil ?_
                  refine WQ.inNormal ?_
                  refine WQ.next ?_
                  refine WC.seq ?_
                  refine WC.region ?_
                  refine WL.op rfl rfl (op_move rfl ?_)
                  refine WL.op rfl rfl (op_move rfl ?_)
                  refine WL.op rfl rfl (op_callF Fa.C28 rfl ((same_ok sb 1 key lf x7 k7 bv7 e17 xv7 cv7 nv7 40 2 ((UInt32.ofNat (bl % (16 : UInt8)).toNat).toNat) ([e07, e17]) (B1.set ((l.getD i Ak.zero).n).toNat (blk64 ((l.getD i Ak.zero).t))) r8 v25 lf _ (H29.cellsAt (i := 0) rfl) (H29.cellsAtO (i := 1) rfl) (H29.cellsAtO (i := 2) rfl) (H29.arrO (i := 3) rfl) (H29.arrR (i := 4) rfl) (H29.cellsAt (i := 6) rfl) (H29.arrR (i := 8) rfl) (by decide) rfl ((SOK.set hOK (blk64_len _))).len ((SOK.set hOK (blk64_len _))).all hn4 (by omega) hk40).mono (fun e w30 hq => ?_)))
                  obtain ⟨rfl, hf30⟩ := hq
                  refine ⟨_, rfl, ?_⟩
                  have H30 := H29.fr' hf30
                  refine WL.op rfl rfl (op_not rfl ?_)
                  refine WL.nil ?_
                  refine WQ.next ?_
                  refine WC.no rfl (congrArg Bool.not rfl) ?_
                  refine WC.skip ?_
                  refine WQ.inNormal ?_
                  refine WQ.next ?_
                  refine WC.region ?_
                  refine WL.op rfl rfl (op_move rfl ?_)
                  refine WL.op rfl rfl (op_addN (b := 1) rfl rfl (by omega) ?_)
                  refine WL.op rfl rfl (op_assign rfl ?_)
                  refine WL.nil ?_
                  exact WQ.round (i + 1, sb, (B1.set ((l.getD i Ak.zero).n).toNat (blk64 ((l.getD i Ak.zero).t))), lf, v25) ⟨⟨by omega, (SOK.set hOK (blk64_len _)), hL0⟩, (H30.sel [0, 1, 2, 3, 4, 5, 6, 8] rfl rfl)⟩ ⟨rfl, rfl, rfl, rfl, rfl, rfl, rfl, trivial⟩ (by show l.length - (i + 1) < l.length - i; omega)
            ·
              have hc20 := of_decide_eq_false hb20
              refine WC.seq ?_
              refine WC.region ?_
              refine WL.op rfl rfl (op_eqlI (b := (3 : Int)) rfl rfl ?_)
              refine WL.op rfl rfl (op_assign rfl ?_)
              refine WL.nil ?_
              refine WQ.next ?_
              refine WC.cond rfl (fun (hb31 : (decide ((l.getD i Ak.zero).d = (3 : Int))) = true) => ?_) (fun (hb31 : (decide ((l.getD i Ak.zero).d = (3 : Int))) = false) => ?_)
              ·
                have hc31 := of_decide_eq_true hb31
                refine WC.seq ?_
                refine WC.region ?_
                refine WL.op rfl rfl (op_move rfl ?_)
                refine WL.op rfl rfl (op_move rfl ?_)
                refine WL.op rfl rfl (op_callF Fa.C11 rfl ((new44_ok x7 k7 bv7 e17 xv7 cv7 nv7 40 2 ((UInt32.ofNat (bl % (16 : UInt8)).toNat).toNat) ([e07, e17]) B1 1 key _ (H9.cellsAtO (i := 1) rfl) (H9.cellsAtO (i := 2) rfl) (H9.arrO (i := 3) rfl) (H9.arrR (i := 4) rfl) (by decide) rfl hn4 (by omega)).mono (fun e w32 hq => ?_)))
                obtain ⟨s32, rfl, hq32⟩ := hq
                refine ⟨_, rfl, ?_⟩
                have H32 : Own [] w w32 [.blk sb [(ptr x7 0), (vU32 1), (str key), (vN (((UInt32.ofNat (bl % (16 : UInt8)).toNat).toNat - 2) / 2)), (vI lf)] 95, Ent.bo x7 [(ptr k7 0)], Ent.bo k7 [(vU32 40), xv7, cv7, nv7, bv7], Ent.ar bv7 1 2 [e07, e17], .row e17 9 1 (UInt32.ofNat (bl % (16 : UInt8)).toNat).toNat (List.map str B1), Ent.ar e07 1 (1 : UInt32).toNat (List.map str (List.replicate (1 : UInt32).toNat (List.replicate 64 0))), .blk r8 [vq, (str key), (vI lf)] 61, .row vq 9 1 ((UInt32.ofNat (bl % (16 : UInt8)).toNat).toNat) (List.map str B1), .blk s32 [(ptr x7 0), (vU32 1), (str key), (vN ((((UInt32.ofNat (bl % (16 : UInt8)).toNat).toNat) - 2) / 2)), (vI (-1))] 95] := H9.splice [] [] [.blk s32 [(ptr x7 0), (vU32 1), (str key), (vN ((((UInt32.ofNat (bl % (16 : UInt8)).toNat).toNat) - 2) / 2)), (vI (-1))] 95] rfl rfl hq32 (Fits.solid True.intro Fits.nil)
                refine WL.op rfl rfl (op_move rfl ?_)
                refine WL.op rfl rfl (op_extract rfl rfl ?_)
                refine WL.op rfl rfl (op_extract rfl rfl ?_)
                refine WL.op rfl rfl (op_assign rfl ?_)
                refine WL.op rfl rfl (op_assign rfl ?_)
                refine WL.nil ?_
                refine WQ.next ?_
                refine WC.seq ?_
                refine WC.seq ?_
                refine WC.region ?_
                refine WL.op rfl rfl (op_move rfl ?_)
                refine WL.op rfl rfl (op_eqlPN Fa.PT24 rfl rfl ?_)
                refine WL.op rfl rfl (op_move rfl ?_)
                refine WL.yes rfl rfl rfl rfl rfl (op_move rfl ?_)
                refine WL.yes rfl rfl rfl rfl rfl (op_neqN (b := 0) rfl rfl ?_)
                refine WL.op rfl rfl (op_pickF rfl rfl rfl ?_)
                refine WL.nil ?_
                refine WQ.next ?_
                refine WC.no rfl (by decide) ?_
                refine WC.skip ?_
                refine WQ.next ?_
                refine WC.seq ?_
                refine WC.region ?_
                refine WL.op rfl rfl (op_move rfl ?_)
                refine WL.op rfl rfl (op_assign rfl ?_)
                refine WL.nil ?_
                refine WQ.next ?_
                refine WC.region ?_
                refine WL.op rfl rfl (op_move rfl ?_)
                refine WL.op rfl rfl (op_nilCheck rfl ?_)
                refine WL.op rfl rfl (op_fieldAddr rfl Fa.F61_2 ?_)
                refine WL.op rfl rfl (op_storeB (i := 6) H32 rfl rfl rfl rfl rfl Fa.I3 (fun w33 H33 => ?_))
                refine WL.nil ?_
                refine WQ.inNormal ?_
                refine WQ.next ?_
                refine WC.seq ?_
                refine WC.region ?_
                refine WL.op rfl rfl (op_move rfl ?_)
                refine WL.op rfl rfl (op_move rfl ?_)
                refine WL.op rfl rfl (op_callF Fa.C28 rfl ((same_ok s32 1 key (-1) x7 k7 bv7 e17 xv7 cv7 nv7 40 2 ((UInt32.ofNat (bl % (16 : UInt8)).toNat).toNat) ([e07, e17]) B1 r8 vq (-1) _ (H33.cellsAt (i := 8) rfl) (H33.cellsAtO (i := 1) rfl) (H33.cellsAtO (i := 2) rfl) (H33.arrO (i := 3) rfl) (H33.arrR (i := 4) rfl) (H33.cellsAt (i := 6) rfl) (H33.arrR (i := 7) rfl) (by decide) rfl (hOK).len (hOK).all hn4 (by omega) hk40).mono (fun e w34 hq => ?_)))
                obtain ⟨rfl, hf34⟩ := hq
                refine ⟨_, rfl, ?_⟩
                have H34 := H33.fr' hf34
                refine WL.op rfl rfl (op_not rfl ?_)
                refine WL.nil ?_
                refine WQ.next ?_
                refine WC.no rfl (congrArg Bool.not rfl) ?_
                refine WC.skip ?_
                refine WQ.inNormal ?_
                refine WQ.next ?_
                refine WC.region ?_
                refine WL.op rfl rfl (op_move rfl ?_)
                refine WL.op rfl rfl (op_addN (b := 1) rfl rfl (by omega) ?_)
                refine WL.op rfl rfl (op_assign rfl ?_)
                refine WL.nil ?_
                exact WQ.round (i + 1, s32, B1, (-1), vq) ⟨⟨by omega, hOK, (by decide)⟩, (H34.sel [8, 1, 2, 3, 4, 5, 6, 7] rfl rfl)⟩ ⟨rfl, rfl, rfl, rfl, rfl, rfl, rfl, trivial⟩ (by show l.length - (i + 1) < l.length - i; omega)
              ·
                have hc31 := of_decide_eq_false hb31
                refine WC.skip ?_
                refine WQ.inNormal ?_
                refine WQ.next ?_
                refine WC.seq ?_
                refine WC.region ?_
                refine WL.op rfl rfl (op_move rfl ?_)
                refine WL.op rfl rfl (op_move rfl ?_)
                refine WL.op rfl rfl (op_callF Fa.C28 rfl ((same_ok sb 1 key lf x7 k7 bv7 e17 xv7 cv7 nv7 40 2 ((UInt32.ofNat (bl % (16 : UInt8)).toNat).toNat) ([e07, e17]) B1 r8 vq lf _ (H9.cellsAt (i := 0) rfl) (H9.cellsAtO (i := 1) rfl) (H9.cellsAtO (i := 2) rfl) (H9.arrO (i := 3) rfl) (H9.arrR (i := 4) rfl) (H9.cellsAt (i := 6) rfl) (H9.arrR (i := 7) rfl) (by decide) rfl (hOK).len (hOK).all hn4 (by omega) hk40).mono (fun e w35 hq => ?_)))
                obtain ⟨rfl, hf35⟩ := hq
                refine ⟨_, rfl, ?_⟩
                have H35 := H9.fr' hf35
                refine WL.op rfl rfl (op_not rfl ?_)
                refine WL.nil ?_
                refine WQ.next ?_
                refine WC.no rfl (congrArg Bool.not rfl) ?_
                refine WC.skip ?_
                refine WQ.inNormal ?_
                refine WQ.next ?_
                refine WC.region ?_
                refine WL.op rfl rfl (op_move rfl ?_)
                refine WL.op rfl rfl (op_addN (b := 1) rfl rfl (by omega) ?_)
                refine WL.op rfl rfl (op_assign rfl ?_)
                refine WL.nil ?_
                exact WQ.round (i + 1, sb, B1, lf, vq) ⟨⟨by omega, hOK, hL0⟩, (H35.sel [0, 1, 2, 3, 4, 5, 6, 7] rfl rfl)⟩ ⟨rfl, rfl, rfl, rfl, rfl, rfl, rfl, trivial⟩ (by show l.length - (i + 1) < l.length - i; omega)
      ·
        have hc10 := of_decide_eq_false hb10
        refine WC.exit ?_
        refine WQ.thenExit ?_
        refine WQ.thenExit ?_
        refine WQ.inHere ?_
        refine WQ.next ?_
        refine WC.seq ?_
        refine WC.seq ?_
        refine WC.region ?_
        refine WL.op rfl rfl (op_assign rfl ?_)
        refine WL.nil ?_
        refine WQ.next ?_
        refine WC.block ?_
        refine WC.loop (α := Nat) (fun q => [(7, (vU32 (UInt32.ofNat (bl % (16 : UInt8)).toNat))), (8, (ptr x7 0)), (10, (ptr r8 0)), (16, (vN q))]) (fun q w' => (q ≤ (UInt32.ofNat (bl % (16 : UInt8)).toNat).toNat) ∧ Own [] w w' [.blk sb [(ptr x7 0), (vU32 1), (str key), (vN (((UInt32.ofNat (bl % (16 : UInt8)).toNat).toNat - 2) / 2)), (vI lf)] 95, Ent.bo x7 [(ptr k7 0)], Ent.bo k7 [(vU32 40), xv7, cv7, nv7, bv7], Ent.ar bv7 1 2 [e07, e17], .row e17 9 1 (UInt32.ofNat (bl % (16 : UInt8)).toNat).toNat (List.map str B1), Ent.ar e07 1 (1 : UInt32).toNat (List.map str (List.replicate (1 : UInt32).toNat (List.replicate 64 0))), .blk r8 [vq, (str key), (vI lf)] 61, .row vq 9 1 ((UInt32.ofNat (bl % (16 : UInt8)).toNat).toNat) (List.map str B1)]) (fun q => (UInt32.ofNat (bl % (16 : UInt8)).toNat).toNat - q) 0 ⟨(Nat.zero_le _), H9⟩ ⟨rfl, rfl, rfl, rfl, trivial⟩ ?_
        rintro q w36 ⟨hq1, H36⟩
        show WC _ _ _ _ _ [(7, (vU32 (UInt32.ofNat (bl % (16 : UInt8)).toNat))), (8, (ptr x7 0)), (10, (ptr r8 0)), (16, (vN q))] _
        refine WC.seq ?_
        refine WC.seq ?_
        refine WC.region ?_
        refine WL.op rfl rfl (op_move rfl ?_)
        refine WL.op rfl rfl (op_move rfl ?_)
        refine WL.op rfl rfl (op_convU32N (hs := Tryz.underlying22) (hd := Tryz.underlying3) rfl ?_)
        refine WL.op rfl rfl (op_lssN rfl rfl ?_)
        refine WL.nil ?_
        refine WQ.next ?_
        refine WC.cond rfl (fun (hb37 : (decide (q < (UInt32.ofNat (bl % (16 : UInt8)).toNat).toNat)) = true) => ?_) (fun (hb37 : (decide (q < (UInt32.ofNat (bl % (16 : UInt8)).toNat).toNat)) = false) => ?_)
        ·
          have hc37 := of_decide_eq_true hb37
          refine WC.skip ?_
          refine WQ.next ?_
          refine WC.seq ?_
          refine WC.block ?_
          refine WC.seq ?_
          refine WC.region ?_
          refine WL.op rfl rfl (op_move rfl ?_)
          refine WL.op rfl rfl (op_move rfl ?_)
          refine WL.op rfl rfl (op_convNU32 (hs := Tryz.underlying3) (hd := Tryz.underlying22) rfl ?_)
          refine WL.op rfl rfl (op_callF Fa.C29 rfl ((xblk_in x7 k7 bv7 e17 xv7 cv7 nv7 40 2 ((UInt32.ofNat (bl % (16 : UInt8)).toNat).toNat) ([e07, e17]) B1 1 q _ (H36.cellsAtO (i := 1) rfl) (H36.cellsAtO (i := 2) rfl) (H36.arrO (i := 3) rfl) (H36.arrR (i := 4) rfl) (by decide) rfl (by omega) (by omega)).mono (fun e w38 hq => ?_)))
          obtain ⟨rfl, hf38⟩ := hq
          refine ⟨_, rfl, ?_⟩
          have H38 := H36.fr' hf38
          refine WL.op rfl rfl (op_move rfl ?_)
          refine WL.op rfl rfl (op_extract rfl rfl ?_)
          refine WL.op rfl rfl (op_extract rfl rfl ?_)
          refine WL.op rfl rfl (op_assign rfl ?_)
          refine WL.op rfl rfl (op_assign rfl ?_)
          refine WL.nil ?_
          refine WQ.next ?_
          refine WC.seq ?_
          refine WC.region ?_
          refine WL.op rfl rfl (op_move rfl ?_)
          refine WL.op rfl rfl (op_move rfl ?_)
          refine WL.op rfl rfl (op_nilCheck rfl ?_)
          refine WL.op rfl rfl (op_fieldAddr rfl Fa.F61_0 ?_)
          refine WL.op rfl rfl (op_load rfl (H38.cell (i := 6) rfl rfl) Tryz.underlying59 rfl ?_)
          refine WL.op rfl rfl (op_move rfl ?_)
          refine WL.op rfl rfl (op_indexAddr1 Tryz.underlying59 Fa.I9 rfl (H38.arrR (i := 7) rfl) rfl (by omega) ?_)
          refine WL.op rfl rfl (op_load rfl ((H38.arrR (i := 7) rfl).at (get_map str [] (Arr.ltM (H38.arrR (i := 7) rfl) (by omega)))) Tryz.underlying9 rfl ?_)
          refine WL.op rfl rfl (op_neqStr rfl rfl ?_)
          refine WL.op rfl rfl (op_move rfl ?_)
          refine WL.yes rfl rfl rfl (decide_eq_false (fun h => h rfl)) rfl (op_move rfl ?_)
          refine WL.yes rfl rfl rfl (decide_eq_false (fun h => h rfl)) rfl (op_neqN (b := 0) rfl rfl ?_)
          refine WL.op rfl rfl (op_pickF rfl (decide_eq_false (fun h => h rfl)) rfl ?_)
          refine WL.nil ?_
          refine WQ.next ?_
          refine WC.no rfl (by decide) ?_
          refine WC.skip ?_
          refine WQ.inNormal ?_
          refine WQ.next ?_
          refine WC.region ?_
          refine WL.op rfl rfl (op_move rfl ?_)
          refine WL.op rfl rfl (op_addN (b := 1) rfl rfl (by omega) ?_)
          refine WL.op rfl rfl (op_assign rfl ?_)
          refine WL.nil ?_
          exact WQ.round (q + 1) ⟨(by omega), H38⟩ ⟨rfl, rfl, rfl, rfl, trivial⟩ (by omega)
        ·
          have hc37 := of_decide_eq_false hb37
          refine WC.exit ?_
          refine WQ.thenExit ?_
          refine WQ.thenExit ?_
          refine WQ.inHere ?_
          refine WQ.next ?_
          refine WC.seq ?_
          refine WC.region ?_
          refine WL.op rfl rfl (op_callF Fa.C10 rfl ((alive44_ok _).mono (fun e w39 hq => ?_)))
          obtain ⟨rfl, hf39⟩ := hq
          refine ⟨_, rfl, ?_⟩
          have H39 := H36.fr' hf39
          refine WL.op rfl rfl (op_assign rfl ?_)
          refine WL.nil ?_
          refine WQ.next ?_
          refine WC.ret ?_
          refine WQ.out (.tmp rfl .nil) ?_
          exact ⟨rfl, H39.fr⟩
end Go.Proofs.YtbjhccnffacbcaaGreat
