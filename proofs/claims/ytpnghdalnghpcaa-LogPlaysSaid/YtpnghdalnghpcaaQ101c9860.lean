/- General lemmas and walks: WLaw39d. No condition but what each theorem names. -/
import Derived.Test.YtpnghdalnghpcaaQddb921a6
import Derived.Test.YtpnghdalnghpcaaQabbed508
import Derived.Test.YtpnghdalnghpcaaQ5598486a
import Derived.Test.YtpnghdalnghpcaaQd866fd4e
/-! from WLaw39d -/
namespace Go.Proofs.Ytpnghdalnghpcaa
open Go.Owl Go.Spec
set_option maxRecDepth 100000 in
theorem logPlays_ok (key : List UInt8) (lv sv : Value) (xs : List Ac) (ss : List UInt8) (w : World) (hk : key.length ≤ 140737488351232) (hA : Arr w lv 4 xs.length (List.flatMap actc xs)) (hB : ∀ x ∈ xs, x.t.length ≤ 140737488351232) (hn : xs.length < 2 ^ 47) (hS : Arr w sv 1 ss.length (List.map vU8 ss)) :
    Calls Try.prog 9 #[(str key), lv, sv] w (fun e w' => e = .returned (.bool true) ∧ Fr [] w w') := by
  refine enter (args := [(str key), lv, sv]) Try.func9 rfl rfl ?_
  have H0 : Own [] w w [] := Own.start w []
  refine WC.seq ?_
  refine WC.region ?_
  refine WL.op rfl rfl (op_assign rfl ?_)
  refine WL.nil ?_
  refine WQ.next ?_
  refine WC.seq ?_
  refine WC.seq ?_
  refine WC.region ?_
  refine WL.op rfl rfl (op_move rfl ?_)
  refine WL.op rfl rfl (op_callF Fa.C51 rfl ((large39_ok _ xs _ (H0.arr hA) hB (by omega)).mono (fun e w1 hq => ?_)))
  obtain ⟨rfl, hf1⟩ := hq
  refine ⟨_, rfl, ?_⟩
  have H1 := H0.fr' hf1
  refine WL.op rfl rfl (op_move rfl ?_)
  refine WL.split (t := 16) rfl (fun (hb2 : (large39 xs) = true) => ?_) (fun (hb2 : (large39 xs) = false) => ?_)
  ·
    refine WL.no rfl rfl rfl hb2 rfl ?_
    refine WL.no rfl rfl rfl hb2 rfl ?_
    refine WL.no rfl rfl rfl hb2 rfl ?_
    refine WL.op rfl rfl (op_pickT rfl hb2 rfl ?_)
    refine WL.op rfl rfl (op_move rfl ?_)
    refine WL.no rfl rfl rfl rfl rfl ?_
    refine WL.no rfl rfl rfl rfl rfl ?_
    refine WL.no rfl rfl rfl rfl rfl ?_
    refine WL.op rfl rfl (op_pickT rfl rfl rfl ?_)
    refine WL.nil ?_
    refine WQ.next ?_
    refine WC.yes rfl rfl ?_
    refine WC.seq ?_
    refine WC.region ?_
    refine WL.op rfl rfl (op_callF Fa.C52 rfl ((alive39_ok _).mono (fun e w3 hq => ?_)))
    obtain ⟨rfl, hf3⟩ := hq
    refine ⟨_, rfl, ?_⟩
    have H3 := H1.fr' hf3
    refine WL.op rfl rfl (op_assign rfl ?_)
    refine WL.nil ?_
    refine WQ.next ?_
    refine WC.ret ?_
    refine WQ.thenRet ?_
    refine WQ.out (.tmp rfl .nil) ?_
    exact ⟨rfl, H3.fr⟩
  ·
    have hlg := large39_no hb2
    refine WL.yes rfl rfl rfl hb2 rfl (op_move rfl ?_)
    refine WL.yes rfl rfl rfl hb2 rfl (op_lenStr Try.underlying9 rfl ?_)
    refine WL.yes rfl rfl rfl hb2 rfl (op_gtrN (b := 1024) rfl rfl ?_)
    refine WL.op rfl rfl (op_pickF rfl hb2 rfl ?_)
    refine WL.op rfl rfl (op_move rfl ?_)
    refine WL.split (t := 21) rfl (fun (hb4 : (decide (key.length > 1024)) = true) => ?_) (fun (hb4 : (decide (key.length > 1024)) = false) => ?_)
    ·
      have hc4 := of_decide_eq_true hb4
      refine WL.no rfl rfl rfl hb4 rfl ?_
      refine WL.no rfl rfl rfl hb4 rfl ?_
      refine WL.no rfl rfl rfl hb4 rfl ?_
      refine WL.op rfl rfl (op_pickT rfl hb4 rfl ?_)
      refine WL.nil ?_
      refine WQ.next ?_
      refine WC.yes rfl rfl ?_
      refine WC.seq ?_
      refine WC.region ?_
      refine WL.op rfl rfl (op_callF Fa.C52 rfl ((alive39_ok _).mono (fun e w5 hq => ?_)))
      obtain ⟨rfl, hf5⟩ := hq
      refine ⟨_, rfl, ?_⟩
      have H5 := H1.fr' hf5
      refine WL.op rfl rfl (op_assign rfl ?_)
      refine WL.nil ?_
      refine WQ.next ?_
      refine WC.ret ?_
      refine WQ.thenRet ?_
      refine WQ.out (.tmp rfl .nil) ?_
      exact ⟨rfl, H5.fr⟩
    ·
      have hc4 := of_decide_eq_false hb4
      refine WL.yes rfl rfl rfl hb4 rfl (op_move rfl ?_)
      refine WL.yes rfl rfl rfl hb4 rfl (op_lenA Try.underlying73 rfl (H1.arr hS) ?_)
      refine WL.yes rfl rfl rfl hb4 rfl (op_gtrN (b := 60) rfl rfl ?_)
      refine WL.op rfl rfl (op_pickF rfl hb4 rfl ?_)
      refine WL.nil ?_
      refine WQ.next ?_
      refine WC.cond rfl (fun (hb6 : (decide (ss.length > 60)) = true) => ?_) (fun (hb6 : (decide (ss.length > 60)) = false) => ?_)
      ·
        have hc6 := of_decide_eq_true hb6
        refine WC.seq ?_
        refine WC.region ?_
        refine WL.op rfl rfl (op_callF Fa.C52 rfl ((alive39_ok _).mono (fun e w7 hq => ?_)))
        obtain ⟨rfl, hf7⟩ := hq
        refine ⟨_, rfl, ?_⟩
        have H7 := H1.fr' hf7
        refine WL.op rfl rfl (op_assign rfl ?_)
        refine WL.nil ?_
        refine WQ.next ?_
        refine WC.ret ?_
        refine WQ.thenRet ?_
        refine WQ.out (.tmp rfl .nil) ?_
        exact ⟨rfl, H7.fr⟩
      ·
        have hc6 := of_decide_eq_false hb6
        refine WC.skip ?_
        refine WQ.next ?_
        refine WC.seq ?_
        refine WC.region ?_
        refine WL.op rfl rfl (op_assign rfl ?_)
        refine WL.nil ?_
        refine WQ.next ?_
        refine WC.seq ?_
        refine WC.seq ?_
        refine WC.region ?_
        refine WL.op rfl rfl (op_move rfl ?_)
        refine WL.op rfl rfl (op_move rfl ?_)
        refine WL.op rfl rfl (op_callF Fa.C53 rfl ((laddsNil_ok lv _).mono (fun e w8 hq => ?_)))
        obtain ⟨rfl, hf8⟩ := hq
        refine ⟨_, rfl, ?_⟩
        have H8 := H1.fr' hf8
        refine WL.op rfl rfl (op_neqN (b := 1) rfl rfl ?_)
        refine WL.op rfl rfl (op_move rfl ?_)
        refine WL.yes rfl rfl rfl (by decide) rfl (op_move rfl ?_)
        refine WL.yes rfl rfl rfl (by decide) rfl (op_callF Fa.C54 rfl ((llenNil_ok _).mono (fun e w9 hq => ?_)))
        obtain ⟨rfl, hf9⟩ := hq
        refine ⟨_, rfl, ?_⟩
        have H9 := H8.fr' hf9
        refine WL.yes rfl rfl rfl (by decide) rfl (op_neqN (b := 0) rfl rfl ?_)
        refine WL.op rfl rfl (op_pickF rfl (by decide) rfl ?_)
        refine WL.op rfl rfl (op_move rfl ?_)
        refine WL.yes rfl rfl rfl (by decide) rfl (op_move rfl ?_)
        refine WL.yes rfl rfl rfl (by decide) rfl (op_callF Fa.C55 rfl ((lactsNil_ok _).mono (fun e w10 hq => ?_)))
        obtain ⟨rfl, hf10⟩ := hq
        refine ⟨_, rfl, ?_⟩
        have H10 := H9.fr' hf10
        refine WL.yes rfl rfl rfl (by decide) rfl (op_lenA Try.underlying72 rfl (Arr.nil _ 1) ?_)
        refine WL.yes rfl rfl rfl (by decide) rfl (op_neqN (b := 0) rfl rfl ?_)
        refine WL.op rfl rfl (op_pickF rfl (by decide) rfl ?_)
        refine WL.op rfl rfl (op_move rfl ?_)
        refine WL.yes rfl rfl rfl (by decide) rfl (op_move rfl ?_)
        refine WL.yes rfl rfl rfl (by decide) rfl (op_callF Fa.C56 rfl ((lbytesNil_ok _).mono (fun e w11 hq => ?_)))
        obtain ⟨rfl, hf11⟩ := hq
        refine ⟨_, rfl, ?_⟩
        have H11 := H10.fr' hf11
        refine WL.yes rfl rfl rfl (by decide) rfl (op_neqStr rfl rfl ?_)
        refine WL.op rfl rfl (op_pickF rfl (by decide) rfl ?_)
        refine WL.op rfl rfl (op_move rfl ?_)
        refine WL.yes rfl rfl rfl (decide_eq_false (fun h => h rfl)) rfl (op_move rfl ?_)
        refine WL.yes rfl rfl rfl (decide_eq_false (fun h => h rfl)) rfl (op_callF Fa.C57 rfl ((ltagNil_ok _).mono (fun e w12 hq => ?_)))
        obtain ⟨rfl, hf12⟩ := hq
        refine ⟨_, rfl, ?_⟩
        have H12 := H11.fr' hf12
        refine WL.yes rfl rfl rfl (decide_eq_false (fun h => h rfl)) rfl (op_neqStr rfl rfl ?_)
        refine WL.op rfl rfl (op_pickF rfl (decide_eq_false (fun h => h rfl)) rfl ?_)
        refine WL.nil ?_
        refine WQ.next ?_
        refine WC.no rfl (decide_eq_false (fun h => h rfl)) ?_
        refine WC.skip ?_
        refine WQ.next ?_
        refine WC.seq ?_
        refine WC.region ?_
        refine WL.op rfl rfl (op_move rfl ?_)
        refine WL.op rfl rfl (op_callF Fa.C58 rfl ((lnew_ok key _).mono (fun e w13 hq => ?_)))
        obtain ⟨m13, v13, rfl, hq13⟩ := hq
        refine ⟨_, rfl, ?_⟩
        have H13 : Own [] w w13 [.blk m13 [(str (lg0 key).key), (str (lg0 key).tag), v13, (str (lg0 key).b)] 150, .row v13 143 4 (lg0 key).acts.length (List.flatMap actc (lg0 key).acts)] := H12.splice [] [] [.blk m13 [(str (lg0 key).key), (str (lg0 key).tag), v13, (str (lg0 key).b)] 150, .row v13 143 4 (lg0 key).acts.length (List.flatMap actc (lg0 key).acts)] rfl rfl hq13 (Fits.solid True.intro (Fits.solid True.intro Fits.nil))
        refine WL.op rfl rfl (op_assign rfl ?_)
        refine WL.nil ?_
        refine WQ.next ?_
        refine WC.seq ?_
        refine WC.region ?_
        refine WL.op rfl rfl (op_move rfl ?_)
        refine WL.op rfl rfl (op_callF Fa.C59 rfl ((rlnew_ok key _).mono (fun e w14 hq => ?_)))
        obtain ⟨m14, v14, rfl, hq14⟩ := hq
        refine ⟨_, rfl, ?_⟩
        have H14 : Own [] w w14 [.blk m13 [(str (lg0 key).key), (str (lg0 key).tag), v13, (str (lg0 key).b)] 150, .row v13 143 4 (lg0 key).acts.length (List.flatMap actc (lg0 key).acts), .blk m14 [(str (lg0 key).key), (str (lg0 key).b), (str (lg0 key).tag), v14] 84, .row v14 143 4 (lg0 key).acts.length (List.flatMap actc (lg0 key).acts)] := H13.splice [] [] [.blk m14 [(str (lg0 key).key), (str (lg0 key).b), (str (lg0 key).tag), v14] 84, .row v14 143 4 (lg0 key).acts.length (List.flatMap actc (lg0 key).acts)] rfl rfl hq14 (Fits.solid True.intro (Fits.solid True.intro Fits.nil))
        refine WL.op rfl rfl (op_assign rfl ?_)
        refine WL.nil ?_
        refine WQ.next ?_
        refine WC.seq ?_
        refine WC.region ?_
        refine WL.op rfl rfl (op_assign rfl ?_)
        refine WL.nil ?_
        refine WQ.next ?_
        refine WC.seq ?_
        refine WC.seq ?_
        refine WC.region ?_
        refine WL.op rfl rfl (op_assign rfl ?_)
        refine WL.nil ?_
        refine WQ.next ?_
        refine WC.block ?_
        refine WC.loop (α := Nat × Nat × Lg × Value × Value) (fun (i, a, l, x1, x2) => [(0, (str key)), (1, lv), (2, sv), (8, (ptr m13 0)), (9, (ptr m14 0)), (10, (vN a)), (11, (vN i))]) (fun (i, a, l, x1, x2) w' => (i ≤ ss.length + 1 ∧ a ≤ xs.length ∧ l.pl key a) ∧ Own [] w w' [.blk m13 [(str l.key), (str l.tag), x1, (str l.b)] 150, .row x1 143 4 l.acts.length (List.flatMap actc l.acts), .blk m14 [(str l.key), (str l.b), (str l.tag), x2] 84, .row x2 143 4 l.acts.length (List.flatMap actc l.acts)]) (fun (i, a, l, x1, x2) => ss.length + 1 - i) (0, 0, lg0 key, v13, v14) ⟨⟨Nat.zero_le _, Nat.zero_le _, lg0_pl key⟩, H14⟩ ⟨rfl, rfl, rfl, rfl, rfl, rfl, rfl, trivial⟩ ?_
        rintro ⟨i, a, l, x1, x2⟩ w15 ⟨⟨hi1, hi2, hpl⟩, H15⟩
        show WC _ _ _ _ _ [(0, (str key)), (1, lv), (2, sv), (8, (ptr m13 0)), (9, (ptr m14 0)), (10, (vN a)), (11, (vN i))] _
        have hpf := pl_fit hpl (by omega) (by omega)
        refine WC.seq ?_
        refine WC.seq ?_
        refine WC.region ?_
        refine WL.op rfl rfl (op_move rfl ?_)
        refine WL.op rfl rfl (op_move rfl ?_)
        refine WL.op rfl rfl (op_lenA Try.underlying73 rfl (H15.arr hS) ?_)
        refine WL.op rfl rfl (op_leqN rfl rfl ?_)
        refine WL.nil ?_
        refine WQ.next ?_
        refine WC.cond rfl (fun (hb16 : (decide (i ≤ ss.length)) = true) => ?_) (fun (hb16 : (decide (i ≤ ss.length)) = false) => ?_)
        ·
          have hc16 := of_decide_eq_true hb16
          refine WC.skip ?_
          refine WQ.next ?_
          refine WC.seq ?_
          refine WC.block ?_
          refine WC.seq ?_
          refine WC.region ?_
          refine WL.op rfl rfl (op_move rfl ?_)
          refine WL.op rfl rfl (op_lenA Try.underlying72 rfl (H15.arr hA) ?_)
          refine WL.op rfl rfl (op_assign rfl ?_)
          refine WL.nil ?_
          refine WQ.next ?_
          refine WC.cut (α := Nat) (fun k => [(0, (str key)), (1, lv), (2, sv), (8, (ptr m13 0)), (9, (ptr m14 0)), (10, (vN a)), (11, (vN i)), (12, (vN k))]) (fun k w' => (a ≤ k ∧ k ≤ xs.length) ∧ Own [] w w' [.blk m13 [(str l.key), (str l.tag), x1, (str l.b)] 150, .row x1 143 4 l.acts.length (List.flatMap actc l.acts), .blk m14 [(str l.key), (str l.b), (str l.tag), x2] 84, .row x2 143 4 l.acts.length (List.flatMap actc l.acts)]) ?_ ?_
          ·
            refine WC.seq ?_
            refine WC.region ?_
            refine WL.op rfl rfl (op_move rfl ?_)
            refine WL.op rfl rfl (op_move rfl ?_)
            refine WL.op rfl rfl (op_lenA Try.underlying73 rfl (H15.arr hS) ?_)
            refine WL.op rfl rfl (op_lssN rfl rfl ?_)
            refine WL.nil ?_
            refine WQ.next ?_
            refine WC.cond rfl (fun (hb17 : (decide (i < ss.length)) = true) => ?_) (fun (hb17 : (decide (i < ss.length)) = false) => ?_)
            ·
              have hc17 := of_decide_eq_true hb17
              have hmod : (ss.getD i 0 % 4).toNat < 4 := by rw [UInt8.toNat_mod]; exact Nat.mod_lt _ (by decide)
              refine WC.region ?_
              refine WL.op rfl rfl (op_move rfl ?_)
              refine WL.op rfl rfl (op_move rfl ?_)
              refine WL.op rfl rfl (op_move rfl ?_)
              refine WL.op rfl rfl (op_move rfl ?_)
              refine WL.op rfl rfl (op_indexAddr1 Try.underlying73 Fa.I5 rfl (H15.arr hS) rfl (by omega) ?_)
              refine WL.op rfl rfl (op_load rfl ((H15.arr hS).at (get_map vU8 0 (Arr.ltM (H15.arr hS) (by omega)))) Try.underlying5 rfl ?_)
              refine WL.op rfl rfl (op_remU8 (b := 4) rfl rfl (by decide) ?_)
              refine WL.op rfl rfl (op_convU8N (hs := Try.underlying5) (hd := Try.underlying3) rfl ?_)
              refine WL.op rfl rfl (op_addN rfl rfl (by omega) ?_)
              refine WL.op rfl rfl (op_minN rfl rfl ?_)
              refine WL.op rfl rfl (op_assign rfl ?_)
              refine WL.nil ?_
              exact WQ.here (min xs.length (a + ((ss.getD i 0) % (4 : UInt8)).toNat)) ⟨⟨by omega, by omega⟩, H15⟩ ⟨rfl, rfl, rfl, rfl, rfl, rfl, rfl, rfl, trivial⟩
            ·
              have hc17 := of_decide_eq_false hb17
              refine WC.skip ?_
              exact WQ.here xs.length ⟨⟨by omega, by omega⟩, H15⟩ ⟨rfl, rfl, rfl, rfl, rfl, rfl, rfl, rfl, trivial⟩
          ·
            rintro k w18 ⟨⟨hk1, hk2⟩, H18⟩
            show WC _ _ _ _ _ [(0, (str key)), (1, lv), (2, sv), (8, (ptr m13 0)), (9, (ptr m14 0)), (10, (vN a)), (11, (vN i)), (12, (vN k))] _
            have hpt := part_len xs a k
            have hpl2 : (l.adds ([] ++ ((xs.drop a).take (k - a)))).pl key k := pl_adds hpl hk1 (by rw [List.nil_append]; exact hpt)
            have hpf2 := pl_fit hpl2 (by omega) (by omega)
            refine WC.seq ?_
            refine WC.region ?_
            refine WL.op rfl rfl (op_move rfl ?_)
            refine WL.op rfl rfl (op_move rfl ?_)
            refine WL.op rfl rfl (op_move rfl ?_)
            refine WL.op rfl rfl (op_cut Try.underlying72 Fa.I143 rfl (H18.arr hA) rfl rfl (by omega) (by omega) ?_)
            have H20 := H18.nilRow 143 4
            refine WL.op rfl rfl (op_appendF (f := actc) (l := []) (l' := ((xs.drop a).take (k - a))) (i := 4) H20 Try.underlying72 Fa.I143 rfl rfl rfl rfl (Src.ofArr Try.underlying72 (((H20.arr hA)).cutF (fun _ => rfl) (a := a) (b := k) (by omega) (by omega))) (one_flat (fun _ => by simp [actc, Value.oneCell'])) (by omega) (by omega) (fun v19 w19 H19 => ?_))
            refine WL.op rfl rfl (op_assign rfl ?_)
            refine WL.nil ?_
            refine WQ.next ?_
            refine WC.seq ?_
            refine WC.seq ?_
            refine WC.drawn 26 rfl Fa.M H19 ?_
            intro w21 H21
            refine WD.early (i := 0) rfl rfl rfl rfl rfl (by kernel_rfl) ?_
            refine WD.early (i := 1) rfl rfl rfl rfl rfl (by kernel_rfl) ?_
            refine WD.early (i := 3) rfl rfl rfl rfl rfl (by kernel_rfl) ?_
            refine WD.early (i := 4) rfl rfl rfl rfl rfl (by kernel_rfl) ?_
            refine WD.op (i := 2) rfl rfl rfl (by kernel_rfl) (op_callF Fa.C53 rfl ((ladds_ok m13 x1 v19 l ([] ++ ((xs.drop a).take (k - a))) _ _ (H21.part [0, 1] rfl rfl) (fun w1 hf => Arr.lenF ((H21.stayR (I := [0, 1]) (k := 4) rfl rfl rfl) w1 hf) (fun _ => rfl) (by decide)) hpf.1 (by rw [List.nil_append]; omega) (by rw [List.nil_append]; omega)).mono (fun e w22 hq => ?_)))
            obtain ⟨v22, rfl, hq22⟩ := hq
            refine ⟨_, rfl, ?_⟩
            have H22 : Own [] w w22 [.blk m13 [(str (l.adds ([] ++ ((xs.drop a).take (k - a)))).key), (str (l.adds ([] ++ ((xs.drop a).take (k - a)))).tag), v22, (str (l.adds ([] ++ ((xs.drop a).take (k - a)))).b)] 150, .row v22 143 4 (l.adds ([] ++ ((xs.drop a).take (k - a)))).acts.length (List.flatMap actc (l.adds ([] ++ ((xs.drop a).take (k - a)))).acts), .blk m14 [(str l.key), (str l.b), (str l.tag), x2] 84, .row x2 143 4 l.acts.length (List.flatMap actc l.acts), .row v19 143 4 (0 + (k - a)) (List.flatMap actc ([] ++ ((xs.drop a).take (k - a))))] := H21.splice [0, 1] [.blk m13 [(str (l.adds ([] ++ ((xs.drop a).take (k - a)))).key), (str (l.adds ([] ++ ((xs.drop a).take (k - a)))).tag), v22, (str (l.adds ([] ++ ((xs.drop a).take (k - a)))).b)] 150, .row v22 143 4 (l.adds ([] ++ ((xs.drop a).take (k - a)))).acts.length (List.flatMap actc (l.adds ([] ++ ((xs.drop a).take (k - a)))).acts)] [] rfl rfl hq22 (Fits.solid True.intro (Fits.solid True.intro Fits.nil))
            refine WD.op (i := 5) rfl rfl rfl (by kernel_rfl) (op_callF Fa.C60 rfl ((rladds_ok m14 x2 v19 l ([] ++ ((xs.drop a).take (k - a))) _ _ (H22.part [2, 3] rfl rfl) (fun w1 hf => Arr.lenF ((H22.stayR (I := [2, 3]) (k := 4) rfl rfl rfl) w1 hf) (fun _ => rfl) (by decide)) hpf.1 (by rw [List.nil_append]; omega) (by rw [List.nil_append]; omega)).mono (fun e w23 hq => ?_)))
            obtain ⟨v23, rfl, hq23⟩ := hq
            refine ⟨_, rfl, ?_⟩
            have H23 : Own [] w w23 [.blk m13 [(str (l.adds ([] ++ ((xs.drop a).take (k - a)))).key), (str (l.adds ([] ++ ((xs.drop a).take (k - a)))).tag), v22, (str (l.adds ([] ++ ((xs.drop a).take (k - a)))).b)] 150, .row v22 143 4 (l.adds ([] ++ ((xs.drop a).take (k - a)))).acts.length (List.flatMap actc (l.adds ([] ++ ((xs.drop a).take (k - a)))).acts), .blk m14 [(str (l.adds ([] ++ ((xs.drop a).take (k - a)))).key), (str (l.adds ([] ++ ((xs.drop a).take (k - a)))).b), (str (l.adds ([] ++ ((xs.drop a).take (k - a)))).tag), v23] 84, .row v23 143 4 (l.adds ([] ++ ((xs.drop a).take (k - a)))).acts.length (List.flatMap actc (l.adds ([] ++ ((xs.drop a).take (k - a)))).acts), .row v19 143 4 (0 + (k - a)) (List.flatMap actc ([] ++ ((xs.drop a).take (k - a))))] := H22.splice [2, 3] [.blk m14 [(str (l.adds ([] ++ ((xs.drop a).take (k - a)))).key), (str (l.adds ([] ++ ((xs.drop a).take (k - a)))).b), (str (l.adds ([] ++ ((xs.drop a).take (k - a)))).tag), v23] 84, .row v23 143 4 (l.adds ([] ++ ((xs.drop a).take (k - a)))).acts.length (List.flatMap actc (l.adds ([] ++ ((xs.drop a).take (k - a)))).acts)] [] rfl rfl hq23 (Fits.solid True.intro (Fits.solid True.intro Fits.nil))
            refine WD.last 6 H23 (HW.old (v := (ptr m13 0)) (HW.old (v := v19) (HW.old (v := (vN (addE ([] ++ ((xs.drop a).take (k - a)))))) (HW.old (v := (ptr m14 0)) (HW.old (v := v19) (HW.old (v := (vN (addE ([] ++ ((xs.drop a).take (k - a)))))) (HW.op rfl (fun w1 H1 => op_neqN rfl rfl ⟨rfl, Fr.refl _ _⟩) (HW.op rfl (fun w1 H1 => op_move rfl ⟨rfl, Fr.refl _ _⟩) (HW.yes rfl rfl rfl (decide_eq_false (fun h => h rfl)) (fun w1 H1 => op_move rfl ⟨rfl, Fr.refl _ _⟩) (HW.yes rfl rfl rfl (decide_eq_false (fun h => h rfl)) (fun w1 H1 => op_callF Fa.C54 rfl ((llen_ok m13 v22 (l.adds ([] ++ ((xs.drop a).take (k - a)))) _ (H1.cellsAt (i := 0) rfl) (H1.arrR (i := 1) rfl) (by first | (have := hpf2.2.2; omega) | (have := hpf.2.2; omega))).mono (fun e w2 hq => ⟨_, hq.1, rfl, hq.2⟩))) (HW.yes rfl rfl rfl (decide_eq_false (fun h => h rfl)) (fun w1 H1 => op_move rfl ⟨rfl, Fr.refl _ _⟩) (HW.yes rfl rfl rfl (decide_eq_false (fun h => h rfl)) (fun w1 H1 => op_nilCheck rfl ⟨rfl, Fr.refl _ _⟩) (HW.yes rfl rfl rfl (decide_eq_false (fun h => h rfl)) (fun w1 H1 => op_fieldAddr rfl Fa.F84_3 ⟨rfl, Fr.refl _ _⟩) (HW.yes rfl rfl rfl (decide_eq_false (fun h => h rfl)) (fun w1 H1 => op_load rfl (H1.cell (i := 2) rfl rfl) Try.underlying72 rfl ⟨rfl, Fr.refl _ _⟩) (HW.yes rfl rfl rfl (decide_eq_false (fun h => h rfl)) (fun w1 H1 => op_lenA Try.underlying72 rfl (H1.arrR (i := 3) rfl) ⟨rfl, Fr.refl _ _⟩) (HW.yes rfl rfl rfl (decide_eq_false (fun h => h rfl)) (fun w1 H1 => op_neqN rfl rfl ⟨rfl, Fr.refl _ _⟩) (HW.op rfl (fun w1 H1 => op_pickF rfl (decide_eq_false (fun h => h rfl)) rfl ⟨rfl, Fr.refl _ _⟩) (HW.op rfl (fun w1 H1 => op_move rfl ⟨rfl, Fr.refl _ _⟩) (HW.yes rfl rfl rfl (decide_eq_false (fun h => h rfl)) (fun w1 H1 => op_move rfl ⟨rfl, Fr.refl _ _⟩) (HW.yes rfl rfl rfl (decide_eq_false (fun h => h rfl)) (fun w1 H1 => op_callF Fa.C57 rfl ((ltag_ok m13 v22 (l.adds ([] ++ ((xs.drop a).take (k - a)))) _ (H1.cellsAt (i := 0) rfl)).mono (fun e w2 hq => ⟨_, hq.1, rfl, hq.2⟩))) (HW.yes rfl rfl rfl (decide_eq_false (fun h => h rfl)) (fun w1 H1 => op_move rfl ⟨rfl, Fr.refl _ _⟩) (HW.yes rfl rfl rfl (decide_eq_false (fun h => h rfl)) (fun w1 H1 => op_nilCheck rfl ⟨rfl, Fr.refl _ _⟩) (HW.yes rfl rfl rfl (decide_eq_false (fun h => h rfl)) (fun w1 H1 => op_fieldAddr rfl Fa.F84_2 ⟨rfl, Fr.refl _ _⟩) (HW.yes rfl rfl rfl (decide_eq_false (fun h => h rfl)) (fun w1 H1 => op_load rfl (H1.cell (i := 2) rfl rfl) Try.underlying9 rfl ⟨rfl, Fr.refl _ _⟩) (HW.yes rfl rfl rfl (decide_eq_false (fun h => h rfl)) (fun w1 H1 => op_neqStr rfl rfl ⟨rfl, Fr.refl _ _⟩) (HW.op rfl (fun w1 H1 => op_pickF rfl (decide_eq_false (fun h => h rfl)) rfl ⟨rfl, Fr.refl _ _⟩)  HW.nil)))))))))))))))))))))))))) (by kernel_rfl) ⟨rfl, rfl, rfl, rfl, rfl, rfl, True.intro⟩ ?_
            intro β26 w26 H26
            refine WQ.next ?_
            refine WC.no rfl (decide_eq_false (fun h => h rfl)) ?_
            refine WC.skip ?_
            refine WQ.next ?_
            refine WC.region ?_
            refine WL.op rfl rfl (op_move rfl ?_)
            refine WL.op rfl rfl (op_assign rfl ?_)
            refine WL.nil ?_
            refine WQ.inNormal ?_
            refine WQ.next ?_
            refine WC.region ?_
            refine WL.op rfl rfl (op_move rfl ?_)
            refine WL.op rfl rfl (op_addN (b := 1) rfl rfl (by omega) ?_)
            refine WL.op rfl rfl (op_assign rfl ?_)
            refine WL.nil ?_
            exact WQ.round (i + 1, k, l.adds ([] ++ ((xs.drop a).take (k - a))), v22, v23) ⟨⟨by omega, hk2, hpl2⟩, (H26.take 4)⟩ ⟨rfl, rfl, rfl, rfl, rfl, rfl, rfl, trivial⟩ (by show ss.length + 1 - (i + 1) < ss.length + 1 - i; omega)
        ·
          have hc16 := of_decide_eq_false hb16
          refine WC.exit ?_
          refine WQ.thenExit ?_
          refine WQ.thenExit ?_
          refine WQ.inHere ?_
          refine WQ.next ?_
          refine WC.seq ?_
          refine WC.draw 20 Fa.M H15 (HW.op rfl (fun w1 H1 => op_move rfl ⟨rfl, Fr.refl _ _⟩) (HW.op rfl (fun w1 H1 => op_callF Fa.C56 rfl ((lbytes_ok m13 x1 l _ (H1.cellsAt (i := 0) rfl)).mono (fun e w2 hq => ⟨_, hq.1, rfl, hq.2⟩))) (HW.op rfl (fun w1 H1 => op_move rfl ⟨rfl, Fr.refl _ _⟩) (HW.op rfl (fun w1 H1 => op_nilCheck rfl ⟨rfl, Fr.refl _ _⟩) (HW.op rfl (fun w1 H1 => op_fieldAddr rfl Fa.F84_1 ⟨rfl, Fr.refl _ _⟩) (HW.op rfl (fun w1 H1 => op_load rfl (H1.cell (i := 2) rfl rfl) Try.underlying9 rfl ⟨rfl, Fr.refl _ _⟩) (HW.op rfl (fun w1 H1 => op_eqlStr rfl rfl ⟨rfl, Fr.refl _ _⟩) (HW.op rfl (fun w1 H1 => op_move rfl ⟨rfl, Fr.refl _ _⟩) (HW.yes rfl rfl rfl (decide_eq_true rfl) (fun w1 H1 => op_move rfl ⟨rfl, Fr.refl _ _⟩) (HW.fltY (mk := fun bq => bq.2) (ent := fun bq => .row bq.2 143 4 l.acts.length (List.flatMap actc l.acts)) rfl rfl rfl (decide_eq_true rfl) (fun w1 H1 => op_callF Fa.C55 rfl ((lacts_ok m13 x1 l _ (H1.cellsAt (i := 0) rfl) (H1.arrR (i := 1) rfl) (by first | (have := hpf2.2.2; omega) | (have := hpf.2.2; omega))).mono (fun e w2 ⟨v, he, hO⟩ => ⟨_, he, (0, v), rfl, hO, True.intro⟩))) (HW.yes rfl rfl rfl (decide_eq_true rfl) (fun w1 H1 => op_move rfl ⟨rfl, Fr.refl _ _⟩) (HW.yes rfl rfl rfl (decide_eq_true rfl) (fun w1 H1 => op_nilCheck rfl ⟨rfl, Fr.refl _ _⟩) (HW.yes rfl rfl rfl (decide_eq_true rfl) (fun w1 H1 => op_fieldAddr rfl Fa.F84_3 ⟨rfl, Fr.refl _ _⟩) (HW.yes rfl rfl rfl (decide_eq_true rfl) (fun w1 H1 => op_load rfl (H1.cell (i := 2) rfl rfl) Try.underlying72 rfl ⟨rfl, Fr.refl _ _⟩) (HW.opFsY 0 rfl rfl rfl (fun _ => rfl) (decide_eq_true rfl) (fun bq w1 H1 => op_callF Fa.C61 rfl ((sameA_ok _ _ l.acts l.acts _ (H1.arrR (i := 4) rfl) (H1.arrR (i := 3) rfl) (by have := hpf.2.2; omega)).mono (fun e w2 hq => ⟨_, hq.1, rfl, hq.2⟩))) (HW.op rfl (fun w1 H1 => op_pickT rfl (decide_eq_true rfl) rfl ⟨rfl, Fr.refl _ _⟩) (HW.op rfl (fun w1 H1 => op_move rfl ⟨rfl, Fr.refl _ _⟩) (HW.yes rfl rfl rfl (decide_eq_true rfl) (fun w1 H1 => op_callF Fa.C52 rfl ((alive39_ok _).mono (fun e w2 hq => ⟨_, hq.1, rfl, hq.2⟩))) (HW.op rfl (fun w1 H1 => op_pickT rfl (decide_eq_true rfl) rfl ⟨rfl, Fr.refl _ _⟩) (HW.op rfl (fun w1 H1 => op_assign rfl ⟨rfl, Fr.refl _ _⟩)  HW.nil)))))))))))))))))))) (by kernel_rfl) ?_
          intro β31 w31 H31
          refine WL.nil ?_
          refine WQ.next ?_
          refine WC.ret ?_
          refine WQ.out (.tmp rfl .nil) ?_
          exact ⟨rfl, H31.fr⟩
end Go.Proofs.Ytpnghdalnghpcaa
