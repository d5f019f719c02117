/- General lemmas and walks: WLog4, WLog5, WLog6, WLog7, WLog3, WLaw39, WLaw39b, WLaw39c. No condition but what each theorem names. -/
import Derived.Test.YtpnghdalnghpcaaQddb921a6
import Derived.Test.YtpnghdalnghpcaaQ939e7d17
import Derived.Test.YtpnghdalnghpcaaQ5598486a
import Derived.Test.YtpnghdalnghpcaaQd866fd4e
import Derived.Test.YtpnghdalnghpcaaQ23bb207d
/-! from WLog4 -/
namespace Go.Proofs.Ytpnghdalnghpcaa
open Go.Owl Go.Spec
set_option maxRecDepth 100000 in
theorem ladds_ok (m : Nat) (v lv : Value) (l : Lg) (xs : List Ac) (T : List Nat) (w : World) (H : Own T w w [.blk m [(str l.key), (str l.tag), v, (str l.b)] 150, .row v 143 4 l.acts.length (List.flatMap actc l.acts)]) (hA : ∀ w1, Fr T w w1 → Arr w1 lv 4 xs.length (List.flatMap actc xs)) (hl : l.fit []) (hn : l.b.length + 65569 * xs.length < 2 ^ 45) (hm : l.acts.length + xs.length < 2 ^ 40) :
    Calls Try.prog 53 #[(ptr m 0), lv] w (fun e w' => ∃ v', e = .returned (vN (addE xs)) ∧ Own T w w' [.blk m [str (l.adds xs).key, str (l.adds xs).tag, v', str (l.adds xs).b] 150, .row v' 143 4 (l.adds xs).acts.length (List.flatMap actc (l.adds xs).acts)]) := by
  refine enter (args := [(ptr m 0), lv]) Try.func53 rfl rfl ?_
  refine WC.seq ?_
  refine WC.region ?_
  refine WL.op rfl rfl (op_assign rfl ?_)
  refine WL.nil ?_
  refine WQ.next ?_
  refine WC.seq ?_
  refine WC.seq ?_
  refine WC.region ?_
  refine WL.op rfl rfl (op_move rfl ?_)
  refine WL.op rfl rfl (op_eqlPN Fa.PT75 rfl rfl ?_)
  refine WL.nil ?_
  refine WQ.next ?_
  refine WC.no rfl rfl ?_
  refine WC.skip ?_
  refine WQ.next ?_
  refine WC.seq ?_
  refine WC.region ?_
  refine WL.op rfl rfl (op_assign rfl ?_)
  have H1 := H.nilRow 9 1
  refine WL.nil ?_
  refine WQ.next ?_
  refine WC.seq ?_
  refine WC.seq ?_
  refine WC.region ?_
  refine WL.op rfl rfl (op_move rfl ?_)
  refine WL.op rfl rfl (op_lenA Try.underlying72 rfl (hA _ H1.fr) ?_)
  refine WL.op rfl rfl (op_move rfl ?_)
  refine WL.nil ?_
  refine WQ.next ?_
  refine WC.block ?_
  refine WC.loop (α := Nat × Value) (fun (k, q) => [(0, (ptr m 0)), (1, lv), (14, lv), (15, (vN xs.length)), (5, q), (16, (vN k))]) (fun (k, q) w' => (k ≤ xs.length ∧ (∀ j, j < k → actE (xs.getD j Ac.zero) = 0)) ∧ Own T w w' [.blk m [(str l.key), (str l.tag), v, (str l.b)] 150, .row v 143 4 l.acts.length (List.flatMap actc l.acts), .row q 9 1 k (List.map str (acTo xs k))]) (fun (k, q) => xs.length - k) (0, (.slice none 0 0)) ⟨⟨Nat.zero_le _, fun j h => by omega⟩, H1⟩ ⟨rfl, rfl, rfl, rfl, rfl, rfl, trivial⟩ ?_
  rintro ⟨k, q⟩ w2 ⟨⟨hk1, hok⟩, H2⟩
  show WC _ _ _ _ _ [(0, (ptr m 0)), (1, lv), (14, lv), (15, (vN xs.length)), (5, q), (16, (vN k))] _
  refine WC.seq ?_
  refine WC.region ?_
  refine WL.op rfl rfl (op_lssN rfl rfl ?_)
  refine WL.nil ?_
  refine WQ.next ?_
  refine WC.seq ?_
  refine WC.cond rfl (fun (hb3 : (decide (k < xs.length)) = true) => ?_) (fun (hb3 : (decide (k < xs.length)) = false) => ?_)
  ·
    have hc3 := of_decide_eq_true hb3
    refine WC.skip ?_
    refine WQ.next ?_
    refine WC.seq ?_
    refine WC.block ?_
    refine WC.seq ?_
    refine WC.region ?_
    refine WL.op rfl rfl (op_indexAddr Try.underlying72 Fa.I143 rfl (hA _ H2.fr) rfl (by omega) ?_)
    refine WL.op rfl rfl (op_loadSP (vs := actc (xs.getD k Ac.zero)) rfl (Arr.atsF (hA _ H2.fr) (fun _ => rfl) (by decide) Ac.zero (by omega)) Try.underlying143 rfl Fa.I143 rfl ?_)
    refine WL.op rfl rfl (op_alloc H2 Fa.I143 (fun b4 w4 H4 => ?_))
    refine WL.op rfl rfl (op_storeBW (i := 3) H4 rfl rfl rfl rfl rfl Fa.I143 (fun w5 H5 => ?_))
    refine WL.nil ?_
    refine WQ.next ?_
    refine WC.seq ?_
    refine WC.region ?_
    refine WL.op rfl rfl (op_loadS (vs := [_, _, _, _]) rfl (H5.cells (i := 3) rfl rfl) Try.underlying143 rfl Fa.I143 rfl ?_)
    refine WL.op rfl rfl (op_callF Fa.C99 rfl ((atext_ok (xs.getD k Ac.zero) _).mono (fun e w6 hq => ?_)))
    obtain ⟨rfl, hf6⟩ := hq
    refine ⟨_, rfl, ?_⟩
    have H6 := H5.fr' hf6
    refine WL.op rfl rfl (op_move rfl ?_)
    refine WL.op rfl rfl (op_extract rfl rfl ?_)
    refine WL.op rfl rfl (op_extract rfl rfl ?_)
    refine WL.op rfl rfl (op_assign rfl ?_)
    refine WL.op rfl rfl (op_assign rfl ?_)
    refine WL.nil ?_
    refine WQ.next ?_
    refine WC.seq ?_
    refine WC.seq ?_
    refine WC.region ?_
    refine WL.op rfl rfl (op_move rfl ?_)
    refine WL.op rfl rfl (op_neqN (b := 0) rfl rfl ?_)
    refine WL.nil ?_
    refine WQ.next ?_
    refine WC.cond rfl (fun (hb7 : (decide ((actE (xs.getD k Ac.zero)) ≠ 0)) = true) => ?_) (fun (hb7 : (decide ((actE (xs.getD k Ac.zero)) ≠ 0)) = false) => ?_)
    ·
      have hc7 := of_decide_eq_true hb7
      refine WC.seq ?_
      refine WC.region ?_
      refine WL.op rfl rfl (op_move rfl ?_)
      refine WL.op rfl rfl (op_assign rfl ?_)
      refine WL.nil ?_
      refine WQ.next ?_
      refine WC.ret ?_
      refine WQ.thenRet ?_
      refine WQ.inRet ?_
      refine WQ.thenRet ?_
      refine WQ.thenRet ?_
      refine WQ.inRet ?_
      refine WQ.thenRet ?_
      refine WQ.out (.tmp rfl .nil) ?_
      rw [Lg.adds, addE_out (k := k) (by omega) hc7, if_neg (by decide), actE_2 hc7]
      exact ⟨_, rfl, H6.take 2⟩
    ·
      have hc7 := of_decide_eq_false hb7
      refine WC.skip ?_
      refine WQ.next ?_
      refine WC.region ?_
      refine WL.op rfl rfl (op_move rfl ?_)
      refine WL.op rfl rfl (op_move rfl ?_)
      refine WL.op rfl rfl (op_buildSlice (cs := [_]) H6 Try.underlying23 Fa.I9 rfl rfl rfl rfl (by decide) (by decide) (fun b8 w8 H8 => ?_))
      refine WL.op rfl rfl (op_appendM (f := str) (l := (acTo xs k)) (l' := [(actS (xs.getD k Ac.zero))]) (i := 2) H8 Try.underlying23 Fa.I9 rfl rfl rfl rfl (Src.ofArr Try.underlying23 (H8.arrR (i := 4) rfl)) (one_mapM (fun _ => rfl)) (by omega) (by omega) (fun v9 w9 H9 => ?_))
      refine WL.op rfl rfl (op_assign rfl ?_)
      refine WL.nil ?_
      refine WQ.inNormal ?_
      refine WQ.next ?_
      refine WC.region ?_
      refine WL.op rfl rfl (op_addN (b := 1) rfl rfl (by omega) ?_)
      refine WL.op rfl rfl (op_move rfl ?_)
      refine WL.nil ?_
      exact WQ.round (k + 1, v9) ⟨⟨by omega, nextP hok (Decidable.not_not.mp hc7)⟩, (H9.take 3)⟩ ⟨rfl, rfl, rfl, rfl, rfl, rfl, trivial⟩ (by show xs.length - (k + 1) < xs.length - k; omega)
  ·
    have hc3 := of_decide_eq_false hb3
    refine WC.exit ?_
    refine WQ.thenExit ?_
    refine WQ.thenExit ?_
    refine WQ.inHere ?_
    refine WQ.next ?_
    refine WC.seq ?_
    refine WC.seq ?_
    refine WC.region ?_
    refine WL.op rfl rfl (op_move rfl ?_)
    refine WL.op rfl rfl (op_lenA Try.underlying72 rfl (hA _ H2.fr) ?_)
    refine WL.op rfl rfl (op_move rfl ?_)
    refine WL.nil ?_
    refine WQ.next ?_
    refine WC.block ?_
    refine WC.loop (α := Nat × Value) (fun (j, v2) => [(0, (ptr m 0)), (5, q), (33, lv), (34, (vN xs.length)), (35, (vN j))]) (fun (j, v2) w' => (j ≤ xs.length) ∧ Own T w w' [.blk m [(str (l.to xs j).key), (str (l.to xs j).tag), v2, (str (l.to xs j).b)] 150, .row v2 143 4 (l.to xs j).acts.length (List.flatMap actc (l.to xs j).acts), .row q 9 1 k (List.map str (acTo xs k))]) (fun (j, v2) => xs.length - j) (0, v) ⟨Nat.zero_le _, H2⟩ ⟨rfl, rfl, rfl, rfl, rfl, trivial⟩ ?_
    rintro ⟨j, v2⟩ w10 ⟨hj1, H10⟩
    show WC _ _ _ _ _ [(0, (ptr m 0)), (5, q), (33, lv), (34, (vN xs.length)), (35, (vN j))] _
    have hka : k = xs.length := by omega
    have hb := l.to_b xs j
    refine WC.seq ?_
    refine WC.region ?_
    refine WL.op rfl rfl (op_lssN rfl rfl ?_)
    refine WL.nil ?_
    refine WQ.next ?_
    refine WC.seq ?_
    refine WC.cond rfl (fun (hb11 : (decide (j < xs.length)) = true) => ?_) (fun (hb11 : (decide (j < xs.length)) = false) => ?_)
    ·
      have hc11 := of_decide_eq_true hb11
      have hg := acTo_get xs (show j < k by omega)
      have hlab : (l.to xs j).fit ((acTo xs k).getD j []) := by
        rw [hg]
        have := actS_len (xs.getD j Ac.zero)
        exact ⟨by rw [Lg.to_key]; exact hl.1, Lg.to_tag l hl.2.1 xs j, by omega, by rw [Lg.to_acts _ _ _ (by omega), List.length_append, List.length_take]; omega, by omega⟩
      refine WC.skip ?_
      refine WQ.next ?_
      refine WC.seq ?_
      refine WC.block ?_
      refine WC.seq ?_
      refine WC.region ?_
      refine WL.op rfl rfl (op_move rfl ?_)
      refine WL.op rfl rfl (op_indexAddr Try.underlying72 Fa.I143 rfl (hA _ H10.fr) rfl (by omega) ?_)
      refine WL.op rfl rfl (op_loadSP (vs := actc (xs.getD j Ac.zero)) rfl (Arr.atsF (hA _ H10.fr) (fun _ => rfl) (by decide) Ac.zero (by omega)) Try.underlying143 rfl Fa.I143 rfl ?_)
      refine WL.op rfl rfl (op_alloc H10 Fa.I143 (fun b12 w12 H12 => ?_))
      refine WL.op rfl rfl (op_assign rfl ?_)
      refine WL.op rfl rfl (op_storeBW (i := 3) H12 rfl rfl rfl rfl rfl Fa.I143 (fun w13 H13 => ?_))
      refine WL.nil ?_
      refine WQ.next ?_
      refine WC.draw 6 Fa.M H13 (HW.op rfl (fun w1 H1 => op_move rfl ⟨rfl, Fr.refl _ _⟩) (HW.op rfl (fun w1 H1 => op_loadS (vs := [_, _, _, _]) rfl (H1.cells (i := 3) rfl rfl) Try.underlying143 rfl Fa.I143 rfl ⟨rfl, Fr.refl _ _⟩) (HW.op rfl (fun w1 H1 => op_move rfl ⟨rfl, Fr.refl _ _⟩) (HW.op rfl (fun w1 H1 => op_move rfl ⟨rfl, Fr.refl _ _⟩) (HW.op rfl (fun w1 H1 => op_indexAddr1 Try.underlying23 Fa.I9 rfl (H1.arrR (i := 2) rfl) rfl (by omega) ⟨rfl, Fr.refl _ _⟩) (HW.op rfl (fun w1 H1 => op_load rfl ((H1.arrR (i := 2) rfl).at (get_map str [] (Arr.ltM (H1.arrR (i := 2) rfl) (by omega)))) Try.underlying9 rfl ⟨rfl, Fr.refl _ _⟩)  HW.nil)))))) (by kernel_rfl) ?_
      intro β14 w14 H14
      refine WL.op rfl rfl (op_callF Fa.C100 rfl ((ladd_ok m v2 (l.to xs j) (xs.getD j Ac.zero) ((acTo xs k).getD j []) _ _ (H14.part [0, 1] rfl rfl) hlab).mono (fun e w15 hq => ?_)))
      obtain ⟨v15, rfl, hq15⟩ := hq
      refine ⟨_, rfl, ?_⟩
      have H15 : Own T w w15 [.blk m [(str ((l.to xs j).add (xs.getD j Ac.zero) ((acTo xs k).getD j [])).key), (str ((l.to xs j).add (xs.getD j Ac.zero) ((acTo xs k).getD j [])).tag), v15, (str ((l.to xs j).add (xs.getD j Ac.zero) ((acTo xs k).getD j [])).b)] 150, .row v15 143 4 ((l.to xs j).add (xs.getD j Ac.zero) ((acTo xs k).getD j [])).acts.length (List.flatMap actc ((l.to xs j).add (xs.getD j Ac.zero) ((acTo xs k).getD j [])).acts), .row q 9 1 k (List.map str (acTo xs k)), .blk b12 [(vU8 (xs.getD j Ac.zero).d), (vI (xs.getD j Ac.zero).n), (vI (xs.getD j Ac.zero).m), (str (xs.getD j Ac.zero).t)] 143] := H14.splice [0, 1] [.blk m [(str ((l.to xs j).add (xs.getD j Ac.zero) ((acTo xs k).getD j [])).key), (str ((l.to xs j).add (xs.getD j Ac.zero) ((acTo xs k).getD j [])).tag), v15, (str ((l.to xs j).add (xs.getD j Ac.zero) ((acTo xs k).getD j [])).b)] 150, .row v15 143 4 ((l.to xs j).add (xs.getD j Ac.zero) ((acTo xs k).getD j [])).acts.length (List.flatMap actc ((l.to xs j).add (xs.getD j Ac.zero) ((acTo xs k).getD j [])).acts)] [] rfl rfl hq15 (Fits.solid True.intro (Fits.solid True.intro Fits.nil))
      refine WL.nil ?_
      refine WQ.inNormal ?_
      refine WQ.next ?_
      refine WC.region ?_
      refine WL.op rfl rfl (op_addN (b := 1) rfl rfl (by omega) ?_)
      refine WL.op rfl rfl (op_move rfl ?_)
      refine WL.nil ?_
      exact WQ.round (j + 1, v15) ⟨(by omega), (by have h := (show Own T w w15 [.blk m [(str ((l.to xs j).add (xs.getD j Ac.zero) ((acTo xs k).getD j [])).key), (str ((l.to xs j).add (xs.getD j Ac.zero) ((acTo xs k).getD j [])).tag), v15, (str ((l.to xs j).add (xs.getD j Ac.zero) ((acTo xs k).getD j [])).b)] 150, .row v15 143 4 ((l.to xs j).add (xs.getD j Ac.zero) ((acTo xs k).getD j [])).acts.length (List.flatMap actc ((l.to xs j).add (xs.getD j Ac.zero) ((acTo xs k).getD j [])).acts), .row q 9 1 k (List.map str (acTo xs k))] from (H15.take 3)); rw [hg] at h; exact h)⟩ ⟨rfl, rfl, rfl, rfl, rfl, trivial⟩ (by show xs.length - (j + 1) < xs.length - j; omega)
    ·
      have hc11 := of_decide_eq_false hb11
      refine WC.exit ?_
      refine WQ.thenExit ?_
      refine WQ.thenExit ?_
      refine WQ.inHere ?_
      refine WQ.next ?_
      refine WC.seq ?_
      refine WC.region ?_
      refine WL.op rfl rfl (op_assign rfl ?_)
      refine WL.nil ?_
      refine WQ.next ?_
      refine WC.ret ?_
      refine WQ.out (.tmp rfl .nil) ?_
      have e : j = xs.length := by omega
      have hj := H10.take 2
      rw [Lg.adds, addE_no (fun i hi => hok i (by omega)), if_pos rfl]
      rw [e] at hj
      exact ⟨_, rfl, hj⟩
set_option maxRecDepth 100000 in
theorem rladds_ok (m : Nat) (v lv : Value) (l : Lg) (xs : List Ac) (T : List Nat) (w : World) (H : Own T w w [.blk m [(str l.key), (str l.b), (str l.tag), v] 84, .row v 143 4 l.acts.length (List.flatMap actc l.acts)]) (hA : ∀ w1, Fr T w w1 → Arr w1 lv 4 xs.length (List.flatMap actc xs)) (hl : l.fit []) (hn : l.b.length + 65569 * xs.length < 2 ^ 45) (hm : l.acts.length + xs.length < 2 ^ 40) :
    Calls Try.prog 60 #[(ptr m 0), lv] w (fun e w' => ∃ v', e = .returned (vN (addE xs)) ∧ Own T w w' [.blk m [str (l.adds xs).key, str (l.adds xs).b, str (l.adds xs).tag, v'] 84, .row v' 143 4 (l.adds xs).acts.length (List.flatMap actc (l.adds xs).acts)]) := by
  refine enter (args := [(ptr m 0), lv]) Try.func60 rfl rfl ?_
  refine WC.seq ?_
  refine WC.region ?_
  refine WL.op rfl rfl (op_assign rfl ?_)
  refine WL.nil ?_
  refine WQ.next ?_
  refine WC.seq ?_
  refine WC.seq ?_
  refine WC.region ?_
  refine WL.op rfl rfl (op_assign rfl ?_)
  refine WL.nil ?_
  refine WQ.next ?_
  refine WC.block ?_
  refine WC.loop (α := Nat) (fun k => [(0, (ptr m 0)), (1, lv), (5, (vN k))]) (fun k w' => (k ≤ xs.length ∧ (∀ j, j < k → actE (xs.getD j Ac.zero) = 0)) ∧ Own T w w' [.blk m [(str l.key), (str l.b), (str l.tag), v] 84, .row v 143 4 l.acts.length (List.flatMap actc l.acts)]) (fun k => xs.length - k) 0 ⟨⟨Nat.zero_le _, fun j h => by omega⟩, H⟩ ⟨rfl, rfl, rfl, trivial⟩ ?_
  rintro k w1 ⟨⟨hk1, hok⟩, H1⟩
  show WC _ _ _ _ _ [(0, (ptr m 0)), (1, lv), (5, (vN k))] _
  refine WC.seq ?_
  refine WC.seq ?_
  refine WC.region ?_
  refine WL.op rfl rfl (op_move rfl ?_)
  refine WL.op rfl rfl (op_move rfl ?_)
  refine WL.op rfl rfl (op_lenA Try.underlying72 rfl (hA _ H1.fr) ?_)
  refine WL.op rfl rfl (op_lssN rfl rfl ?_)
  refine WL.nil ?_
  refine WQ.next ?_
  refine WC.cond rfl (fun (hb2 : (decide (k < xs.length)) = true) => ?_) (fun (hb2 : (decide (k < xs.length)) = false) => ?_)
  ·
    have hc2 := of_decide_eq_true hb2
    refine WC.skip ?_
    refine WQ.next ?_
    refine WC.seq ?_
    refine WC.block ?_
    refine WC.seq ?_
    refine WC.region ?_
    refine WL.op rfl rfl (op_move rfl ?_)
    refine WL.op rfl rfl (op_move rfl ?_)
    refine WL.op rfl rfl (op_indexAddr Try.underlying72 Fa.I143 rfl (hA _ H1.fr) rfl (by omega) ?_)
    refine WL.op rfl rfl (op_loadSP (vs := actc (xs.getD k Ac.zero)) rfl (Arr.atsF (hA _ H1.fr) (fun _ => rfl) (by decide) Ac.zero (by omega)) Try.underlying143 rfl Fa.I143 rfl ?_)
    refine WL.op rfl rfl (op_callF Fa.C103 rfl ((ratext_ok (xs.getD k Ac.zero) _).mono (fun e w3 hq => ?_)))
    obtain ⟨rfl, hf3⟩ := hq
    refine ⟨_, rfl, ?_⟩
    have H3 := H1.fr' hf3
    refine WL.op rfl rfl (op_move rfl ?_)
    refine WL.op rfl rfl (op_extract rfl rfl ?_)
    refine WL.op rfl rfl (op_extract rfl rfl ?_)
    refine WL.op rfl rfl (op_assign rfl ?_)
    refine WL.op rfl rfl (op_assign rfl ?_)
    refine WL.nil ?_
    refine WQ.next ?_
    refine WC.seq ?_
    refine WC.region ?_
    refine WL.op rfl rfl (op_move rfl ?_)
    refine WL.op rfl rfl (op_neqN (b := 0) rfl rfl ?_)
    refine WL.nil ?_
    refine WQ.next ?_
    refine WC.cond rfl (fun (hb4 : (decide ((actE (xs.getD k Ac.zero)) ≠ 0)) = true) => ?_) (fun (hb4 : (decide ((actE (xs.getD k Ac.zero)) ≠ 0)) = false) => ?_)
    ·
      have hc4 := of_decide_eq_true hb4
      refine WC.seq ?_
      refine WC.region ?_
      refine WL.op rfl rfl (op_move rfl ?_)
      refine WL.op rfl rfl (op_assign rfl ?_)
      refine WL.nil ?_
      refine WQ.next ?_
      refine WC.ret ?_
      refine WQ.inRet ?_
      refine WQ.thenRet ?_
      refine WQ.thenRet ?_
      refine WQ.inRet ?_
      refine WQ.thenRet ?_
      refine WQ.out (.tmp rfl .nil) ?_
      rw [Lg.adds, addE_out (k := k) (by omega) hc4, if_neg (by decide), actE_2 hc4]
      exact ⟨_, rfl, H3.take 2⟩
    ·
      have hc4 := of_decide_eq_false hb4
      refine WC.skip ?_
      refine WQ.inNormal ?_
      refine WQ.next ?_
      refine WC.region ?_
      refine WL.op rfl rfl (op_move rfl ?_)
      refine WL.op rfl rfl (op_addN (b := 1) rfl rfl (by omega) ?_)
      refine WL.op rfl rfl (op_assign rfl ?_)
      refine WL.nil ?_
      exact WQ.round (k + 1) ⟨⟨by omega, nextP hok (Decidable.not_not.mp hc4)⟩, H3⟩ ⟨rfl, rfl, rfl, trivial⟩ (by show xs.length - (k + 1) < xs.length - k; omega)
  ·
    have hc2 := of_decide_eq_false hb2
    refine WC.exit ?_
    refine WQ.thenExit ?_
    refine WQ.thenExit ?_
    refine WQ.inHere ?_
    refine WQ.next ?_
    refine WC.seq ?_
    refine WC.seq ?_
    refine WC.region ?_
    refine WL.op rfl rfl (op_assign rfl ?_)
    refine WL.nil ?_
    refine WQ.next ?_
    refine WC.block ?_
    refine WC.loop (α := Nat × Value) (fun (j, v2) => [(0, (ptr m 0)), (1, lv), (8, (vN j))]) (fun (j, v2) w' => (j ≤ xs.length) ∧ Own T w w' [.blk m [(str (l.to xs j).key), (str (l.to xs j).b), (str (l.to xs j).tag), v2] 84, .row v2 143 4 (l.to xs j).acts.length (List.flatMap actc (l.to xs j).acts)]) (fun (j, v2) => xs.length - j) (0, v) ⟨Nat.zero_le _, H1⟩ ⟨rfl, rfl, rfl, trivial⟩ ?_
    rintro ⟨j, v2⟩ w5 ⟨hj1, H5⟩
    show WC _ _ _ _ _ [(0, (ptr m 0)), (1, lv), (8, (vN j))] _
    have hka : k = xs.length := by omega
    have hb := l.to_b xs j
    refine WC.seq ?_
    refine WC.seq ?_
    refine WC.region ?_
    refine WL.op rfl rfl (op_move rfl ?_)
    refine WL.op rfl rfl (op_move rfl ?_)
    refine WL.op rfl rfl (op_lenA Try.underlying72 rfl (hA _ H5.fr) ?_)
    refine WL.op rfl rfl (op_lssN rfl rfl ?_)
    refine WL.nil ?_
    refine WQ.next ?_
    refine WC.cond rfl (fun (hb6 : (decide (j < xs.length)) = true) => ?_) (fun (hb6 : (decide (j < xs.length)) = false) => ?_)
    ·
      have hc6 := of_decide_eq_true hb6
      have hlab : (l.to xs j).fit (actS (xs.getD j Ac.zero)) := by
        have := actS_len (xs.getD j Ac.zero)
        exact ⟨by rw [Lg.to_key]; exact hl.1, Lg.to_tag l hl.2.1 xs j, by omega, by rw [Lg.to_acts _ _ _ (by omega), List.length_append, List.length_take]; omega, by omega⟩
      refine WC.skip ?_
      refine WQ.next ?_
      refine WC.seq ?_
      refine WC.block ?_
      refine WC.seq ?_
      refine WC.region ?_
      refine WL.op rfl rfl (op_move rfl ?_)
      refine WL.op rfl rfl (op_move rfl ?_)
      refine WL.op rfl rfl (op_indexAddr Try.underlying72 Fa.I143 rfl (hA _ H5.fr) rfl (by omega) ?_)
      refine WL.op rfl rfl (op_loadSP (vs := actc (xs.getD j Ac.zero)) rfl (Arr.atsF (hA _ H5.fr) (fun _ => rfl) (by decide) Ac.zero (by omega)) Try.underlying143 rfl Fa.I143 rfl ?_)
      refine WL.op rfl rfl (op_callF Fa.C103 rfl ((ratext_ok (xs.getD j Ac.zero) _).mono (fun e w7 hq => ?_)))
      obtain ⟨rfl, hf7⟩ := hq
      refine ⟨_, rfl, ?_⟩
      have H7 := H5.fr' hf7
      refine WL.op rfl rfl (op_move rfl ?_)
      refine WL.op rfl rfl (op_extract rfl rfl ?_)
      refine WL.op rfl rfl (op_extract rfl rfl ?_)
      refine WL.op rfl rfl (op_assign rfl ?_)
      refine WL.op rfl rfl (op_assign rfl ?_)
      refine WL.nil ?_
      refine WQ.next ?_
      refine WC.region ?_
      refine WL.op rfl rfl (op_move rfl ?_)
      refine WL.op rfl rfl (op_move rfl ?_)
      refine WL.op rfl rfl (op_move rfl ?_)
      refine WL.op rfl rfl (op_indexAddr Try.underlying72 Fa.I143 rfl (hA _ H7.fr) rfl (by omega) ?_)
      refine WL.op rfl rfl (op_loadSP (vs := actc (xs.getD j Ac.zero)) rfl (Arr.atsF (hA _ H7.fr) (fun _ => rfl) (by decide) Ac.zero (by omega)) Try.underlying143 rfl Fa.I143 rfl ?_)
      refine WL.op rfl rfl (op_move rfl ?_)
      refine WL.op rfl rfl (op_callF Fa.C104 rfl ((rladd_ok m v2 (l.to xs j) (xs.getD j Ac.zero) (actS (xs.getD j Ac.zero)) _ _ (H7.part [0, 1] rfl rfl) hlab).mono (fun e w8 hq => ?_)))
      obtain ⟨v8, rfl, hq8⟩ := hq
      refine ⟨_, rfl, ?_⟩
      have H8 : Own T w w8 [.blk m [(str ((l.to xs j).add (xs.getD j Ac.zero) (actS (xs.getD j Ac.zero))).key), (str ((l.to xs j).add (xs.getD j Ac.zero) (actS (xs.getD j Ac.zero))).b), (str ((l.to xs j).add (xs.getD j Ac.zero) (actS (xs.getD j Ac.zero))).tag), v8] 84, .row v8 143 4 ((l.to xs j).add (xs.getD j Ac.zero) (actS (xs.getD j Ac.zero))).acts.length (List.flatMap actc ((l.to xs j).add (xs.getD j Ac.zero) (actS (xs.getD j Ac.zero))).acts)] := H7.splice [0, 1] [.blk m [(str ((l.to xs j).add (xs.getD j Ac.zero) (actS (xs.getD j Ac.zero))).key), (str ((l.to xs j).add (xs.getD j Ac.zero) (actS (xs.getD j Ac.zero))).b), (str ((l.to xs j).add (xs.getD j Ac.zero) (actS (xs.getD j Ac.zero))).tag), v8] 84, .row v8 143 4 ((l.to xs j).add (xs.getD j Ac.zero) (actS (xs.getD j Ac.zero))).acts.length (List.flatMap actc ((l.to xs j).add (xs.getD j Ac.zero) (actS (xs.getD j Ac.zero))).acts)] [] rfl rfl hq8 (Fits.solid True.intro (Fits.solid True.intro Fits.nil))
      refine WL.nil ?_
      refine WQ.inNormal ?_
      refine WQ.next ?_
      refine WC.region ?_
      refine WL.op rfl rfl (op_move rfl ?_)
      refine WL.op rfl rfl (op_addN (b := 1) rfl rfl (by omega) ?_)
      refine WL.op rfl rfl (op_assign rfl ?_)
      refine WL.nil ?_
      exact WQ.round (j + 1, v8) ⟨(by omega), (show Own T w w8 [.blk m [(str ((l.to xs j).add (xs.getD j Ac.zero) (actS (xs.getD j Ac.zero))).key), (str ((l.to xs j).add (xs.getD j Ac.zero) (actS (xs.getD j Ac.zero))).b), (str ((l.to xs j).add (xs.getD j Ac.zero) (actS (xs.getD j Ac.zero))).tag), v8] 84, .row v8 143 4 ((l.to xs j).add (xs.getD j Ac.zero) (actS (xs.getD j Ac.zero))).acts.length (List.flatMap actc ((l.to xs j).add (xs.getD j Ac.zero) (actS (xs.getD j Ac.zero))).acts)] from H8)⟩ ⟨rfl, rfl, rfl, trivial⟩ (by show xs.length - (j + 1) < xs.length - j; omega)
    ·
      have hc6 := of_decide_eq_false hb6
      refine WC.exit ?_
      refine WQ.thenExit ?_
      refine WQ.thenExit ?_
      refine WQ.inHere ?_
      refine WQ.next ?_
      refine WC.seq ?_
      refine WC.region ?_
      refine WL.op rfl rfl (op_assign rfl ?_)
      refine WL.nil ?_
      refine WQ.next ?_
      refine WC.ret ?_
      refine WQ.out (.tmp rfl .nil) ?_
      have e : j = xs.length := by omega
      have hj := H5.take 2
      rw [Lg.adds, addE_no (fun i hi => hok i (by omega)), if_pos rfl]
      rw [e] at hj
      exact ⟨_, rfl, hj⟩
set_option maxRecDepth 100000 in
theorem laddsNil_ok (lv : Value) (w : World) :
    Calls Try.prog 53 #[(.pointer none), lv] w (fun e w' => e = .returned (vN 1) ∧ Fr [] w w') := by
  refine enter (args := [(.pointer none), lv]) Try.func53 rfl rfl ?_
  have H0 : Own [] w w [] := Own.start w []
  refine WC.seq ?_
  refine WC.region ?_
  refine WL.op rfl rfl (op_assign rfl ?_)
  refine WL.nil ?_
  refine WQ.next ?_
  refine WC.seq ?_
  refine WC.seq ?_
  refine WC.region ?_
  refine WL.op rfl rfl (op_move rfl ?_)
  refine WL.op rfl rfl (op_eqlPN Fa.PT75 rfl rfl ?_)
  refine WL.nil ?_
  refine WQ.next ?_
  refine WC.yes rfl rfl ?_
  refine WC.seq ?_
  refine WC.region ?_
  refine WL.op rfl rfl (op_assign rfl ?_)
  refine WL.nil ?_
  refine WQ.next ?_
  refine WC.ret ?_
  refine WQ.thenRet ?_
  refine WQ.out (.tmp rfl .nil) ?_
  exact ⟨rfl, H0.fr⟩
end Go.Proofs.Ytpnghdalnghpcaa
/-! from WLog5 -/
namespace Go.Proofs.Ytpnghdalnghpcaa
open Go.Owl Go.Spec
set_option maxRecDepth 100000 in
theorem open_ok (key s : List UInt8) (w : World) (hk : key.length < 2 ^ 39) (hs : s.length < 2 ^ 39) :
    Calls Try.prog 62 #[(str key), (str s)] w (fun e w' => ∃ m v, e = .returned (.tuple #[ptr m 0, vN (opn key s).1.b.length, vN (opn key s).2]) ∧ Own [] w w' [.blk m [str (opn key s).1.key, str (opn key s).1.tag, v, str (opn key s).1.b] 150, .row v 143 4 (opn key s).1.acts.length (List.flatMap actc (opn key s).1.acts)]) := by
  refine enter (args := [(str key), (str s)]) Try.func62 rfl rfl ?_
  have H0 : Own [] w w [] := Own.start w []
  refine WC.seq ?_
  refine WC.region ?_
  refine WL.op rfl rfl (op_assign rfl ?_)
  refine WL.op rfl rfl (op_assign rfl ?_)
  refine WL.op rfl rfl (op_assign rfl ?_)
  refine WL.nil ?_
  refine WQ.next ?_
  refine WC.seq ?_
  refine WC.region ?_
  refine WL.op rfl rfl (op_move rfl ?_)
  refine WL.op rfl rfl (op_callF Fa.C58 rfl ((lnew_ok key _).mono (fun e w1 hq => ?_)))
  obtain ⟨m1, v1, rfl, hq1⟩ := hq
  refine ⟨_, rfl, ?_⟩
  have H1 : Own [] w w1 [.blk m1 [(str (lg0 key).key), (str (lg0 key).tag), v1, (str (lg0 key).b)] 150, .row v1 143 4 (lg0 key).acts.length (List.flatMap actc (lg0 key).acts)] := H0.splice [] [] [.blk m1 [(str (lg0 key).key), (str (lg0 key).tag), v1, (str (lg0 key).b)] 150, .row v1 143 4 (lg0 key).acts.length (List.flatMap actc (lg0 key).acts)] rfl rfl hq1 (Fits.solid True.intro (Fits.solid True.intro Fits.nil))
  refine WL.op rfl rfl (op_assign rfl ?_)
  refine WL.nil ?_
  refine WQ.next ?_
  refine WC.seq ?_
  refine WC.block ?_
  refine WC.loop (α := Nat × Lg × Value) (fun (k, l, v2) => [(0, (str key)), (1, (str s)), (7, (ptr m1 0))]) (fun (k, l, v2) w' => (opF s k l = opn key s ∧ s.length ≤ k + l.b.length ∧ l.op key) ∧ Own [] w w' [.blk m1 [(str l.key), (str l.tag), v2, (str l.b)] 150, .row v2 143 4 l.acts.length (List.flatMap actc l.acts)]) (fun (k, l, v2) => s.length - l.b.length) (s.length, lg0 key, v1) ⟨⟨rfl, by show s.length ≤ s.length + 0; omega, lg0_op key⟩, H1⟩ ⟨rfl, rfl, rfl, trivial⟩ ?_
  rintro ⟨k, l, v2⟩ w2 ⟨⟨hof, hlk, hop⟩, H2⟩
  show WC _ _ _ _ _ [(0, (str key)), (1, (str s)), (7, (ptr m1 0))] _
  refine WC.seq ?_
  refine WC.seq ?_
  refine WC.region ?_
  refine WL.op rfl rfl (op_move rfl ?_)
  refine WL.op rfl rfl (op_nilCheck rfl ?_)
  refine WL.op rfl rfl (op_fieldAddr rfl Fa.F150_2 ?_)
  refine WL.op rfl rfl (op_load rfl (H2.cell (i := 0) rfl rfl) Try.underlying9 rfl ?_)
  refine WL.op rfl rfl (op_lenStr Try.underlying9 rfl ?_)
  refine WL.op rfl rfl (op_move rfl ?_)
  refine WL.op rfl rfl (op_lenStr Try.underlying9 rfl ?_)
  refine WL.op rfl rfl (op_lssN rfl rfl ?_)
  refine WL.nil ?_
  refine WQ.next ?_
  refine WC.cond rfl (fun (hb3 : (decide (l.b.length < s.length)) = true) => ?_) (fun (hb3 : (decide (l.b.length < s.length)) = false) => ?_)
  ·
    have hc3 := of_decide_eq_true hb3
    have hfit := Lg.op_fit hop hk hs hc3 (recT0_len (s.drop l.b.length))
    have hfit1 := hfit
    obtain ⟨hz1, hz2, hz3, hz4, hz5⟩ := hfit1
    have hz6 := recT0_len (s.drop l.b.length)
    refine WC.skip ?_
    refine WQ.next ?_
    refine WC.block ?_
    refine WC.seq ?_
    refine WC.region ?_
    refine WL.op rfl rfl (op_move rfl ?_)
    refine WL.op rfl rfl (op_move rfl ?_)
    refine WL.op rfl rfl (op_nilCheck rfl ?_)
    refine WL.op rfl rfl (op_fieldAddr rfl Fa.F150_2 ?_)
    refine WL.op rfl rfl (op_load rfl (H2.cell (i := 0) rfl rfl) Try.underlying9 rfl ?_)
    refine WL.op rfl rfl (op_lenStr Try.underlying9 rfl ?_)
    refine WL.op rfl rfl (op_sliceStrLo Try.underlying9 rfl rfl (by omega) ?_)
    refine WL.op rfl rfl (op_callF Fa.C105 rfl ((record_ok (s.drop l.b.length) _ (by rw [List.length_drop]; omega)).mono (fun e w4 hq => ?_)))
    obtain ⟨rfl, hf4⟩ := hq
    refine ⟨_, rfl, ?_⟩
    have H4 := H2.fr' hf4
    refine WL.op rfl rfl (op_move rfl ?_)
    refine WL.op rfl rfl (op_extract rfl rfl ?_)
    refine WL.op rfl rfl (op_extract rfl rfl ?_)
    refine WL.op rfl rfl (op_extract rfl rfl ?_)
    refine WL.op rfl rfl (op_assign rfl ?_)
    refine WL.op rfl rfl (op_assign rfl ?_)
    refine WL.op rfl rfl (op_assign rfl ?_)
    refine WL.nil ?_
    refine WQ.next ?_
    refine WC.seq ?_
    refine WC.seq ?_
    refine WC.region ?_
    refine WL.op rfl rfl (op_move rfl ?_)
    refine WL.op rfl rfl (op_neqN (b := 0) rfl rfl ?_)
    refine WL.nil ?_
    refine WQ.next ?_
    refine WC.cond rfl (fun (hb5 : (decide ((recE (s.drop l.b.length)) ≠ 0)) = true) => ?_) (fun (hb5 : (decide ((recE (s.drop l.b.length)) ≠ 0)) = false) => ?_)
    ·
      have hc5 := of_decide_eq_true hb5
      refine WC.seq ?_
      refine WC.draw 10 Fa.M H4 (HW.op rfl (fun w1 H1 => op_move rfl ⟨rfl, Fr.refl _ _⟩) (HW.op rfl (fun w1 H1 => op_move rfl ⟨rfl, Fr.refl _ _⟩) (HW.op rfl (fun w1 H1 => op_nilCheck rfl ⟨rfl, Fr.refl _ _⟩) (HW.op rfl (fun w1 H1 => op_fieldAddr rfl Fa.F150_2 ⟨rfl, Fr.refl _ _⟩) (HW.op rfl (fun w1 H1 => op_load rfl (H1.cell (i := 0) rfl rfl) Try.underlying9 rfl ⟨rfl, Fr.refl _ _⟩) (HW.op rfl (fun w1 H1 => op_lenStr Try.underlying9 rfl ⟨rfl, Fr.refl _ _⟩) (HW.op rfl (fun w1 H1 => op_move rfl ⟨rfl, Fr.refl _ _⟩) (HW.op rfl (fun w1 H1 => op_assign rfl ⟨rfl, Fr.refl _ _⟩) (HW.op rfl (fun w1 H1 => op_assign rfl ⟨rfl, Fr.refl _ _⟩) (HW.op rfl (fun w1 H1 => op_assign rfl ⟨rfl, Fr.refl _ _⟩)  HW.nil)))))))))) (by kernel_rfl) ?_
      intro β6 w6 H6
      refine WL.nil ?_
      refine WQ.next ?_
      refine WC.ret ?_
      refine WQ.thenRet ?_
      refine WQ.inRet ?_
      refine WQ.thenRet ?_
      refine WQ.inRet ?_
      refine WQ.thenRet ?_
      refine WQ.out (.tmp rfl (.tmp rfl (.tmp rfl .nil))) ?_
      rw [opF_torn hof hlk hc3 hc5, recE_390 hc5]
      exact ⟨_, _, rfl, (by have h := (show Own [] w w6 [.blk m1 [(str l.key), (str l.tag), v2, (str l.b)] 150, .row v2 143 4 l.acts.length (List.flatMap actc l.acts)] from H6); exact h.sel [0, 1] rfl rfl)⟩
    ·
      have hc5 := of_decide_eq_false hb5
      refine WC.skip ?_
      refine WQ.next ?_
      refine WC.seq ?_
      refine WC.region ?_
      refine WL.op rfl rfl (op_move rfl ?_)
      refine WL.op rfl rfl (op_callF Fa.C106 rfl ((aact_ok (recT0 (s.drop l.b.length)) _ (by omega)).mono (fun e w7 hq => ?_)))
      obtain ⟨rfl, hf7⟩ := hq
      refine ⟨_, rfl, ?_⟩
      have H7 := H4.fr' hf7
      refine WL.op rfl rfl (op_move rfl ?_)
      refine WL.op rfl rfl (op_extract rfl rfl ?_)
      refine WL.op rfl rfl (op_extract rfl rfl ?_)
      refine WL.op rfl rfl (op_alloc H7 Fa.I143 (fun b8 w8 H8 => ?_))
      refine WL.op rfl rfl (op_storeBW (i := 2) H8 rfl rfl rfl rfl rfl Fa.I143 (fun w9 H9 => ?_))
      refine WL.op rfl rfl (op_assign rfl ?_)
      refine WL.nil ?_
      refine WQ.next ?_
      refine WC.seq ?_
      refine WC.seq ?_
      refine WC.region ?_
      refine WL.op rfl rfl (op_move rfl ?_)
      refine WL.op rfl rfl (op_neqN (b := 0) rfl rfl ?_)
      refine WL.op rfl rfl (op_move rfl ?_)
      refine WL.split (t := 50) rfl (fun (hb10 : (decide ((unE (recT0 (s.drop l.b.length))) ≠ 0)) = true) => ?_) (fun (hb10 : (decide ((unE (recT0 (s.drop l.b.length))) ≠ 0)) = false) => ?_)
      ·
        have hc10 := of_decide_eq_true hb10
        refine WL.no rfl rfl rfl hb10 rfl ?_
        refine WL.no rfl rfl rfl hb10 rfl ?_
        refine WL.no rfl rfl rfl hb10 rfl ?_
        refine WL.no rfl rfl rfl hb10 rfl ?_
        refine WL.no rfl rfl rfl hb10 rfl ?_
        refine WL.no rfl rfl rfl hb10 rfl ?_
        refine WL.no rfl rfl rfl hb10 rfl ?_
        refine WL.op rfl rfl (op_pickT rfl hb10 rfl ?_)
        refine WL.nil ?_
        refine WQ.next ?_
        refine WC.yes rfl rfl ?_
        refine WC.seq ?_
        refine WC.draw 9 Fa.M H9 (HW.op rfl (fun w1 H1 => op_move rfl ⟨rfl, Fr.refl _ _⟩) (HW.op rfl (fun w1 H1 => op_move rfl ⟨rfl, Fr.refl _ _⟩) (HW.op rfl (fun w1 H1 => op_nilCheck rfl ⟨rfl, Fr.refl _ _⟩) (HW.op rfl (fun w1 H1 => op_fieldAddr rfl Fa.F150_2 ⟨rfl, Fr.refl _ _⟩) (HW.op rfl (fun w1 H1 => op_load rfl (H1.cell (i := 0) rfl rfl) Try.underlying9 rfl ⟨rfl, Fr.refl _ _⟩) (HW.op rfl (fun w1 H1 => op_lenStr Try.underlying9 rfl ⟨rfl, Fr.refl _ _⟩) (HW.op rfl (fun w1 H1 => op_assign rfl ⟨rfl, Fr.refl _ _⟩) (HW.op rfl (fun w1 H1 => op_assign rfl ⟨rfl, Fr.refl _ _⟩) (HW.op rfl (fun w1 H1 => op_assign rfl ⟨rfl, Fr.refl _ _⟩)  HW.nil))))))))) (by kernel_rfl) ?_
        intro β11 w11 H11
        refine WL.nil ?_
        refine WQ.next ?_
        refine WC.ret ?_
        refine WQ.thenRet ?_
        refine WQ.inRet ?_
        refine WQ.thenRet ?_
        refine WQ.inRet ?_
        refine WQ.thenRet ?_
        refine WQ.out (.tmp rfl (.tmp rfl (.tmp rfl .nil))) ?_
        rw [opF_bad hof hlk hc3 (Decidable.not_not.mp hc5) (Or.inl hc10)]
        exact ⟨_, _, rfl, (by have h := (show Own [] w w11 [.blk m1 [(str l.key), (str l.tag), v2, (str l.b)] 150, .row v2 143 4 l.acts.length (List.flatMap actc l.acts), .blk b8 [(vU8 (unA (recT0 (s.drop l.b.length))).d), (vI (unA (recT0 (s.drop l.b.length))).n), (vI (unA (recT0 (s.drop l.b.length))).m), (str (unA (recT0 (s.drop l.b.length))).t)] 143] from H11); exact h.sel [0, 1] rfl rfl)⟩
      ·
        have hc10 := of_decide_eq_false hb10
        refine WL.yes rfl rfl rfl hb10 rfl (op_move rfl ?_)
        refine WL.yes rfl rfl rfl hb10 rfl (op_nilCheck rfl ?_)
        refine WL.yes rfl rfl rfl hb10 rfl (op_fieldAddr rfl Fa.F150_0 ?_)
        refine WL.yes rfl rfl rfl hb10 rfl (op_move rfl ?_)
        refine WL.yes rfl rfl rfl hb10 rfl (op_callF Fa.C107 rfl ((next_ok m1 v2 l (recT0 (s.drop l.b.length)) _ (H9.cellsAt (i := 0) rfl) (by omega) (by omega)).mono (fun e w12 hq => ?_)))
        obtain ⟨rfl, hf12⟩ := hq
        refine ⟨_, rfl, ?_⟩
        have H12 := H9.fr' hf12
        refine WL.yes rfl rfl rfl hb10 rfl (op_move rfl ?_)
        refine WL.yes rfl rfl rfl hb10 rfl (op_neqStr rfl rfl ?_)
        refine WL.op rfl rfl (op_pickF rfl hb10 rfl ?_)
        refine WL.nil ?_
        refine WQ.next ?_
        refine WC.cond rfl (fun (hb13 : (decide ((l.next (recT0 (s.drop l.b.length))) ≠ (recG0 (s.drop l.b.length)))) = true) => ?_) (fun (hb13 : (decide ((l.next (recT0 (s.drop l.b.length))) ≠ (recG0 (s.drop l.b.length)))) = false) => ?_)
        ·
          have hc13 := of_decide_eq_true hb13
          refine WC.seq ?_
          refine WC.draw 9 Fa.M H12 (HW.op rfl (fun w1 H1 => op_move rfl ⟨rfl, Fr.refl _ _⟩) (HW.op rfl (fun w1 H1 => op_move rfl ⟨rfl, Fr.refl _ _⟩) (HW.op rfl (fun w1 H1 => op_nilCheck rfl ⟨rfl, Fr.refl _ _⟩) (HW.op rfl (fun w1 H1 => op_fieldAddr rfl Fa.F150_2 ⟨rfl, Fr.refl _ _⟩) (HW.op rfl (fun w1 H1 => op_load rfl (H1.cell (i := 0) rfl rfl) Try.underlying9 rfl ⟨rfl, Fr.refl _ _⟩) (HW.op rfl (fun w1 H1 => op_lenStr Try.underlying9 rfl ⟨rfl, Fr.refl _ _⟩) (HW.op rfl (fun w1 H1 => op_assign rfl ⟨rfl, Fr.refl _ _⟩) (HW.op rfl (fun w1 H1 => op_assign rfl ⟨rfl, Fr.refl _ _⟩) (HW.op rfl (fun w1 H1 => op_assign rfl ⟨rfl, Fr.refl _ _⟩)  HW.nil))))))))) (by kernel_rfl) ?_
          intro β14 w14 H14
          refine WL.nil ?_
          refine WQ.next ?_
          refine WC.ret ?_
          refine WQ.thenRet ?_
          refine WQ.inRet ?_
          refine WQ.thenRet ?_
          refine WQ.inRet ?_
          refine WQ.thenRet ?_
          refine WQ.out (.tmp rfl (.tmp rfl (.tmp rfl .nil))) ?_
          rw [opF_bad hof hlk hc3 (Decidable.not_not.mp hc5) (Or.inr hc13)]
          exact ⟨_, _, rfl, (by have h := (show Own [] w w14 [.blk m1 [(str l.key), (str l.tag), v2, (str l.b)] 150, .row v2 143 4 l.acts.length (List.flatMap actc l.acts), .blk b8 [(vU8 (unA (recT0 (s.drop l.b.length))).d), (vI (unA (recT0 (s.drop l.b.length))).n), (vI (unA (recT0 (s.drop l.b.length))).m), (str (unA (recT0 (s.drop l.b.length))).t)] 143] from H14); exact h.sel [0, 1] rfl rfl)⟩
        ·
          have hc13 := of_decide_eq_false hb13
          refine WC.skip ?_
          refine WQ.next ?_
          refine WC.region ?_
          refine WL.op rfl rfl (op_move rfl ?_)
          refine WL.op rfl rfl (op_loadS (vs := [_, _, _, _]) rfl (H12.cells (i := 2) rfl rfl) Try.underlying143 rfl Fa.I143 rfl ?_)
          refine WL.op rfl rfl (op_move rfl ?_)
          refine WL.op rfl rfl (op_callF Fa.C100 rfl ((ladd_ok m1 v2 l (unA (recT0 (s.drop l.b.length))) (recT0 (s.drop l.b.length)) _ _ (H12.part [0, 1] rfl rfl) hfit).mono (fun e w15 hq => ?_)))
          obtain ⟨v15, rfl, hq15⟩ := hq
          refine ⟨_, rfl, ?_⟩
          have H15 : Own [] w w15 [.blk m1 [(str (l.add (unA (recT0 (s.drop l.b.length))) (recT0 (s.drop l.b.length))).key), (str (l.add (unA (recT0 (s.drop l.b.length))) (recT0 (s.drop l.b.length))).tag), v15, (str (l.add (unA (recT0 (s.drop l.b.length))) (recT0 (s.drop l.b.length))).b)] 150, .row v15 143 4 (l.add (unA (recT0 (s.drop l.b.length))) (recT0 (s.drop l.b.length))).acts.length (List.flatMap actc (l.add (unA (recT0 (s.drop l.b.length))) (recT0 (s.drop l.b.length))).acts), .blk b8 [(vU8 (unA (recT0 (s.drop l.b.length))).d), (vI (unA (recT0 (s.drop l.b.length))).n), (vI (unA (recT0 (s.drop l.b.length))).m), (str (unA (recT0 (s.drop l.b.length))).t)] 143] := H12.splice [0, 1] [.blk m1 [(str (l.add (unA (recT0 (s.drop l.b.length))) (recT0 (s.drop l.b.length))).key), (str (l.add (unA (recT0 (s.drop l.b.length))) (recT0 (s.drop l.b.length))).tag), v15, (str (l.add (unA (recT0 (s.drop l.b.length))) (recT0 (s.drop l.b.length))).b)] 150, .row v15 143 4 (l.add (unA (recT0 (s.drop l.b.length))) (recT0 (s.drop l.b.length))).acts.length (List.flatMap actc (l.add (unA (recT0 (s.drop l.b.length))) (recT0 (s.drop l.b.length))).acts)] [] rfl rfl hq15 (Fits.solid True.intro (Fits.solid True.intro Fits.nil))
          refine WL.nil ?_
          refine WQ.inNormal ?_
          have hstep := opF_step hof hlk hc3 (Decidable.not_not.mp hc5) (Decidable.not_not.mp hc10) (Decidable.not_not.mp hc13)
          exact WQ.round (k - 1, l.add (unA (recT0 (s.drop l.b.length))) (recT0 (s.drop l.b.length)), v15) ⟨⟨hstep.1, hstep.2, Lg.op_add hop _ _⟩, (H15.take 2)⟩ ⟨rfl, rfl, rfl, trivial⟩ (by have h := l.add_b2 (unA (recT0 (s.drop l.b.length))) (recT0 (s.drop l.b.length)); show s.length - (l.add (unA (recT0 (s.drop l.b.length))) (recT0 (s.drop l.b.length))).b.length < s.length - l.b.length; omega)
  ·
    have hc3 := of_decide_eq_false hb3
    refine WC.exit ?_
    refine WQ.thenExit ?_
    refine WQ.thenExit ?_
    refine WQ.inHere ?_
    refine WQ.next ?_
    refine WC.seq ?_
    refine WC.draw 9 Fa.M H2 (HW.op rfl (fun w1 H1 => op_move rfl ⟨rfl, Fr.refl _ _⟩) (HW.op rfl (fun w1 H1 => op_move rfl ⟨rfl, Fr.refl _ _⟩) (HW.op rfl (fun w1 H1 => op_nilCheck rfl ⟨rfl, Fr.refl _ _⟩) (HW.op rfl (fun w1 H1 => op_fieldAddr rfl Fa.F150_2 ⟨rfl, Fr.refl _ _⟩) (HW.op rfl (fun w1 H1 => op_load rfl (H1.cell (i := 0) rfl rfl) Try.underlying9 rfl ⟨rfl, Fr.refl _ _⟩) (HW.op rfl (fun w1 H1 => op_lenStr Try.underlying9 rfl ⟨rfl, Fr.refl _ _⟩) (HW.op rfl (fun w1 H1 => op_assign rfl ⟨rfl, Fr.refl _ _⟩) (HW.op rfl (fun w1 H1 => op_assign rfl ⟨rfl, Fr.refl _ _⟩) (HW.op rfl (fun w1 H1 => op_assign rfl ⟨rfl, Fr.refl _ _⟩)  HW.nil))))))))) (by kernel_rfl) ?_
    intro β16 w16 H16
    refine WL.nil ?_
    refine WQ.next ?_
    refine WC.ret ?_
    refine WQ.out (.tmp rfl (.tmp rfl (.tmp rfl .nil))) ?_
    rw [opF_out hof (by omega)]
    exact ⟨_, _, rfl, (by have h := (show Own [] w w16 [.blk m1 [(str l.key), (str l.tag), v2, (str l.b)] 150, .row v2 143 4 l.acts.length (List.flatMap actc l.acts)] from H16); exact h.sel [0, 1] rfl rfl)⟩
set_option maxRecDepth 100000 in
theorem ropen_ok (key s : List UInt8) (w : World) (hk : key.length < 2 ^ 39) (hs : s.length < 2 ^ 39) :
    Calls Try.prog 63 #[(str key), (str s)] w (fun e w' => ∃ m v, e = .returned (.tuple #[ptr m 0, vN (opn key s).1.b.length, vN (opn key s).2]) ∧ Own [] w w' [.blk m [str (opn key s).1.key, str (opn key s).1.b, str (opn key s).1.tag, v] 84, .row v 143 4 (opn key s).1.acts.length (List.flatMap actc (opn key s).1.acts)]) := by
  refine enter (args := [(str key), (str s)]) Try.func63 rfl rfl ?_
  have H0 : Own [] w w [] := Own.start w []
  refine WC.seq ?_
  refine WC.region ?_
  refine WL.op rfl rfl (op_assign rfl ?_)
  refine WL.op rfl rfl (op_assign rfl ?_)
  refine WL.op rfl rfl (op_assign rfl ?_)
  refine WL.nil ?_
  refine WQ.next ?_
  refine WC.seq ?_
  refine WC.region ?_
  refine WL.op rfl rfl (op_move rfl ?_)
  refine WL.op rfl rfl (op_callF Fa.C59 rfl ((rlnew_ok key _).mono (fun e w1 hq => ?_)))
  obtain ⟨m1, v1, rfl, hq1⟩ := hq
  refine ⟨_, rfl, ?_⟩
  have H1 : Own [] w w1 [.blk m1 [(str (lg0 key).key), (str (lg0 key).b), (str (lg0 key).tag), v1] 84, .row v1 143 4 (lg0 key).acts.length (List.flatMap actc (lg0 key).acts)] := H0.splice [] [] [.blk m1 [(str (lg0 key).key), (str (lg0 key).b), (str (lg0 key).tag), v1] 84, .row v1 143 4 (lg0 key).acts.length (List.flatMap actc (lg0 key).acts)] rfl rfl hq1 (Fits.solid True.intro (Fits.solid True.intro Fits.nil))
  refine WL.op rfl rfl (op_assign rfl ?_)
  refine WL.nil ?_
  refine WQ.next ?_
  refine WC.seq ?_
  refine WC.block ?_
  refine WC.loop (α := Nat × Lg × Value) (fun (k, l, v2) => [(0, (str key)), (1, (str s)), (7, (ptr m1 0))]) (fun (k, l, v2) w' => (opF s k l = opn key s ∧ s.length ≤ k + l.b.length ∧ l.op key) ∧ Own [] w w' [.blk m1 [(str l.key), (str l.b), (str l.tag), v2] 84, .row v2 143 4 l.acts.length (List.flatMap actc l.acts)]) (fun (k, l, v2) => s.length - l.b.length) (s.length, lg0 key, v1) ⟨⟨rfl, by show s.length ≤ s.length + 0; omega, lg0_op key⟩, H1⟩ ⟨rfl, rfl, rfl, trivial⟩ ?_
  rintro ⟨k, l, v2⟩ w2 ⟨⟨hof, hlk, hop⟩, H2⟩
  show WC _ _ _ _ _ [(0, (str key)), (1, (str s)), (7, (ptr m1 0))] _
  refine WC.seq ?_
  refine WC.seq ?_
  refine WC.region ?_
  refine WL.op rfl rfl (op_move rfl ?_)
  refine WL.op rfl rfl (op_lenStr Try.underlying9 rfl ?_)
  refine WL.op rfl rfl (op_move rfl ?_)
  refine WL.op rfl rfl (op_nilCheck rfl ?_)
  refine WL.op rfl rfl (op_fieldAddr rfl Fa.F84_1 ?_)
  refine WL.op rfl rfl (op_load rfl (H2.cell (i := 0) rfl rfl) Try.underlying9 rfl ?_)
  refine WL.op rfl rfl (op_lenStr Try.underlying9 rfl ?_)
  refine WL.op rfl rfl (op_gtrN rfl rfl ?_)
  refine WL.nil ?_
  refine WQ.next ?_
  refine WC.cond rfl (fun (hb3 : (decide (s.length > l.b.length)) = true) => ?_) (fun (hb3 : (decide (s.length > l.b.length)) = false) => ?_)
  ·
    have hc3 := of_decide_eq_true hb3
    refine WC.skip ?_
    refine WQ.next ?_
    refine WC.block ?_
    refine WC.seq ?_
    refine WC.region ?_
    refine WL.op rfl rfl (op_move rfl ?_)
    refine WL.op rfl rfl (op_move rfl ?_)
    refine WL.op rfl rfl (op_nilCheck rfl ?_)
    refine WL.op rfl rfl (op_fieldAddr rfl Fa.F84_1 ?_)
    refine WL.op rfl rfl (op_load rfl (H2.cell (i := 0) rfl rfl) Try.underlying9 rfl ?_)
    refine WL.op rfl rfl (op_lenStr Try.underlying9 rfl ?_)
    refine WL.op rfl rfl (op_sliceStrLo Try.underlying9 rfl rfl (by omega) ?_)
    refine WL.op rfl rfl (op_assign rfl ?_)
    refine WL.nil ?_
    refine WQ.next ?_
    refine WC.seq ?_
    refine WC.seq ?_
    refine WC.region ?_
    refine WL.op rfl rfl (op_move rfl ?_)
    refine WL.op rfl rfl (op_lenStr Try.underlying9 rfl ?_)
    refine WL.op rfl rfl (op_lssN (b := 2) rfl rfl ?_)
    refine WL.nil ?_
    refine WQ.next ?_
    refine WC.cond rfl (fun (hb4 : (decide ((s.drop l.b.length).length < 2)) = true) => ?_) (fun (hb4 : (decide ((s.drop l.b.length).length < 2)) = false) => ?_)
    ·
      have hc4 := of_decide_eq_true hb4
      refine WC.seq ?_
      refine WC.draw 9 Fa.M H2 (HW.op rfl (fun w1 H1 => op_move rfl ⟨rfl, Fr.refl _ _⟩) (HW.op rfl (fun w1 H1 => op_move rfl ⟨rfl, Fr.refl _ _⟩) (HW.op rfl (fun w1 H1 => op_nilCheck rfl ⟨rfl, Fr.refl _ _⟩) (HW.op rfl (fun w1 H1 => op_fieldAddr rfl Fa.F84_1 ⟨rfl, Fr.refl _ _⟩) (HW.op rfl (fun w1 H1 => op_load rfl (H1.cell (i := 0) rfl rfl) Try.underlying9 rfl ⟨rfl, Fr.refl _ _⟩) (HW.op rfl (fun w1 H1 => op_lenStr Try.underlying9 rfl ⟨rfl, Fr.refl _ _⟩) (HW.op rfl (fun w1 H1 => op_assign rfl ⟨rfl, Fr.refl _ _⟩) (HW.op rfl (fun w1 H1 => op_assign rfl ⟨rfl, Fr.refl _ _⟩) (HW.op rfl (fun w1 H1 => op_assign rfl ⟨rfl, Fr.refl _ _⟩)  HW.nil))))))))) (by kernel_rfl) ?_
      intro β5 w5 H5
      refine WL.nil ?_
      refine WQ.next ?_
      refine WC.ret ?_
      refine WQ.thenRet ?_
      refine WQ.inRet ?_
      refine WQ.thenRet ?_
      refine WQ.inRet ?_
      refine WQ.thenRet ?_
      refine WQ.out (.tmp rfl (.tmp rfl (.tmp rfl .nil))) ?_
      rw [opF_torn hof hlk hc3 (rec_no1 hc4)]
      exact ⟨_, _, rfl, (by have h := (show Own [] w w5 [.blk m1 [(str l.key), (str l.b), (str l.tag), v2] 84, .row v2 143 4 l.acts.length (List.flatMap actc l.acts)] from H5); exact h.sel [0, 1] rfl rfl)⟩
    ·
      have hc4 := of_decide_eq_false hb4
      have hu1 := ((s.drop l.b.length).getD 0 0).toNat_lt
      have hu2 := ((s.drop l.b.length).getD 1 0).toNat_lt
      refine WC.skip ?_
      refine WQ.next ?_
      refine WC.seq ?_
      refine WC.draw 9 Fa.M H2 (HW.op rfl (fun w1 H1 => op_move rfl ⟨rfl, Fr.refl _ _⟩) (HW.op rfl (fun w1 H1 => op_indexStrD (m := 0) Try.underlying9 rfl rfl (by omega) ⟨rfl, Fr.refl _ _⟩) (HW.op rfl (fun w1 H1 => op_convU8N (hs := Try.underlying5) (hd := Try.underlying3) rfl ⟨rfl, Fr.refl _ _⟩) (HW.op rfl (fun w1 H1 => op_move rfl ⟨rfl, Fr.refl _ _⟩) (HW.op rfl (fun w1 H1 => op_indexStrD (m := 1) Try.underlying9 rfl rfl (by omega) ⟨rfl, Fr.refl _ _⟩) (HW.op rfl (fun w1 H1 => op_convU8N (hs := Try.underlying5) (hd := Try.underlying3) rfl ⟨rfl, Fr.refl _ _⟩) (HW.op rfl (fun w1 H1 => op_mulN (a := 256) rfl rfl (by omega) ⟨rfl, Fr.refl _ _⟩) (HW.op rfl (fun w1 H1 => op_addN rfl rfl (by omega) ⟨rfl, Fr.refl _ _⟩) (HW.op rfl (fun w1 H1 => op_assign rfl ⟨rfl, Fr.refl _ _⟩)  HW.nil))))))))) (by kernel_rfl) ?_
      intro β6 w6 H6
      refine WL.nil ?_
      refine WQ.next ?_
      refine WC.seq ?_
      refine WC.seq ?_
      refine WC.region ?_
      refine WL.op rfl rfl (op_move rfl ?_)
      refine WL.op rfl rfl (op_lenStr Try.underlying9 rfl ?_)
      refine WL.op rfl rfl (op_move rfl ?_)
      refine WL.op rfl rfl (op_addN (a := 2) rfl rfl (by omega) ?_)
      refine WL.op rfl rfl (op_addN (b := 32) rfl rfl (by omega) ?_)
      refine WL.op rfl rfl (op_lssN rfl rfl ?_)
      refine WL.nil ?_
      refine WQ.next ?_
      refine WC.cond rfl (fun (hb7 : (decide ((s.drop l.b.length).length < ((2 + (((s.drop l.b.length).getD 0 0).toNat + (256 * ((s.drop l.b.length).getD 1 0).toNat))) + 32))) = true) => ?_) (fun (hb7 : (decide ((s.drop l.b.length).length < ((2 + (((s.drop l.b.length).getD 0 0).toNat + (256 * ((s.drop l.b.length).getD 1 0).toNat))) + 32))) = false) => ?_)
      ·
        have hc7 := of_decide_eq_true hb7
        refine WC.seq ?_
        refine WC.draw 9 Fa.M H6 (HW.op rfl (fun w1 H1 => op_move rfl ⟨rfl, Fr.refl _ _⟩) (HW.op rfl (fun w1 H1 => op_move rfl ⟨rfl, Fr.refl _ _⟩) (HW.op rfl (fun w1 H1 => op_nilCheck rfl ⟨rfl, Fr.refl _ _⟩) (HW.op rfl (fun w1 H1 => op_fieldAddr rfl Fa.F84_1 ⟨rfl, Fr.refl _ _⟩) (HW.op rfl (fun w1 H1 => op_load rfl (H1.cell (i := 0) rfl rfl) Try.underlying9 rfl ⟨rfl, Fr.refl _ _⟩) (HW.op rfl (fun w1 H1 => op_lenStr Try.underlying9 rfl ⟨rfl, Fr.refl _ _⟩) (HW.op rfl (fun w1 H1 => op_assign rfl ⟨rfl, Fr.refl _ _⟩) (HW.op rfl (fun w1 H1 => op_assign rfl ⟨rfl, Fr.refl _ _⟩) (HW.op rfl (fun w1 H1 => op_assign rfl ⟨rfl, Fr.refl _ _⟩)  HW.nil))))))))) (by kernel_rfl) ?_
        intro β8 w8 H8
        refine WL.nil ?_
        refine WQ.next ?_
        refine WC.ret ?_
        refine WQ.thenRet ?_
        refine WQ.inRet ?_
        refine WQ.thenRet ?_
        refine WQ.inRet ?_
        refine WQ.thenRet ?_
        refine WQ.out (.tmp rfl (.tmp rfl (.tmp rfl .nil))) ?_
        rw [opF_torn hof hlk hc3 (rec_no2 hc4 hc7)]
        exact ⟨_, _, rfl, (by have h := (show Own [] w w8 [.blk m1 [(str l.key), (str l.b), (str l.tag), v2] 84, .row v2 143 4 l.acts.length (List.flatMap actc l.acts)] from H8); exact h.sel [0, 1] rfl rfl)⟩
      ·
        have hc7 := of_decide_eq_false hb7
        have hE := rec_eq hc4 hc7
        have hfit := Lg.op_fit hop hk hs hc3 (recT0_len (s.drop l.b.length))
        rw [← hE.2.1] at hfit
        have hfit1 := hfit
        obtain ⟨hz1, hz2, hz3, hz4, hz5⟩ := hfit1
        refine WC.skip ?_
        refine WQ.next ?_
        refine WC.seq ?_
        refine WC.region ?_
        refine WL.op rfl rfl (op_move rfl ?_)
        refine WL.op rfl rfl (op_move rfl ?_)
        refine WL.op rfl rfl (op_addN (a := 2) rfl rfl (by omega) ?_)
        refine WL.op rfl rfl (op_sliceStr (a := 2) Try.underlying9 rfl rfl rfl (by omega) (by omega) ?_)
        refine WL.op rfl rfl (op_assign rfl ?_)
        refine WL.nil ?_
        refine WQ.next ?_
        refine WC.seq ?_
        refine WC.region ?_
        refine WL.op rfl rfl (op_move rfl ?_)
        refine WL.op rfl rfl (op_callF Fa.C108 rfl ((ract_ok (((s.drop l.b.length).drop 2).take ((2 + (((s.drop l.b.length).getD 0 0).toNat + (256 * ((s.drop l.b.length).getD 1 0).toNat))) - 2)) _ (by omega)).mono (fun e w9 hq => ?_)))
        obtain ⟨rfl, hf9⟩ := hq
        refine ⟨_, rfl, ?_⟩
        have H9 := H6.fr' hf9
        refine WL.op rfl rfl (op_move rfl ?_)
        refine WL.op rfl rfl (op_extract rfl rfl ?_)
        refine WL.op rfl rfl (op_extract rfl rfl ?_)
        refine WL.op rfl rfl (op_alloc H9 Fa.I143 (fun b10 w10 H10 => ?_))
        refine WL.op rfl rfl (op_storeBW (i := 2) H10 rfl rfl rfl rfl rfl Fa.I143 (fun w11 H11 => ?_))
        refine WL.op rfl rfl (op_assign rfl ?_)
        refine WL.nil ?_
        refine WQ.next ?_
        refine WC.seq ?_
        refine WC.seq ?_
        refine bsplit (fun (hb12 : (decide ((unE (((s.drop l.b.length).drop 2).take ((2 + (((s.drop l.b.length).getD 0 0).toNat + (256 * ((s.drop l.b.length).getD 1 0).toNat))) - 2))) ≠ 0)) = true) => ?_) (fun (hb12 : (decide ((unE (((s.drop l.b.length).drop 2).take ((2 + (((s.drop l.b.length).getD 0 0).toNat + (256 * ((s.drop l.b.length).getD 1 0).toNat))) - 2))) ≠ 0)) = false) => ?_)
        ·
          have hc12 := of_decide_eq_true hb12
          refine WC.draw 20 Fa.M H11 (HW.op rfl (fun w1 H1 => op_move rfl ⟨rfl, Fr.refl _ _⟩) (HW.op rfl (fun w1 H1 => op_neqN (b := 0) rfl rfl ⟨rfl, Fr.refl _ _⟩) (HW.op rfl (fun w1 H1 => op_move rfl ⟨rfl, Fr.refl _ _⟩) (HW.no rfl rfl rfl hb12 (HW.no rfl rfl rfl hb12 (HW.no rfl rfl rfl hb12 (HW.no rfl rfl rfl hb12 (HW.no rfl rfl rfl hb12 (HW.no rfl rfl rfl hb12 (HW.no rfl rfl rfl hb12 (HW.no rfl rfl rfl hb12 (HW.no rfl rfl rfl hb12 (HW.no rfl rfl rfl hb12 (HW.no rfl rfl rfl hb12 (HW.no rfl rfl rfl hb12 (HW.no rfl rfl rfl hb12 (HW.no rfl rfl rfl hb12 (HW.no rfl rfl rfl hb12 (HW.no rfl rfl rfl hb12 (HW.op rfl (fun w1 H1 => op_pickT rfl hb12 rfl ⟨rfl, Fr.refl _ _⟩)  HW.nil)))))))))))))))))))) (by kernel_rfl) ?_
          intro β13 w13 H13
          refine WL.nil ?_
          refine WQ.next ?_
          refine WC.yes rfl rfl ?_
          refine WC.seq ?_
          refine WC.draw 9 Fa.M H13 (HW.op rfl (fun w1 H1 => op_move rfl ⟨rfl, Fr.refl _ _⟩) (HW.op rfl (fun w1 H1 => op_move rfl ⟨rfl, Fr.refl _ _⟩) (HW.op rfl (fun w1 H1 => op_nilCheck rfl ⟨rfl, Fr.refl _ _⟩) (HW.op rfl (fun w1 H1 => op_fieldAddr rfl Fa.F84_1 ⟨rfl, Fr.refl _ _⟩) (HW.op rfl (fun w1 H1 => op_load rfl (H1.cell (i := 0) rfl rfl) Try.underlying9 rfl ⟨rfl, Fr.refl _ _⟩) (HW.op rfl (fun w1 H1 => op_lenStr Try.underlying9 rfl ⟨rfl, Fr.refl _ _⟩) (HW.op rfl (fun w1 H1 => op_assign rfl ⟨rfl, Fr.refl _ _⟩) (HW.op rfl (fun w1 H1 => op_assign rfl ⟨rfl, Fr.refl _ _⟩) (HW.op rfl (fun w1 H1 => op_assign rfl ⟨rfl, Fr.refl _ _⟩)  HW.nil))))))))) (by kernel_rfl) ?_
          intro β14 w14 H14
          refine WL.nil ?_
          refine WQ.next ?_
          refine WC.ret ?_
          refine WQ.thenRet ?_
          refine WQ.inRet ?_
          refine WQ.thenRet ?_
          refine WQ.inRet ?_
          refine WQ.thenRet ?_
          refine WQ.out (.tmp rfl (.tmp rfl (.tmp rfl .nil))) ?_
          rw [opF_bad hof hlk hc3 hE.1 (Or.inl (by rw [← hE.2.1]; exact hc12))]
          exact ⟨_, _, rfl, (by have h := (show Own [] w w14 [.blk m1 [(str l.key), (str l.b), (str l.tag), v2] 84, .row v2 143 4 l.acts.length (List.flatMap actc l.acts), .blk b10 [(vU8 (unA (((s.drop l.b.length).drop 2).take ((2 + (((s.drop l.b.length).getD 0 0).toNat + (256 * ((s.drop l.b.length).getD 1 0).toNat))) - 2))).d), (vI (unA (((s.drop l.b.length).drop 2).take ((2 + (((s.drop l.b.length).getD 0 0).toNat + (256 * ((s.drop l.b.length).getD 1 0).toNat))) - 2))).n), (vI (unA (((s.drop l.b.length).drop 2).take ((2 + (((s.drop l.b.length).getD 0 0).toNat + (256 * ((s.drop l.b.length).getD 1 0).toNat))) - 2))).m), (str (unA (((s.drop l.b.length).drop 2).take ((2 + (((s.drop l.b.length).getD 0 0).toNat + (256 * ((s.drop l.b.length).getD 1 0).toNat))) - 2))).t)] 143] from H14); exact h.sel [0, 1] rfl rfl)⟩
        ·
          have hc12 := of_decide_eq_false hb12
          refine WC.draw 20 Fa.M H11 (HW.op rfl (fun w1 H1 => op_move rfl ⟨rfl, Fr.refl _ _⟩) (HW.op rfl (fun w1 H1 => op_neqN (b := 0) rfl rfl ⟨rfl, Fr.refl _ _⟩) (HW.op rfl (fun w1 H1 => op_move rfl ⟨rfl, Fr.refl _ _⟩) (HW.yes rfl rfl rfl hb12 (fun w1 H1 => op_move rfl ⟨rfl, Fr.refl _ _⟩) (HW.yes rfl rfl rfl hb12 (fun w1 H1 => op_move rfl ⟨rfl, Fr.refl _ _⟩) (HW.yes rfl rfl rfl hb12 (fun w1 H1 => op_nilCheck rfl ⟨rfl, Fr.refl _ _⟩) (HW.yes rfl rfl rfl hb12 (fun w1 H1 => op_fieldAddr rfl Fa.F84_2 ⟨rfl, Fr.refl _ _⟩) (HW.yes rfl rfl rfl hb12 (fun w1 H1 => op_load rfl (H1.cell (i := 0) rfl rfl) Try.underlying9 rfl ⟨rfl, Fr.refl _ _⟩) (HW.yes rfl rfl rfl hb12 (fun w1 H1 => op_move rfl ⟨rfl, Fr.refl _ _⟩) (HW.yes rfl rfl rfl hb12 (fun w1 H1 => op_addStr rfl rfl (by first | omega | (rw [List.length_append]; omega) | (simp; omega)) ⟨rfl, Fr.refl _ _⟩) (HW.yes rfl rfl rfl hb12 (fun w1 H1 => op_callF Fa.C71 rfl ((rmac_ok key (l.tag ++ (((s.drop l.b.length).drop 2).take ((2 + (((s.drop l.b.length).getD 0 0).toNat + (256 * ((s.drop l.b.length).getD 1 0).toNat))) - 2))) _ (by omega) (by rw [List.length_append]; omega)).mono (fun e w2 hq => ⟨_, hq.1, rfl, hq.2⟩))) (HW.yes rfl rfl rfl hb12 (fun w1 H1 => op_move rfl ⟨rfl, Fr.refl _ _⟩) (HW.yes rfl rfl rfl hb12 (fun w1 H1 => op_move rfl ⟨rfl, Fr.refl _ _⟩) (HW.yes rfl rfl rfl hb12 (fun w1 H1 => op_addN (a := 2) rfl rfl (by omega) ⟨rfl, Fr.refl _ _⟩) (HW.yes rfl rfl rfl hb12 (fun w1 H1 => op_move rfl ⟨rfl, Fr.refl _ _⟩) (HW.yes rfl rfl rfl hb12 (fun w1 H1 => op_addN (a := 2) rfl rfl (by omega) ⟨rfl, Fr.refl _ _⟩) (HW.yes rfl rfl rfl hb12 (fun w1 H1 => op_addN (b := 32) rfl rfl (by omega) ⟨rfl, Fr.refl _ _⟩) (HW.yes rfl rfl rfl hb12 (fun w1 H1 => op_sliceStr Try.underlying9 rfl rfl rfl (by omega) (by omega) ⟨rfl, Fr.refl _ _⟩) (HW.yes rfl rfl rfl hb12 (fun w1 H1 => op_neqStr rfl rfl ⟨rfl, Fr.refl _ _⟩) (HW.op rfl (fun w1 H1 => op_pickF rfl hb12 rfl ⟨rfl, Fr.refl _ _⟩)  HW.nil)))))))))))))))))))) (by kernel_rfl) ?_
          intro β16 w16 H16
          refine WL.nil ?_
          refine WQ.next ?_
          refine WC.cond rfl (fun (hb17 : (decide ((mac key (l.tag ++ (((s.drop l.b.length).drop 2).take ((2 + (((s.drop l.b.length).getD 0 0).toNat + (256 * ((s.drop l.b.length).getD 1 0).toNat))) - 2)))) ≠ (((s.drop l.b.length).drop (2 + (((s.drop l.b.length).getD 0 0).toNat + (256 * ((s.drop l.b.length).getD 1 0).toNat)))).take (((2 + (((s.drop l.b.length).getD 0 0).toNat + (256 * ((s.drop l.b.length).getD 1 0).toNat))) + 32) - (2 + (((s.drop l.b.length).getD 0 0).toNat + (256 * ((s.drop l.b.length).getD 1 0).toNat))))))) = true) => ?_) (fun (hb17 : (decide ((mac key (l.tag ++ (((s.drop l.b.length).drop 2).take ((2 + (((s.drop l.b.length).getD 0 0).toNat + (256 * ((s.drop l.b.length).getD 1 0).toNat))) - 2)))) ≠ (((s.drop l.b.length).drop (2 + (((s.drop l.b.length).getD 0 0).toNat + (256 * ((s.drop l.b.length).getD 1 0).toNat)))).take (((2 + (((s.drop l.b.length).getD 0 0).toNat + (256 * ((s.drop l.b.length).getD 1 0).toNat))) + 32) - (2 + (((s.drop l.b.length).getD 0 0).toNat + (256 * ((s.drop l.b.length).getD 1 0).toNat))))))) = false) => ?_)
          ·
            have hc17 := of_decide_eq_true hb17
            refine WC.seq ?_
            refine WC.draw 9 Fa.M H16 (HW.op rfl (fun w1 H1 => op_move rfl ⟨rfl, Fr.refl _ _⟩) (HW.op rfl (fun w1 H1 => op_move rfl ⟨rfl, Fr.refl _ _⟩) (HW.op rfl (fun w1 H1 => op_nilCheck rfl ⟨rfl, Fr.refl _ _⟩) (HW.op rfl (fun w1 H1 => op_fieldAddr rfl Fa.F84_1 ⟨rfl, Fr.refl _ _⟩) (HW.op rfl (fun w1 H1 => op_load rfl (H1.cell (i := 0) rfl rfl) Try.underlying9 rfl ⟨rfl, Fr.refl _ _⟩) (HW.op rfl (fun w1 H1 => op_lenStr Try.underlying9 rfl ⟨rfl, Fr.refl _ _⟩) (HW.op rfl (fun w1 H1 => op_assign rfl ⟨rfl, Fr.refl _ _⟩) (HW.op rfl (fun w1 H1 => op_assign rfl ⟨rfl, Fr.refl _ _⟩) (HW.op rfl (fun w1 H1 => op_assign rfl ⟨rfl, Fr.refl _ _⟩)  HW.nil))))))))) (by kernel_rfl) ?_
            intro β18 w18 H18
            refine WL.nil ?_
            refine WQ.next ?_
            refine WC.ret ?_
            refine WQ.thenRet ?_
            refine WQ.inRet ?_
            refine WQ.thenRet ?_
            refine WQ.inRet ?_
            refine WQ.thenRet ?_
            refine WQ.out (.tmp rfl (.tmp rfl (.tmp rfl .nil))) ?_
            rw [opF_bad hof hlk hc3 hE.1 (Or.inr (by rw [← hE.2.1, ← hE.2.2, Lg.next, hop.1]; exact hc17))]
            exact ⟨_, _, rfl, (by have h := (show Own [] w w18 [.blk m1 [(str l.key), (str l.b), (str l.tag), v2] 84, .row v2 143 4 l.acts.length (List.flatMap actc l.acts), .blk b10 [(vU8 (unA (((s.drop l.b.length).drop 2).take ((2 + (((s.drop l.b.length).getD 0 0).toNat + (256 * ((s.drop l.b.length).getD 1 0).toNat))) - 2))).d), (vI (unA (((s.drop l.b.length).drop 2).take ((2 + (((s.drop l.b.length).getD 0 0).toNat + (256 * ((s.drop l.b.length).getD 1 0).toNat))) - 2))).n), (vI (unA (((s.drop l.b.length).drop 2).take ((2 + (((s.drop l.b.length).getD 0 0).toNat + (256 * ((s.drop l.b.length).getD 1 0).toNat))) - 2))).m), (str (unA (((s.drop l.b.length).drop 2).take ((2 + (((s.drop l.b.length).getD 0 0).toNat + (256 * ((s.drop l.b.length).getD 1 0).toNat))) - 2))).t)] 143] from H18); exact h.sel [0, 1] rfl rfl)⟩
          ·
            have hc17 := of_decide_eq_false hb17
            refine WC.skip ?_
            refine WQ.next ?_
            refine WC.region ?_
            refine WL.op rfl rfl (op_move rfl ?_)
            refine WL.op rfl rfl (op_loadS (vs := [_, _, _, _]) rfl (H16.cells (i := 2) rfl rfl) Try.underlying143 rfl Fa.I143 rfl ?_)
            refine WL.op rfl rfl (op_move rfl ?_)
            refine WL.op rfl rfl (op_callF Fa.C104 rfl ((rladd_ok m1 v2 l (unA (((s.drop l.b.length).drop 2).take ((2 + (((s.drop l.b.length).getD 0 0).toNat + (256 * ((s.drop l.b.length).getD 1 0).toNat))) - 2))) (((s.drop l.b.length).drop 2).take ((2 + (((s.drop l.b.length).getD 0 0).toNat + (256 * ((s.drop l.b.length).getD 1 0).toNat))) - 2)) _ _ (H16.part [0, 1] rfl rfl) hfit).mono (fun e w19 hq => ?_)))
            obtain ⟨v19, rfl, hq19⟩ := hq
            refine ⟨_, rfl, ?_⟩
            have H19 : Own [] w w19 [.blk m1 [(str (l.add (unA (((s.drop l.b.length).drop 2).take ((2 + (((s.drop l.b.length).getD 0 0).toNat + (256 * ((s.drop l.b.length).getD 1 0).toNat))) - 2))) (((s.drop l.b.length).drop 2).take ((2 + (((s.drop l.b.length).getD 0 0).toNat + (256 * ((s.drop l.b.length).getD 1 0).toNat))) - 2))).key), (str (l.add (unA (((s.drop l.b.length).drop 2).take ((2 + (((s.drop l.b.length).getD 0 0).toNat + (256 * ((s.drop l.b.length).getD 1 0).toNat))) - 2))) (((s.drop l.b.length).drop 2).take ((2 + (((s.drop l.b.length).getD 0 0).toNat + (256 * ((s.drop l.b.length).getD 1 0).toNat))) - 2))).b), (str (l.add (unA (((s.drop l.b.length).drop 2).take ((2 + (((s.drop l.b.length).getD 0 0).toNat + (256 * ((s.drop l.b.length).getD 1 0).toNat))) - 2))) (((s.drop l.b.length).drop 2).take ((2 + (((s.drop l.b.length).getD 0 0).toNat + (256 * ((s.drop l.b.length).getD 1 0).toNat))) - 2))).tag), v19] 84, .row v19 143 4 (l.add (unA (((s.drop l.b.length).drop 2).take ((2 + (((s.drop l.b.length).getD 0 0).toNat + (256 * ((s.drop l.b.length).getD 1 0).toNat))) - 2))) (((s.drop l.b.length).drop 2).take ((2 + (((s.drop l.b.length).getD 0 0).toNat + (256 * ((s.drop l.b.length).getD 1 0).toNat))) - 2))).acts.length (List.flatMap actc (l.add (unA (((s.drop l.b.length).drop 2).take ((2 + (((s.drop l.b.length).getD 0 0).toNat + (256 * ((s.drop l.b.length).getD 1 0).toNat))) - 2))) (((s.drop l.b.length).drop 2).take ((2 + (((s.drop l.b.length).getD 0 0).toNat + (256 * ((s.drop l.b.length).getD 1 0).toNat))) - 2))).acts), .blk b10 [(vU8 (unA (((s.drop l.b.length).drop 2).take ((2 + (((s.drop l.b.length).getD 0 0).toNat + (256 * ((s.drop l.b.length).getD 1 0).toNat))) - 2))).d), (vI (unA (((s.drop l.b.length).drop 2).take ((2 + (((s.drop l.b.length).getD 0 0).toNat + (256 * ((s.drop l.b.length).getD 1 0).toNat))) - 2))).n), (vI (unA (((s.drop l.b.length).drop 2).take ((2 + (((s.drop l.b.length).getD 0 0).toNat + (256 * ((s.drop l.b.length).getD 1 0).toNat))) - 2))).m), (str (unA (((s.drop l.b.length).drop 2).take ((2 + (((s.drop l.b.length).getD 0 0).toNat + (256 * ((s.drop l.b.length).getD 1 0).toNat))) - 2))).t)] 143] := H16.splice [0, 1] [.blk m1 [(str (l.add (unA (((s.drop l.b.length).drop 2).take ((2 + (((s.drop l.b.length).getD 0 0).toNat + (256 * ((s.drop l.b.length).getD 1 0).toNat))) - 2))) (((s.drop l.b.length).drop 2).take ((2 + (((s.drop l.b.length).getD 0 0).toNat + (256 * ((s.drop l.b.length).getD 1 0).toNat))) - 2))).key), (str (l.add (unA (((s.drop l.b.length).drop 2).take ((2 + (((s.drop l.b.length).getD 0 0).toNat + (256 * ((s.drop l.b.length).getD 1 0).toNat))) - 2))) (((s.drop l.b.length).drop 2).take ((2 + (((s.drop l.b.length).getD 0 0).toNat + (256 * ((s.drop l.b.length).getD 1 0).toNat))) - 2))).b), (str (l.add (unA (((s.drop l.b.length).drop 2).take ((2 + (((s.drop l.b.length).getD 0 0).toNat + (256 * ((s.drop l.b.length).getD 1 0).toNat))) - 2))) (((s.drop l.b.length).drop 2).take ((2 + (((s.drop l.b.length).getD 0 0).toNat + (256 * ((s.drop l.b.length).getD 1 0).toNat))) - 2))).tag), v19] 84, .row v19 143 4 (l.add (unA (((s.drop l.b.length).drop 2).take ((2 + (((s.drop l.b.length).getD 0 0).toNat + (256 * ((s.drop l.b.length).getD 1 0).toNat))) - 2))) (((s.drop l.b.length).drop 2).take ((2 + (((s.drop l.b.length).getD 0 0).toNat + (256 * ((s.drop l.b.length).getD 1 0).toNat))) - 2))).acts.length (List.flatMap actc (l.add (unA (((s.drop l.b.length).drop 2).take ((2 + (((s.drop l.b.length).getD 0 0).toNat + (256 * ((s.drop l.b.length).getD 1 0).toNat))) - 2))) (((s.drop l.b.length).drop 2).take ((2 + (((s.drop l.b.length).getD 0 0).toNat + (256 * ((s.drop l.b.length).getD 1 0).toNat))) - 2))).acts)] [] rfl rfl hq19 (Fits.solid True.intro (Fits.solid True.intro Fits.nil))
            refine WL.nil ?_
            refine WQ.inNormal ?_
            have hstep := opF_step hof hlk hc3 hE.1 (by rw [← hE.2.1]; exact Decidable.not_not.mp hc12) (by rw [← hE.2.1, ← hE.2.2, Lg.next, hop.1]; exact Decidable.not_not.mp hc17)
            rw [← hE.2.1] at hstep
            exact WQ.round (k - 1, (l.add (unA (((s.drop l.b.length).drop 2).take ((2 + (((s.drop l.b.length).getD 0 0).toNat + (256 * ((s.drop l.b.length).getD 1 0).toNat))) - 2))) (((s.drop l.b.length).drop 2).take ((2 + (((s.drop l.b.length).getD 0 0).toNat + (256 * ((s.drop l.b.length).getD 1 0).toNat))) - 2))), v19) ⟨⟨hstep.1, hstep.2, Lg.op_add hop _ _⟩, (H19.take 2)⟩ ⟨rfl, rfl, rfl, trivial⟩ (by have h := l.add_b2 (unA (((s.drop l.b.length).drop 2).take ((2 + (((s.drop l.b.length).getD 0 0).toNat + (256 * ((s.drop l.b.length).getD 1 0).toNat))) - 2))) (((s.drop l.b.length).drop 2).take ((2 + (((s.drop l.b.length).getD 0 0).toNat + (256 * ((s.drop l.b.length).getD 1 0).toNat))) - 2)); show s.length - (l.add (unA (((s.drop l.b.length).drop 2).take ((2 + (((s.drop l.b.length).getD 0 0).toNat + (256 * ((s.drop l.b.length).getD 1 0).toNat))) - 2))) (((s.drop l.b.length).drop 2).take ((2 + (((s.drop l.b.length).getD 0 0).toNat + (256 * ((s.drop l.b.length).getD 1 0).toNat))) - 2))).b.length < s.length - l.b.length; omega)
  ·
    have hc3 := of_decide_eq_false hb3
    refine WC.exit ?_
    refine WQ.thenExit ?_
    refine WQ.thenExit ?_
    refine WQ.inHere ?_
    refine WQ.next ?_
    refine WC.seq ?_
    refine WC.draw 9 Fa.M H2 (HW.op rfl (fun w1 H1 => op_move rfl ⟨rfl, Fr.refl _ _⟩) (HW.op rfl (fun w1 H1 => op_move rfl ⟨rfl, Fr.refl _ _⟩) (HW.op rfl (fun w1 H1 => op_nilCheck rfl ⟨rfl, Fr.refl _ _⟩) (HW.op rfl (fun w1 H1 => op_fieldAddr rfl Fa.F84_1 ⟨rfl, Fr.refl _ _⟩) (HW.op rfl (fun w1 H1 => op_load rfl (H1.cell (i := 0) rfl rfl) Try.underlying9 rfl ⟨rfl, Fr.refl _ _⟩) (HW.op rfl (fun w1 H1 => op_lenStr Try.underlying9 rfl ⟨rfl, Fr.refl _ _⟩) (HW.op rfl (fun w1 H1 => op_assign rfl ⟨rfl, Fr.refl _ _⟩) (HW.op rfl (fun w1 H1 => op_assign rfl ⟨rfl, Fr.refl _ _⟩) (HW.op rfl (fun w1 H1 => op_assign rfl ⟨rfl, Fr.refl _ _⟩)  HW.nil))))))))) (by kernel_rfl) ?_
    intro β20 w20 H20
    refine WL.nil ?_
    refine WQ.next ?_
    refine WC.ret ?_
    refine WQ.out (.tmp rfl (.tmp rfl (.tmp rfl .nil))) ?_
    rw [opF_out hof (by omega)]
    exact ⟨_, _, rfl, (by have h := (show Own [] w w20 [.blk m1 [(str l.key), (str l.b), (str l.tag), v2] 84, .row v2 143 4 l.acts.length (List.flatMap actc l.acts)] from H20); exact h.sel [0, 1] rfl rfl)⟩
end Go.Proofs.Ytpnghdalnghpcaa
/-! from WLog6 -/
namespace Go.Proofs.Ytpnghdalnghpcaa
open Go.Owl Go.Spec
set_option maxRecDepth 100000 in
theorem large39_ok (lv : Value) (l : List Ac) (w : World) (hA : Arr w lv 4 l.length (List.flatMap actc l)) (hB : ∀ x ∈ l, x.t.length ≤ 140737488351232) (hn : l.length < 2 ^ 47) :
    Calls Try.prog 51 #[lv] w (fun e w' => e = .returned (.bool (large39 l)) ∧ Fr [] w w') := by
  refine enter (args := [lv]) Try.func51 rfl rfl ?_
  have H0 : Own [] w w [] := Own.start w []
  refine WC.seq ?_
  refine WC.region ?_
  refine WL.op rfl rfl (op_assign rfl ?_)
  refine WL.nil ?_
  refine WQ.next ?_
  refine WC.seq ?_
  refine WC.region ?_
  refine WL.op rfl rfl (op_assign rfl ?_)
  refine WL.nil ?_
  refine WQ.next ?_
  refine WC.cut (α := Nat) (fun k => [(0, lv), (3, (vN (sumA l k)))]) (fun k w' => (k = min l.length 200) ∧ Own [] w w' []) ?_ ?_
  ·
    refine WC.seq ?_
    refine WC.region ?_
    refine WL.op rfl rfl (op_assign rfl ?_)
    refine WL.nil ?_
    refine WQ.next ?_
    refine WC.block ?_
    refine WC.loop (α := Nat) (fun k => [(0, lv), (3, (vN (sumA l k))), (4, (vN k))]) (fun k w' => (k ≤ l.length ∧ k ≤ 200) ∧ Own [] w w' []) (fun k => l.length - k) 0 ⟨⟨by omega, by omega⟩, H0⟩ ⟨rfl, rfl, rfl, trivial⟩ ?_
    rintro k w1 ⟨hinv, H1⟩
    show WC _ _ _ _ _ [(0, lv), (3, (vN (sumA l k))), (4, (vN k))] _
    have hs0 := sumA_le hB k
    have hg0 := getA_mem hB k
    refine WC.seq ?_
    refine WC.seq ?_
    refine WC.region ?_
    refine WL.op rfl rfl (op_move rfl ?_)
    refine WL.op rfl rfl (op_move rfl ?_)
    refine WL.op rfl rfl (op_lenA Try.underlying72 rfl (H1.arr hA) ?_)
    refine WL.op rfl rfl (op_lssN rfl rfl ?_)
    refine WL.op rfl rfl (op_move rfl ?_)
    refine WL.split (t := 9) rfl (fun (hb2 : (decide (k < l.length)) = true) => ?_) (fun (hb2 : (decide (k < l.length)) = false) => ?_)
    ·
      have hc2 := of_decide_eq_true hb2
      refine WL.yes rfl rfl rfl hb2 rfl (op_move rfl ?_)
      refine WL.yes rfl rfl rfl hb2 rfl (op_lssN (b := 200) rfl rfl ?_)
      refine WL.op rfl rfl (op_pickT rfl hb2 rfl ?_)
      refine WL.nil ?_
      refine WQ.next ?_
      refine WC.cond rfl (fun (hb3 : (decide (k < 200)) = true) => ?_) (fun (hb3 : (decide (k < 200)) = false) => ?_)
      ·
        have hc3 := of_decide_eq_true hb3
        refine WC.skip ?_
        refine WQ.next ?_
        refine WC.seq ?_
        refine WC.block ?_
        refine WC.region ?_
        refine WL.op rfl rfl (op_move rfl ?_)
        refine WL.op rfl rfl (op_move rfl ?_)
        refine WL.op rfl rfl (op_move rfl ?_)
        refine WL.op rfl rfl (op_indexAddr Try.underlying72 Fa.I143 rfl (H1.arr hA) rfl (by omega) ?_)
        refine WL.op rfl rfl (op_fieldAddrS rfl Fa.F143_3 ?_)
        refine WL.op rfl rfl (op_load rfl (Arr.atF (k := 3) (H1.arr hA) (fun _ => rfl) (by decide) Ac.zero (by omega) rfl) Try.underlying9 rfl ?_)
        refine WL.op rfl rfl (op_lenStr Try.underlying9 rfl ?_)
        refine WL.op rfl rfl (op_addN rfl rfl (by omega) ?_)
        refine WL.op rfl rfl (op_assign rfl ?_)
        refine WL.nil ?_
        refine WQ.inNormal ?_
        refine WQ.next ?_
        refine WC.region ?_
        refine WL.op rfl rfl (op_move rfl ?_)
        refine WL.op rfl rfl (op_addN (b := 1) rfl rfl (by omega) ?_)
        refine WL.op rfl rfl (op_assign rfl ?_)
        refine WL.nil ?_
        exact WQ.round (k + 1) ⟨(by omega), H1⟩ ⟨rfl, rfl, rfl, trivial⟩ (by omega)
      ·
        have hc3 := of_decide_eq_false hb3
        refine WC.exit ?_
        refine WQ.thenExit ?_
        refine WQ.thenExit ?_
        refine WQ.inHere ?_
        exact WQ.here k ⟨(by omega), H1⟩ ⟨rfl, rfl, trivial⟩
    ·
      have hc2 := of_decide_eq_false hb2
      refine WL.no rfl rfl rfl hb2 rfl ?_
      refine WL.no rfl rfl rfl hb2 rfl ?_
      refine WL.op rfl rfl (op_pickF rfl hb2 rfl ?_)
      refine WL.nil ?_
      refine WQ.next ?_
      refine WC.no rfl rfl ?_
      refine WC.exit ?_
      refine WQ.thenExit ?_
      refine WQ.thenExit ?_
      refine WQ.inHere ?_
      exact WQ.here k ⟨(by omega), H1⟩ ⟨rfl, rfl, trivial⟩
  ·
    rintro k w4 ⟨hinv, H4⟩
    show WC _ _ _ _ _ [(0, lv), (3, (vN (sumA l k)))] _
    refine WC.seq ?_
    refine WC.region ?_
    refine WL.op rfl rfl (op_move rfl ?_)
    refine WL.op rfl rfl (op_lenA Try.underlying72 rfl (H4.arr hA) ?_)
    refine WL.op rfl rfl (op_gtrN (b := 60) rfl rfl ?_)
    refine WL.op rfl rfl (op_move rfl ?_)
    refine WL.split (t := 26) rfl (fun (hb5 : (decide (l.length > 60)) = true) => ?_) (fun (hb5 : (decide (l.length > 60)) = false) => ?_)
    ·
      have hc5 := of_decide_eq_true hb5
      refine WL.no rfl rfl rfl hb5 rfl ?_
      refine WL.no rfl rfl rfl hb5 rfl ?_
      refine WL.op rfl rfl (op_pickT rfl hb5 rfl ?_)
      refine WL.op rfl rfl (op_assign rfl ?_)
      refine WL.nil ?_
      refine WQ.next ?_
      refine WC.ret ?_
      refine WQ.out (.tmp rfl .nil) ?_
      exact ⟨by rw [large39, decide_eq_true hc5, Bool.true_or]; rfl, H4.fr⟩
    ·
      have hc5 := of_decide_eq_false hb5
      refine WL.yes rfl rfl rfl hb5 rfl (op_move rfl ?_)
      refine WL.yes rfl rfl rfl hb5 rfl (op_gtrN (b := 131072) rfl rfl ?_)
      refine WL.op rfl rfl (op_pickF rfl hb5 rfl ?_)
      refine WL.op rfl rfl (op_assign rfl ?_)
      refine WL.nil ?_
      refine WQ.next ?_
      refine WC.ret ?_
      refine WQ.out (.tmp rfl .nil) ?_
      exact ⟨by subst hinv; rw [large39, decide_eq_false hc5, Bool.false_or]; rfl, H4.fr⟩
set_option maxRecDepth 100000 in
theorem ends_ok (s : List UInt8) (w : World) (hs : s.length < 2 ^ 43) :
    Calls Try.prog 64 #[(str s)] w (fun e w' => ∃ v, e = .returned v ∧ Own [] w w' [.row v 3 1 (eds s).length (List.map vN (eds s))]) := by
  refine enter (args := [(str s)]) Try.func64 rfl rfl ?_
  have H0 : Own [] w w [] := Own.start w []
  refine WC.seq ?_
  refine WC.region ?_
  refine WL.op rfl rfl (op_assign rfl ?_)
  refine WL.nil ?_
  refine WQ.next ?_
  refine WC.seq ?_
  refine WC.region ?_
  refine WL.op rfl rfl (op_assign rfl ?_)
  have H1 := H0.nilRow 3 1
  refine WL.nil ?_
  refine WQ.next ?_
  refine WC.seq ?_
  refine WC.region ?_
  refine WL.op rfl rfl (op_assign rfl ?_)
  refine WL.nil ?_
  refine WQ.next ?_
  refine WC.seq ?_
  refine WC.block ?_
  refine WC.loop (α := Nat × Nat × List Nat × Value) (fun (k, a, o, q) => [(0, (str s)), (3, q), (4, (vN a))]) (fun (k, a, o, q) w' => ((o ++ edF s k a = eds s ∧ s.length ≤ k + a) ∧ o.length ≤ a ∧ a < s.length + 65600) ∧ Own [] w w' [.row q 3 1 o.length (List.map vN o)]) (fun (k, a, o, q) => s.length - a) (s.length, 0, [], (.slice none 0 0)) ⟨⟨⟨rfl, Nat.le_refl _⟩, Nat.le_refl _, by omega⟩, H1⟩ ⟨rfl, rfl, rfl, trivial⟩ ?_
  rintro ⟨k, a, o, q⟩ w2 ⟨⟨⟨hoe, hka⟩, hoa, haa⟩, H2⟩
  show WC _ _ _ _ _ [(0, (str s)), (3, q), (4, (vN a))] _
  refine WC.seq ?_
  refine WC.seq ?_
  refine WC.region ?_
  refine WL.op rfl rfl (op_move rfl ?_)
  refine WL.op rfl rfl (op_addN (b := 2) rfl rfl (by omega) ?_)
  refine WL.op rfl rfl (op_move rfl ?_)
  refine WL.op rfl rfl (op_lenStr Try.underlying9 rfl ?_)
  refine WL.op rfl rfl (op_leqN rfl rfl ?_)
  refine WL.nil ?_
  refine WQ.next ?_
  refine WC.cond rfl (fun (hb3 : (decide ((a + 2) ≤ s.length)) = true) => ?_) (fun (hb3 : (decide ((a + 2) ≤ s.length)) = false) => ?_)
  ·
    have hc3 := of_decide_eq_true hb3
    have hu1 := (s.getD a 0).toNat_lt
    have hu2 := (s.getD (a + 1) 0).toNat_lt
    refine WC.skip ?_
    refine WQ.next ?_
    refine WC.block ?_
    refine WC.seq ?_
    refine WC.draw 16 Fa.M H2 (HW.op rfl (fun w1 H1 => op_move rfl ⟨rfl, Fr.refl _ _⟩) (HW.op rfl (fun w1 H1 => op_addN (b := 2) rfl rfl (by omega) ⟨rfl, Fr.refl _ _⟩) (HW.op rfl (fun w1 H1 => op_move rfl ⟨rfl, Fr.refl _ _⟩) (HW.op rfl (fun w1 H1 => op_move rfl ⟨rfl, Fr.refl _ _⟩) (HW.op rfl (fun w1 H1 => op_indexStrD Try.underlying9 rfl rfl (by omega) ⟨rfl, Fr.refl _ _⟩) (HW.op rfl (fun w1 H1 => op_convU8N (hs := Try.underlying5) (hd := Try.underlying3) rfl ⟨rfl, Fr.refl _ _⟩) (HW.op rfl (fun w1 H1 => op_addN rfl rfl (by omega) ⟨rfl, Fr.refl _ _⟩) (HW.op rfl (fun w1 H1 => op_move rfl ⟨rfl, Fr.refl _ _⟩) (HW.op rfl (fun w1 H1 => op_move rfl ⟨rfl, Fr.refl _ _⟩) (HW.op rfl (fun w1 H1 => op_addN (b := 1) rfl rfl (by omega) ⟨rfl, Fr.refl _ _⟩) (HW.op rfl (fun w1 H1 => op_indexStrD Try.underlying9 rfl rfl (by omega) ⟨rfl, Fr.refl _ _⟩) (HW.op rfl (fun w1 H1 => op_convU8N (hs := Try.underlying5) (hd := Try.underlying3) rfl ⟨rfl, Fr.refl _ _⟩) (HW.op rfl (fun w1 H1 => op_mulN (a := 256) rfl rfl (by omega) ⟨rfl, Fr.refl _ _⟩) (HW.op rfl (fun w1 H1 => op_addN rfl rfl (by omega) ⟨rfl, Fr.refl _ _⟩) (HW.op rfl (fun w1 H1 => op_addN (b := 32) rfl rfl (by omega) ⟨rfl, Fr.refl _ _⟩) (HW.op rfl (fun w1 H1 => op_assign rfl ⟨rfl, Fr.refl _ _⟩)  HW.nil)))))))))))))))) (by kernel_rfl) ?_
    intro β4 w4 H4
    refine WL.nil ?_
    refine WQ.next ?_
    refine WC.region ?_
    refine WL.op rfl rfl (op_move rfl ?_)
    refine WL.op rfl rfl (op_move rfl ?_)
    refine WL.op rfl rfl (op_buildSlice (cs := [_]) H4 Try.underlying93 Fa.I3 rfl rfl rfl rfl (by decide) (by decide) (fun b5 w5 H5 => ?_))
    refine WL.op rfl rfl (op_appendM (f := vN) (l := o) (l' := [((((a + 2) + (s.getD a 0).toNat) + (256 * (s.getD (a + 1) 0).toNat)) + 32)]) (i := 0) H5 Try.underlying93 Fa.I3 rfl rfl rfl rfl (Src.ofArr Try.underlying93 (H5.arrR (i := 1) rfl)) (one_mapM (fun _ => rfl)) (by omega) (by omega) (fun v6 w6 H6 => ?_))
    refine WL.op rfl rfl (op_assign rfl ?_)
    refine WL.nil ?_
    refine WQ.inNormal ?_
    exact WQ.round (k - 1, edN s a, o ++ [edN s a], v6) ⟨⟨edF_step hoe hka (by omega), by have h : a + 34 ≤ edN s a := (by unfold edN; omega); rw [List.length_append]; show o.length + 1 ≤ edN s a; omega, by unfold edN; omega⟩, (by have h := (show Own [] w w6 [.row v6 3 1 (o.length + 1) (List.map vN (o ++ [((((a + 2) + (s.getD a 0).toNat) + (256 * (s.getD (a + 1) 0).toNat)) + 32)]))] from (H6.take 1)); rw [show o.length + 1 = (o ++ [edN s a]).length by simp] at h; exact h)⟩ ⟨rfl, rfl, rfl, trivial⟩ (by have h : a + 34 ≤ edN s a := (by unfold edN; omega); show s.length - edN s a < s.length - a; omega)
  ·
    have hc3 := of_decide_eq_false hb3
    refine WC.exit ?_
    refine WQ.thenExit ?_
    refine WQ.thenExit ?_
    refine WQ.inHere ?_
    refine WQ.next ?_
    refine WC.seq ?_
    refine WC.region ?_
    refine WL.op rfl rfl (op_move rfl ?_)
    refine WL.op rfl rfl (op_assign rfl ?_)
    refine WL.nil ?_
    refine WQ.next ?_
    refine WC.ret ?_
    refine WQ.out (.tmp rfl .nil) ?_
    rw [edF_out (by omega), List.append_nil] at hoe
    rw [← hoe]
    exact ⟨_, rfl, H2⟩
end Go.Proofs.Ytpnghdalnghpcaa
/-! from WLog7 -/
namespace Go.Proofs.Ytpnghdalnghpcaa
open Go.Owl Go.Spec
set_option maxRecDepth 100000 in
theorem alive39_ok  (w : World) :
    Calls Try.prog 52 #[] w (fun e w' => e = .returned (.bool true) ∧ Fr [] w w') := by
  refine enter (args := []) Try.func52 rfl rfl ?_
  have H0 : Own [] w w [] := Own.start w []
  have hab : ((lg0 ([107])).adds ([(Ac.mk 3 0 0 [])])).b.length = 45 := by decide +kernel
  refine WC.seq ?_
  refine WC.region ?_
  refine WL.op rfl rfl (op_assign rfl ?_)
  refine WL.nil ?_
  refine WQ.next ?_
  refine WC.seq ?_
  refine WC.region ?_
  refine WL.op rfl rfl (op_callF Fa.C58 rfl ((lnew_ok ([107]) _).mono (fun e w1 hq => ?_)))
  obtain ⟨m1, v1, rfl, hq1⟩ := hq
  refine ⟨_, rfl, ?_⟩
  have H1 : Own [] w w1 [.blk m1 [(str (lg0 ([107])).key), (str (lg0 ([107])).tag), v1, (str (lg0 ([107])).b)] 150, .row v1 143 4 (lg0 ([107])).acts.length (List.flatMap actc (lg0 ([107])).acts)] := H0.splice [] [] [.blk m1 [(str (lg0 ([107])).key), (str (lg0 ([107])).tag), v1, (str (lg0 ([107])).b)] 150, .row v1 143 4 (lg0 ([107])).acts.length (List.flatMap actc (lg0 ([107])).acts)] rfl rfl hq1 (Fits.solid True.intro (Fits.solid True.intro Fits.nil))
  refine WL.op rfl rfl (op_assign rfl ?_)
  refine WL.nil ?_
  refine WQ.next ?_
  refine WC.seq ?_
  refine WC.region ?_
  refine WL.op rfl rfl (op_move rfl ?_)
  refine WL.op rfl rfl (op_build (cs := [_, _, _, _]) Fa.I143 Fa.PL143 rfl rfl ?_)
  refine WL.op rfl rfl (op_buildSlice (cs := [_, _, _, _]) H1 Try.underlying72 Fa.I143 rfl rfl rfl rfl (by decide) (by decide) (fun b2 w2 H2 => ?_))
  refine WL.op rfl rfl (op_callF Fa.C53 rfl ((ladds_ok m1 v1 (.slice (some ⟨b2, 0, none⟩) 1 1) (lg0 ([107])) ([(Ac.mk 3 0 0 [])]) _ _ (H2.part [0, 1] rfl rfl) (fun w1 hf => Arr.lenF ((H2.stayR (I := [0, 1]) (k := 2) rfl rfl rfl) w1 hf) (fun _ => rfl) (by decide)) ⟨by decide, by decide, by decide, by decide, by decide⟩ (by decide) (by decide)).mono (fun e w3 hq => ?_)))
  obtain ⟨v3, rfl, hq3⟩ := hq
  refine ⟨_, rfl, ?_⟩
  have H3 : Own [] w w3 [.blk m1 [(str ((lg0 ([107])).adds ([(Ac.mk 3 0 0 [])])).key), (str ((lg0 ([107])).adds ([(Ac.mk 3 0 0 [])])).tag), v3, (str ((lg0 ([107])).adds ([(Ac.mk 3 0 0 [])])).b)] 150, .row v3 143 4 ((lg0 ([107])).adds ([(Ac.mk 3 0 0 [])])).acts.length (List.flatMap actc ((lg0 ([107])).adds ([(Ac.mk 3 0 0 [])])).acts), .row (.slice (some ⟨b2, 0, none⟩) 1 1) 143 4 1 (List.flatMap actc [(Ac.mk 3 0 0 [])])] := H2.splice [0, 1] [.blk m1 [(str ((lg0 ([107])).adds ([(Ac.mk 3 0 0 [])])).key), (str ((lg0 ([107])).adds ([(Ac.mk 3 0 0 [])])).tag), v3, (str ((lg0 ([107])).adds ([(Ac.mk 3 0 0 [])])).b)] 150, .row v3 143 4 ((lg0 ([107])).adds ([(Ac.mk 3 0 0 [])])).acts.length (List.flatMap actc ((lg0 ([107])).adds ([(Ac.mk 3 0 0 [])])).acts)] [] rfl rfl hq3 (Fits.solid True.intro (Fits.solid True.intro Fits.nil))
  refine WL.op rfl rfl (op_assign rfl ?_)
  refine WL.nil ?_
  refine WQ.next ?_
  refine WC.seq ?_
  refine WC.region ?_
  refine WL.op rfl rfl (op_move rfl ?_)
  refine WL.op rfl rfl (op_callF Fa.C56 rfl ((lbytes_ok m1 v3 ((lg0 ([107])).adds ([(Ac.mk 3 0 0 [])])) _ (H3.cellsAt (i := 0) rfl)).mono (fun e w4 hq => ?_)))
  obtain ⟨rfl, hf4⟩ := hq
  refine ⟨_, rfl, ?_⟩
  have H4 := H3.fr' hf4
  refine WL.op rfl rfl (op_assign rfl ?_)
  refine WL.nil ?_
  refine WQ.next ?_
  refine WC.seq ?_
  refine WC.seq ?_
  refine WC.region ?_
  refine WL.op rfl rfl (op_move rfl ?_)
  refine WL.op rfl rfl (op_neqN (b := 0) rfl rfl ?_)
  refine WL.op rfl rfl (op_move rfl ?_)
  refine WL.yes rfl rfl rfl (by kernel_rfl) rfl (op_move rfl ?_)
  refine WL.yes rfl rfl rfl (by kernel_rfl) rfl (op_lenStr Try.underlying9 rfl ?_)
  refine WL.yes rfl rfl rfl (by kernel_rfl) rfl (op_neqN (b := 45) rfl rfl ?_)
  refine WL.op rfl rfl (op_pickF rfl (by kernel_rfl) rfl ?_)
  refine WL.nil ?_
  refine WQ.next ?_
  refine WC.no rfl (by kernel_rfl) ?_
  refine WC.skip ?_
  refine WQ.next ?_
  refine WC.seq ?_
  refine WC.region ?_
  refine WL.op rfl rfl (op_move rfl ?_)
  refine WL.op rfl rfl (op_sliceStrHi (b := 44) Try.underlying9 rfl rfl (by omega) ?_)
  refine WL.op rfl rfl (op_callF Fa.C62 rfl ((open_ok ([107]) (((lg0 ([107])).adds ([(Ac.mk 3 0 0 [])])).b.take 44) _ (by decide) (by decide +kernel)).mono (fun e w5 hq => ?_)))
  obtain ⟨m5, v5, rfl, hq5⟩ := hq
  refine ⟨_, rfl, ?_⟩
  have H5 : Own [] w w5 [.blk m1 [(str ((lg0 ([107])).adds ([(Ac.mk 3 0 0 [])])).key), (str ((lg0 ([107])).adds ([(Ac.mk 3 0 0 [])])).tag), v3, (str ((lg0 ([107])).adds ([(Ac.mk 3 0 0 [])])).b)] 150, .row v3 143 4 ((lg0 ([107])).adds ([(Ac.mk 3 0 0 [])])).acts.length (List.flatMap actc ((lg0 ([107])).adds ([(Ac.mk 3 0 0 [])])).acts), .row (.slice (some ⟨b2, 0, none⟩) 1 1) 143 4 1 (List.flatMap actc [(Ac.mk 3 0 0 [])]), .blk m5 [(str ((opn ([107]) (((lg0 ([107])).adds ([(Ac.mk 3 0 0 [])])).b.take 44)).1).key), (str ((opn ([107]) (((lg0 ([107])).adds ([(Ac.mk 3 0 0 [])])).b.take 44)).1).tag), v5, (str ((opn ([107]) (((lg0 ([107])).adds ([(Ac.mk 3 0 0 [])])).b.take 44)).1).b)] 150, .row v5 143 4 ((opn ([107]) (((lg0 ([107])).adds ([(Ac.mk 3 0 0 [])])).b.take 44)).1).acts.length (List.flatMap actc ((opn ([107]) (((lg0 ([107])).adds ([(Ac.mk 3 0 0 [])])).b.take 44)).1).acts)] := H4.splice [] [] [.blk m5 [(str ((opn ([107]) (((lg0 ([107])).adds ([(Ac.mk 3 0 0 [])])).b.take 44)).1).key), (str ((opn ([107]) (((lg0 ([107])).adds ([(Ac.mk 3 0 0 [])])).b.take 44)).1).tag), v5, (str ((opn ([107]) (((lg0 ([107])).adds ([(Ac.mk 3 0 0 [])])).b.take 44)).1).b)] 150, .row v5 143 4 ((opn ([107]) (((lg0 ([107])).adds ([(Ac.mk 3 0 0 [])])).b.take 44)).1).acts.length (List.flatMap actc ((opn ([107]) (((lg0 ([107])).adds ([(Ac.mk 3 0 0 [])])).b.take 44)).1).acts)] rfl rfl hq5 (Fits.solid True.intro (Fits.solid True.intro Fits.nil))
  refine WL.op rfl rfl (op_move rfl ?_)
  refine WL.op rfl rfl (op_extract rfl rfl ?_)
  refine WL.op rfl rfl (op_extract rfl rfl ?_)
  refine WL.op rfl rfl (op_extract rfl rfl ?_)
  refine WL.op rfl rfl (op_assign rfl ?_)
  refine WL.op rfl rfl (op_assign rfl ?_)
  refine WL.op rfl rfl (op_assign rfl ?_)
  refine WL.nil ?_
  refine WQ.next ?_
  refine WC.seq ?_
  refine WC.region ?_
  refine WL.op rfl rfl (op_move rfl ?_)
  refine WL.op rfl rfl (op_callF Fa.C62 rfl ((open_ok ([107]) (((lg0 ([107])).adds ([(Ac.mk 3 0 0 [])])).b) _ (by decide) (by decide +kernel)).mono (fun e w6 hq => ?_)))
  obtain ⟨m6, v6, rfl, hq6⟩ := hq
  refine ⟨_, rfl, ?_⟩
  have H6 : Own [] w w6 [.blk m1 [(str ((lg0 ([107])).adds ([(Ac.mk 3 0 0 [])])).key), (str ((lg0 ([107])).adds ([(Ac.mk 3 0 0 [])])).tag), v3, (str ((lg0 ([107])).adds ([(Ac.mk 3 0 0 [])])).b)] 150, .row v3 143 4 ((lg0 ([107])).adds ([(Ac.mk 3 0 0 [])])).acts.length (List.flatMap actc ((lg0 ([107])).adds ([(Ac.mk 3 0 0 [])])).acts), .row (.slice (some ⟨b2, 0, none⟩) 1 1) 143 4 1 (List.flatMap actc [(Ac.mk 3 0 0 [])]), .blk m5 [(str ((opn ([107]) (((lg0 ([107])).adds ([(Ac.mk 3 0 0 [])])).b.take 44)).1).key), (str ((opn ([107]) (((lg0 ([107])).adds ([(Ac.mk 3 0 0 [])])).b.take 44)).1).tag), v5, (str ((opn ([107]) (((lg0 ([107])).adds ([(Ac.mk 3 0 0 [])])).b.take 44)).1).b)] 150, .row v5 143 4 ((opn ([107]) (((lg0 ([107])).adds ([(Ac.mk 3 0 0 [])])).b.take 44)).1).acts.length (List.flatMap actc ((opn ([107]) (((lg0 ([107])).adds ([(Ac.mk 3 0 0 [])])).b.take 44)).1).acts), .blk m6 [(str ((opn ([107]) (((lg0 ([107])).adds ([(Ac.mk 3 0 0 [])])).b)).1).key), (str ((opn ([107]) (((lg0 ([107])).adds ([(Ac.mk 3 0 0 [])])).b)).1).tag), v6, (str ((opn ([107]) (((lg0 ([107])).adds ([(Ac.mk 3 0 0 [])])).b)).1).b)] 150, .row v6 143 4 ((opn ([107]) (((lg0 ([107])).adds ([(Ac.mk 3 0 0 [])])).b)).1).acts.length (List.flatMap actc ((opn ([107]) (((lg0 ([107])).adds ([(Ac.mk 3 0 0 [])])).b)).1).acts)] := H5.splice [] [] [.blk m6 [(str ((opn ([107]) (((lg0 ([107])).adds ([(Ac.mk 3 0 0 [])])).b)).1).key), (str ((opn ([107]) (((lg0 ([107])).adds ([(Ac.mk 3 0 0 [])])).b)).1).tag), v6, (str ((opn ([107]) (((lg0 ([107])).adds ([(Ac.mk 3 0 0 [])])).b)).1).b)] 150, .row v6 143 4 ((opn ([107]) (((lg0 ([107])).adds ([(Ac.mk 3 0 0 [])])).b)).1).acts.length (List.flatMap actc ((opn ([107]) (((lg0 ([107])).adds ([(Ac.mk 3 0 0 [])])).b)).1).acts)] rfl rfl hq6 (Fits.solid True.intro (Fits.solid True.intro Fits.nil))
  refine WL.op rfl rfl (op_move rfl ?_)
  refine WL.op rfl rfl (op_extract rfl rfl ?_)
  refine WL.op rfl rfl (op_extract rfl rfl ?_)
  refine WL.op rfl rfl (op_extract rfl rfl ?_)
  refine WL.op rfl rfl (op_assign rfl ?_)
  refine WL.op rfl rfl (op_assign rfl ?_)
  refine WL.op rfl rfl (op_assign rfl ?_)
  refine WL.nil ?_
  refine WQ.next ?_
  refine WC.seq ?_
  refine WC.region ?_
  refine WL.op rfl rfl (op_move rfl ?_)
  refine WL.op rfl rfl (op_callF Fa.C62 rfl ((open_ok ([108]) (((lg0 ([107])).adds ([(Ac.mk 3 0 0 [])])).b) _ (by decide) (by decide +kernel)).mono (fun e w7 hq => ?_)))
  obtain ⟨m7, v7, rfl, hq7⟩ := hq
  refine ⟨_, rfl, ?_⟩
  have H7 : Own [] w w7 [.blk m1 [(str ((lg0 ([107])).adds ([(Ac.mk 3 0 0 [])])).key), (str ((lg0 ([107])).adds ([(Ac.mk 3 0 0 [])])).tag), v3, (str ((lg0 ([107])).adds ([(Ac.mk 3 0 0 [])])).b)] 150, .row v3 143 4 ((lg0 ([107])).adds ([(Ac.mk 3 0 0 [])])).acts.length (List.flatMap actc ((lg0 ([107])).adds ([(Ac.mk 3 0 0 [])])).acts), .row (.slice (some ⟨b2, 0, none⟩) 1 1) 143 4 1 (List.flatMap actc [(Ac.mk 3 0 0 [])]), .blk m5 [(str ((opn ([107]) (((lg0 ([107])).adds ([(Ac.mk 3 0 0 [])])).b.take 44)).1).key), (str ((opn ([107]) (((lg0 ([107])).adds ([(Ac.mk 3 0 0 [])])).b.take 44)).1).tag), v5, (str ((opn ([107]) (((lg0 ([107])).adds ([(Ac.mk 3 0 0 [])])).b.take 44)).1).b)] 150, .row v5 143 4 ((opn ([107]) (((lg0 ([107])).adds ([(Ac.mk 3 0 0 [])])).b.take 44)).1).acts.length (List.flatMap actc ((opn ([107]) (((lg0 ([107])).adds ([(Ac.mk 3 0 0 [])])).b.take 44)).1).acts), .blk m6 [(str ((opn ([107]) (((lg0 ([107])).adds ([(Ac.mk 3 0 0 [])])).b)).1).key), (str ((opn ([107]) (((lg0 ([107])).adds ([(Ac.mk 3 0 0 [])])).b)).1).tag), v6, (str ((opn ([107]) (((lg0 ([107])).adds ([(Ac.mk 3 0 0 [])])).b)).1).b)] 150, .row v6 143 4 ((opn ([107]) (((lg0 ([107])).adds ([(Ac.mk 3 0 0 [])])).b)).1).acts.length (List.flatMap actc ((opn ([107]) (((lg0 ([107])).adds ([(Ac.mk 3 0 0 [])])).b)).1).acts), .blk m7 [(str ((opn ([108]) (((lg0 ([107])).adds ([(Ac.mk 3 0 0 [])])).b)).1).key), (str ((opn ([108]) (((lg0 ([107])).adds ([(Ac.mk 3 0 0 [])])).b)).1).tag), v7, (str ((opn ([108]) (((lg0 ([107])).adds ([(Ac.mk 3 0 0 [])])).b)).1).b)] 150, .row v7 143 4 ((opn ([108]) (((lg0 ([107])).adds ([(Ac.mk 3 0 0 [])])).b)).1).acts.length (List.flatMap actc ((opn ([108]) (((lg0 ([107])).adds ([(Ac.mk 3 0 0 [])])).b)).1).acts)] := H6.splice [] [] [.blk m7 [(str ((opn ([108]) (((lg0 ([107])).adds ([(Ac.mk 3 0 0 [])])).b)).1).key), (str ((opn ([108]) (((lg0 ([107])).adds ([(Ac.mk 3 0 0 [])])).b)).1).tag), v7, (str ((opn ([108]) (((lg0 ([107])).adds ([(Ac.mk 3 0 0 [])])).b)).1).b)] 150, .row v7 143 4 ((opn ([108]) (((lg0 ([107])).adds ([(Ac.mk 3 0 0 [])])).b)).1).acts.length (List.flatMap actc ((opn ([108]) (((lg0 ([107])).adds ([(Ac.mk 3 0 0 [])])).b)).1).acts)] rfl rfl hq7 (Fits.solid True.intro (Fits.solid True.intro Fits.nil))
  refine WL.op rfl rfl (op_move rfl ?_)
  refine WL.op rfl rfl (op_extract rfl rfl ?_)
  refine WL.op rfl rfl (op_extract rfl rfl ?_)
  refine WL.op rfl rfl (op_extract rfl rfl ?_)
  refine WL.op rfl rfl (op_assign rfl ?_)
  refine WL.op rfl rfl (op_assign rfl ?_)
  refine WL.op rfl rfl (op_assign rfl ?_)
  refine WL.nil ?_
  refine WQ.next ?_
  refine WC.seq ?_
  refine WC.draw 36 Fa.M H7 (HW.op rfl (fun w1 H1 => op_move rfl ⟨rfl, Fr.refl _ _⟩) (HW.op rfl (fun w1 H1 => op_callF Fa.C54 rfl ((llen_ok m5 v5 ((opn ([107]) (((lg0 ([107])).adds ([(Ac.mk 3 0 0 [])])).b.take 44)).1) _ (H1.cellsAt (i := 3) rfl) (H1.arrR (i := 4) rfl) (by decide +kernel)).mono (fun e w2 hq => ⟨_, hq.1, rfl, hq.2⟩))) (HW.op rfl (fun w1 H1 => op_eqlN (b := 0) rfl rfl ⟨rfl, Fr.refl _ _⟩) (HW.op rfl (fun w1 H1 => op_move rfl ⟨rfl, Fr.refl _ _⟩) (HW.yes rfl rfl rfl (by kernel_rfl) (fun w1 H1 => op_move rfl ⟨rfl, Fr.refl _ _⟩) (HW.yes rfl rfl rfl (by kernel_rfl) (fun w1 H1 => op_eqlN (b := 0) rfl rfl ⟨rfl, Fr.refl _ _⟩) (HW.op rfl (fun w1 H1 => op_pickT rfl (by kernel_rfl) rfl ⟨rfl, Fr.refl _ _⟩) (HW.op rfl (fun w1 H1 => op_move rfl ⟨rfl, Fr.refl _ _⟩) (HW.yes rfl rfl rfl (by kernel_rfl) (fun w1 H1 => op_move rfl ⟨rfl, Fr.refl _ _⟩) (HW.yes rfl rfl rfl (by kernel_rfl) (fun w1 H1 => op_eqlN (b := 390) rfl rfl ⟨rfl, Fr.refl _ _⟩) (HW.op rfl (fun w1 H1 => op_pickT rfl (by kernel_rfl) rfl ⟨rfl, Fr.refl _ _⟩) (HW.op rfl (fun w1 H1 => op_move rfl ⟨rfl, Fr.refl _ _⟩) (HW.yes rfl rfl rfl (by kernel_rfl) (fun w1 H1 => op_move rfl ⟨rfl, Fr.refl _ _⟩) (HW.yes rfl rfl rfl (by kernel_rfl) (fun w1 H1 => op_callF Fa.C54 rfl ((llen_ok m6 v6 ((opn ([107]) (((lg0 ([107])).adds ([(Ac.mk 3 0 0 [])])).b)).1) _ (H1.cellsAt (i := 5) rfl) (H1.arrR (i := 6) rfl) (by decide +kernel)).mono (fun e w2 hq => ⟨_, hq.1, rfl, hq.2⟩))) (HW.yes rfl rfl rfl (by kernel_rfl) (fun w1 H1 => op_eqlN (b := 1) rfl rfl ⟨rfl, Fr.refl _ _⟩) (HW.op rfl (fun w1 H1 => op_pickT rfl (by kernel_rfl) rfl ⟨rfl, Fr.refl _ _⟩) (HW.op rfl (fun w1 H1 => op_move rfl ⟨rfl, Fr.refl _ _⟩) (HW.yes rfl rfl rfl (by kernel_rfl) (fun w1 H1 => op_move rfl ⟨rfl, Fr.refl _ _⟩) (HW.yes rfl rfl rfl (by kernel_rfl) (fun w1 H1 => op_eqlN (b := 45) rfl rfl ⟨rfl, Fr.refl _ _⟩) (HW.op rfl (fun w1 H1 => op_pickT rfl (by kernel_rfl) rfl ⟨rfl, Fr.refl _ _⟩) (HW.op rfl (fun w1 H1 => op_move rfl ⟨rfl, Fr.refl _ _⟩) (HW.yes rfl rfl rfl (by kernel_rfl) (fun w1 H1 => op_move rfl ⟨rfl, Fr.refl _ _⟩) (HW.yes rfl rfl rfl (by kernel_rfl) (fun w1 H1 => op_eqlN (b := 0) rfl rfl ⟨rfl, Fr.refl _ _⟩) (HW.op rfl (fun w1 H1 => op_pickT rfl (by kernel_rfl) rfl ⟨rfl, Fr.refl _ _⟩) (HW.op rfl (fun w1 H1 => op_move rfl ⟨rfl, Fr.refl _ _⟩) (HW.yes rfl rfl rfl (by kernel_rfl) (fun w1 H1 => op_move rfl ⟨rfl, Fr.refl _ _⟩) (HW.yes rfl rfl rfl (by kernel_rfl) (fun w1 H1 => op_eqlN (b := 391) rfl rfl ⟨rfl, Fr.refl _ _⟩) (HW.op rfl (fun w1 H1 => op_pickT rfl (by kernel_rfl) rfl ⟨rfl, Fr.refl _ _⟩) (HW.op rfl (fun w1 H1 => op_move rfl ⟨rfl, Fr.refl _ _⟩) (HW.yes rfl rfl rfl (by kernel_rfl) (fun w1 H1 => op_move rfl ⟨rfl, Fr.refl _ _⟩) (HW.yes rfl rfl rfl (by kernel_rfl) (fun w1 H1 => op_callF Fa.C57 rfl ((ltag_ok m6 v6 ((opn ([107]) (((lg0 ([107])).adds ([(Ac.mk 3 0 0 [])])).b)).1) _ (H1.cellsAt (i := 5) rfl)).mono (fun e w2 hq => ⟨_, hq.1, rfl, hq.2⟩))) (HW.yes rfl rfl rfl (by kernel_rfl) (fun w1 H1 => op_move rfl ⟨rfl, Fr.refl _ _⟩) (HW.yes rfl rfl rfl (by kernel_rfl) (fun w1 H1 => op_sliceStrLo (a := 13) Try.underlying9 rfl rfl (by omega) ⟨rfl, Fr.refl _ _⟩) (HW.yes rfl rfl rfl (by kernel_rfl) (fun w1 H1 => op_eqlStr rfl rfl ⟨rfl, Fr.refl _ _⟩) (HW.op rfl (fun w1 H1 => op_pickT rfl (by kernel_rfl) rfl ⟨rfl, Fr.refl _ _⟩) (HW.op rfl (fun w1 H1 => op_assign rfl ⟨rfl, Fr.refl _ _⟩)  HW.nil)))))))))))))))))))))))))))))))))))) (by kernel_rfl) ?_
  intro β11 w11 H11
  refine WL.nil ?_
  refine WQ.next ?_
  refine WC.ret ?_
  refine WQ.out (.tmp rfl .nil) ?_
  exact ⟨rfl, H11.fr⟩
end Go.Proofs.Ytpnghdalnghpcaa
/-! from WLog3 -/
namespace Go.Proofs.Ytpnghdalnghpcaa
open Go.Owl Go.Spec
set_option maxRecDepth 100000 in
theorem sameA_ok (va vb : Value) (a b : List Ac) (w : World) (hA : Arr w va 4 a.length (List.flatMap actc a)) (hB : Arr w vb 4 b.length (List.flatMap actc b)) (hn : a.length < 2 ^ 40) :
    Calls Try.prog 61 #[va, vb] w (fun e w' => e = .returned (.bool (decide (a = b))) ∧ Fr [] w w') := by
  refine enter (args := [va, vb]) Try.func61 rfl rfl ?_
  have H0 : Own [] w w [] := Own.start w []
  refine WC.seq ?_
  refine WC.region ?_
  refine WL.op rfl rfl (op_assign rfl ?_)
  refine WL.nil ?_
  refine WQ.next ?_
  refine WC.seq ?_
  refine WC.seq ?_
  refine WC.region ?_
  refine WL.op rfl rfl (op_move rfl ?_)
  refine WL.op rfl rfl (op_lenA Try.underlying72 rfl (H0.arr hA) ?_)
  refine WL.op rfl rfl (op_move rfl ?_)
  refine WL.op rfl rfl (op_lenA Try.underlying72 rfl (H0.arr hB) ?_)
  refine WL.op rfl rfl (op_neqN rfl rfl ?_)
  refine WL.nil ?_
  refine WQ.next ?_
  refine WC.cond rfl (fun (hb1 : (decide (a.length ≠ b.length)) = true) => ?_) (fun (hb1 : (decide (a.length ≠ b.length)) = false) => ?_)
  ·
    have hc1 := of_decide_eq_true hb1
    refine WC.seq ?_
    refine WC.region ?_
    refine WL.op rfl rfl (op_assign rfl ?_)
    refine WL.nil ?_
    refine WQ.next ?_
    refine WC.ret ?_
    refine WQ.thenRet ?_
    refine WQ.out (.tmp rfl .nil) ?_
    exact ⟨by rw [decide_eq_false (fun h : a = b => hc1 (by rw [h]))]; rfl, H0.fr⟩
  ·
    have hc1 := of_decide_eq_false hb1
    refine WC.skip ?_
    refine WQ.next ?_
    refine WC.seq ?_
    refine WC.seq ?_
    refine WC.region ?_
    refine WL.op rfl rfl (op_assign rfl ?_)
    refine WL.nil ?_
    refine WQ.next ?_
    refine WC.block ?_
    refine WC.loop (α := Nat) (fun k => [(0, va), (1, vb), (5, (vN k))]) (fun k w' => (k ≤ a.length ∧ (∀ j, j < k → a.getD j Ac.zero = b.getD j Ac.zero)) ∧ Own [] w w' []) (fun k => a.length - k) 0 ⟨⟨Nat.zero_le _, fun j h => by omega⟩, H0⟩ ⟨rfl, rfl, rfl, trivial⟩ ?_
    rintro k w2 ⟨⟨hk1, hok⟩, H2⟩
    show WC _ _ _ _ _ [(0, va), (1, vb), (5, (vN k))] _
    refine WC.seq ?_
    refine WC.seq ?_
    refine WC.region ?_
    refine WL.op rfl rfl (op_move rfl ?_)
    refine WL.op rfl rfl (op_move rfl ?_)
    refine WL.op rfl rfl (op_lenA Try.underlying72 rfl (H2.arr hA) ?_)
    refine WL.op rfl rfl (op_lssN rfl rfl ?_)
    refine WL.nil ?_
    refine WQ.next ?_
    refine WC.cond rfl (fun (hb3 : (decide (k < a.length)) = true) => ?_) (fun (hb3 : (decide (k < a.length)) = false) => ?_)
    ·
      have hc3 := of_decide_eq_true hb3
      refine WC.skip ?_
      refine WQ.next ?_
      refine WC.seq ?_
      refine WC.block ?_
      refine WC.seq ?_
      refine WC.draw 9 Fa.M H2 (HW.op rfl (fun w1 H1 => op_move rfl ⟨rfl, Fr.refl _ _⟩) (HW.op rfl (fun w1 H1 => op_move rfl ⟨rfl, Fr.refl _ _⟩) (HW.op rfl (fun w1 H1 => op_indexAddr Try.underlying72 Fa.I143 rfl (H1.arr hA) rfl (by omega) ⟨rfl, Fr.refl _ _⟩) (HW.op rfl (fun w1 H1 => op_loadSP (vs := actc (a.getD k Ac.zero)) rfl (Arr.atsF (H1.arr hA) (fun _ => rfl) (by decide) Ac.zero (by omega)) Try.underlying143 rfl Fa.I143 rfl ⟨rfl, Fr.refl _ _⟩) (HW.op rfl (fun w1 H1 => op_move rfl ⟨rfl, Fr.refl _ _⟩) (HW.op rfl (fun w1 H1 => op_move rfl ⟨rfl, Fr.refl _ _⟩) (HW.op rfl (fun w1 H1 => op_indexAddr Try.underlying72 Fa.I143 rfl (H1.arr hB) rfl (by omega) ⟨rfl, Fr.refl _ _⟩) (HW.op rfl (fun w1 H1 => op_loadSP (vs := actc (b.getD k Ac.zero)) rfl (Arr.atsF (H1.arr hB) (fun _ => rfl) (by decide) Ac.zero (by omega)) Try.underlying143 rfl Fa.I143 rfl ⟨rfl, Fr.refl _ _⟩) (HW.op rfl (fun w1 H1 => op_neqS (xs := [_, _, _, _]) (ys := [_, _, _, _]) (b := (!((decide ((a.getD k Ac.zero).d = (b.getD k Ac.zero).d)) && ((decide ((a.getD k Ac.zero).n = (b.getD k Ac.zero).n)) && ((decide ((a.getD k Ac.zero).m = (b.getD k Ac.zero).m)) && (decide ((a.getD k Ac.zero).t = (b.getD k Ac.zero).t))))))) Fa.FL143 rfl rfl rfl (by simp [eqAll, veqI, veqStr, veqU8]) ⟨rfl, Fr.refl _ _⟩)  HW.nil))))))))) (by kernel_rfl) ?_
      intro β4 w4 H4
      refine WL.nil ?_
      refine WQ.next ?_
      refine WC.cond rfl (fun (hb5 : (!((decide ((a.getD k Ac.zero).d = (b.getD k Ac.zero).d)) && ((decide ((a.getD k Ac.zero).n = (b.getD k Ac.zero).n)) && ((decide ((a.getD k Ac.zero).m = (b.getD k Ac.zero).m)) && (decide ((a.getD k Ac.zero).t = (b.getD k Ac.zero).t)))))) = true) => ?_) (fun (hb5 : (!((decide ((a.getD k Ac.zero).d = (b.getD k Ac.zero).d)) && ((decide ((a.getD k Ac.zero).n = (b.getD k Ac.zero).n)) && ((decide ((a.getD k Ac.zero).m = (b.getD k Ac.zero).m)) && (decide ((a.getD k Ac.zero).t = (b.getD k Ac.zero).t)))))) = false) => ?_)
      ·
        have hn5 := (Bool.not_eq_true' _).mp hb5
        refine WC.seq ?_
        refine WC.region ?_
        refine WL.op rfl rfl (op_assign rfl ?_)
        refine WL.nil ?_
        refine WQ.next ?_
        refine WC.ret ?_
        refine WQ.inRet ?_
        refine WQ.thenRet ?_
        refine WQ.thenRet ?_
        refine WQ.inRet ?_
        refine WQ.thenRet ?_
        refine WQ.out (.tmp rfl .nil) ?_
        exact ⟨by rw [decide_eq_false (fun h : a = b => ac_ne hn5 (by rw [h]))]; rfl, H4.fr⟩
      ·
        have hn5 := (Bool.not_eq_false' _).mp hb5
        refine WC.skip ?_
        refine WQ.inNormal ?_
        refine WQ.next ?_
        refine WC.region ?_
        refine WL.op rfl rfl (op_move rfl ?_)
        refine WL.op rfl rfl (op_addN (b := 1) rfl rfl (by omega) ?_)
        refine WL.op rfl rfl (op_assign rfl ?_)
        refine WL.nil ?_
        exact WQ.round (k + 1) ⟨⟨by omega, nextP hok (ac_eq hn5)⟩, H4⟩ ⟨rfl, rfl, rfl, trivial⟩ (by omega)
    ·
      have hc3 := of_decide_eq_false hb3
      refine WC.exit ?_
      refine WQ.thenExit ?_
      refine WQ.thenExit ?_
      refine WQ.inHere ?_
      refine WQ.next ?_
      refine WC.seq ?_
      refine WC.region ?_
      refine WL.op rfl rfl (op_assign rfl ?_)
      refine WL.nil ?_
      refine WQ.next ?_
      refine WC.ret ?_
      refine WQ.out (.tmp rfl .nil) ?_
      exact ⟨by rw [decide_eq_true (list_eqA (by omega) (fun j hj => hok j (by omega)))]; rfl, H2.fr⟩
end Go.Proofs.Ytpnghdalnghpcaa
/-! from WLaw39 -/
namespace Go.Proofs.Ytpnghdalnghpcaa
open Go.Owl Go.Spec
set_option maxRecDepth 100000 in
theorem logOpens_ok (key s : List UInt8) (w : World) (hk : key.length ≤ 140737488351232) (hs : s.length ≤ 140737488351232) :
    Calls Try.prog 10 #[(str key), (str s)] w (fun e w' => e = .returned (.bool true) ∧ Fr [] w w') := by
  refine enter (args := [(str key), (str s)]) Try.func10 rfl rfl ?_
  have H0 : Own [] w w [] := Own.start w []
  refine WC.seq ?_
  refine WC.region ?_
  refine WL.op rfl rfl (op_assign rfl ?_)
  refine WL.nil ?_
  refine WQ.next ?_
  refine WC.seq ?_
  refine WC.seq ?_
  refine WC.region ?_
  refine WL.op rfl rfl (op_move rfl ?_)
  refine WL.op rfl rfl (op_lenStr Try.underlying9 rfl ?_)
  refine WL.op rfl rfl (op_gtrN (b := 1024) rfl rfl ?_)
  refine WL.op rfl rfl (op_move rfl ?_)
  refine WL.split (t := 14) rfl (fun (hb1 : (decide (key.length > 1024)) = true) => ?_) (fun (hb1 : (decide (key.length > 1024)) = false) => ?_)
  ·
    have hc1 := of_decide_eq_true hb1
    refine WL.no rfl rfl rfl hb1 rfl ?_
    refine WL.no rfl rfl rfl hb1 rfl ?_
    refine WL.no rfl rfl rfl hb1 rfl ?_
    refine WL.op rfl rfl (op_pickT rfl hb1 rfl ?_)
    refine WL.nil ?_
    refine WQ.next ?_
    refine WC.yes rfl rfl ?_
    refine WC.seq ?_
    refine WC.region ?_
    refine WL.op rfl rfl (op_callF Fa.C52 rfl ((alive39_ok _).mono (fun e w2 hq => ?_)))
    obtain ⟨rfl, hf2⟩ := hq
    refine ⟨_, rfl, ?_⟩
    have H2 := H0.fr' hf2
    refine WL.op rfl rfl (op_assign rfl ?_)
    refine WL.nil ?_
    refine WQ.next ?_
    refine WC.ret ?_
    refine WQ.thenRet ?_
    refine WQ.out (.tmp rfl .nil) ?_
    exact ⟨rfl, H2.fr⟩
  ·
    have hc1 := of_decide_eq_false hb1
    refine WL.yes rfl rfl rfl hb1 rfl (op_move rfl ?_)
    refine WL.yes rfl rfl rfl hb1 rfl (op_lenStr Try.underlying9 rfl ?_)
    refine WL.yes rfl rfl rfl hb1 rfl (op_gtrN (b := 65536) rfl rfl ?_)
    refine WL.op rfl rfl (op_pickF rfl hb1 rfl ?_)
    refine WL.nil ?_
    refine WQ.next ?_
    refine WC.cond rfl (fun (hb3 : (decide (s.length > 65536)) = true) => ?_) (fun (hb3 : (decide (s.length > 65536)) = false) => ?_)
    ·
      have hc3 := of_decide_eq_true hb3
      refine WC.seq ?_
      refine WC.region ?_
      refine WL.op rfl rfl (op_callF Fa.C52 rfl ((alive39_ok _).mono (fun e w4 hq => ?_)))
      obtain ⟨rfl, hf4⟩ := hq
      refine ⟨_, rfl, ?_⟩
      have H4 := H0.fr' hf4
      refine WL.op rfl rfl (op_assign rfl ?_)
      refine WL.nil ?_
      refine WQ.next ?_
      refine WC.ret ?_
      refine WQ.thenRet ?_
      refine WQ.out (.tmp rfl .nil) ?_
      exact ⟨rfl, H4.fr⟩
    ·
      have hc3 := of_decide_eq_false hb3
      refine WC.skip ?_
      refine WQ.next ?_
      refine WC.seq ?_
      refine WC.region ?_
      refine WL.op rfl rfl (op_move rfl ?_)
      refine WL.op rfl rfl (op_move rfl ?_)
      refine WL.op rfl rfl (op_callF Fa.C62 rfl ((open_ok key s _ (by omega) (by omega)).mono (fun e w5 hq => ?_)))
      obtain ⟨m5, v5, rfl, hq5⟩ := hq
      refine ⟨_, rfl, ?_⟩
      have H5 : Own [] w w5 [.blk m5 [(str ((opn key s).1).key), (str ((opn key s).1).tag), v5, (str ((opn key s).1).b)] 150, .row v5 143 4 ((opn key s).1).acts.length (List.flatMap actc ((opn key s).1).acts)] := H0.splice [] [] [.blk m5 [(str ((opn key s).1).key), (str ((opn key s).1).tag), v5, (str ((opn key s).1).b)] 150, .row v5 143 4 ((opn key s).1).acts.length (List.flatMap actc ((opn key s).1).acts)] rfl rfl hq5 (Fits.solid True.intro (Fits.solid True.intro Fits.nil))
      refine WL.op rfl rfl (op_move rfl ?_)
      refine WL.op rfl rfl (op_extract rfl rfl ?_)
      refine WL.op rfl rfl (op_extract rfl rfl ?_)
      refine WL.op rfl rfl (op_extract rfl rfl ?_)
      refine WL.op rfl rfl (op_assign rfl ?_)
      refine WL.op rfl rfl (op_assign rfl ?_)
      refine WL.op rfl rfl (op_assign rfl ?_)
      refine WL.nil ?_
      refine WQ.next ?_
      refine WC.seq ?_
      refine WC.region ?_
      refine WL.op rfl rfl (op_move rfl ?_)
      refine WL.op rfl rfl (op_move rfl ?_)
      refine WL.op rfl rfl (op_callF Fa.C63 rfl ((ropen_ok key s _ (by omega) (by omega)).mono (fun e w6 hq => ?_)))
      obtain ⟨m6, v6, rfl, hq6⟩ := hq
      refine ⟨_, rfl, ?_⟩
      have H6 : Own [] w w6 [.blk m5 [(str ((opn key s).1).key), (str ((opn key s).1).tag), v5, (str ((opn key s).1).b)] 150, .row v5 143 4 ((opn key s).1).acts.length (List.flatMap actc ((opn key s).1).acts), .blk m6 [(str ((opn key s).1).key), (str ((opn key s).1).b), (str ((opn key s).1).tag), v6] 84, .row v6 143 4 ((opn key s).1).acts.length (List.flatMap actc ((opn key s).1).acts)] := H5.splice [] [] [.blk m6 [(str ((opn key s).1).key), (str ((opn key s).1).b), (str ((opn key s).1).tag), v6] 84, .row v6 143 4 ((opn key s).1).acts.length (List.flatMap actc ((opn key s).1).acts)] rfl rfl hq6 (Fits.solid True.intro (Fits.solid True.intro Fits.nil))
      refine WL.op rfl rfl (op_move rfl ?_)
      refine WL.op rfl rfl (op_extract rfl rfl ?_)
      refine WL.op rfl rfl (op_extract rfl rfl ?_)
      refine WL.op rfl rfl (op_extract rfl rfl ?_)
      refine WL.op rfl rfl (op_assign rfl ?_)
      refine WL.op rfl rfl (op_assign rfl ?_)
      refine WL.op rfl rfl (op_assign rfl ?_)
      refine WL.nil ?_
      refine WQ.next ?_
      refine WC.seq ?_
      refine WC.draw 51 Fa.M H6 (HW.op rfl (fun w1 H1 => op_move rfl ⟨rfl, Fr.refl _ _⟩) (HW.op rfl (fun w1 H1 => op_neqPN Fa.PT75 rfl rfl ⟨rfl, Fr.refl _ _⟩) (HW.op rfl (fun w1 H1 => op_move rfl ⟨rfl, Fr.refl _ _⟩) (HW.yes rfl rfl rfl rfl (fun w1 H1 => op_move rfl ⟨rfl, Fr.refl _ _⟩) (HW.yes rfl rfl rfl rfl (fun w1 H1 => op_move rfl ⟨rfl, Fr.refl _ _⟩) (HW.yes rfl rfl rfl rfl (fun w1 H1 => op_eqlN rfl rfl ⟨rfl, Fr.refl _ _⟩) (HW.op rfl (fun w1 H1 => op_pickT rfl rfl rfl ⟨rfl, Fr.refl _ _⟩) (HW.op rfl (fun w1 H1 => op_move rfl ⟨rfl, Fr.refl _ _⟩) (HW.yes rfl rfl rfl (decide_eq_true rfl) (fun w1 H1 => op_move rfl ⟨rfl, Fr.refl _ _⟩) (HW.yes rfl rfl rfl (decide_eq_true rfl) (fun w1 H1 => op_move rfl ⟨rfl, Fr.refl _ _⟩) (HW.yes rfl rfl rfl (decide_eq_true rfl) (fun w1 H1 => op_eqlN rfl rfl ⟨rfl, Fr.refl _ _⟩) (HW.op rfl (fun w1 H1 => op_pickT rfl (decide_eq_true rfl) rfl ⟨rfl, Fr.refl _ _⟩) (HW.op rfl (fun w1 H1 => op_move rfl ⟨rfl, Fr.refl _ _⟩) (HW.yes rfl rfl rfl (decide_eq_true rfl) (fun w1 H1 => op_move rfl ⟨rfl, Fr.refl _ _⟩) (HW.fltY (mk := fun bq => bq.2) (ent := fun bq => .row bq.2 143 4 ((opn key s).1).acts.length (List.flatMap actc ((opn key s).1).acts)) rfl rfl rfl (decide_eq_true rfl) (fun w1 H1 => op_callF Fa.C55 rfl ((lacts_ok m5 v5 ((opn key s).1) _ (H1.cellsAt (i := 0) rfl) (H1.arrR (i := 1) rfl) (opn_acts (by omega))).mono (fun e w2 ⟨v, he, hO⟩ => ⟨_, he, (0, v), rfl, hO, True.intro⟩))) (HW.yes rfl rfl rfl (decide_eq_true rfl) (fun w1 H1 => op_move rfl ⟨rfl, Fr.refl _ _⟩) (HW.yes rfl rfl rfl (decide_eq_true rfl) (fun w1 H1 => op_nilCheck rfl ⟨rfl, Fr.refl _ _⟩) (HW.yes rfl rfl rfl (decide_eq_true rfl) (fun w1 H1 => op_fieldAddr rfl Fa.F84_3 ⟨rfl, Fr.refl _ _⟩) (HW.yes rfl rfl rfl (decide_eq_true rfl) (fun w1 H1 => op_load rfl (H1.cell (i := 2) rfl rfl) Try.underlying72 rfl ⟨rfl, Fr.refl _ _⟩) (HW.opFsY 0 rfl rfl rfl (fun _ => rfl) (decide_eq_true rfl) (fun bq w1 H1 => op_callF Fa.C61 rfl ((sameA_ok _ _ (((opn key s).1).acts) (((opn key s).1).acts) _ (H1.arrR (i := 4) rfl) (H1.arrR (i := 3) rfl) (opn_acts (by omega))).mono (fun e w2 hq => ⟨_, hq.1, rfl, hq.2⟩))) (HW.op rfl (fun w1 H1 => op_pickT rfl (decide_eq_true rfl) rfl ⟨rfl, Fr.refl _ _⟩) (HW.op rfl (fun w1 H1 => op_move rfl ⟨rfl, Fr.refl _ _⟩) (HW.yes rfl rfl rfl (decide_eq_true rfl) (fun w1 H1 => op_move rfl ⟨rfl, Fr.refl _ _⟩) (HW.yes rfl rfl rfl (decide_eq_true rfl) (fun w1 H1 => op_callF Fa.C56 rfl ((lbytes_ok m5 v5 ((opn key s).1) _ (H1.cellsAt (i := 0) rfl)).mono (fun e w2 hq => ⟨_, hq.1, rfl, hq.2⟩))) (HW.yes rfl rfl rfl (decide_eq_true rfl) (fun w1 H1 => op_move rfl ⟨rfl, Fr.refl _ _⟩) (HW.yes rfl rfl rfl (decide_eq_true rfl) (fun w1 H1 => op_nilCheck rfl ⟨rfl, Fr.refl _ _⟩) (HW.yes rfl rfl rfl (decide_eq_true rfl) (fun w1 H1 => op_fieldAddr rfl Fa.F84_1 ⟨rfl, Fr.refl _ _⟩) (HW.yes rfl rfl rfl (decide_eq_true rfl) (fun w1 H1 => op_load rfl (H1.cell (i := 2) rfl rfl) Try.underlying9 rfl ⟨rfl, Fr.refl _ _⟩) (HW.yes rfl rfl rfl (decide_eq_true rfl) (fun w1 H1 => op_eqlStr rfl rfl ⟨rfl, Fr.refl _ _⟩) (HW.op rfl (fun w1 H1 => op_pickT rfl (decide_eq_true rfl) rfl ⟨rfl, Fr.refl _ _⟩) (HW.op rfl (fun w1 H1 => op_move rfl ⟨rfl, Fr.refl _ _⟩) (HW.yes rfl rfl rfl (decide_eq_true rfl) (fun w1 H1 => op_move rfl ⟨rfl, Fr.refl _ _⟩) (HW.yes rfl rfl rfl (decide_eq_true rfl) (fun w1 H1 => op_callF Fa.C56 rfl ((lbytes_ok m5 v5 ((opn key s).1) _ (H1.cellsAt (i := 0) rfl)).mono (fun e w2 hq => ⟨_, hq.1, rfl, hq.2⟩))) (HW.yes rfl rfl rfl (decide_eq_true rfl) (fun w1 H1 => op_move rfl ⟨rfl, Fr.refl _ _⟩) (HW.yes rfl rfl rfl (decide_eq_true rfl) (fun w1 H1 => op_move rfl ⟨rfl, Fr.refl _ _⟩) (HW.yes rfl rfl rfl (decide_eq_true rfl) (fun w1 H1 => op_sliceStrHi Try.underlying9 rfl rfl (opn_pre key s).2 ⟨rfl, Fr.refl _ _⟩) (HW.yes rfl rfl rfl (decide_eq_true rfl) (fun w1 H1 => op_eqlStr rfl rfl ⟨rfl, Fr.refl _ _⟩) (HW.op rfl (fun w1 H1 => op_pickT rfl (decide_eq_true rfl) rfl ⟨rfl, Fr.refl _ _⟩) (HW.op rfl (fun w1 H1 => op_move rfl ⟨rfl, Fr.refl _ _⟩) (HW.yes rfl rfl rfl (decide_eq_true (opn_pre key s).1.symm) (fun w1 H1 => op_move rfl ⟨rfl, Fr.refl _ _⟩) (HW.yes rfl rfl rfl (decide_eq_true (opn_pre key s).1.symm) (fun w1 H1 => op_callF Fa.C57 rfl ((ltag_ok m5 v5 ((opn key s).1) _ (H1.cellsAt (i := 0) rfl)).mono (fun e w2 hq => ⟨_, hq.1, rfl, hq.2⟩))) (HW.yes rfl rfl rfl (decide_eq_true (opn_pre key s).1.symm) (fun w1 H1 => op_move rfl ⟨rfl, Fr.refl _ _⟩) (HW.yes rfl rfl rfl (decide_eq_true (opn_pre key s).1.symm) (fun w1 H1 => op_nilCheck rfl ⟨rfl, Fr.refl _ _⟩) (HW.yes rfl rfl rfl (decide_eq_true (opn_pre key s).1.symm) (fun w1 H1 => op_fieldAddr rfl Fa.F84_2 ⟨rfl, Fr.refl _ _⟩) (HW.yes rfl rfl rfl (decide_eq_true (opn_pre key s).1.symm) (fun w1 H1 => op_load rfl (H1.cell (i := 2) rfl rfl) Try.underlying9 rfl ⟨rfl, Fr.refl _ _⟩) (HW.yes rfl rfl rfl (decide_eq_true (opn_pre key s).1.symm) (fun w1 H1 => op_eqlStr rfl rfl ⟨rfl, Fr.refl _ _⟩) (HW.op rfl (fun w1 H1 => op_pickT rfl (decide_eq_true (opn_pre key s).1.symm) rfl ⟨rfl, Fr.refl _ _⟩) (HW.op rfl (fun w1 H1 => op_move rfl ⟨rfl, Fr.refl _ _⟩) (HW.yes rfl rfl rfl (decide_eq_true rfl) (fun w1 H1 => op_callF Fa.C52 rfl ((alive39_ok _).mono (fun e w2 hq => ⟨_, hq.1, rfl, hq.2⟩))) (HW.op rfl (fun w1 H1 => op_pickT rfl (decide_eq_true rfl) rfl ⟨rfl, Fr.refl _ _⟩) (HW.op rfl (fun w1 H1 => op_assign rfl ⟨rfl, Fr.refl _ _⟩)  HW.nil))))))))))))))))))))))))))))))))))))))))))))))))))) (by kernel_rfl) ?_
      intro β13 w13 H13
      refine WL.nil ?_
      refine WQ.next ?_
      refine WC.ret ?_
      refine WQ.out (.tmp rfl .nil) ?_
      exact ⟨rfl, H13.fr⟩
end Go.Proofs.Ytpnghdalnghpcaa
/-! from WLaw39b -/
namespace Go.Proofs.Ytpnghdalnghpcaa
open Go.Owl Go.Spec
theorem openEq_ok (key s : List UInt8) (l : Lg) (n : Nat) (h : opn key s = (l, n)) (w : World) (hk : key.length < 2 ^ 39) (hs : s.length < 2 ^ 39) :
    Calls Try.prog 62 #[str key, str s] w (fun e w' => ∃ m v, e = .returned (.tuple #[ptr m 0, vN l.b.length, vN n]) ∧ Own [] w w' [.blk m [str l.key, str l.tag, v, str l.b] 150, .row v 143 4 l.acts.length (List.flatMap actc l.acts)]) := by
  have h1 := open_ok key s w hk hs
  rw [h] at h1; exact h1
theorem addsEq_ok (m : Nat) (v lv : Value) (l : Lg) (xs : List Ac) (l2 : Lg) (he : addE xs = 0 ∧ l.adds xs = l2) (T : List Nat) (w : World) (H : Own T w w [.blk m [str l.key, str l.tag, v, str l.b] 150, .row v 143 4 l.acts.length (List.flatMap actc l.acts)])
    (hA : ∀ w1, Fr T w w1 → Arr w1 lv 4 xs.length (List.flatMap actc xs)) (hl : l.fit []) (hn : l.b.length + 65569 * xs.length < 2 ^ 45) (hm : l.acts.length + xs.length < 2 ^ 40) :
    Calls Try.prog 53 #[ptr m 0, lv] w (fun e w' => ∃ v', e = .returned (vN 0) ∧ Own T w w' [.blk m [str l2.key, str l2.tag, v', str l2.b] 150, .row v' 143 4 l2.acts.length (List.flatMap actc l2.acts)]) := by
  have h1 := ladds_ok m v lv l xs T w H hA hl hn hm
  rw [he.1, he.2] at h1; exact h1
set_option maxRecDepth 100000 in
theorem logTorn_ok (key : List UInt8) (lv : Value) (xs : List Ac) (cut : UInt16) (w : World) (hk : key.length ≤ 140737488351232) (hA : Arr w lv 4 xs.length (List.flatMap actc xs)) (hB : ∀ x ∈ xs, x.t.length ≤ 140737488351232) (hn : xs.length < 2 ^ 47) :
    Calls Try.prog 11 #[(str key), lv, (vU16 cut)] w (fun e w' => e = .returned (.bool true) ∧ Fr [] w w') := by
  refine enter (args := [(str key), lv, (vU16 cut)]) Try.func11 rfl rfl ?_
  have H0 : Own [] w w [] := Own.start w []
  refine WC.seq ?_
  refine WC.region ?_
  refine WL.op rfl rfl (op_assign rfl ?_)
  refine WL.nil ?_
  refine WQ.next ?_
  refine WC.seq ?_
  refine WC.seq ?_
  refine WC.region ?_
  refine WL.op rfl rfl (op_move rfl ?_)
  refine WL.op rfl rfl (op_callF Fa.C51 rfl ((large39_ok _ xs _ (H0.arr hA) hB (by omega)).mono (fun e w1 hq => ?_)))
  obtain ⟨rfl, hf1⟩ := hq
  refine ⟨_, rfl, ?_⟩
  have H1 := H0.fr' hf1
  refine WL.op rfl rfl (op_move rfl ?_)
  refine WL.split (t := 19) rfl (fun (hb2 : (large39 xs) = true) => ?_) (fun (hb2 : (large39 xs) = false) => ?_)
  ·
    refine WL.no rfl rfl rfl hb2 rfl ?_
    refine WL.no rfl rfl rfl hb2 rfl ?_
    refine WL.no rfl rfl rfl hb2 rfl ?_
    refine WL.op rfl rfl (op_pickT rfl hb2 rfl ?_)
    refine WL.nil ?_
    refine WQ.next ?_
    refine WC.yes rfl rfl ?_
    refine WC.seq ?_
    refine WC.region ?_
    refine WL.op rfl rfl (op_callF Fa.C52 rfl ((alive39_ok _).mono (fun e w3 hq => ?_)))
    obtain ⟨rfl, hf3⟩ := hq
    refine ⟨_, rfl, ?_⟩
    have H3 := H1.fr' hf3
    refine WL.op rfl rfl (op_assign rfl ?_)
    refine WL.nil ?_
    refine WQ.next ?_
    refine WC.ret ?_
    refine WQ.thenRet ?_
    refine WQ.out (.tmp rfl .nil) ?_
    exact ⟨rfl, H3.fr⟩
  ·
    have hlg := large39_no hb2
    refine WL.yes rfl rfl rfl hb2 rfl (op_move rfl ?_)
    refine WL.yes rfl rfl rfl hb2 rfl (op_lenStr Try.underlying9 rfl ?_)
    refine WL.yes rfl rfl rfl hb2 rfl (op_gtrN (b := 1024) rfl rfl ?_)
    refine WL.op rfl rfl (op_pickF rfl hb2 rfl ?_)
    refine WL.nil ?_
    refine WQ.next ?_
    refine WC.cond rfl (fun (hb4 : (decide (key.length > 1024)) = true) => ?_) (fun (hb4 : (decide (key.length > 1024)) = false) => ?_)
    ·
      have hc4 := of_decide_eq_true hb4
      refine WC.seq ?_
      refine WC.region ?_
      refine WL.op rfl rfl (op_callF Fa.C52 rfl ((alive39_ok _).mono (fun e w5 hq => ?_)))
      obtain ⟨rfl, hf5⟩ := hq
      refine ⟨_, rfl, ?_⟩
      have H5 := H1.fr' hf5
      refine WL.op rfl rfl (op_assign rfl ?_)
      refine WL.nil ?_
      refine WQ.next ?_
      refine WC.ret ?_
      refine WQ.thenRet ?_
      refine WQ.out (.tmp rfl .nil) ?_
      exact ⟨rfl, H5.fr⟩
    ·
      have hc4 := of_decide_eq_false hb4
      refine WC.skip ?_
      refine WQ.next ?_
      refine WC.seq ?_
      refine WC.region ?_
      refine WL.op rfl rfl (op_move rfl ?_)
      refine WL.op rfl rfl (op_callF Fa.C58 rfl ((lnew_ok key _).mono (fun e w6 hq => ?_)))
      obtain ⟨m6, v6, rfl, hq6⟩ := hq
      refine ⟨_, rfl, ?_⟩
      have H6 : Own [] w w6 [.blk m6 [(str (lg0 key).key), (str (lg0 key).tag), v6, (str (lg0 key).b)] 150, .row v6 143 4 (lg0 key).acts.length (List.flatMap actc (lg0 key).acts)] := H1.splice [] [] [.blk m6 [(str (lg0 key).key), (str (lg0 key).tag), v6, (str (lg0 key).b)] 150, .row v6 143 4 (lg0 key).acts.length (List.flatMap actc (lg0 key).acts)] rfl rfl hq6 (Fits.solid True.intro (Fits.solid True.intro Fits.nil))
      refine WL.op rfl rfl (op_assign rfl ?_)
      refine WL.nil ?_
      refine WQ.next ?_
      refine WC.seq ?_
      refine WC.seq ?_
      refine WC.region ?_
      refine WL.op rfl rfl (op_move rfl ?_)
      refine WL.op rfl rfl (op_move rfl ?_)
      refine WL.op rfl rfl (op_callF Fa.C53 rfl ((ladds_ok m6 v6 lv (lg0 key) xs _ _ (H6.part [0, 1] rfl rfl) (fun w1 hf => (fun w1 hf => hA.fr hf (by simp)) w1 (H6.frPart (I := [0, 1]) rfl hf)) (lg0_fit (by omega)) (by show 0 + 65569 * xs.length < 2 ^ 45; omega) (by show 0 + xs.length < 2 ^ 40; omega)).mono (fun e w7 hq => ?_)))
      obtain ⟨v7, rfl, hq7⟩ := hq
      refine ⟨_, rfl, ?_⟩
      have H7 : Own [] w w7 [.blk m6 [(str ((lg0 key).adds xs).key), (str ((lg0 key).adds xs).tag), v7, (str ((lg0 key).adds xs).b)] 150, .row v7 143 4 ((lg0 key).adds xs).acts.length (List.flatMap actc ((lg0 key).adds xs).acts)] := H6.splice [0, 1] [.blk m6 [(str ((lg0 key).adds xs).key), (str ((lg0 key).adds xs).tag), v7, (str ((lg0 key).adds xs).b)] 150, .row v7 143 4 ((lg0 key).adds xs).acts.length (List.flatMap actc ((lg0 key).adds xs).acts)] [] rfl rfl hq7 (Fits.solid True.intro (Fits.solid True.intro Fits.nil))
      refine WL.op rfl rfl (op_neqN (b := 0) rfl rfl ?_)
      refine WL.nil ?_
      refine WQ.next ?_
      refine WC.cond rfl (fun (hb8 : (decide ((addE xs) ≠ 0)) = true) => ?_) (fun (hb8 : (decide ((addE xs) ≠ 0)) = false) => ?_)
      ·
        have hc8 := of_decide_eq_true hb8
        refine WC.seq ?_
        refine WC.region ?_
        refine WL.op rfl rfl (op_callF Fa.C52 rfl ((alive39_ok _).mono (fun e w9 hq => ?_)))
        obtain ⟨rfl, hf9⟩ := hq
        refine ⟨_, rfl, ?_⟩
        have H9 := H7.fr' hf9
        refine WL.op rfl rfl (op_assign rfl ?_)
        refine WL.nil ?_
        refine WQ.next ?_
        refine WC.ret ?_
        refine WQ.thenRet ?_
        refine WQ.out (.tmp rfl .nil) ?_
        exact ⟨rfl, H9.fr⟩
      ·
        have hc8 := of_decide_eq_false hb8
        refine WC.skip ?_
        refine WQ.next ?_
        refine WC.seq ?_
        refine WC.region ?_
        have h0 : addE xs = 0 := Decidable.not_not.mp hc8
        have ha0 := addE_all h0
        have hNf := to_fit (key := key) (xs := xs) (by omega) (by omega) (Nat.le_refl _)
        have H10 : Own [] w w7 [.blk m6 [(str ((lg0 key).to xs xs.length).key), (str ((lg0 key).to xs xs.length).tag), v7, (str ((lg0 key).to xs xs.length).b)] 150, .row v7 143 4 ((lg0 key).to xs xs.length).acts.length (List.flatMap actc ((lg0 key).to xs xs.length).acts)] := by have h := (show Own [] w w7 [.blk m6 [(str ((lg0 key).adds xs).key), (str ((lg0 key).adds xs).tag), v7, (str ((lg0 key).adds xs).b)] 150, .row v7 143 4 ((lg0 key).adds xs).acts.length (List.flatMap actc ((lg0 key).adds xs).acts)] from H7); rw [adds_yes h0] at h; exact h
        refine WL.op rfl rfl (op_move rfl ?_)
        refine WL.op rfl rfl (op_callF Fa.C56 rfl ((lbytes_ok m6 v7 ((lg0 key).to xs xs.length) _ (H10.cellsAt (i := 0) rfl)).mono (fun e w11 hq => ?_)))
        obtain ⟨rfl, hf11⟩ := hq
        refine ⟨_, rfl, ?_⟩
        have H11 := H10.fr' hf11
        refine WL.op rfl rfl (op_assign rfl ?_)
        refine WL.nil ?_
        refine WQ.next ?_
        refine WC.seq ?_
        refine WC.region ?_
        refine WL.op rfl rfl (op_move rfl ?_)
        refine WL.op rfl rfl (op_convU16N (hs := Try.underlying92) (hd := Try.underlying3) rfl ?_)
        refine WL.op rfl rfl (op_move rfl ?_)
        refine WL.op rfl rfl (op_lenStr Try.underlying9 rfl ?_)
        refine WL.op rfl rfl (op_addN (b := 1) rfl rfl (by omega) ?_)
        refine WL.op rfl rfl (op_remN rfl rfl (by omega) ?_)
        refine WL.op rfl rfl (op_assign rfl ?_)
        refine WL.nil ?_
        refine WQ.next ?_
        refine WC.seq ?_
        refine WC.region ?_
        obtain ⟨n, hne⟩ : ∃ n, n = (cut.toNat % (((lg0 key).to xs xs.length).b.length + 1)) := ⟨_, rfl⟩
        rw [← hne]
        refine WL.op rfl rfl (op_move rfl ?_)
        refine WL.op rfl rfl (op_callF Fa.C64 rfl ((ends_ok (((lg0 key).to xs xs.length).b) _ (by have := hNf.2.1; omega)).mono (fun e w12 hq => ?_)))
        obtain ⟨v12, rfl, hq12⟩ := hq
        refine ⟨_, rfl, ?_⟩
        have H12 : Own [] w w12 [.blk m6 [(str ((lg0 key).to xs xs.length).key), (str ((lg0 key).to xs xs.length).tag), v7, (str ((lg0 key).to xs xs.length).b)] 150, .row v7 143 4 ((lg0 key).to xs xs.length).acts.length (List.flatMap actc ((lg0 key).to xs xs.length).acts), .row v12 3 1 (eds (((lg0 key).to xs xs.length).b)).length (List.map vN (eds (((lg0 key).to xs xs.length).b)))] := H11.splice [] [] [.row v12 3 1 (eds (((lg0 key).to xs xs.length).b)).length (List.map vN (eds (((lg0 key).to xs xs.length).b)))] rfl rfl hq12 (Fits.solid True.intro Fits.nil)
        refine WL.op rfl rfl (op_assign rfl ?_)
        refine WL.nil ?_
        refine WQ.next ?_
        refine WC.seq ?_
        refine WC.region ?_
        have H13 : Own [] w w12 [.blk m6 [(str ((lg0 key).to xs xs.length).key), (str ((lg0 key).to xs xs.length).tag), v7, (str ((lg0 key).to xs xs.length).b)] 150, .row v7 143 4 ((lg0 key).to xs xs.length).acts.length (List.flatMap actc ((lg0 key).to xs xs.length).acts), .row v12 3 1 xs.length (List.map vN (eList key xs xs.length))] := by have h := (show Own [] w w12 [.blk m6 [(str ((lg0 key).to xs xs.length).key), (str ((lg0 key).to xs xs.length).tag), v7, (str ((lg0 key).to xs xs.length).b)] 150, .row v7 143 4 ((lg0 key).to xs xs.length).acts.length (List.flatMap actc ((lg0 key).to xs xs.length).acts), .row v12 3 1 (eds (((lg0 key).to xs xs.length).b)).length (List.map vN (eds (((lg0 key).to xs xs.length).b)))] from H12); rw [eds_to, eList_len] at h; exact h
        refine WL.op rfl rfl (op_assign rfl ?_)
        refine WL.nil ?_
        refine WQ.next ?_
        refine WC.cut (α := Nat) (fun k => [(0, (str key)), (1, lv), (7, (ptr m6 0)), (8, (str ((lg0 key).to xs xs.length).b)), (9, (vN n)), (10, v12), (11, (vN k))]) (fun k w' => (k ≤ xs.length ∧ ((lg0 key).to xs k).b.length ≤ n ∧ (k < xs.length → n < ((lg0 key).to xs (k + 1)).b.length)) ∧ Own [] w w' [.blk m6 [(str ((lg0 key).to xs xs.length).key), (str ((lg0 key).to xs xs.length).tag), v7, (str ((lg0 key).to xs xs.length).b)] 150, .row v7 143 4 ((lg0 key).to xs xs.length).acts.length (List.flatMap actc ((lg0 key).to xs xs.length).acts), .row v12 3 1 xs.length (List.map vN (eList key xs xs.length))]) ?_ ?_
        ·
          refine WC.block ?_
          refine WC.loop (α := Nat) (fun k => [(0, (str key)), (1, lv), (7, (ptr m6 0)), (8, (str ((lg0 key).to xs xs.length).b)), (9, (vN n)), (10, v12), (11, (vN k))]) (fun k w' => (k ≤ xs.length ∧ ((lg0 key).to xs k).b.length ≤ n) ∧ Own [] w w' [.blk m6 [(str ((lg0 key).to xs xs.length).key), (str ((lg0 key).to xs xs.length).tag), v7, (str ((lg0 key).to xs xs.length).b)] 150, .row v7 143 4 ((lg0 key).to xs xs.length).acts.length (List.flatMap actc ((lg0 key).to xs xs.length).acts), .row v12 3 1 xs.length (List.map vN (eList key xs xs.length))]) (fun k => xs.length - k) 0 ⟨⟨Nat.zero_le _, Nat.zero_le _⟩, H13⟩ ⟨rfl, rfl, rfl, rfl, rfl, rfl, rfl, trivial⟩ ?_
          rintro k w14 ⟨hinv, H14⟩
          show WC _ _ _ _ _ [(0, (str key)), (1, lv), (7, (ptr m6 0)), (8, (str ((lg0 key).to xs xs.length).b)), (9, (vN n)), (10, v12), (11, (vN k))] _
          refine WC.seq ?_
          refine WC.seq ?_
          refine WC.region ?_
          refine WL.op rfl rfl (op_move rfl ?_)
          refine WL.op rfl rfl (op_move rfl ?_)
          refine WL.op rfl rfl (op_lenA Try.underlying93 rfl (H14.arrR (i := 2) rfl) ?_)
          refine WL.op rfl rfl (op_lssN rfl rfl ?_)
          refine WL.op rfl rfl (op_move rfl ?_)
          refine WL.split (t := 46) rfl (fun (hb15 : (decide (k < xs.length)) = true) => ?_) (fun (hb15 : (decide (k < xs.length)) = false) => ?_)
          ·
            have hc15 := of_decide_eq_true hb15
            refine WL.yes rfl rfl rfl hb15 rfl (op_move rfl ?_)
            refine WL.yes rfl rfl rfl hb15 rfl (op_move rfl ?_)
            refine WL.yes rfl rfl rfl hb15 rfl (op_indexAddr1 Try.underlying93 Fa.I3 rfl (H14.arrR (i := 2) rfl) rfl (by omega) ?_)
            refine WL.yes rfl rfl rfl hb15 rfl (op_load rfl ((H14.arrR (i := 2) rfl).at (get_map vN 0 (Arr.ltM (H14.arrR (i := 2) rfl) (by omega)))) Try.underlying3 rfl ?_)
            refine WL.yes rfl rfl rfl hb15 rfl (op_move rfl ?_)
            refine WL.yes rfl rfl rfl hb15 rfl (op_leqN rfl rfl ?_)
            refine WL.op rfl rfl (op_pickT rfl hb15 rfl ?_)
            refine WL.nil ?_
            refine WQ.next ?_
            refine WC.cond rfl (fun (hb16 : (decide (((eList key xs xs.length).getD k 0) ≤ n)) = true) => ?_) (fun (hb16 : (decide (((eList key xs xs.length).getD k 0) ≤ n)) = false) => ?_)
            ·
              have hc16 := of_decide_eq_true hb16
              refine WC.skip ?_
              refine WQ.next ?_
              refine WC.block ?_
              refine WC.region ?_
              refine WL.op rfl rfl (op_move rfl ?_)
              refine WL.op rfl rfl (op_addN (b := 1) rfl rfl (by omega) ?_)
              refine WL.op rfl rfl (op_assign rfl ?_)
              refine WL.nil ?_
              refine WQ.inNormal ?_
              exact WQ.round (k + 1) ⟨⟨by omega, by have h := hc16; rw [eList_at (by omega)] at h; exact h⟩, H14⟩ ⟨rfl, rfl, rfl, rfl, rfl, rfl, rfl, trivial⟩ (by omega)
            ·
              have hc16 := of_decide_eq_false hb16
              refine WC.exit ?_
              refine WQ.thenExit ?_
              refine WQ.thenExit ?_
              refine WQ.inHere ?_
              exact WQ.here k ⟨⟨hinv.1, hinv.2, fun _ => by have h := hc16; rw [eList_at (by omega)] at h; omega⟩, H14⟩ ⟨rfl, rfl, rfl, rfl, rfl, rfl, rfl, trivial⟩
          ·
            have hc15 := of_decide_eq_false hb15
            refine WL.no rfl rfl rfl hb15 rfl ?_
            refine WL.no rfl rfl rfl hb15 rfl ?_
            refine WL.no rfl rfl rfl hb15 rfl ?_
            refine WL.no rfl rfl rfl hb15 rfl ?_
            refine WL.no rfl rfl rfl hb15 rfl ?_
            refine WL.no rfl rfl rfl hb15 rfl ?_
            refine WL.op rfl rfl (op_pickF rfl hb15 rfl ?_)
            refine WL.nil ?_
            refine WQ.next ?_
            refine WC.no rfl rfl ?_
            refine WC.exit ?_
            refine WQ.thenExit ?_
            refine WQ.thenExit ?_
            refine WQ.inHere ?_
            exact WQ.here k ⟨⟨hinv.1, hinv.2, fun h => by omega⟩, H14⟩ ⟨rfl, rfl, rfl, rfl, rfl, rfl, rfl, trivial⟩
        ·
          rintro k w17 ⟨⟨hk1, hk2, hk3⟩, H17⟩
          show WC _ _ _ _ _ [(0, (str key)), (1, lv), (7, (ptr m6 0)), (8, (str ((lg0 key).to xs xs.length).b)), (9, (vN n)), (10, v12), (11, (vN k))] _
          refine WC.seq ?_
          refine WC.region ?_
          refine WL.op rfl rfl (op_assign rfl ?_)
          refine WL.nil ?_
          refine WQ.next ?_
          refine WC.cut (α := Unit) (fun _ => [(0, (str key)), (1, lv), (7, (ptr m6 0)), (8, (str ((lg0 key).to xs xs.length).b)), (9, (vN n)), (10, v12), (11, (vN k)), (12, (vN ((lg0 key).to xs k).b.length))]) (fun _ w' => Own [] w w' [.blk m6 [(str ((lg0 key).to xs xs.length).key), (str ((lg0 key).to xs xs.length).tag), v7, (str ((lg0 key).to xs xs.length).b)] 150, .row v7 143 4 ((lg0 key).to xs xs.length).acts.length (List.flatMap actc ((lg0 key).to xs xs.length).acts), .row v12 3 1 xs.length (List.map vN (eList key xs xs.length))]) ?_ ?_
          ·
            refine WC.seq ?_
            refine WC.region ?_
            refine WL.op rfl rfl (op_move rfl ?_)
            refine WL.op rfl rfl (op_gtrN (b := 0) rfl rfl ?_)
            refine WL.nil ?_
            refine WQ.next ?_
            refine WC.cond rfl (fun (hb18 : (decide (k > 0)) = true) => ?_) (fun (hb18 : (decide (k > 0)) = false) => ?_)
            ·
              have hc18 := of_decide_eq_true hb18
              refine WC.region ?_
              refine WL.op rfl rfl (op_move rfl ?_)
              refine WL.op rfl rfl (op_move rfl ?_)
              refine WL.op rfl rfl (op_subN (b := 1) rfl rfl (by omega) (by omega) ?_)
              refine WL.op rfl rfl (op_indexAddr1 Try.underlying93 Fa.I3 rfl (H17.arrR (i := 2) rfl) rfl (by omega) ?_)
              refine WL.op rfl rfl (op_load rfl ((H17.arrR (i := 2) rfl).at (get_map vN 0 (Arr.ltM (H17.arrR (i := 2) rfl) (by omega)))) Try.underlying3 rfl ?_)
              refine WL.op rfl rfl (op_assign rfl ?_)
              refine WL.nil ?_
              exact WQ.here () H17 ⟨rfl, rfl, rfl, rfl, rfl, rfl, rfl, (by show some (vN ((eList key xs xs.length).getD (k - 1) 0)) = some (vN ((lg0 key).to xs k).b.length); rw [eList_at (by omega), show k - 1 + 1 = k by omega]), trivial⟩
            ·
              have hc18 := of_decide_eq_false hb18
              refine WC.skip ?_
              have hk0 : k = 0 := by omega
              subst hk0
              exact WQ.here () H17 ⟨rfl, rfl, rfl, rfl, rfl, rfl, rfl, rfl, trivial⟩
          ·
            rintro ⟨⟩ w19 H19
            show WC _ _ _ _ _ [(0, (str key)), (1, lv), (7, (ptr m6 0)), (8, (str ((lg0 key).to xs xs.length).b)), (9, (vN n)), (10, v12), (11, (vN k)), (12, (vN ((lg0 key).to xs k).b.length))] _
            refine WC.seq ?_
            refine WC.region ?_
            refine WL.op rfl rfl (op_assign rfl ?_)
            refine WL.nil ?_
            refine WQ.next ?_
            refine WC.cut (α := Unit) (fun _ => [(0, (str key)), (1, lv), (7, (ptr m6 0)), (8, (str ((lg0 key).to xs xs.length).b)), (9, (vN n)), (10, v12), (11, (vN k)), (12, (vN ((lg0 key).to xs k).b.length)), (13, (vN (if ((lg0 key).to xs k).b.length < n then 390 else 0)))]) (fun _ w' => Own [] w w' [.blk m6 [(str ((lg0 key).to xs xs.length).key), (str ((lg0 key).to xs xs.length).tag), v7, (str ((lg0 key).to xs xs.length).b)] 150, .row v7 143 4 ((lg0 key).to xs xs.length).acts.length (List.flatMap actc ((lg0 key).to xs xs.length).acts), .row v12 3 1 xs.length (List.map vN (eList key xs xs.length))]) ?_ ?_
            ·
              refine WC.seq ?_
              refine WC.region ?_
              refine WL.op rfl rfl (op_move rfl ?_)
              refine WL.op rfl rfl (op_move rfl ?_)
              refine WL.op rfl rfl (op_lssN rfl rfl ?_)
              refine WL.nil ?_
              refine WQ.next ?_
              refine WC.cond rfl (fun (hb20 : (decide (((lg0 key).to xs k).b.length < n)) = true) => ?_) (fun (hb20 : (decide (((lg0 key).to xs k).b.length < n)) = false) => ?_)
              ·
                have hc20 := of_decide_eq_true hb20
                refine WC.region ?_
                refine WL.op rfl rfl (op_assign rfl ?_)
                refine WL.nil ?_
                exact WQ.here () H19 ⟨rfl, rfl, rfl, rfl, rfl, rfl, rfl, rfl, (by rw [if_pos hc20]; rfl), trivial⟩
              ·
                have hc20 := of_decide_eq_false hb20
                refine WC.skip ?_
                exact WQ.here () H19 ⟨rfl, rfl, rfl, rfl, rfl, rfl, rfl, rfl, (by rw [if_neg hc20]; rfl), trivial⟩
            ·
              rintro ⟨⟩ w21 H21
              show WC _ _ _ _ _ [(0, (str key)), (1, lv), (7, (ptr m6 0)), (8, (str ((lg0 key).to xs xs.length).b)), (9, (vN n)), (10, v12), (11, (vN k)), (12, (vN ((lg0 key).to xs k).b.length)), (13, (vN (if ((lg0 key).to xs k).b.length < n then 390 else 0)))] _
              have hn3 : n ≤ ((lg0 key).to xs xs.length).b.length := by have := Nat.mod_lt cut.toNat (show 0 < ((lg0 key).to xs xs.length).b.length + 1 by omega); omega
              have hto := torn_ok (key := key) ha0 hk1 hk2 hk3 hn3
              have hKf := to_fit (key := key) (xs := xs) (by omega) (by omega) hk1
              refine WC.seq ?_
              refine WC.region ?_
              refine WL.op rfl rfl (op_move rfl ?_)
              refine WL.op rfl rfl (op_move rfl ?_)
              refine WL.op rfl rfl (op_move rfl ?_)
              refine WL.op rfl rfl (op_sliceStrHi Try.underlying9 rfl rfl (by omega) ?_)
              refine WL.op rfl rfl (op_callF Fa.C62 rfl ((openEq_ok key (((lg0 key).to xs xs.length).b.take n) ((lg0 key).to xs k) (if ((lg0 key).to xs k).b.length < n then 390 else 0) hto _ (by omega) (by rw [List.length_take]; have := hNf.2.1; omega)).mono (fun e w22 hq => ?_)))
              obtain ⟨m22, v22, rfl, hq22⟩ := hq
              refine ⟨_, rfl, ?_⟩
              have H22 : Own [] w w22 [.blk m6 [(str ((lg0 key).to xs xs.length).key), (str ((lg0 key).to xs xs.length).tag), v7, (str ((lg0 key).to xs xs.length).b)] 150, .row v7 143 4 ((lg0 key).to xs xs.length).acts.length (List.flatMap actc ((lg0 key).to xs xs.length).acts), .row v12 3 1 xs.length (List.map vN (eList key xs xs.length)), .blk m22 [(str ((lg0 key).to xs k).key), (str ((lg0 key).to xs k).tag), v22, (str ((lg0 key).to xs k).b)] 150, .row v22 143 4 ((lg0 key).to xs k).acts.length (List.flatMap actc ((lg0 key).to xs k).acts)] := H21.splice [] [] [.blk m22 [(str ((lg0 key).to xs k).key), (str ((lg0 key).to xs k).tag), v22, (str ((lg0 key).to xs k).b)] 150, .row v22 143 4 ((lg0 key).to xs k).acts.length (List.flatMap actc ((lg0 key).to xs k).acts)] rfl rfl hq22 (Fits.solid True.intro (Fits.solid True.intro Fits.nil))
              refine WL.op rfl rfl (op_move rfl ?_)
              refine WL.op rfl rfl (op_extract rfl rfl ?_)
              refine WL.op rfl rfl (op_extract rfl rfl ?_)
              refine WL.op rfl rfl (op_extract rfl rfl ?_)
              refine WL.op rfl rfl (op_assign rfl ?_)
              refine WL.op rfl rfl (op_assign rfl ?_)
              refine WL.op rfl rfl (op_assign rfl ?_)
              refine WL.nil ?_
              refine WQ.next ?_
              refine WC.seq ?_
              refine WC.seq ?_
              refine WC.draw 28 Fa.M H22 (HW.op rfl (fun w1 H1 => op_move rfl ⟨rfl, Fr.refl _ _⟩) (HW.op rfl (fun w1 H1 => op_lenA Try.underlying93 rfl (H1.arrR (i := 2) rfl) ⟨rfl, Fr.refl _ _⟩) (HW.op rfl (fun w1 H1 => op_move rfl ⟨rfl, Fr.refl _ _⟩) (HW.op rfl (fun w1 H1 => op_lenA Try.underlying72 rfl (H1.arr hA) ⟨rfl, Fr.refl _ _⟩) (HW.op rfl (fun w1 H1 => op_neqN rfl rfl ⟨rfl, Fr.refl _ _⟩) (HW.op rfl (fun w1 H1 => op_move rfl ⟨rfl, Fr.refl _ _⟩) (HW.yes rfl rfl rfl (decide_eq_false (fun h => h rfl)) (fun w1 H1 => op_move rfl ⟨rfl, Fr.refl _ _⟩) (HW.yes rfl rfl rfl (decide_eq_false (fun h => h rfl)) (fun w1 H1 => op_eqlPN Fa.PT75 rfl rfl ⟨rfl, Fr.refl _ _⟩) (HW.op rfl (fun w1 H1 => op_pickF rfl (decide_eq_false (fun h => h rfl)) rfl ⟨rfl, Fr.refl _ _⟩) (HW.op rfl (fun w1 H1 => op_move rfl ⟨rfl, Fr.refl _ _⟩) (HW.yes rfl rfl rfl rfl (fun w1 H1 => op_move rfl ⟨rfl, Fr.refl _ _⟩) (HW.yes rfl rfl rfl rfl (fun w1 H1 => op_move rfl ⟨rfl, Fr.refl _ _⟩) (HW.yes rfl rfl rfl rfl (fun w1 H1 => op_neqN rfl rfl ⟨rfl, Fr.refl _ _⟩) (HW.op rfl (fun w1 H1 => op_pickF rfl rfl rfl ⟨rfl, Fr.refl _ _⟩) (HW.op rfl (fun w1 H1 => op_move rfl ⟨rfl, Fr.refl _ _⟩) (HW.yes rfl rfl rfl (decide_eq_false (fun h => h rfl)) (fun w1 H1 => op_move rfl ⟨rfl, Fr.refl _ _⟩) (HW.yes rfl rfl rfl (decide_eq_false (fun h => h rfl)) (fun w1 H1 => op_move rfl ⟨rfl, Fr.refl _ _⟩) (HW.yes rfl rfl rfl (decide_eq_false (fun h => h rfl)) (fun w1 H1 => op_neqN rfl rfl ⟨rfl, Fr.refl _ _⟩) (HW.op rfl (fun w1 H1 => op_pickF rfl (decide_eq_false (fun h => h rfl)) rfl ⟨rfl, Fr.refl _ _⟩) (HW.op rfl (fun w1 H1 => op_move rfl ⟨rfl, Fr.refl _ _⟩) (HW.yes rfl rfl rfl (decide_eq_false (fun h => h rfl)) (fun w1 H1 => op_move rfl ⟨rfl, Fr.refl _ _⟩) (HW.fltY (mk := fun bq => bq.2) (ent := fun bq => .row bq.2 143 4 ((lg0 key).to xs k).acts.length (List.flatMap actc ((lg0 key).to xs k).acts)) rfl rfl rfl (decide_eq_false (fun h => h rfl)) (fun w1 H1 => op_callF Fa.C55 rfl ((lacts_ok m22 v22 ((lg0 key).to xs k) _ (H1.cellsAt (i := 3) rfl) (H1.arrR (i := 4) rfl) (by have := hKf.2.2; omega)).mono (fun e w2 ⟨v, he, hO⟩ => ⟨_, he, (0, v), rfl, hO, True.intro⟩))) (HW.yes rfl rfl rfl (decide_eq_false (fun h => h rfl)) (fun w1 H1 => op_move rfl ⟨rfl, Fr.refl _ _⟩) (HW.yes rfl rfl rfl (decide_eq_false (fun h => h rfl)) (fun w1 H1 => op_move rfl ⟨rfl, Fr.refl _ _⟩) (HW.yes rfl rfl rfl (decide_eq_false (fun h => h rfl)) (fun w1 H1 => op_cutHi Try.underlying72 Fa.I143 rfl (H1.arr hA) rfl (by omega) ⟨rfl, Fr.refl _ _⟩) (HW.opFsY 0 rfl rfl rfl (fun _ => rfl) (decide_eq_false (fun h => h rfl)) (fun bq w1 H1 => op_callF Fa.C61 rfl ((sameA_ok _ _ (((lg0 key).to xs k).acts) (xs.take k) _ (H1.arrR (i := 5) rfl) ((Arr.lenF (((H1.arr hA)).cutHiF (fun _ => rfl) (b := k) (by omega)) (fun _ => rfl) (by decide))) (by have := hKf.2.2; omega)).mono (fun e w2 hq => ⟨_, hq.1, rfl, hq.2⟩))) (HW.yes rfl rfl rfl (decide_eq_false (fun h => h rfl)) (fun w1 H1 => op_not rfl ⟨rfl, Fr.refl _ _⟩) (HW.op rfl (fun w1 H1 => op_pickF rfl (decide_eq_false (fun h => h rfl)) rfl ⟨rfl, Fr.refl _ _⟩)  HW.nil)))))))))))))))))))))))))))) (by kernel_rfl) ?_
              intro β25 w25 H25
              refine WL.nil ?_
              refine WQ.next ?_
              refine WC.no rfl (congrArg Bool.not (decide_eq_true (to_acts0 hk1))) ?_
              refine WC.skip ?_
              refine WQ.next ?_
              refine WC.seq ?_
              refine WC.region ?_
              refine WL.op rfl rfl (op_move rfl ?_)
              refine WL.op rfl rfl (op_move rfl ?_)
              refine WL.op rfl rfl (op_move rfl ?_)
              refine WL.op rfl rfl (op_cutLo Try.underlying72 Fa.I143 rfl (H25.arr hA) rfl (by omega) ?_)
              refine WL.op rfl rfl (op_callF Fa.C53 rfl ((addsEq_ok m22 v22 (cutV lv k xs.length 4) ((lg0 key).to xs k) (xs.drop k) ((lg0 key).to xs xs.length) ⟨addE_drop h0 hk1, adds_drop h0 hk1⟩ _ _ (H25.part [3, 4] rfl rfl) (fun w1 hf => (fun w1 hf => Arr.lenF ((fun w1 hf => ((fun w1 hf => hA.fr hf (by simp)) w1 hf).cutLoF (fun _ => rfl) (by decide) (a := k) (by omega)) w1 hf) (fun _ => rfl) (by decide)) w1 (H25.frPart (I := [3, 4]) rfl hf)) hKf.1 (by rw [List.length_drop]; have := hKf.2.1; omega) (by rw [List.length_drop]; have := hKf.2.2; omega)).mono (fun e w26 hq => ?_)))
              obtain ⟨v26, rfl, hq26⟩ := hq
              refine ⟨_, rfl, ?_⟩
              have H26 : Own [] w w26 [.blk m6 [(str ((lg0 key).to xs xs.length).key), (str ((lg0 key).to xs xs.length).tag), v7, (str ((lg0 key).to xs xs.length).b)] 150, .row v7 143 4 ((lg0 key).to xs xs.length).acts.length (List.flatMap actc ((lg0 key).to xs xs.length).acts), .row v12 3 1 xs.length (List.map vN (eList key xs xs.length)), .blk m22 [(str ((lg0 key).to xs xs.length).key), (str ((lg0 key).to xs xs.length).tag), v26, (str ((lg0 key).to xs xs.length).b)] 150, .row v26 143 4 ((lg0 key).to xs xs.length).acts.length (List.flatMap actc ((lg0 key).to xs xs.length).acts), .row (β25 21).2 143 4 ((lg0 key).to xs k).acts.length (List.flatMap actc ((lg0 key).to xs k).acts)] := H25.splice [3, 4] [.blk m22 [(str ((lg0 key).to xs xs.length).key), (str ((lg0 key).to xs xs.length).tag), v26, (str ((lg0 key).to xs xs.length).b)] 150, .row v26 143 4 ((lg0 key).to xs xs.length).acts.length (List.flatMap actc ((lg0 key).to xs xs.length).acts)] [] rfl rfl hq26 (Fits.solid True.intro (Fits.solid True.intro Fits.nil))
              refine WL.op rfl rfl (op_eqlN (b := 0) rfl rfl ?_)
              refine WL.op rfl rfl (op_move rfl ?_)
              refine WL.yes rfl rfl rfl (by decide) rfl (op_move rfl ?_)
              refine WL.yes rfl rfl rfl (by decide) rfl (op_callF Fa.C56 rfl ((lbytes_ok m22 v26 ((lg0 key).to xs xs.length) _ (H26.cellsAt (i := 3) rfl)).mono (fun e w27 hq => ?_)))
              obtain ⟨rfl, hf27⟩ := hq
              refine ⟨_, rfl, ?_⟩
              have H27 := H26.fr' hf27
              refine WL.yes rfl rfl rfl (by decide) rfl (op_move rfl ?_)
              refine WL.yes rfl rfl rfl (by decide) rfl (op_eqlStr rfl rfl ?_)
              refine WL.op rfl rfl (op_pickT rfl (by decide) rfl ?_)
              refine WL.op rfl rfl (op_move rfl ?_)
              refine WL.yes rfl rfl rfl (decide_eq_true rfl) rfl (op_move rfl ?_)
              refine WL.yes rfl rfl rfl (decide_eq_true rfl) rfl (op_callF Fa.C57 rfl ((ltag_ok m22 v26 ((lg0 key).to xs xs.length) _ (H27.cellsAt (i := 3) rfl)).mono (fun e w28 hq => ?_)))
              obtain ⟨rfl, hf28⟩ := hq
              refine ⟨_, rfl, ?_⟩
              have H28 := H27.fr' hf28
              refine WL.yes rfl rfl rfl (decide_eq_true rfl) rfl (op_move rfl ?_)
              refine WL.yes rfl rfl rfl (decide_eq_true rfl) rfl (op_callF Fa.C57 rfl ((ltag_ok m6 v7 ((lg0 key).to xs xs.length) _ (H28.cellsAt (i := 0) rfl)).mono (fun e w29 hq => ?_)))
              obtain ⟨rfl, hf29⟩ := hq
              refine ⟨_, rfl, ?_⟩
              have H29 := H28.fr' hf29
              refine WL.yes rfl rfl rfl (decide_eq_true rfl) rfl (op_eqlStr rfl rfl ?_)
              refine WL.op rfl rfl (op_pickT rfl (decide_eq_true rfl) rfl ?_)
              refine WL.op rfl rfl (op_move rfl ?_)
              refine WL.yes rfl rfl rfl (decide_eq_true rfl) rfl (op_callF Fa.C52 rfl ((alive39_ok _).mono (fun e w30 hq => ?_)))
              obtain ⟨rfl, hf30⟩ := hq
              refine ⟨_, rfl, ?_⟩
              have H30 := H29.fr' hf30
              refine WL.op rfl rfl (op_pickT rfl (decide_eq_true rfl) rfl ?_)
              refine WL.op rfl rfl (op_assign rfl ?_)
              refine WL.nil ?_
              refine WQ.next ?_
              refine WC.ret ?_
              refine WQ.out (.tmp rfl .nil) ?_
              exact ⟨rfl, H30.fr⟩
end Go.Proofs.Ytpnghdalnghpcaa
/-! from WLaw39c -/
namespace Go.Proofs.Ytpnghdalnghpcaa
open Go.Owl Go.Spec
set_option maxRecDepth 100000 in
theorem logSpoilt_ok (key : List UInt8) (lv : Value) (xs : List Ac) (which at_ by_ : UInt8) (w : World) (hk : key.length ≤ 140737488351232) (hA : Arr w lv 4 xs.length (List.flatMap actc xs)) (hB : ∀ x ∈ xs, x.t.length ≤ 140737488351232) (hn : xs.length < 2 ^ 47) :
    Calls Try.prog 12 #[(str key), lv, (vU8 which), (vU8 at_), (vU8 by_)] w (fun e w' => e = .returned (.bool true) ∧ Fr [] w w') := by
  refine enter (args := [(str key), lv, (vU8 which), (vU8 at_), (vU8 by_)]) Try.func12 rfl rfl ?_
  have H0 : Own [] w w [] := Own.start w []
  refine WC.seq ?_
  refine WC.region ?_
  refine WL.op rfl rfl (op_assign rfl ?_)
  refine WL.nil ?_
  refine WQ.next ?_
  refine WC.seq ?_
  refine WC.seq ?_
  refine WC.region ?_
  refine WL.op rfl rfl (op_move rfl ?_)
  refine WL.op rfl rfl (op_callF Fa.C51 rfl ((large39_ok _ xs _ (H0.arr hA) hB (by omega)).mono (fun e w1 hq => ?_)))
  obtain ⟨rfl, hf1⟩ := hq
  refine ⟨_, rfl, ?_⟩
  have H1 := H0.fr' hf1
  refine WL.op rfl rfl (op_move rfl ?_)
  refine WL.split (t := 27) rfl (fun (hb2 : (large39 xs) = true) => ?_) (fun (hb2 : (large39 xs) = false) => ?_)
  ·
    refine WL.no rfl rfl rfl hb2 rfl ?_
    refine WL.no rfl rfl rfl hb2 rfl ?_
    refine WL.no rfl rfl rfl hb2 rfl ?_
    refine WL.op rfl rfl (op_pickT rfl hb2 rfl ?_)
    refine WL.op rfl rfl (op_move rfl ?_)
    refine WL.no rfl rfl rfl rfl rfl ?_
    refine WL.no rfl rfl rfl rfl rfl ?_
    refine WL.no rfl rfl rfl rfl rfl ?_
    refine WL.op rfl rfl (op_pickT rfl rfl rfl ?_)
    refine WL.op rfl rfl (op_move rfl ?_)
    refine WL.no rfl rfl rfl rfl rfl ?_
    refine WL.no rfl rfl rfl rfl rfl ?_
    refine WL.op rfl rfl (op_pickT rfl rfl rfl ?_)
    refine WL.nil ?_
    refine WQ.next ?_
    refine WC.yes rfl rfl ?_
    refine WC.seq ?_
    refine WC.region ?_
    refine WL.op rfl rfl (op_callF Fa.C52 rfl ((alive39_ok _).mono (fun e w3 hq => ?_)))
    obtain ⟨rfl, hf3⟩ := hq
    refine ⟨_, rfl, ?_⟩
    have H3 := H1.fr' hf3
    refine WL.op rfl rfl (op_assign rfl ?_)
    refine WL.nil ?_
    refine WQ.next ?_
    refine WC.ret ?_
    refine WQ.thenRet ?_
    refine WQ.out (.tmp rfl .nil) ?_
    exact ⟨rfl, H3.fr⟩
  ·
    have hlg := large39_no hb2
    refine WL.yes rfl rfl rfl hb2 rfl (op_move rfl ?_)
    refine WL.yes rfl rfl rfl hb2 rfl (op_lenStr Try.underlying9 rfl ?_)
    refine WL.yes rfl rfl rfl hb2 rfl (op_gtrN (b := 1024) rfl rfl ?_)
    refine WL.op rfl rfl (op_pickF rfl hb2 rfl ?_)
    refine WL.op rfl rfl (op_move rfl ?_)
    refine WL.split (t := 32) rfl (fun (hb4 : (decide (key.length > 1024)) = true) => ?_) (fun (hb4 : (decide (key.length > 1024)) = false) => ?_)
    ·
      have hc4 := of_decide_eq_true hb4
      refine WL.no rfl rfl rfl hb4 rfl ?_
      refine WL.no rfl rfl rfl hb4 rfl ?_
      refine WL.no rfl rfl rfl hb4 rfl ?_
      refine WL.op rfl rfl (op_pickT rfl hb4 rfl ?_)
      refine WL.op rfl rfl (op_move rfl ?_)
      refine WL.no rfl rfl rfl rfl rfl ?_
      refine WL.no rfl rfl rfl rfl rfl ?_
      refine WL.op rfl rfl (op_pickT rfl rfl rfl ?_)
      refine WL.nil ?_
      refine WQ.next ?_
      refine WC.yes rfl rfl ?_
      refine WC.seq ?_
      refine WC.region ?_
      refine WL.op rfl rfl (op_callF Fa.C52 rfl ((alive39_ok _).mono (fun e w5 hq => ?_)))
      obtain ⟨rfl, hf5⟩ := hq
      refine ⟨_, rfl, ?_⟩
      have H5 := H1.fr' hf5
      refine WL.op rfl rfl (op_assign rfl ?_)
      refine WL.nil ?_
      refine WQ.next ?_
      refine WC.ret ?_
      refine WQ.thenRet ?_
      refine WQ.out (.tmp rfl .nil) ?_
      exact ⟨rfl, H5.fr⟩
    ·
      have hc4 := of_decide_eq_false hb4
      refine WL.yes rfl rfl rfl hb4 rfl (op_move rfl ?_)
      refine WL.yes rfl rfl rfl hb4 rfl (op_lenA Try.underlying72 rfl (H1.arr hA) ?_)
      refine WL.yes rfl rfl rfl hb4 rfl (op_eqlN (b := 0) rfl rfl ?_)
      refine WL.op rfl rfl (op_pickF rfl hb4 rfl ?_)
      refine WL.op rfl rfl (op_move rfl ?_)
      refine WL.split (t := 37) rfl (fun (hb6 : (decide (xs.length = 0)) = true) => ?_) (fun (hb6 : (decide (xs.length = 0)) = false) => ?_)
      ·
        have hc6 := of_decide_eq_true hb6
        refine WL.no rfl rfl rfl hb6 rfl ?_
        refine WL.no rfl rfl rfl hb6 rfl ?_
        refine WL.op rfl rfl (op_pickT rfl hb6 rfl ?_)
        refine WL.nil ?_
        refine WQ.next ?_
        refine WC.yes rfl rfl ?_
        refine WC.seq ?_
        refine WC.region ?_
        refine WL.op rfl rfl (op_callF Fa.C52 rfl ((alive39_ok _).mono (fun e w7 hq => ?_)))
        obtain ⟨rfl, hf7⟩ := hq
        refine ⟨_, rfl, ?_⟩
        have H7 := H1.fr' hf7
        refine WL.op rfl rfl (op_assign rfl ?_)
        refine WL.nil ?_
        refine WQ.next ?_
        refine WC.ret ?_
        refine WQ.thenRet ?_
        refine WQ.out (.tmp rfl .nil) ?_
        exact ⟨rfl, H7.fr⟩
      ·
        have hc6 := of_decide_eq_false hb6
        refine WL.yes rfl rfl rfl hb6 rfl (op_move rfl ?_)
        refine WL.yes rfl rfl rfl hb6 rfl (op_eqlU8 (b := 0) rfl rfl ?_)
        refine WL.op rfl rfl (op_pickF rfl hb6 rfl ?_)
        refine WL.nil ?_
        refine WQ.next ?_
        refine WC.cond rfl (fun (hb8 : (decide (by_ = (0 : UInt8))) = true) => ?_) (fun (hb8 : (decide (by_ = (0 : UInt8))) = false) => ?_)
        ·
          have hc8 := of_decide_eq_true hb8
          refine WC.seq ?_
          refine WC.region ?_
          refine WL.op rfl rfl (op_callF Fa.C52 rfl ((alive39_ok _).mono (fun e w9 hq => ?_)))
          obtain ⟨rfl, hf9⟩ := hq
          refine ⟨_, rfl, ?_⟩
          have H9 := H1.fr' hf9
          refine WL.op rfl rfl (op_assign rfl ?_)
          refine WL.nil ?_
          refine WQ.next ?_
          refine WC.ret ?_
          refine WQ.thenRet ?_
          refine WQ.out (.tmp rfl .nil) ?_
          exact ⟨rfl, H9.fr⟩
        ·
          have hc8 := of_decide_eq_false hb8
          have hby : by_ ≠ 0 := hc8
          refine WC.skip ?_
          refine WQ.next ?_
          refine WC.seq ?_
          refine WC.region ?_
          refine WL.op rfl rfl (op_move rfl ?_)
          refine WL.op rfl rfl (op_callF Fa.C58 rfl ((lnew_ok key _).mono (fun e w10 hq => ?_)))
          obtain ⟨m10, v10, rfl, hq10⟩ := hq
          refine ⟨_, rfl, ?_⟩
          have H10 : Own [] w w10 [.blk m10 [(str (lg0 key).key), (str (lg0 key).tag), v10, (str (lg0 key).b)] 150, .row v10 143 4 (lg0 key).acts.length (List.flatMap actc (lg0 key).acts)] := H1.splice [] [] [.blk m10 [(str (lg0 key).key), (str (lg0 key).tag), v10, (str (lg0 key).b)] 150, .row v10 143 4 (lg0 key).acts.length (List.flatMap actc (lg0 key).acts)] rfl rfl hq10 (Fits.solid True.intro (Fits.solid True.intro Fits.nil))
          refine WL.op rfl rfl (op_assign rfl ?_)
          refine WL.nil ?_
          refine WQ.next ?_
          refine WC.seq ?_
          refine WC.seq ?_
          refine WC.region ?_
          refine WL.op rfl rfl (op_move rfl ?_)
          refine WL.op rfl rfl (op_move rfl ?_)
          refine WL.op rfl rfl (op_callF Fa.C53 rfl ((ladds_ok m10 v10 lv (lg0 key) xs _ _ (H10.part [0, 1] rfl rfl) (fun w1 hf => (fun w1 hf => hA.fr hf (by simp)) w1 (H10.frPart (I := [0, 1]) rfl hf)) (lg0_fit (by omega)) (by show 0 + 65569 * xs.length < 2 ^ 45; omega) (by show 0 + xs.length < 2 ^ 40; omega)).mono (fun e w11 hq => ?_)))
          obtain ⟨v11, rfl, hq11⟩ := hq
          refine ⟨_, rfl, ?_⟩
          have H11 : Own [] w w11 [.blk m10 [(str ((lg0 key).adds xs).key), (str ((lg0 key).adds xs).tag), v11, (str ((lg0 key).adds xs).b)] 150, .row v11 143 4 ((lg0 key).adds xs).acts.length (List.flatMap actc ((lg0 key).adds xs).acts)] := H10.splice [0, 1] [.blk m10 [(str ((lg0 key).adds xs).key), (str ((lg0 key).adds xs).tag), v11, (str ((lg0 key).adds xs).b)] 150, .row v11 143 4 ((lg0 key).adds xs).acts.length (List.flatMap actc ((lg0 key).adds xs).acts)] [] rfl rfl hq11 (Fits.solid True.intro (Fits.solid True.intro Fits.nil))
          refine WL.op rfl rfl (op_neqN (b := 0) rfl rfl ?_)
          refine WL.nil ?_
          refine WQ.next ?_
          refine WC.cond rfl (fun (hb12 : (decide ((addE xs) ≠ 0)) = true) => ?_) (fun (hb12 : (decide ((addE xs) ≠ 0)) = false) => ?_)
          ·
            have hc12 := of_decide_eq_true hb12
            refine WC.seq ?_
            refine WC.region ?_
            refine WL.op rfl rfl (op_callF Fa.C52 rfl ((alive39_ok _).mono (fun e w13 hq => ?_)))
            obtain ⟨rfl, hf13⟩ := hq
            refine ⟨_, rfl, ?_⟩
            have H13 := H11.fr' hf13
            refine WL.op rfl rfl (op_assign rfl ?_)
            refine WL.nil ?_
            refine WQ.next ?_
            refine WC.ret ?_
            refine WQ.thenRet ?_
            refine WQ.out (.tmp rfl .nil) ?_
            exact ⟨rfl, H13.fr⟩
          ·
            have hc12 := of_decide_eq_false hb12
            refine WC.skip ?_
            refine WQ.next ?_
            refine WC.seq ?_
            refine WC.region ?_
            have h0 : addE xs = 0 := Decidable.not_not.mp hc12
            have ha0 := addE_all h0
            have hNf := to_fit (key := key) (xs := xs) (by omega) (by omega) (Nat.le_refl _)
            have H14 : Own [] w w11 [.blk m10 [(str ((lg0 key).to xs xs.length).key), (str ((lg0 key).to xs xs.length).tag), v11, (str ((lg0 key).to xs xs.length).b)] 150, .row v11 143 4 ((lg0 key).to xs xs.length).acts.length (List.flatMap actc ((lg0 key).to xs xs.length).acts)] := by have h := (show Own [] w w11 [.blk m10 [(str ((lg0 key).adds xs).key), (str ((lg0 key).adds xs).tag), v11, (str ((lg0 key).adds xs).b)] 150, .row v11 143 4 ((lg0 key).adds xs).acts.length (List.flatMap actc ((lg0 key).adds xs).acts)] from H11); rw [adds_yes h0] at h; exact h
            refine WL.op rfl rfl (op_move rfl ?_)
            refine WL.op rfl rfl (op_callF Fa.C56 rfl ((lbytes_ok m10 v11 ((lg0 key).to xs xs.length) _ (H14.cellsAt (i := 0) rfl)).mono (fun e w15 hq => ?_)))
            obtain ⟨rfl, hf15⟩ := hq
            refine ⟨_, rfl, ?_⟩
            have H15 := H14.fr' hf15
            refine WL.op rfl rfl (op_assign rfl ?_)
            refine WL.nil ?_
            refine WQ.next ?_
            refine WC.seq ?_
            refine WC.region ?_
            refine WL.op rfl rfl (op_move rfl ?_)
            refine WL.op rfl rfl (op_callF Fa.C64 rfl ((ends_ok (((lg0 key).to xs xs.length).b) _ (by have := hNf.2.1; omega)).mono (fun e w16 hq => ?_)))
            obtain ⟨v16, rfl, hq16⟩ := hq
            refine ⟨_, rfl, ?_⟩
            have H16 : Own [] w w16 [.blk m10 [(str ((lg0 key).to xs xs.length).key), (str ((lg0 key).to xs xs.length).tag), v11, (str ((lg0 key).to xs xs.length).b)] 150, .row v11 143 4 ((lg0 key).to xs xs.length).acts.length (List.flatMap actc ((lg0 key).to xs xs.length).acts), .row v16 3 1 (eds (((lg0 key).to xs xs.length).b)).length (List.map vN (eds (((lg0 key).to xs xs.length).b)))] := H15.splice [] [] [.row v16 3 1 (eds (((lg0 key).to xs xs.length).b)).length (List.map vN (eds (((lg0 key).to xs xs.length).b)))] rfl rfl hq16 (Fits.solid True.intro Fits.nil)
            refine WL.op rfl rfl (op_assign rfl ?_)
            refine WL.nil ?_
            refine WQ.next ?_
            refine WC.seq ?_
            refine WC.seq ?_
            refine WC.region ?_
            have H17 : Own [] w w16 [.blk m10 [(str ((lg0 key).to xs xs.length).key), (str ((lg0 key).to xs xs.length).tag), v11, (str ((lg0 key).to xs xs.length).b)] 150, .row v11 143 4 ((lg0 key).to xs xs.length).acts.length (List.flatMap actc ((lg0 key).to xs xs.length).acts), .row v16 3 1 xs.length (List.map vN (eList key xs xs.length))] := by have h := (show Own [] w w16 [.blk m10 [(str ((lg0 key).to xs xs.length).key), (str ((lg0 key).to xs xs.length).tag), v11, (str ((lg0 key).to xs xs.length).b)] 150, .row v11 143 4 ((lg0 key).to xs xs.length).acts.length (List.flatMap actc ((lg0 key).to xs xs.length).acts), .row v16 3 1 (eds (((lg0 key).to xs xs.length).b)).length (List.map vN (eds (((lg0 key).to xs xs.length).b)))] from H16); rw [eds_to, eList_len] at h; exact h
            refine WL.op rfl rfl (op_move rfl ?_)
            refine WL.op rfl rfl (op_lenA Try.underlying93 rfl (H17.arrR (i := 2) rfl) ?_)
            refine WL.op rfl rfl (op_move rfl ?_)
            refine WL.op rfl rfl (op_lenA Try.underlying72 rfl (H17.arr hA) ?_)
            refine WL.op rfl rfl (op_neqN rfl rfl ?_)
            refine WL.op rfl rfl (op_move rfl ?_)
            refine WL.yes rfl rfl rfl (decide_eq_false (fun h => h rfl)) rfl (op_move rfl ?_)
            refine WL.yes rfl rfl rfl (decide_eq_false (fun h => h rfl)) rfl (op_move rfl ?_)
            refine WL.yes rfl rfl rfl (decide_eq_false (fun h => h rfl)) rfl (op_lenA Try.underlying93 rfl (H17.arrR (i := 2) rfl) ?_)
            refine WL.yes rfl rfl rfl (decide_eq_false (fun h => h rfl)) rfl (op_subN (b := 1) rfl rfl (by omega) (by omega) ?_)
            refine WL.yes rfl rfl rfl (decide_eq_false (fun h => h rfl)) rfl (op_indexAddr1 Try.underlying93 Fa.I3 rfl (H17.arrR (i := 2) rfl) rfl (by omega) ?_)
            refine WL.yes rfl rfl rfl (decide_eq_false (fun h => h rfl)) rfl (op_load rfl ((H17.arrR (i := 2) rfl).at (get_map vN 0 (Arr.ltM (H17.arrR (i := 2) rfl) (by omega)))) Try.underlying3 rfl ?_)
            refine WL.yes rfl rfl rfl (decide_eq_false (fun h => h rfl)) rfl (op_move rfl ?_)
            refine WL.yes rfl rfl rfl (decide_eq_false (fun h => h rfl)) rfl (op_lenStr Try.underlying9 rfl ?_)
            refine WL.yes rfl rfl rfl (decide_eq_false (fun h => h rfl)) rfl (op_neqN rfl rfl ?_)
            refine WL.op rfl rfl (op_pickF rfl (decide_eq_false (fun h => h rfl)) rfl ?_)
            refine WL.nil ?_
            refine WQ.next ?_
            refine WC.no rfl (decide_eq_false (fun h => h (by rw [eList_at (by omega), show xs.length - 1 + 1 = xs.length by omega]))) ?_
            refine WC.skip ?_
            refine WQ.next ?_
            refine WC.seq ?_
            refine WC.region ?_
            refine WL.op rfl rfl (op_makeSliceM (f := vU8) (c := 0) (m := 32) H17 Try.underlying73 Fa.I5 rfl rfl (by omega) (by omega) (fun b18 w18 H18 => ?_))
            refine WL.op rfl rfl (op_bytesStr (l := (List.replicate 32 0)) Try.underlying73 Try.underlying5 Try.underlying9 rfl (H18.arrR (i := 3) rfl) rfl ?_)
            refine WL.op rfl rfl (op_assign rfl ?_)
            refine WL.nil ?_
            refine WQ.next ?_
            refine WC.seq ?_
            refine WC.region ?_
            refine WL.op rfl rfl (op_assign rfl ?_)
            refine WL.nil ?_
            refine WQ.next ?_
            refine WC.seq ?_
            refine WC.seq ?_
            refine WC.region ?_
            refine WL.op rfl rfl (op_assign rfl ?_)
            refine WL.nil ?_
            refine WQ.next ?_
            refine WC.block ?_
            refine WC.loop (α := Nat) (fun i => [(0, (str key)), (1, lv), (2, (vU8 which)), (3, (vU8 at_)), (4, (vU8 by_)), (11, (ptr m10 0)), (12, (str ((lg0 key).to xs xs.length).b)), (13, v16), (14, (str ((lg0 key).to xs i).tag)), (15, (vN ((lg0 key).to xs i).b.length)), (16, (vN i))]) (fun i w' => (i ≤ xs.length) ∧ Own [] w w' [.blk m10 [(str ((lg0 key).to xs xs.length).key), (str ((lg0 key).to xs xs.length).tag), v11, (str ((lg0 key).to xs xs.length).b)] 150, .row v11 143 4 ((lg0 key).to xs xs.length).acts.length (List.flatMap actc ((lg0 key).to xs xs.length).acts), .row v16 3 1 xs.length (List.map vN (eList key xs xs.length)), .row (.slice (some ⟨b18, 0, none⟩) 32 32) 5 1 32 (List.map vU8 (List.replicate 32 0))]) (fun i => xs.length - i) 0 ⟨Nat.zero_le _, H18⟩ ⟨rfl, rfl, rfl, rfl, rfl, rfl, rfl, rfl, rfl, rfl, rfl, trivial⟩ ?_
            rintro i w19 ⟨hinv, H19⟩
            show WC _ _ _ _ _ [(0, (str key)), (1, lv), (2, (vU8 which)), (3, (vU8 at_)), (4, (vU8 by_)), (11, (ptr m10 0)), (12, (str ((lg0 key).to xs xs.length).b)), (13, v16), (14, (str ((lg0 key).to xs i).tag)), (15, (vN ((lg0 key).to xs i).b.length)), (16, (vN i))] _
            refine WC.seq ?_
            refine WC.seq ?_
            refine WC.region ?_
            refine WL.op rfl rfl (op_move rfl ?_)
            refine WL.op rfl rfl (op_move rfl ?_)
            refine WL.op rfl rfl (op_lenA Try.underlying93 rfl (H19.arrR (i := 2) rfl) ?_)
            refine WL.op rfl rfl (op_lssN rfl rfl ?_)
            refine WL.nil ?_
            refine WQ.next ?_
            refine WC.cond rfl (fun (hb20 : (decide (i < xs.length)) = true) => ?_) (fun (hb20 : (decide (i < xs.length)) = false) => ?_)
            ·
              have hc20 := of_decide_eq_true hb20
              have hi1 : i < xs.length := by omega
              have hEi := eList_at (key := key) (xs := xs) hi1
              have hl1 := (lg0 key).to_len1 xs i
              have hle := (lg0 key).to_le xs (show i + 1 ≤ xs.length by omega)
              have htx := (text_at (key := key) (xs := xs) hi1).1
              have htg := (lg0 key).to_tag List.length_replicate xs i
              have hal := actS_len (xs.getD i Ac.zero)
              refine WC.skip ?_
              refine WQ.next ?_
              refine WC.seq ?_
              refine WC.block ?_
              refine WC.seq ?_
              refine WC.region ?_
              refine WL.op rfl rfl (op_move rfl ?_)
              refine WL.op rfl rfl (op_move rfl ?_)
              refine WL.op rfl rfl (op_addN (b := 2) rfl rfl (by omega) ?_)
              refine WL.op rfl rfl (op_move rfl ?_)
              refine WL.op rfl rfl (op_move rfl ?_)
              refine WL.op rfl rfl (op_indexAddr1 Try.underlying93 Fa.I3 rfl (H19.arrR (i := 2) rfl) rfl (by omega) ?_)
              refine WL.op rfl rfl (op_load rfl ((H19.arrR (i := 2) rfl).at (get_map vN 0 (Arr.ltM (H19.arrR (i := 2) rfl) (by omega)))) Try.underlying3 rfl ?_)
              refine WL.op rfl rfl (op_subN (b := 32) rfl rfl (by omega) (by omega) ?_)
              refine WL.op rfl rfl (op_sliceStr Try.underlying9 rfl rfl rfl (by omega) (by omega) ?_)
              refine WL.op rfl rfl (op_assign rfl ?_)
              refine WL.nil ?_
              refine WQ.next ?_
              refine WC.seq ?_
              refine WC.draw 12 Fa.M H19 (HW.op rfl (fun w1 H1 => op_move rfl ⟨rfl, Fr.refl _ _⟩) (HW.op rfl (fun w1 H1 => op_move rfl ⟨rfl, Fr.refl _ _⟩) (HW.op rfl (fun w1 H1 => op_move rfl ⟨rfl, Fr.refl _ _⟩) (HW.op rfl (fun w1 H1 => op_indexAddr1 Try.underlying93 Fa.I3 rfl (H1.arrR (i := 2) rfl) rfl (by omega) ⟨rfl, Fr.refl _ _⟩) (HW.op rfl (fun w1 H1 => op_load rfl ((H1.arrR (i := 2) rfl).at (get_map vN 0 (Arr.ltM (H1.arrR (i := 2) rfl) (by omega)))) Try.underlying3 rfl ⟨rfl, Fr.refl _ _⟩) (HW.op rfl (fun w1 H1 => op_subN (b := 32) rfl rfl (by omega) (by omega) ⟨rfl, Fr.refl _ _⟩) (HW.op rfl (fun w1 H1 => op_move rfl ⟨rfl, Fr.refl _ _⟩) (HW.op rfl (fun w1 H1 => op_move rfl ⟨rfl, Fr.refl _ _⟩) (HW.op rfl (fun w1 H1 => op_indexAddr1 Try.underlying93 Fa.I3 rfl (H1.arrR (i := 2) rfl) rfl (by omega) ⟨rfl, Fr.refl _ _⟩) (HW.op rfl (fun w1 H1 => op_load rfl ((H1.arrR (i := 2) rfl).at (get_map vN 0 (Arr.ltM (H1.arrR (i := 2) rfl) (by omega)))) Try.underlying3 rfl ⟨rfl, Fr.refl _ _⟩) (HW.op rfl (fun w1 H1 => op_sliceStr Try.underlying9 rfl rfl rfl (by omega) (by omega) ⟨rfl, Fr.refl _ _⟩) (HW.op rfl (fun w1 H1 => op_assign rfl ⟨rfl, Fr.refl _ _⟩)  HW.nil)))))))))))) (by kernel_rfl) ?_
              intro β21 w21 H21
              refine WL.nil ?_
              refine WQ.next ?_
              refine WC.seq ?_
              refine WC.seq ?_
              refine WC.region ?_
              refine WL.op rfl rfl (op_move rfl ?_)
              refine WL.op rfl rfl (op_move rfl ?_)
              refine WL.op rfl rfl (op_move rfl ?_)
              refine WL.op rfl rfl (op_addStr rfl rfl (by first | omega | (rw [List.length_append]; omega) | (simp; omega)) ?_)
              refine WL.op rfl rfl (op_callF Fa.C65 rfl ((msum_ok key (((lg0 key).to xs i).tag ++ ((((lg0 key).to xs xs.length).b.drop (((lg0 key).to xs i).b.length + 2)).take ((((eList key xs xs.length).getD i 0) - 32) - (((lg0 key).to xs i).b.length + 2)))) _ (by omega) (by rw [List.length_append, htx]; omega)).mono (fun e w22 hq => ?_)))
              obtain ⟨rfl, hf22⟩ := hq
              refine ⟨_, rfl, ?_⟩
              have H22 := H21.fr' hf22
              refine WL.op rfl rfl (op_move rfl ?_)
              refine WL.op rfl rfl (op_neqStr rfl rfl ?_)
              refine WL.nil ?_
              refine WQ.next ?_
              refine WC.no rfl (decide_eq_false (fun h => h (by rw [htx, (text_at hi1).2]; exact tag_step i))) ?_
              refine WC.skip ?_
              refine WQ.next ?_
              refine WC.seq ?_
              refine WC.region ?_
              refine WL.op rfl rfl (op_move rfl ?_)
              refine WL.op rfl rfl (op_assign rfl ?_)
              refine WL.nil ?_
              refine WQ.next ?_
              refine WC.region ?_
              refine WL.op rfl rfl (op_move rfl ?_)
              refine WL.op rfl rfl (op_move rfl ?_)
              refine WL.op rfl rfl (op_indexAddr1 Try.underlying93 Fa.I3 rfl (H22.arrR (i := 2) rfl) rfl (by omega) ?_)
              refine WL.op rfl rfl (op_load rfl ((H22.arrR (i := 2) rfl).at (get_map vN 0 (Arr.ltM (H22.arrR (i := 2) rfl) (by omega)))) Try.underlying3 rfl ?_)
              refine WL.op rfl rfl (op_assign rfl ?_)
              refine WL.nil ?_
              refine WQ.inNormal ?_
              refine WQ.next ?_
              refine WC.region ?_
              refine WL.op rfl rfl (op_move rfl ?_)
              refine WL.op rfl rfl (op_addN (b := 1) rfl rfl (by omega) ?_)
              refine WL.op rfl rfl (op_assign rfl ?_)
              refine WL.nil ?_
              exact WQ.round (i + 1) ⟨(by omega), H22⟩ ⟨rfl, rfl, rfl, rfl, rfl, rfl, rfl, rfl, (congrArg (fun x => some (str x)) (text_at hi1).2), (congrArg (fun x => some (vN x)) hEi), rfl, trivial⟩ (by omega)
            ·
              have hc20 := of_decide_eq_false hb20
              refine WC.exit ?_
              refine WQ.thenExit ?_
              refine WQ.thenExit ?_
              refine WQ.inHere ?_
              refine WQ.next ?_
              refine WC.seq ?_
              refine WC.region ?_
              refine WL.op rfl rfl (op_move rfl ?_)
              refine WL.op rfl rfl (op_convU8N (hs := Try.underlying5) (hd := Try.underlying3) rfl ?_)
              refine WL.op rfl rfl (op_move rfl ?_)
              refine WL.op rfl rfl (op_lenA Try.underlying93 rfl (H19.arrR (i := 2) rfl) ?_)
              refine WL.op rfl rfl (op_remN rfl rfl (by omega) ?_)
              refine WL.op rfl rfl (op_assign rfl ?_)
              refine WL.nil ?_
              refine WQ.next ?_
              refine WC.seq ?_
              refine WC.region ?_
              have hkm := Nat.mod_lt which.toNat (show 0 < xs.length by omega)
              obtain ⟨k, hke⟩ : ∃ k, k = which.toNat % xs.length := ⟨_, rfl⟩
              rw [← hke] at hkm
              rw [← hke]
              have hEi := eList_at (key := key) (xs := xs) hkm
              have hl1 := (lg0 key).to_len1 xs k
              have hle := (lg0 key).to_le xs (show k + 1 ≤ xs.length by omega)
              have hat := Nat.mod_lt at_.toNat (show 0 < 32 by decide)
              have hKf := to_fit (key := key) (xs := xs) (by omega) (by omega) (Nat.le_of_lt hkm)
              have hsp := spoil_ok (key := key) ha0 hkm hat hby
              refine WL.op rfl rfl (op_move rfl ?_)
              refine WL.op rfl rfl (op_strBytes H19 Try.underlying9 Try.underlying5 Try.underlying73 rfl (by omega) (fun v23 w23 H23 => ?_))
              refine WL.op rfl rfl (op_assign rfl ?_)
              refine WL.nil ?_
              refine WQ.next ?_
              refine WC.seq ?_
              refine WC.draw 25 Fa.M H23 (HW.op rfl (fun w1 H1 => op_move rfl ⟨rfl, Fr.refl _ _⟩) (HW.op rfl (fun w1 H1 => op_move rfl ⟨rfl, Fr.refl _ _⟩) (HW.op rfl (fun w1 H1 => op_move rfl ⟨rfl, Fr.refl _ _⟩) (HW.op rfl (fun w1 H1 => op_indexAddr1 Try.underlying93 Fa.I3 rfl (H1.arrR (i := 2) rfl) rfl (by omega) ⟨rfl, Fr.refl _ _⟩) (HW.op rfl (fun w1 H1 => op_load rfl ((H1.arrR (i := 2) rfl).at (get_map vN 0 (Arr.ltM (H1.arrR (i := 2) rfl) (by omega)))) Try.underlying3 rfl ⟨rfl, Fr.refl _ _⟩) (HW.op rfl (fun w1 H1 => op_subN (b := 32) rfl rfl (by omega) (by omega) ⟨rfl, Fr.refl _ _⟩) (HW.op rfl (fun w1 H1 => op_move rfl ⟨rfl, Fr.refl _ _⟩) (HW.op rfl (fun w1 H1 => op_convU8N (hs := Try.underlying5) (hd := Try.underlying3) rfl ⟨rfl, Fr.refl _ _⟩) (HW.op rfl (fun w1 H1 => op_remN (b := 32) rfl rfl (by omega) ⟨rfl, Fr.refl _ _⟩) (HW.op rfl (fun w1 H1 => op_addN rfl rfl (by omega) ⟨rfl, Fr.refl _ _⟩) (HW.op rfl (fun w1 H1 => op_move rfl ⟨rfl, Fr.refl _ _⟩) (HW.op rfl (fun w1 H1 => op_move rfl ⟨rfl, Fr.refl _ _⟩) (HW.op rfl (fun w1 H1 => op_move rfl ⟨rfl, Fr.refl _ _⟩) (HW.op rfl (fun w1 H1 => op_indexAddr1 Try.underlying93 Fa.I3 rfl (H1.arrR (i := 2) rfl) rfl (by omega) ⟨rfl, Fr.refl _ _⟩) (HW.op rfl (fun w1 H1 => op_load rfl ((H1.arrR (i := 2) rfl).at (get_map vN 0 (Arr.ltM (H1.arrR (i := 2) rfl) (by omega)))) Try.underlying3 rfl ⟨rfl, Fr.refl _ _⟩) (HW.op rfl (fun w1 H1 => op_subN (b := 32) rfl rfl (by omega) (by omega) ⟨rfl, Fr.refl _ _⟩) (HW.op rfl (fun w1 H1 => op_move rfl ⟨rfl, Fr.refl _ _⟩) (HW.op rfl (fun w1 H1 => op_convU8N (hs := Try.underlying5) (hd := Try.underlying3) rfl ⟨rfl, Fr.refl _ _⟩) (HW.op rfl (fun w1 H1 => op_remN (b := 32) rfl rfl (by omega) ⟨rfl, Fr.refl _ _⟩) (HW.op rfl (fun w1 H1 => op_addN rfl rfl (by omega) ⟨rfl, Fr.refl _ _⟩) (HW.op rfl (fun w1 H1 => op_indexAddr1 Try.underlying73 Fa.I5 rfl (H1.arrR (i := 4) rfl) rfl (by omega) ⟨rfl, Fr.refl _ _⟩) (HW.op rfl (fun w1 H1 => op_load rfl ((H1.arrR (i := 4) rfl).at (get_map vU8 0 (Arr.ltM (H1.arrR (i := 4) rfl) (by omega)))) Try.underlying5 rfl ⟨rfl, Fr.refl _ _⟩) (HW.op rfl (fun w1 H1 => op_move rfl ⟨rfl, Fr.refl _ _⟩) (HW.op rfl (fun w1 H1 => op_xorU8 rfl rfl ⟨rfl, Fr.refl _ _⟩) (HW.op rfl (fun w1 H1 => op_indexAddr1 Try.underlying73 Fa.I5 rfl (H1.arrR (i := 4) rfl) rfl (by omega) ⟨rfl, Fr.refl _ _⟩)  HW.nil))))))))))))))))))))))))) (by kernel_rfl) ?_
              intro β24 w24 H24
              refine WL.op rfl rfl (op_storeRM (i := 4) (f := vU8) (l := ((lg0 key).to xs xs.length).b) (c := ((((lg0 key).to xs xs.length).b.getD ((((eList key xs xs.length).getD k 0) - 32) + (at_.toNat % 32)) 0) ^^^ by_)) H24 rfl rfl rfl (by omega) rfl Fa.I5 (fun w25 H25 => ?_))
              refine WL.nil ?_
              refine WQ.next ?_
              refine WC.seq ?_
              refine WC.region ?_
              refine WL.op rfl rfl (op_assign rfl ?_)
              refine WL.nil ?_
              refine WQ.next ?_
              refine WC.cut (α := Unit) (fun _ => [(0, (str key)), (1, lv), (13, v16), (19, (vN k)), (20, v23), (21, (vN ((lg0 key).to xs k).b.length))]) (fun _ w' => Own [] w w' [.blk m10 [(str ((lg0 key).to xs xs.length).key), (str ((lg0 key).to xs xs.length).tag), v11, (str ((lg0 key).to xs xs.length).b)] 150, .row v11 143 4 ((lg0 key).to xs xs.length).acts.length (List.flatMap actc ((lg0 key).to xs xs.length).acts), .row v16 3 1 xs.length (List.map vN (eList key xs xs.length)), .row (.slice (some ⟨b18, 0, none⟩) 32 32) 5 1 32 (List.map vU8 (List.replicate 32 0)), .row v23 5 1 ((lg0 key).to xs xs.length).b.length (List.map vU8 (((lg0 key).to xs xs.length).b.set ((((eList key xs xs.length).getD k 0) - 32) + (at_.toNat % 32)) ((((lg0 key).to xs xs.length).b.getD ((((eList key xs xs.length).getD k 0) - 32) + (at_.toNat % 32)) 0) ^^^ by_)))]) ?_ ?_
              ·
                refine WC.seq ?_
                refine WC.region ?_
                refine WL.op rfl rfl (op_move rfl ?_)
                refine WL.op rfl rfl (op_gtrN (b := 0) rfl rfl ?_)
                refine WL.nil ?_
                refine WQ.next ?_
                refine WC.cond rfl (fun (hb26 : (decide (k > 0)) = true) => ?_) (fun (hb26 : (decide (k > 0)) = false) => ?_)
                ·
                  have hc26 := of_decide_eq_true hb26
                  refine WC.region ?_
                  refine WL.op rfl rfl (op_move rfl ?_)
                  refine WL.op rfl rfl (op_move rfl ?_)
                  refine WL.op rfl rfl (op_subN (b := 1) rfl rfl (by omega) (by omega) ?_)
                  refine WL.op rfl rfl (op_indexAddr1 Try.underlying93 Fa.I3 rfl (H25.arrR (i := 2) rfl) rfl (by omega) ?_)
                  refine WL.op rfl rfl (op_load rfl ((H25.arrR (i := 2) rfl).at (get_map vN 0 (Arr.ltM (H25.arrR (i := 2) rfl) (by omega)))) Try.underlying3 rfl ?_)
                  refine WL.op rfl rfl (op_assign rfl ?_)
                  refine WL.nil ?_
                  exact WQ.here () H25 ⟨rfl, rfl, rfl, rfl, rfl, (by show some (vN ((eList key xs xs.length).getD (k - 1) 0)) = some (vN ((lg0 key).to xs k).b.length); rw [eList_at (by omega), show k - 1 + 1 = k by omega]), trivial⟩
                ·
                  have hc26 := of_decide_eq_false hb26
                  refine WC.skip ?_
                  have hk0 : k = 0 := by omega
                  subst hk0
                  exact WQ.here () H25 ⟨rfl, rfl, rfl, rfl, rfl, rfl, trivial⟩
              ·
                rintro ⟨⟩ w27 H27
                show WC _ _ _ _ _ [(0, (str key)), (1, lv), (13, v16), (19, (vN k)), (20, v23), (21, (vN ((lg0 key).to xs k).b.length))] _
                refine WC.seq ?_
                refine WC.region ?_
                refine WL.op rfl rfl (op_move rfl ?_)
                refine WL.op rfl rfl (op_move rfl ?_)
                refine WL.op rfl rfl (op_bytesStr (l := (((lg0 key).to xs xs.length).b.set ((((eList key xs xs.length).getD k 0) - 32) + (at_.toNat % 32)) ((((lg0 key).to xs xs.length).b.getD ((((eList key xs xs.length).getD k 0) - 32) + (at_.toNat % 32)) 0) ^^^ by_))) Try.underlying73 Try.underlying5 Try.underlying9 rfl (H27.arrR (i := 4) rfl) rfl ?_)
                refine WL.op rfl rfl (op_callF Fa.C62 rfl ((openEq_ok key (((lg0 key).to xs xs.length).b.set ((((eList key xs xs.length).getD k 0) - 32) + (at_.toNat % 32)) ((((lg0 key).to xs xs.length).b.getD ((((eList key xs xs.length).getD k 0) - 32) + (at_.toNat % 32)) 0) ^^^ by_)) ((lg0 key).to xs k) 391 hsp _ (by omega) (by rw [List.length_set]; have := hNf.2.1; omega)).mono (fun e w28 hq => ?_)))
                obtain ⟨m28, v28, rfl, hq28⟩ := hq
                refine ⟨_, rfl, ?_⟩
                have H28 : Own [] w w28 [.blk m10 [(str ((lg0 key).to xs xs.length).key), (str ((lg0 key).to xs xs.length).tag), v11, (str ((lg0 key).to xs xs.length).b)] 150, .row v11 143 4 ((lg0 key).to xs xs.length).acts.length (List.flatMap actc ((lg0 key).to xs xs.length).acts), .row v16 3 1 xs.length (List.map vN (eList key xs xs.length)), .row (.slice (some ⟨b18, 0, none⟩) 32 32) 5 1 32 (List.map vU8 (List.replicate 32 0)), .row v23 5 1 ((lg0 key).to xs xs.length).b.length (List.map vU8 (((lg0 key).to xs xs.length).b.set ((((eList key xs xs.length).getD k 0) - 32) + (at_.toNat % 32)) ((((lg0 key).to xs xs.length).b.getD ((((eList key xs xs.length).getD k 0) - 32) + (at_.toNat % 32)) 0) ^^^ by_))), .blk m28 [(str ((lg0 key).to xs k).key), (str ((lg0 key).to xs k).tag), v28, (str ((lg0 key).to xs k).b)] 150, .row v28 143 4 ((lg0 key).to xs k).acts.length (List.flatMap actc ((lg0 key).to xs k).acts)] := H27.splice [] [] [.blk m28 [(str ((lg0 key).to xs k).key), (str ((lg0 key).to xs k).tag), v28, (str ((lg0 key).to xs k).b)] 150, .row v28 143 4 ((lg0 key).to xs k).acts.length (List.flatMap actc ((lg0 key).to xs k).acts)] rfl rfl hq28 (Fits.solid True.intro (Fits.solid True.intro Fits.nil))
                refine WL.op rfl rfl (op_move rfl ?_)
                refine WL.op rfl rfl (op_extract rfl rfl ?_)
                refine WL.op rfl rfl (op_extract rfl rfl ?_)
                refine WL.op rfl rfl (op_extract rfl rfl ?_)
                refine WL.op rfl rfl (op_assign rfl ?_)
                refine WL.op rfl rfl (op_assign rfl ?_)
                refine WL.op rfl rfl (op_assign rfl ?_)
                refine WL.nil ?_
                refine WQ.next ?_
                refine WC.seq ?_
                refine WC.draw 23 Fa.M H28 (HW.op rfl (fun w1 H1 => op_move rfl ⟨rfl, Fr.refl _ _⟩) (HW.op rfl (fun w1 H1 => op_neqPN Fa.PT75 rfl rfl ⟨rfl, Fr.refl _ _⟩) (HW.op rfl (fun w1 H1 => op_move rfl ⟨rfl, Fr.refl _ _⟩) (HW.yes rfl rfl rfl rfl (fun w1 H1 => op_move rfl ⟨rfl, Fr.refl _ _⟩) (HW.yes rfl rfl rfl rfl (fun w1 H1 => op_move rfl ⟨rfl, Fr.refl _ _⟩) (HW.yes rfl rfl rfl rfl (fun w1 H1 => op_eqlN rfl rfl ⟨rfl, Fr.refl _ _⟩) (HW.op rfl (fun w1 H1 => op_pickT rfl rfl rfl ⟨rfl, Fr.refl _ _⟩) (HW.op rfl (fun w1 H1 => op_move rfl ⟨rfl, Fr.refl _ _⟩) (HW.yes rfl rfl rfl (decide_eq_true rfl) (fun w1 H1 => op_move rfl ⟨rfl, Fr.refl _ _⟩) (HW.yes rfl rfl rfl (decide_eq_true rfl) (fun w1 H1 => op_eqlN (b := 391) rfl rfl ⟨rfl, Fr.refl _ _⟩) (HW.op rfl (fun w1 H1 => op_pickT rfl (decide_eq_true rfl) rfl ⟨rfl, Fr.refl _ _⟩) (HW.op rfl (fun w1 H1 => op_move rfl ⟨rfl, Fr.refl _ _⟩) (HW.yes rfl rfl rfl (decide_eq_true rfl) (fun w1 H1 => op_move rfl ⟨rfl, Fr.refl _ _⟩) (HW.fltY (mk := fun bq => bq.2) (ent := fun bq => .row bq.2 143 4 ((lg0 key).to xs k).acts.length (List.flatMap actc ((lg0 key).to xs k).acts)) rfl rfl rfl (decide_eq_true rfl) (fun w1 H1 => op_callF Fa.C55 rfl ((lacts_ok m28 v28 ((lg0 key).to xs k) _ (H1.cellsAt (i := 5) rfl) (H1.arrR (i := 6) rfl) (by have := hKf.2.2; omega)).mono (fun e w2 ⟨v, he, hO⟩ => ⟨_, he, (0, v), rfl, hO, True.intro⟩))) (HW.yes rfl rfl rfl (decide_eq_true rfl) (fun w1 H1 => op_move rfl ⟨rfl, Fr.refl _ _⟩) (HW.yes rfl rfl rfl (decide_eq_true rfl) (fun w1 H1 => op_move rfl ⟨rfl, Fr.refl _ _⟩) (HW.yes rfl rfl rfl (decide_eq_true rfl) (fun w1 H1 => op_cutHi Try.underlying72 Fa.I143 rfl (H1.arr hA) rfl (by omega) ⟨rfl, Fr.refl _ _⟩) (HW.opFsY 0 rfl rfl rfl (fun _ => rfl) (decide_eq_true rfl) (fun bq w1 H1 => op_callF Fa.C61 rfl ((sameA_ok _ _ (((lg0 key).to xs k).acts) (xs.take k) _ (H1.arrR (i := 7) rfl) ((Arr.lenF (((H1.arr hA)).cutHiF (fun _ => rfl) (b := k) (by omega)) (fun _ => rfl) (by decide))) (by have := hKf.2.2; omega)).mono (fun e w2 hq => ⟨_, hq.1, rfl, hq.2⟩))) (HW.op rfl (fun w1 H1 => op_pickT rfl (decide_eq_true rfl) rfl ⟨rfl, Fr.refl _ _⟩) (HW.op rfl (fun w1 H1 => op_move rfl ⟨rfl, Fr.refl _ _⟩) (HW.yes rfl rfl rfl (decide_eq_true (to_acts0 (Nat.le_of_lt hkm))) (fun w1 H1 => op_callF Fa.C52 rfl ((alive39_ok _).mono (fun e w2 hq => ⟨_, hq.1, rfl, hq.2⟩))) (HW.op rfl (fun w1 H1 => op_pickT rfl (decide_eq_true (to_acts0 (Nat.le_of_lt hkm))) rfl ⟨rfl, Fr.refl _ _⟩) (HW.op rfl (fun w1 H1 => op_assign rfl ⟨rfl, Fr.refl _ _⟩)  HW.nil))))))))))))))))))))))) (by kernel_rfl) ?_
                intro β32 w32 H32
                refine WL.nil ?_
                refine WQ.next ?_
                refine WC.ret ?_
                refine WQ.out (.tmp rfl .nil) ?_
                exact ⟨rfl, H32.fr⟩
end Go.Proofs.Ytpnghdalnghpcaa
