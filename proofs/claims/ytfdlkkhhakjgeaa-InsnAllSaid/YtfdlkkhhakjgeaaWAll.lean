import Derived.Test.YtfdlkkhhakjgeaaWBuild
import Derived.Test.YtfdlkkhhakjgeaaWInsnBack
import Derived.Test.YtfdlkkhhakjgeaaSpecAll
namespace Go.Proofs.Ytfdlkkhhakjgeaa
open Go.Owl Go.Spec
set_option maxRecDepth 100000 in
theorem all_ok (lv : Value) (l : List I5) (nl : Nat) (w : World) (hA : Arr w lv 5 nl (l.flatMap i5)) (hn : nl < 2 ^ 40) :
    Calls Try.prog 28 #[lv] w (fun e w' => e = .returned (.tuple #[str (allS l), vN (allE l)]) ∧ Fr [] w w') := by
  refine enter (args := [lv]) Try.func28 rfl rfl ?_
  have H0 : Own [] w w [] := Own.start w []
  obtain rfl := hA.flatLen (fun _ => rfl) (by decide)
  refine WC.seq ?_
  refine WC.region ?_
  refine WL.op rfl rfl (op_assign rfl ?_)
  refine WL.op rfl rfl (op_assign rfl ?_)
  refine WL.nil ?_
  refine WQ.next ?_
  refine WC.seq ?_
  refine WC.region ?_
  refine WL.op rfl rfl (op_alloc H0 Fa.I81 (fun b1 w1 H1 => ?_))
  refine WL.nil ?_
  refine WQ.next ?_
  refine WC.seq ?_
  refine WC.seq ?_
  refine WC.region ?_
  refine WL.op rfl rfl (op_move rfl ?_)
  refine WL.op rfl rfl (op_lenA Try.underlying51 rfl (H1.arr hA) ?_)
  refine WL.op rfl rfl (op_move rfl ?_)
  refine WL.nil ?_
  refine WQ.next ?_
  refine WC.block ?_
  have H2 : Own [] w w1 [.blk b1 [(.pointer none), (.slice none 0 0)] 81, .row (.slice none 0 0) 5 1 (allTo l 0).length (List.map vU8 (allTo l 0))] := H1.nilRow 5 1
  refine WC.loop (α := Nat × Value × Value) (fun (k, A0, v) => [(4, (ptr b1 0)), (9, lv), (10, (vN l.length)), (11, (vN k))]) (fun (k, A0, v) w' => (k ≤ l.length ∧ (A0 = .pointer none ∨ A0 = ptr b1 0) ∧ (∀ j, j < k → encXE (l.getD j I5.zero) = 0) ∧ (v = .slice none 0 0 ∨ k ≠ 0)) ∧ Own [] w w' [.blk b1 [A0, v] 81, .row v 5 1 (allTo l k).length (List.map vU8 (allTo l k))]) (fun (k, A0, v) => l.length - k) (0, (.pointer none), (.slice none 0 0)) ⟨⟨Nat.zero_le _, .inl rfl, fun j h => by omega, .inl rfl⟩, H2⟩ ⟨rfl, rfl, rfl, rfl, trivial⟩ ?_
  rintro ⟨k, A0, v⟩ w3 ⟨⟨hk1, hA0, hok, hv0⟩, H3⟩
  show WC _ _ _ _ _ [(4, (ptr b1 0)), (9, lv), (10, (vN l.length)), (11, (vN k))] _
  have hl8 := allTo_len k hok
  refine WC.seq ?_
  refine WC.region ?_
  refine WL.op rfl rfl (op_lssN rfl rfl ?_)
  refine WL.nil ?_
  refine WQ.next ?_
  refine WC.seq ?_
  refine WC.cond rfl (fun (hb4 : (decide (k < l.length)) = true) => ?_) (fun (hb4 : (decide (k < l.length)) = false) => ?_)
  ·
    have hc4 := of_decide_eq_true hb4
    refine WC.skip ?_
    refine WQ.next ?_
    refine WC.seq ?_
    refine WC.block ?_
    refine WC.seq ?_
    refine WC.region ?_
    refine WL.op rfl rfl (op_indexAddr Try.underlying51 Fa.I24 rfl (H3.arr hA) rfl (by omega) ?_)
    refine WL.op rfl rfl (op_loadSP (vs := i5 (l.getD k I5.zero)) rfl (Arr.atsF (H3.arr hA) (fun _ => rfl) (by decide) I5.zero (by omega)) Try.underlying24 rfl Fa.I24 rfl ?_)
    refine WL.op rfl rfl (op_alloc H3 Fa.I24 (fun b5 w5 H5 => ?_))
    refine WL.op rfl rfl (op_storeBW (i := 2) H5 rfl rfl rfl rfl rfl Fa.I24 (fun w6 H6 => ?_))
    refine WL.nil ?_
    refine WQ.next ?_
    refine WC.seq ?_
    refine WC.region ?_
    refine WL.op rfl rfl (op_loadS (vs := [_, _, _, _, _]) rfl (H6.cells (i := 2) rfl rfl) Try.underlying24 rfl Fa.I24 rfl ?_)
    refine WL.op rfl rfl (op_callF Fa.C13 rfl ((encode_ok ((l.getD k I5.zero).op) ((l.getD k I5.zero).d) ((l.getD k I5.zero).a) ((l.getD k I5.zero).b) ((l.getD k I5.zero).imm) _).mono (fun e w7 hq => ?_)))
    obtain ⟨rfl, hf7⟩ := hq
    refine ⟨_, rfl, ?_⟩
    have H7 := H6.fr' hf7
    refine WL.op rfl rfl (op_move rfl ?_)
    refine WL.op rfl rfl (op_extract rfl rfl ?_)
    refine WL.op rfl rfl (op_extract rfl rfl ?_)
    refine WL.op rfl rfl (op_assign rfl ?_)
    refine WL.op rfl rfl (op_assign rfl ?_)
    refine WL.nil ?_
    refine WQ.next ?_
    refine WC.seq ?_
    refine WC.seq ?_
    refine WC.region ?_
    refine WL.op rfl rfl (op_move rfl ?_)
    refine WL.op rfl rfl (op_neqN (b := 0) rfl rfl ?_)
    refine WL.nil ?_
    refine WQ.next ?_
    refine WC.cond rfl (fun (hb8 : (decide ((encE ((l.getD k I5.zero).op) ((l.getD k I5.zero).d) ((l.getD k I5.zero).a) ((l.getD k I5.zero).b) ((l.getD k I5.zero).imm)) ≠ 0)) = true) => ?_) (fun (hb8 : (decide ((encE ((l.getD k I5.zero).op) ((l.getD k I5.zero).d) ((l.getD k I5.zero).a) ((l.getD k I5.zero).b) ((l.getD k I5.zero).imm)) ≠ 0)) = false) => ?_)
    ·
      have hc8 := of_decide_eq_true hb8
      refine WC.seq ?_
      refine WC.region ?_
      refine WL.op rfl rfl (op_move rfl ?_)
      refine WL.op rfl rfl (op_assign rfl ?_)
      refine WL.op rfl rfl (op_assign rfl ?_)
      refine WL.nil ?_
      refine WQ.next ?_
      refine WC.ret ?_
      refine WQ.thenRet ?_
      refine WQ.inRet ?_
      refine WQ.thenRet ?_
      refine WQ.thenRet ?_
      refine WQ.inRet ?_
      refine WQ.thenRet ?_
      refine WQ.out (.tmp rfl (.tmp rfl .nil)) ?_
      exact ⟨by rw [(allS_out (by omega) hc8).1, (allS_out (by omega) hc8).2]; rfl, H7.fr⟩
    ·
      have hc8 := of_decide_eq_false hb8
      refine WC.skip ?_
      refine WQ.next ?_
      refine WC.region ?_
      refine WL.op rfl rfl (op_move rfl ?_)
      refine WL.op rfl rfl (op_callF Fa.C49 rfl ((ws_ok b1 A0 v (allTo l k).length (allTo l k) (encS ((l.getD k I5.zero).op) ((l.getD k I5.zero).d) ((l.getD k I5.zero).a) ((l.getD k I5.zero).b) ((l.getD k I5.zero).imm)) 81 _ _ (H7.part [0, 1] rfl rfl) hA0 Fa.CO81 Fa.LI81_81 (by have := encS_length (l.getD k I5.zero).op (l.getD k I5.zero).d (l.getD k I5.zero).a (l.getD k I5.zero).b (l.getD k I5.zero).imm; omega)).mono (fun e w9 hq => ?_)))
      obtain ⟨v9, rfl, hq9⟩ := hq
      refine ⟨_, rfl, ?_⟩
      have H9 : Own [] w w9 [.blk b1 [(ptr b1 0), v9] 81, .row v9 5 1 ((allTo l k).length + (encS ((l.getD k I5.zero).op) ((l.getD k I5.zero).d) ((l.getD k I5.zero).a) ((l.getD k I5.zero).b) ((l.getD k I5.zero).imm)).length) (List.map vU8 ((allTo l k) ++ (encS ((l.getD k I5.zero).op) ((l.getD k I5.zero).d) ((l.getD k I5.zero).a) ((l.getD k I5.zero).b) ((l.getD k I5.zero).imm)))), .blk b5 [(vU8 (l.getD k I5.zero).op), (vU8 (l.getD k I5.zero).d), (vU8 (l.getD k I5.zero).a), (vU8 (l.getD k I5.zero).b), (vU32 (l.getD k I5.zero).imm)] 24] := H7.splice [0, 1] [.blk b1 [(ptr b1 0), v9] 81, .row v9 5 1 ((allTo l k).length + (encS ((l.getD k I5.zero).op) ((l.getD k I5.zero).d) ((l.getD k I5.zero).a) ((l.getD k I5.zero).b) ((l.getD k I5.zero).imm)).length) (List.map vU8 ((allTo l k) ++ (encS ((l.getD k I5.zero).op) ((l.getD k I5.zero).d) ((l.getD k I5.zero).a) ((l.getD k I5.zero).b) ((l.getD k I5.zero).imm))))] [] rfl rfl hq9 (Fits.solid True.intro (Fits.solid True.intro Fits.nil))
      refine WL.nil ?_
      refine WQ.inNormal ?_
      refine WQ.next ?_
      refine WC.region ?_
      refine WL.op rfl rfl (op_addN (b := 1) rfl rfl (by omega) ?_)
      refine WL.op rfl rfl (op_move rfl ?_)
      refine WL.nil ?_
      exact WQ.round (k + 1, (ptr b1 0), v9) ⟨⟨by omega, .inr rfl, next_all hok (Decidable.not_not.mp hc8), .inr (by omega)⟩, (Own.rowEqN (i := 1) (f := vU8) (H9.take 2) rfl rfl (List.length_append).symm)⟩ ⟨rfl, rfl, rfl, rfl, trivial⟩ (by show l.length - (k + 1) < l.length - k; omega)
  ·
    have hc4 := of_decide_eq_false hb4
    refine WC.exit ?_
    refine WQ.thenExit ?_
    refine WQ.thenExit ?_
    refine WQ.inHere ?_
    refine WQ.next ?_
    refine WC.seq ?_
    refine WC.region ?_
    refine WL.op rfl rfl (op_callF Fa.C50 rfl ((bstr_ok b1 A0 v (allTo l k).length (allTo l k) 81 _ _ (H3.part [0, 1] rfl rfl) (hv0.imp id (fun h => by omega))).mono (fun e w10 hq => ?_)))
    obtain ⟨rfl, hq10⟩ := hq
    refine ⟨_, rfl, ?_⟩
    have H10 : Own [] w w10 [] := H3.rest (I := [0, 1]) (J := []) rfl rfl rfl rfl hq10
    refine WL.op rfl rfl (op_assign rfl ?_)
    refine WL.op rfl rfl (op_assign rfl ?_)
    refine WL.nil ?_
    refine WQ.next ?_
    refine WC.ret ?_
    refine WQ.out (.tmp rfl (.tmp rfl .nil)) ?_
    exact ⟨by have hk : k = l.length := (by omega); subst hk; rw [(allS_no hok).1, (allS_no hok).2]; rfl, H10.fr⟩
set_option maxRecDepth 100000 in
theorem insnAll_ok (lv : Value) (l : List I5) (w : World) (hA : Arr w lv 5 l.length (l.flatMap i5)) :
    Calls Try.prog 8 #[lv] w (fun e w' => e = .returned (.bool true) ∧ Fr [] w w') := by
  refine enter (args := [lv]) Try.func8 rfl rfl ?_
  have H0 : Own [] w w [] := Own.start w []
  refine WC.seq ?_
  refine WC.region ?_
  refine WL.op rfl rfl (op_assign rfl ?_)
  refine WL.nil ?_
  refine WQ.next ?_
  refine WC.seq ?_
  refine WC.seq ?_
  refine WC.region ?_
  refine WL.op rfl rfl (op_move rfl ?_)
  refine WL.op rfl rfl (op_lenA Try.underlying51 rfl (H0.arr hA) ?_)
  refine WL.op rfl rfl (op_gtrN (b := 300) rfl rfl ?_)
  refine WL.nil ?_
  refine WQ.next ?_
  refine WC.cond rfl (fun (hb1 : (decide (l.length > 300)) = true) => ?_) (fun (hb1 : (decide (l.length > 300)) = false) => ?_)
  ·
    have hc1 := of_decide_eq_true hb1
    refine WC.seq ?_
    refine WC.region ?_
    refine WL.op rfl rfl (op_callF Fa.C15 rfl ((alive04_ok _).mono (fun e w2 hq => ?_)))
    obtain ⟨rfl, hf2⟩ := hq
    refine ⟨_, rfl, ?_⟩
    have H2 := H0.fr' hf2
    refine WL.op rfl rfl (op_assign rfl ?_)
    refine WL.nil ?_
    refine WQ.next ?_
    refine WC.ret ?_
    refine WQ.thenRet ?_
    refine WQ.out (.tmp rfl .nil) ?_
    exact ⟨rfl, H2.fr⟩
  ·
    have hc1 := of_decide_eq_false hb1
    refine WC.skip ?_
    refine WQ.next ?_
    refine WC.seq ?_
    refine WC.region ?_
    refine WL.op rfl rfl (op_move rfl ?_)
    have H4 := H0.nilRow 24 5
    refine WL.op rfl rfl (op_appendF (f := i5) (l := []) (l' := l) (i := 0) H4 Try.underlying51 Fa.I24 rfl rfl rfl rfl (Src.ofArr Try.underlying51 (H4.arr hA)) (one_flat (fun _ => by simp [i5, Value.oneCell'])) (by omega) (by omega) (fun v3 w3 H3 => ?_))
    refine WL.op rfl rfl (op_assign rfl ?_)
    refine WL.nil ?_
    refine WQ.next ?_
    refine WC.seq ?_
    refine WC.region ?_
    refine WL.op rfl rfl (op_move rfl ?_)
    refine WL.op rfl rfl (op_callF Fa.C28 rfl ((all_ok _ ([] ++ l) _ _ (H3.arrR (i := 0) rfl) (by omega)).mono (fun e w5 hq => ?_)))
    obtain ⟨rfl, hf5⟩ := hq
    refine ⟨_, rfl, ?_⟩
    have H5 := H3.fr' hf5
    refine WL.op rfl rfl (op_move rfl ?_)
    refine WL.op rfl rfl (op_extract rfl rfl ?_)
    refine WL.op rfl rfl (op_extract rfl rfl ?_)
    refine WL.op rfl rfl (op_assign rfl ?_)
    refine WL.op rfl rfl (op_assign rfl ?_)
    refine WL.nil ?_
    refine WQ.next ?_
    refine WC.seq ?_
    refine WC.region ?_
    refine WL.op rfl rfl (op_assign rfl ?_)
    refine WL.nil ?_
    refine WQ.next ?_
    refine WC.seq ?_
    refine WC.seq ?_
    refine WC.region ?_
    refine WL.op rfl rfl (op_assign rfl ?_)
    refine WL.nil ?_
    refine WQ.next ?_
    refine WC.block ?_
    refine WC.loop (α := Nat) (fun k => [(0, lv), (3, v3), (4, (str (allS ([] ++ l)))), (5, (vN (allE ([] ++ l)))), (6, (str (allTo l k))), (7, (vN k))]) (fun k w' => (k ≤ l.length ∧ (∀ j, j < k → encXE (l.getD j I5.zero) = 0)) ∧ Own [] w w' [.row v3 24 5 (0 + l.length) (List.flatMap i5 ([] ++ l))]) (fun k => l.length - k) 0 ⟨⟨Nat.zero_le _, fun j h => by omega⟩, H5⟩ ⟨rfl, rfl, rfl, rfl, rfl, rfl, trivial⟩ ?_
    rintro k w6 ⟨⟨hk1, hok⟩, H6⟩
    show WC _ _ _ _ _ [(0, lv), (3, v3), (4, (str (allS ([] ++ l)))), (5, (vN (allE ([] ++ l)))), (6, (str (allTo l k))), (7, (vN k))] _
    have hl8 := allTo_len k hok
    refine WC.seq ?_
    refine WC.seq ?_
    refine WC.region ?_
    refine WL.op rfl rfl (op_move rfl ?_)
    refine WL.op rfl rfl (op_move rfl ?_)
    refine WL.op rfl rfl (op_lenA Try.underlying51 rfl (H6.arr hA) ?_)
    refine WL.op rfl rfl (op_lssN rfl rfl ?_)
    refine WL.nil ?_
    refine WQ.next ?_
    refine WC.cond rfl (fun (hb7 : (decide (k < l.length)) = true) => ?_) (fun (hb7 : (decide (k < l.length)) = false) => ?_)
    ·
      have hc7 := of_decide_eq_true hb7
      refine WC.skip ?_
      refine WQ.next ?_
      refine WC.seq ?_
      refine WC.block ?_
      refine WC.seq ?_
      refine WC.region ?_
      refine WL.op rfl rfl (op_move rfl ?_)
      refine WL.op rfl rfl (op_move rfl ?_)
      refine WL.op rfl rfl (op_indexAddr Try.underlying51 Fa.I24 rfl (H6.arr hA) rfl (by omega) ?_)
      refine WL.op rfl rfl (op_loadSP (vs := i5 (l.getD k I5.zero)) rfl (Arr.atsF (H6.arr hA) (fun _ => rfl) (by decide) I5.zero (by omega)) Try.underlying24 rfl Fa.I24 rfl ?_)
      refine WL.op rfl rfl (op_callF Fa.C13 rfl ((encode_ok ((l.getD k I5.zero).op) ((l.getD k I5.zero).d) ((l.getD k I5.zero).a) ((l.getD k I5.zero).b) ((l.getD k I5.zero).imm) _).mono (fun e w8 hq => ?_)))
      obtain ⟨rfl, hf8⟩ := hq
      refine ⟨_, rfl, ?_⟩
      have H8 := H6.fr' hf8
      refine WL.op rfl rfl (op_move rfl ?_)
      refine WL.op rfl rfl (op_extract rfl rfl ?_)
      refine WL.op rfl rfl (op_extract rfl rfl ?_)
      refine WL.op rfl rfl (op_assign rfl ?_)
      refine WL.op rfl rfl (op_assign rfl ?_)
      refine WL.nil ?_
      refine WQ.next ?_
      refine WC.seq ?_
      refine WC.seq ?_
      refine WC.draw 9 Fa.M H8 (HW.op rfl (fun w1 H1 => op_move rfl ⟨rfl, Fr.refl _ _⟩) (HW.op rfl (fun w1 H1 => op_move rfl ⟨rfl, Fr.refl _ _⟩) (HW.op rfl (fun w1 H1 => op_indexAddr Try.underlying51 Fa.I24 rfl (H1.arrR (i := 0) rfl) rfl (by omega) ⟨rfl, Fr.refl _ _⟩) (HW.op rfl (fun w1 H1 => op_loadSP (vs := i5 (([] ++ l).getD k I5.zero)) rfl (Arr.atsF (H1.arrR (i := 0) rfl) (fun _ => rfl) (by decide) I5.zero (by omega)) Try.underlying24 rfl Fa.I24 rfl ⟨rfl, Fr.refl _ _⟩) (HW.op rfl (fun w1 H1 => op_move rfl ⟨rfl, Fr.refl _ _⟩) (HW.op rfl (fun w1 H1 => op_move rfl ⟨rfl, Fr.refl _ _⟩) (HW.op rfl (fun w1 H1 => op_indexAddr Try.underlying51 Fa.I24 rfl (H1.arr hA) rfl (by omega) ⟨rfl, Fr.refl _ _⟩) (HW.op rfl (fun w1 H1 => op_loadSP (vs := i5 (l.getD k I5.zero)) rfl (Arr.atsF (H1.arr hA) (fun _ => rfl) (by decide) I5.zero (by omega)) Try.underlying24 rfl Fa.I24 rfl ⟨rfl, Fr.refl _ _⟩) (HW.op rfl (fun w1 H1 => op_neqS (xs := [_, _, _, _, _]) (ys := [_, _, _, _, _]) (b := (!((decide ((([] ++ l).getD k I5.zero).op = (l.getD k I5.zero).op)) && ((decide ((([] ++ l).getD k I5.zero).d = (l.getD k I5.zero).d)) && ((decide ((([] ++ l).getD k I5.zero).a = (l.getD k I5.zero).a)) && ((decide ((([] ++ l).getD k I5.zero).b = (l.getD k I5.zero).b)) && (decide ((([] ++ l).getD k I5.zero).imm = (l.getD k I5.zero).imm)))))))) Fa.FL24 rfl rfl rfl (by simp [eqAll, veqU32, veqU8]) ⟨rfl, Fr.refl _ _⟩)  HW.nil))))))))) (by kernel_rfl) ?_
      intro β9 w9 H9
      refine WL.nil ?_
      refine WQ.next ?_
      refine WC.no rfl (by simp) ?_
      refine WC.skip ?_
      refine WQ.next ?_
      refine WC.seq ?_
      refine WC.seq ?_
      refine WC.region ?_
      refine WL.op rfl rfl (op_move rfl ?_)
      refine WL.op rfl rfl (op_neqN (b := 0) rfl rfl ?_)
      refine WL.nil ?_
      refine WQ.next ?_
      refine WC.cond rfl (fun (hb10 : (decide ((encE ((l.getD k I5.zero).op) ((l.getD k I5.zero).d) ((l.getD k I5.zero).a) ((l.getD k I5.zero).b) ((l.getD k I5.zero).imm)) ≠ 0)) = true) => ?_) (fun (hb10 : (decide ((encE ((l.getD k I5.zero).op) ((l.getD k I5.zero).d) ((l.getD k I5.zero).a) ((l.getD k I5.zero).b) ((l.getD k I5.zero).imm)) ≠ 0)) = false) => ?_)
      ·
        have hc10 := of_decide_eq_true hb10
        refine WC.seq ?_
        refine WC.region ?_
        refine WL.op rfl rfl (op_move rfl ?_)
        refine WL.op rfl rfl (op_eqlStr rfl rfl ?_)
        refine WL.op rfl rfl (op_move rfl ?_)
        refine WL.yes rfl rfl rfl (decide_eq_true (allS_out (by omega) hc10).1) rfl (op_move rfl ?_)
        refine WL.yes rfl rfl rfl (decide_eq_true (allS_out (by omega) hc10).1) rfl (op_move rfl ?_)
        refine WL.yes rfl rfl rfl (decide_eq_true (allS_out (by omega) hc10).1) rfl (op_eqlN rfl rfl ?_)
        refine WL.op rfl rfl (op_pickT rfl (decide_eq_true (allS_out (by omega) hc10).1) rfl ?_)
        refine WL.op rfl rfl (op_move rfl ?_)
        refine WL.yes rfl rfl rfl (decide_eq_true (allS_out (by omega) hc10).2) rfl (op_callF Fa.C15 rfl ((alive04_ok _).mono (fun e w11 hq => ?_)))
        obtain ⟨rfl, hf11⟩ := hq
        refine ⟨_, rfl, ?_⟩
        have H11 := H9.fr' hf11
        refine WL.op rfl rfl (op_pickT rfl (decide_eq_true (allS_out (by omega) hc10).2) rfl ?_)
        refine WL.op rfl rfl (op_assign rfl ?_)
        refine WL.nil ?_
        refine WQ.next ?_
        refine WC.ret ?_
        refine WQ.thenRet ?_
        refine WQ.inRet ?_
        refine WQ.thenRet ?_
        refine WQ.thenRet ?_
        refine WQ.inRet ?_
        refine WQ.thenRet ?_
        refine WQ.out (.tmp rfl .nil) ?_
        exact ⟨rfl, H11.fr⟩
      ·
        have hc10 := of_decide_eq_false hb10
        refine WC.skip ?_
        refine WQ.next ?_
        refine WC.region ?_
        refine WL.op rfl rfl (op_move rfl ?_)
        refine WL.op rfl rfl (op_move rfl ?_)
        refine WL.op rfl rfl (op_addStr rfl rfl (by have := encS_length (l.getD k I5.zero).op (l.getD k I5.zero).d (l.getD k I5.zero).a (l.getD k I5.zero).b (l.getD k I5.zero).imm; omega) ?_)
        refine WL.op rfl rfl (op_assign rfl ?_)
        refine WL.nil ?_
        refine WQ.inNormal ?_
        refine WQ.next ?_
        refine WC.region ?_
        refine WL.op rfl rfl (op_move rfl ?_)
        refine WL.op rfl rfl (op_addN (b := 1) rfl rfl (by omega) ?_)
        refine WL.op rfl rfl (op_assign rfl ?_)
        refine WL.nil ?_
        exact WQ.round (k + 1) ⟨⟨by omega, next_all hok (Decidable.not_not.mp hc10)⟩, H9⟩ ⟨rfl, rfl, rfl, rfl, rfl, rfl, trivial⟩ (by omega)
    ·
      have hc7 := of_decide_eq_false hb7
      have hx : k = l.length → ∀ j, j < l.length → encXE (l.getD j I5.zero) = 0 := fun e => e ▸ hok
      have hx2 : k = l.length → allTo l l.length = allTo l k := fun e => e ▸ rfl
      refine WC.exit ?_
      refine WQ.thenExit ?_
      refine WQ.thenExit ?_
      refine WQ.inHere ?_
      refine WQ.next ?_
      refine WC.seq ?_
      refine WC.region ?_
      refine WL.op rfl rfl (op_move rfl ?_)
      refine WL.op rfl rfl (op_move rfl ?_)
      refine WL.op rfl rfl (op_eqlStr rfl rfl ?_)
      refine WL.op rfl rfl (op_move rfl ?_)
      refine WL.yes rfl rfl rfl (decide_eq_true (by rw [List.nil_append, (allS_no (hx (by omega))).1, hx2 (by omega)])) rfl (op_move rfl ?_)
      refine WL.yes rfl rfl rfl (decide_eq_true (by rw [List.nil_append, (allS_no (hx (by omega))).1, hx2 (by omega)])) rfl (op_eqlN (b := 0) rfl rfl ?_)
      refine WL.op rfl rfl (op_pickT rfl (decide_eq_true (by rw [List.nil_append, (allS_no (hx (by omega))).1, hx2 (by omega)])) rfl ?_)
      refine WL.op rfl rfl (op_move rfl ?_)
      refine WL.yes rfl rfl rfl (decide_eq_true (by rw [List.nil_append, (allS_no (hx (by omega))).2])) rfl (op_move rfl ?_)
      refine WL.yes rfl rfl rfl (decide_eq_true (by rw [List.nil_append, (allS_no (hx (by omega))).2])) rfl (op_lenStr Try.underlying9 rfl ?_)
      refine WL.yes rfl rfl rfl (decide_eq_true (by rw [List.nil_append, (allS_no (hx (by omega))).2])) rfl (op_move rfl ?_)
      refine WL.yes rfl rfl rfl (decide_eq_true (by rw [List.nil_append, (allS_no (hx (by omega))).2])) rfl (op_lenA Try.underlying51 rfl (H6.arr hA) ?_)
      refine WL.yes rfl rfl rfl (decide_eq_true (by rw [List.nil_append, (allS_no (hx (by omega))).2])) rfl (op_mulN (a := 8) rfl rfl (by omega) ?_)
      refine WL.yes rfl rfl rfl (decide_eq_true (by rw [List.nil_append, (allS_no (hx (by omega))).2])) rfl (op_eqlN rfl rfl ?_)
      refine WL.op rfl rfl (op_pickT rfl (decide_eq_true (by rw [List.nil_append, (allS_no (hx (by omega))).2])) rfl ?_)
      refine WL.op rfl rfl (op_move rfl ?_)
      refine WL.yes rfl rfl rfl (decide_eq_true (by rw [List.nil_append, (allS_no (hx (by omega))).1]; have := allTo_len l.length (hx (by omega)); omega)) rfl (op_callF Fa.C15 rfl ((alive04_ok _).mono (fun e w12 hq => ?_)))
      obtain ⟨rfl, hf12⟩ := hq
      refine ⟨_, rfl, ?_⟩
      have H12 := H6.fr' hf12
      refine WL.op rfl rfl (op_pickT rfl (decide_eq_true (by rw [List.nil_append, (allS_no (hx (by omega))).1]; have := allTo_len l.length (hx (by omega)); omega)) rfl ?_)
      refine WL.op rfl rfl (op_assign rfl ?_)
      refine WL.nil ?_
      refine WQ.next ?_
      refine WC.ret ?_
      refine WQ.out (.tmp rfl .nil) ?_
      exact ⟨rfl, H12.fr⟩
end Go.Proofs.Ytfdlkkhhakjgeaa
