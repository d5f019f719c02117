/- General lemmas and walks: DOb5, DOb6. No condition but what each theorem names. -/
import Derived.Test.YtnngbnenekjffaaDoorQf144c726
import Derived.Test.YtnngbnenekjffaaDoorQ4dfda7f8
/-! from DOb5 -/
namespace Go.Proofs.YtnngbnenekjffaaDoor
open Go.Owl Go.Spec
set_option maxHeartbeats 1000000 in
set_option maxRecDepth 100000 in
theorem rnames_ok (lv : Value) (l : List Ob) (w : World) (hA : Arr w lv 2 l.length (List.flatMap obc l)) (hI : ObD.list.ok w l) (hF : ∀ o ∈ l, FitOb o) (hn : l.length ≤ 20) :
    Calls Tryd.prog 40 #[lv] w (fun e w' => ∃ v, e = .returned v ∧ (∀ b ∈ footA v (List.map str (resN l)), w.heap.size ≤ b) ∧ Own [] w w' [Ent.ar v 1 (resN l).length (List.map str (resN l))]) := by
  refine enter (args := [lv]) Tryd.func40 rfl rfl ?_
  have H0 : Own [] w w [] := Own.start w []
  refine WC.seq ?_
  refine WC.region ?_
  refine WL.op rfl rfl (op_assign rfl ?_)
  refine WL.nil ?_
  refine WQ.next ?_
  refine WC.seq ?_
  refine WC.region ?_
  refine WL.op rfl rfl (op_assign rfl ?_)
  have H1 := H0.nilRow 9 1
  refine WL.nil ?_
  refine WQ.next ?_
  refine WC.seq ?_
  refine WC.seq ?_
  refine WC.region ?_
  have H2 : Own [] w w [Ent.ar (.slice none 0 0) 1 0 (List.map str [])] := H1.freeze (i := 0) rfl
  refine WL.op rfl rfl (op_assign rfl ?_)
  refine WL.nil ?_
  refine WQ.next ?_
  refine WC.block ?_
  refine WC.loop (α := Nat × Value) (fun (i, v) => [(0, lv), (2, (.slice none 0 0)), (3, v), (4, (vN i))]) (fun (i, v) w' => (i ≤ l.length ∧ (∀ b ∈ footA v (List.map str (ptAll l i)), w.heap.size ≤ b)) ∧ Own [] w w' [Ent.ar v 1 (ptAll l i).length (List.map str (ptAll l i))]) (fun (i, v) => l.length - i) (0, .slice none 0 0) ⟨⟨Nat.zero_le _, fresh_nil _⟩, H2⟩ ⟨rfl, rfl, rfl, rfl, trivial⟩ ?_
  rintro ⟨i, v⟩ w3 ⟨⟨hi1, hfr⟩, H3⟩
  show WC _ _ _ _ _ [(0, lv), (2, (.slice none 0 0)), (3, v), (4, (vN i))] _
  have hpl := ptAll_len (lo := l) i
  have hfo := hF_ob hF i
  obtain ⟨hfo1, hfo2, hfo3⟩ := hfo
  refine WC.seq ?_
  refine WC.seq ?_
  refine WC.region ?_
  refine WL.op rfl rfl (op_move rfl ?_)
  refine WL.op rfl rfl (op_move rfl ?_)
  refine WL.op rfl rfl (op_lenA Tryd.underlying78 rfl (H3.arr hA) ?_)
  refine WL.op rfl rfl (op_lssN rfl rfl ?_)
  refine WL.nil ?_
  refine WQ.next ?_
  refine WC.cond rfl (fun (hb4 : (decide (i < l.length)) = true) => ?_) (fun (hb4 : (decide (i < l.length)) = false) => ?_)
  ·
    have hc4 := of_decide_eq_true hb4
    refine WC.skip ?_
    refine WQ.next ?_
    refine WC.seq ?_
    refine WC.block ?_
    refine WC.seq ?_
    refine WC.region ?_
    refine WL.op rfl rfl (op_assign rfl ?_)
    refine WL.nil ?_
    refine WQ.next ?_
    refine WC.block ?_
    refine WC.loop (α := Nat × Value) (fun (k, v) => [(0, lv), (2, (.slice none 0 0)), (3, v), (4, (vN i)), (5, (vN k))]) (fun (k, v) w' => (k ≤ (l.getD i Ob.zero).sy.length ∧ (k = 0 ∨ mayOb (l.getD i Ob.zero).nm (l.getD i Ob.zero).sy = true) ∧ (∀ b ∈ footA v (List.map str (ptTo (ptAll l i) (l.getD i Ob.zero).sy k)), w.heap.size ≤ b)) ∧ Own [] w w' [Ent.ar v 1 (ptTo (ptAll l i) (l.getD i Ob.zero).sy k).length (List.map str (ptTo (ptAll l i) (l.getD i Ob.zero).sy k))]) (fun (k, v) => (l.getD i Ob.zero).sy.length - k) (0, v) ⟨⟨Nat.zero_le _, .inl rfl, hfr⟩, H3⟩ ⟨rfl, rfl, rfl, rfl, rfl, trivial⟩ ?_
    rintro ⟨k, v⟩ w5 ⟨⟨hk1, hkm, hfr⟩, H5⟩
    show WC _ _ _ _ _ [(0, lv), (2, (.slice none 0 0)), (3, v), (4, (vN i)), (5, (vN k))] _
    have hpt := ptTo_len (acc := ptAll l i) (l := (l.getD i Ob.zero).sy) k
    refine WC.seq ?_
    refine WC.seq ?_
    refine WC.region ?_
    refine WL.op rfl rfl (op_move rfl ?_)
    refine WL.op rfl rfl (op_move rfl ?_)
    refine WL.op rfl rfl (op_move rfl ?_)
    refine WL.op rfl rfl (op_indexAddr Tryd.underlying78 Fa.I32 rfl (H5.arr hA) rfl (by omega) ?_)
    refine WL.op rfl rfl (op_fieldAddrS rfl Fa.F32_1 ?_)
    refine WL.op rfl rfl (op_load rfl (Arr.atF (k := 1) (H5.arr hA) (fun _ => rfl) (by decide) Ob.zero (by omega) rfl) Tryd.underlying30 rfl ?_)
    refine WL.op rfl rfl (op_lenA Tryd.underlying30 rfl ((ObD_sy (Deep.getD ObD (Deep.fr0 ObD.list hI H5.fr) Ob.zero (ObD_zero _) i))) ?_)
    refine WL.op rfl rfl (op_lssN rfl rfl ?_)
    refine WL.op rfl rfl (op_move rfl ?_)
    refine WL.split (t := 20) rfl (fun (hb6 : (decide (k < (l.getD i Ob.zero).sy.length)) = true) => ?_) (fun (hb6 : (decide (k < (l.getD i Ob.zero).sy.length)) = false) => ?_)
    ·
      have hc6 := of_decide_eq_true hb6
      refine WL.yes rfl rfl rfl hb6 rfl (op_move rfl ?_)
      refine WL.yes rfl rfl rfl hb6 rfl (op_move rfl ?_)
      refine WL.yes rfl rfl rfl hb6 rfl (op_indexAddr Tryd.underlying78 Fa.I32 rfl (H5.arr hA) rfl (by omega) ?_)
      refine WL.yes rfl rfl rfl hb6 rfl (op_loadSP (vs := obc (l.getD i Ob.zero)) rfl (Arr.atsF (H5.arr hA) (fun _ => rfl) (by decide) Ob.zero (by omega)) Tryd.underlying32 rfl Fa.I32 rfl ?_)
      refine WL.yes rfl rfl rfl hb6 rfl (op_callF Fa.C33 rfl ((rmayo_ok ((l.getD i Ob.zero).nm) _ ((l.getD i Ob.zero).sy) _ ((ObD_sy (Deep.getD ObD (Deep.fr0 ObD.list hI H5.fr) Ob.zero (ObD_zero _) i))) (ObD_in (Deep.getD ObD (Deep.fr0 ObD.list hI H5.fr) Ob.zero (ObD_zero _) i)) hfo3 (by omega) (by omega)).mono (fun e w7 hq => ?_)))
      obtain ⟨rfl, hf7⟩ := hq
      refine ⟨_, rfl, ?_⟩
      have H7 := H5.fr' hf7
      refine WL.op rfl rfl (op_pickT rfl hb6 rfl ?_)
      refine WL.nil ?_
      refine WQ.next ?_
      refine WC.cond rfl (fun (hb8 : (mayOb ((l.getD i Ob.zero).nm) ((l.getD i Ob.zero).sy)) = true) => ?_) (fun (hb8 : (mayOb ((l.getD i Ob.zero).nm) ((l.getD i Ob.zero).sy)) = false) => ?_)
      ·
        have h64 := may_64 hb8
        refine WC.skip ?_
        refine WQ.next ?_
        refine WC.seq ?_
        refine WC.block ?_
        refine WC.region ?_
        refine WL.op rfl rfl (op_move rfl ?_)
        refine WL.op rfl rfl (op_move rfl ?_)
        refine WL.op rfl rfl (op_move rfl ?_)
        refine WL.op rfl rfl (op_indexAddr Tryd.underlying78 Fa.I32 rfl (H7.arr hA) rfl (by omega) ?_)
        refine WL.op rfl rfl (op_fieldAddrS rfl Fa.F32_1 ?_)
        refine WL.op rfl rfl (op_load rfl (Arr.atF (k := 1) (H7.arr hA) (fun _ => rfl) (by decide) Ob.zero (by omega) rfl) Tryd.underlying30 rfl ?_)
        refine WL.op rfl rfl (op_move rfl ?_)
        refine WL.op rfl rfl (op_indexAddr Tryd.underlying30 Fa.I26 rfl ((ObD_sy (Deep.getD ObD (Deep.fr0 ObD.list hI H7.fr) Ob.zero (ObD_zero _) i))) rfl (by omega) ?_)
        refine WL.op rfl rfl (op_fieldAddrS rfl Fa.F26_0 ?_)
        refine WL.op rfl rfl (op_load rfl (Arr.atF (k := 0) ((ObD_sy (Deep.getD ObD (Deep.fr0 ObD.list hI H7.fr) Ob.zero (ObD_zero _) i))) (fun _ => rfl) (by decide) Sy.zero (by omega) rfl) Tryd.underlying9 rfl ?_)
        refine WL.op rfl rfl (op_callF Fa.C69 rfl ((put08_ok v (ptTo (ptAll l i) (l.getD i Ob.zero).sy k) (((l.getD i Ob.zero).sy.getD k Sy.zero).nm) _ (H7.part [0] rfl rfl) (by omega)).mono (fun e w9 hq => ?_)))
        obtain ⟨v9, rfl, ha9, hq9⟩ := hq
        refine ⟨_, rfl, ?_⟩
        have H9 : Own [] w w9 [Ent.ar v 1 (ptTo (ptAll l i) (l.getD i Ob.zero).sy k).length (List.map str (ptTo (ptAll l i) (l.getD i Ob.zero).sy k)), Ent.ar v9 1 (put1 ltStr (((l.getD i Ob.zero).sy.getD k Sy.zero).nm) (ptTo (ptAll l i) (l.getD i Ob.zero).sy k)).length (List.map str (put1 ltStr (((l.getD i Ob.zero).sy.getD k Sy.zero).nm) (ptTo (ptAll l i) (l.getD i Ob.zero).sy k)))] := H7.splice [0] [Ent.ar v 1 (ptTo (ptAll l i) (l.getD i Ob.zero).sy k).length (List.map str (ptTo (ptAll l i) (l.getD i Ob.zero).sy k))] [Ent.ar v9 1 (put1 ltStr (((l.getD i Ob.zero).sy.getD k Sy.zero).nm) (ptTo (ptAll l i) (l.getD i Ob.zero).sy k)).length (List.map str (put1 ltStr (((l.getD i Ob.zero).sy.getD k Sy.zero).nm) (ptTo (ptAll l i) (l.getD i Ob.zero).sy k)))] rfl rfl hq9 (Fits.same (j := 0) rfl (Fits.fit 0 rfl rfl ha9 Fits.nil))
        refine WL.op rfl rfl (op_assign rfl ?_)
        refine WL.nil ?_
        refine WQ.inNormal ?_
        refine WQ.next ?_
        refine WC.region ?_
        refine WL.op rfl rfl (op_move rfl ?_)
        refine WL.op rfl rfl (op_addN (b := 1) rfl rfl (by omega) ?_)
        refine WL.op rfl rfl (op_assign rfl ?_)
        refine WL.nil ?_
        exact WQ.round (k + 1, v9) ⟨⟨by omega, .inr hb8, ha9.fresh H7.fr.size hfr⟩, H9.sel [1] rfl rfl⟩ ⟨rfl, rfl, rfl, rfl, rfl, trivial⟩ (by show (l.getD i Ob.zero).sy.length - (k + 1) < (l.getD i Ob.zero).sy.length - k; omega)
      ·
        refine WC.exit ?_
        refine WQ.thenExit ?_
        refine WQ.thenExit ?_
        refine WQ.inHere ?_
        refine WQ.inNormal ?_
        refine WQ.next ?_
        refine WC.region ?_
        refine WL.op rfl rfl (op_move rfl ?_)
        refine WL.op rfl rfl (op_addN (b := 1) rfl rfl (by omega) ?_)
        refine WL.op rfl rfl (op_assign rfl ?_)
        refine WL.nil ?_
        have hpe := ptAll_end hkm (.inr hb8)
        exact WQ.round (i + 1, v) ⟨⟨by omega, by rw [hpe]; exact hfr⟩, (by show Own [] w _ _; rw [hpe]; exact H7)⟩ ⟨rfl, rfl, rfl, rfl, trivial⟩ (by show l.length - (i + 1) < l.length - i; omega)
    ·
      have hc6 := of_decide_eq_false hb6
      refine WL.no rfl rfl rfl hb6 rfl ?_
      refine WL.no rfl rfl rfl hb6 rfl ?_
      refine WL.no rfl rfl rfl hb6 rfl ?_
      refine WL.no rfl rfl rfl hb6 rfl ?_
      refine WL.no rfl rfl rfl hb6 rfl ?_
      refine WL.op rfl rfl (op_pickF rfl hb6 rfl ?_)
      refine WL.nil ?_
      refine WQ.next ?_
      refine WC.no rfl rfl ?_
      refine WC.exit ?_
      refine WQ.thenExit ?_
      refine WQ.thenExit ?_
      refine WQ.inHere ?_
      refine WQ.inNormal ?_
      refine WQ.next ?_
      refine WC.region ?_
      refine WL.op rfl rfl (op_move rfl ?_)
      refine WL.op rfl rfl (op_addN (b := 1) rfl rfl (by omega) ?_)
      refine WL.op rfl rfl (op_assign rfl ?_)
      refine WL.nil ?_
      have hpe := ptAll_end hkm (.inl (by omega))
      exact WQ.round (i + 1, v) ⟨⟨by omega, by rw [hpe]; exact hfr⟩, (by show Own [] w _ _; rw [hpe]; exact H5)⟩ ⟨rfl, rfl, rfl, rfl, trivial⟩ (by show l.length - (i + 1) < l.length - i; omega)
  ·
    have hc4 := of_decide_eq_false hb4
    refine WC.exit ?_
    refine WQ.thenExit ?_
    refine WQ.thenExit ?_
    refine WQ.inHere ?_
    refine WQ.next ?_
    refine WC.seq ?_
    refine WC.region ?_
    refine WL.op rfl rfl (op_move rfl ?_)
    refine WL.op rfl rfl (op_assign rfl ?_)
    refine WL.nil ?_
    refine WQ.next ?_
    refine WC.ret ?_
    refine WQ.out (.tmp rfl .nil) ?_
    obtain rfl : i = l.length := by omega
    exact ⟨_, rfl, hfr, H3.sel [0] rfl rfl⟩
set_option maxHeartbeats 1000000 in
set_option maxRecDepth 100000 in
theorem alive08_ok  (w : World) :
    Calls Tryd.prog 30 #[] w (fun e w' => e = .returned (.bool true) ∧ Fr [] w w') := by
  refine enter (args := []) Tryd.func30 rfl rfl ?_
  have H0 : Own [] w w [] := Own.start w []
  refine WC.seq ?_
  refine WC.region ?_
  refine WL.op rfl rfl (op_assign rfl ?_)
  refine WL.nil ?_
  refine WQ.next ?_
  refine WC.seq ?_
  refine WC.region ?_
  refine WL.op rfl rfl (op_callF Fa.C63 rfl ((main08_ok 4 _).mono (fun e w1 hq => ?_)))
  obtain ⟨v1, rfl, hq1⟩ := hq
  refine ⟨_, rfl, ?_⟩
  have H1 : Own [] w w1 [.row v1 44 4 [Rl.mk 4 1 [109, 97, 105, 110] 0].length (List.flatMap rlc [Rl.mk 4 1 [109, 97, 105, 110] 0])] := H0.splice [] [] [.row v1 44 4 [Rl.mk 4 1 [109, 97, 105, 110] 0].length (List.flatMap rlc [Rl.mk 4 1 [109, 97, 105, 110] 0])] rfl rfl hq1 (Fits.solid True.intro Fits.nil)
  refine WL.op rfl rfl (op_alloc H1 Fa.I26 (fun b2 w2 H2 => ?_))
  refine WL.op rfl rfl (op_storeBW (i := 1) H2 rfl rfl rfl rfl (one_cons rfl (one_cons rfl (one_cons rfl (one_cons rfl (one_cons rfl (one_cons (Arr.one (H2.arrR (i := 0) rfl)) (one_cons rfl one_nil))))))) Fa.I26 (fun w3 H3 => ?_))
  refine WL.nil ?_
  refine WQ.next ?_
  refine WC.seq ?_
  refine WC.region ?_
  refine WL.op rfl rfl (op_fieldAddr rfl Fa.F26_5 ?_)
  refine WL.op rfl rfl (op_load rfl (H3.cell (i := 1) rfl rfl) Tryd.underlying23 rfl ?_)
  refine WL.op rfl rfl (op_build (cs := [_, _, _, _]) Fa.I44 Fa.PL44 rfl rfl ?_)
  refine WL.op rfl rfl (op_buildSlice (cs := [_, _, _, _]) H3 Tryd.underlying23 Fa.I44 rfl rfl rfl rfl (by decide) (by decide) (fun b4 w4 H4 => ?_))
  refine WL.op rfl rfl (op_appendF (f := rlc) (l := [Rl.mk 4 1 [109, 97, 105, 110] 0]) (l' := [(Rl.mk 6 2 [109, 97, 105, 110] 0)]) (i := 0) H4 Tryd.underlying23 Fa.I44 rfl rfl rfl rfl (Src.ofArr Tryd.underlying23 (H4.arrR (i := 2) rfl)) (one_flat (fun _ => by simp [rlc, Value.oneCell'])) (of_decide_eq_true (by kernel_rfl)) (of_decide_eq_true (by kernel_rfl)) (fun v5 w5 H5 => ?_))
  refine WL.op rfl rfl (op_fieldAddr rfl Fa.F26_5 ?_)
  refine WL.op rfl rfl (op_storeB (i := 1) H5 rfl rfl rfl rfl (Arr.one (H5.arrR (i := 0) rfl)) Fa.I23 (fun w6 H6 => ?_))
  refine WL.nil ?_
  refine WQ.next ?_
  refine WC.seq ?_
  refine WC.region ?_
  refine WL.op rfl rfl (op_callF Fa.C63 rfl ((main08_ok 4 _).mono (fun e w7 hq => ?_)))
  obtain ⟨v7, rfl, hq7⟩ := hq
  refine ⟨_, rfl, ?_⟩
  have H7 : Own [] w w7 [.row v5 44 4 ([Rl.mk 4 1 [109, 97, 105, 110] 0].length + 1) (List.flatMap rlc ([Rl.mk 4 1 [109, 97, 105, 110] 0] ++ [(Rl.mk 6 2 [109, 97, 105, 110] 0)])), .blk b2 [(str [109, 97, 105, 110]), (vU8 1), (vU8 1), (vU32 8), (str [40, 0, 0, 0, 0, 0, 0, 0]), v5, (.slice none 0 0)] 26, .row (.slice (some ⟨b4, 0, none⟩) 1 1) 44 4 1 (List.flatMap rlc [(Rl.mk 6 2 [109, 97, 105, 110] 0)]), .row v7 44 4 [Rl.mk 4 1 [109, 97, 105, 110] 0].length (List.flatMap rlc [Rl.mk 4 1 [109, 97, 105, 110] 0])] := H6.splice [] [] [.row v7 44 4 [Rl.mk 4 1 [109, 97, 105, 110] 0].length (List.flatMap rlc [Rl.mk 4 1 [109, 97, 105, 110] 0])] rfl rfl hq7 (Fits.solid True.intro Fits.nil)
  refine WL.op rfl rfl (op_buildSlice (cs := [_, _, _, _, _, _, _]) H7 Tryd.underlying30 Fa.I26 rfl rfl rfl rfl (by decide) (by decide) (fun b8 w8 H8 => ?_))
  refine WL.op rfl rfl (op_build (cs := [_, _]) Fa.I32 Fa.PL32 rfl rfl ?_)
  refine WL.op rfl rfl (op_alloc H8 Fa.I32 (fun b9 w9 H9 => ?_))
  refine WL.op rfl rfl (op_storeBW (i := 5) H9 rfl rfl rfl rfl (one_cons rfl (one_cons (Arr.one (H9.arrR (i := 4) rfl)) one_nil)) Fa.I32 (fun w10 H10 => ?_))
  refine WL.nil ?_
  refine WQ.next ?_
  refine WC.seq ?_
  refine WC.region ?_
  refine WL.op rfl rfl (op_loadS (vs := [_, _]) rfl (H10.cells (i := 5) rfl rfl) Tryd.underlying32 rfl Fa.I32 rfl ?_)
  refine WL.op rfl rfl (op_callF Fa.C35 rfl ((ofind_ok ([111]) _ ([(Sy.mk [109, 97, 105, 110] 1 1 8 [40, 0, 0, 0, 0, 0, 0, 0] v7 [Rl.mk 4 1 [109, 97, 105, 110] 0] (.slice none 0 0) [])]) ([109, 97, 105, 110]) _ (H10.arrR (i := 4) rfl) (SyD.list_one (SyD_mk (x := (Sy.mk [109, 97, 105, 110] 1 1 8 [40, 0, 0, 0, 0, 0, 0, 0] v7 [Rl.mk 4 1 [109, 97, 105, 110] 0] (.slice none 0 0) [])) (H10.arrR (i := 3) rfl) (Arr.nil _ _))) (fitH_main (by kernel_rfl) (by show 1 < 2 ^ 40; decide)) (by show 1 < 2 ^ 46; decide) (by show 1 < 2 ^ 47; decide)).mono (fun e w11 hq => ?_)))
  obtain ⟨rfl, hf11⟩ := hq
  refine ⟨_, rfl, ?_⟩
  have H11 := H10.fr' hf11
  refine WL.op rfl rfl (op_move rfl ?_)
  refine WL.op rfl rfl (op_extract rfl rfl ?_)
  refine WL.op rfl rfl (op_extract rfl rfl ?_)
  refine WL.op rfl rfl (op_assign rfl ?_)
  refine WL.op rfl rfl (op_assign rfl ?_)
  refine WL.nil ?_
  refine WQ.next ?_
  refine WC.seq ?_
  refine WC.region ?_
  refine WL.op rfl rfl (op_loadS (vs := [_, _]) rfl (H11.cells (i := 5) rfl rfl) Tryd.underlying32 rfl Fa.I32 rfl ?_)
  refine WL.op rfl rfl (op_callF Fa.C35 rfl ((ofind_ok ([111]) _ ([(Sy.mk [109, 97, 105, 110] 1 1 8 [40, 0, 0, 0, 0, 0, 0, 0] v7 [Rl.mk 4 1 [109, 97, 105, 110] 0] (.slice none 0 0) [])]) ([120]) _ (H11.arrR (i := 4) rfl) (SyD.list_one (SyD_mk (x := (Sy.mk [109, 97, 105, 110] 1 1 8 [40, 0, 0, 0, 0, 0, 0, 0] v7 [Rl.mk 4 1 [109, 97, 105, 110] 0] (.slice none 0 0) [])) (H11.arrR (i := 3) rfl) (Arr.nil _ _))) (fitH_main (by kernel_rfl) (by show 1 < 2 ^ 40; decide)) (by show 1 < 2 ^ 46; decide) (by show 1 < 2 ^ 47; decide)).mono (fun e w12 hq => ?_)))
  obtain ⟨rfl, hf12⟩ := hq
  refine ⟨_, rfl, ?_⟩
  have H12 := H11.fr' hf12
  refine WL.op rfl rfl (op_move rfl ?_)
  refine WL.op rfl rfl (op_extract rfl rfl ?_)
  refine WL.op rfl rfl (op_extract rfl rfl ?_)
  refine WL.op rfl rfl (op_assign rfl ?_)
  refine WL.op rfl rfl (op_assign rfl ?_)
  refine WL.nil ?_
  refine WQ.next ?_
  refine WC.seq ?_
  refine WC.region ?_
  refine WL.op rfl rfl (op_callF Fa.C63 rfl ((main08_ok 4 _).mono (fun e w13 hq => ?_)))
  obtain ⟨v13, rfl, hq13⟩ := hq
  refine ⟨_, rfl, ?_⟩
  have H13 : Own [] w w13 [.row v5 44 4 ([Rl.mk 4 1 [109, 97, 105, 110] 0].length + 1) (List.flatMap rlc ([Rl.mk 4 1 [109, 97, 105, 110] 0] ++ [(Rl.mk 6 2 [109, 97, 105, 110] 0)])), .blk b2 [(str [109, 97, 105, 110]), (vU8 1), (vU8 1), (vU32 8), (str [40, 0, 0, 0, 0, 0, 0, 0]), v5, (.slice none 0 0)] 26, .row (.slice (some ⟨b4, 0, none⟩) 1 1) 44 4 1 (List.flatMap rlc [(Rl.mk 6 2 [109, 97, 105, 110] 0)]), .row v7 44 4 [Rl.mk 4 1 [109, 97, 105, 110] 0].length (List.flatMap rlc [Rl.mk 4 1 [109, 97, 105, 110] 0]), .row (.slice (some ⟨b8, 0, none⟩) 1 1) 26 7 1 (List.flatMap syc [(Sy.mk [109, 97, 105, 110] 1 1 8 [40, 0, 0, 0, 0, 0, 0, 0] v7 [Rl.mk 4 1 [109, 97, 105, 110] 0] (.slice none 0 0) [])]), .blk b9 [(str [111]), (.slice (some ⟨b8, 0, none⟩) 1 1)] 32, .row v13 44 4 [Rl.mk 4 1 [109, 97, 105, 110] 0].length (List.flatMap rlc [Rl.mk 4 1 [109, 97, 105, 110] 0])] := H12.splice [] [] [.row v13 44 4 [Rl.mk 4 1 [109, 97, 105, 110] 0].length (List.flatMap rlc [Rl.mk 4 1 [109, 97, 105, 110] 0])] rfl rfl hq13 (Fits.solid True.intro Fits.nil)
  refine WL.op rfl rfl (op_callF Fa.C27 rfl ((osym_ok (Sy.mk [109, 97, 105, 110] 1 1 8 [40, 0, 0, 0, 0, 0, 0, 0] v13 [Rl.mk 4 1 [109, 97, 105, 110] 0] (.slice none 0 0) []) _ (SyD_mk (x := (Sy.mk [109, 97, 105, 110] 1 1 8 [40, 0, 0, 0, 0, 0, 0, 0] v13 [Rl.mk 4 1 [109, 97, 105, 110] 0] (.slice none 0 0) [])) (H13.arrR (i := 6) rfl) (Arr.nil _ _)) (by show 4 < 2 ^ 47; decide) (by show 8 < 2 ^ 32; decide) (small_rl (by kernel_rfl)) (of_decide_eq_true (by kernel_rfl)) (by show 0 < 2 ^ 40; decide)).mono (fun e w14 hq => ?_)))
  obtain ⟨rfl, hf14⟩ := hq
  refine ⟨_, rfl, ?_⟩
  have H14 := H13.fr' hf14
  refine WL.op rfl rfl (op_eqlN (b := 0) rfl rfl ?_)
  refine WL.op rfl rfl (op_move rfl ?_)
  refine WL.yes rfl rfl rfl (by kernel_rfl) rfl (op_callF Fa.C63 rfl ((main08_ok 5 _).mono (fun e w15 hq => ?_)))
  obtain ⟨v15, rfl, hq15⟩ := hq
  refine ⟨_, rfl, ?_⟩
  have H15 : Own [] w w15 [.row v5 44 4 ([Rl.mk 4 1 [109, 97, 105, 110] 0].length + 1) (List.flatMap rlc ([Rl.mk 4 1 [109, 97, 105, 110] 0] ++ [(Rl.mk 6 2 [109, 97, 105, 110] 0)])), .blk b2 [(str [109, 97, 105, 110]), (vU8 1), (vU8 1), (vU32 8), (str [40, 0, 0, 0, 0, 0, 0, 0]), v5, (.slice none 0 0)] 26, .row (.slice (some ⟨b4, 0, none⟩) 1 1) 44 4 1 (List.flatMap rlc [(Rl.mk 6 2 [109, 97, 105, 110] 0)]), .row v7 44 4 [Rl.mk 4 1 [109, 97, 105, 110] 0].length (List.flatMap rlc [Rl.mk 4 1 [109, 97, 105, 110] 0]), .row (.slice (some ⟨b8, 0, none⟩) 1 1) 26 7 1 (List.flatMap syc [(Sy.mk [109, 97, 105, 110] 1 1 8 [40, 0, 0, 0, 0, 0, 0, 0] v7 [Rl.mk 4 1 [109, 97, 105, 110] 0] (.slice none 0 0) [])]), .blk b9 [(str [111]), (.slice (some ⟨b8, 0, none⟩) 1 1)] 32, .row v13 44 4 [Rl.mk 4 1 [109, 97, 105, 110] 0].length (List.flatMap rlc [Rl.mk 4 1 [109, 97, 105, 110] 0]), .row v15 44 4 [Rl.mk 5 1 [109, 97, 105, 110] 0].length (List.flatMap rlc [Rl.mk 5 1 [109, 97, 105, 110] 0])] := H14.splice [] [] [.row v15 44 4 [Rl.mk 5 1 [109, 97, 105, 110] 0].length (List.flatMap rlc [Rl.mk 5 1 [109, 97, 105, 110] 0])] rfl rfl hq15 (Fits.solid True.intro Fits.nil)
  refine WL.yes rfl rfl rfl (by kernel_rfl) rfl (op_callF Fa.C27 rfl ((osym_ok (Sy.mk [109, 97, 105, 110] 1 1 8 [40, 0, 0, 0, 0, 0, 0, 0] v15 [Rl.mk 5 1 [109, 97, 105, 110] 0] (.slice none 0 0) []) _ (SyD_mk (x := (Sy.mk [109, 97, 105, 110] 1 1 8 [40, 0, 0, 0, 0, 0, 0, 0] v15 [Rl.mk 5 1 [109, 97, 105, 110] 0] (.slice none 0 0) [])) (H15.arrR (i := 7) rfl) (Arr.nil _ _)) (by show 4 < 2 ^ 47; decide) (by show 8 < 2 ^ 32; decide) (small_rl (by kernel_rfl)) (of_decide_eq_true (by kernel_rfl)) (by show 0 < 2 ^ 40; decide)).mono (fun e w16 hq => ?_)))
  obtain ⟨rfl, hf16⟩ := hq
  refine ⟨_, rfl, ?_⟩
  have H16 := H15.fr' hf16
  refine WL.yes rfl rfl rfl (by kernel_rfl) rfl (op_eqlN (b := 2) rfl rfl ?_)
  refine WL.op rfl rfl (op_pickT rfl (by kernel_rfl) rfl ?_)
  refine WL.op rfl rfl (op_move rfl ?_)
  refine WL.yes rfl rfl rfl (by kernel_rfl) rfl (op_loadS (vs := [_, _, _, _, _, _, _]) rfl (H16.cells (i := 1) rfl rfl) Tryd.underlying26 rfl Fa.I26 rfl ?_)
  refine WL.yes rfl rfl rfl (by kernel_rfl) rfl (op_callF Fa.C27 rfl ((osym_ok (Sy.mk [109, 97, 105, 110] 1 1 8 [40, 0, 0, 0, 0, 0, 0, 0] v5 ([Rl.mk 4 1 [109, 97, 105, 110] 0] ++ [(Rl.mk 6 2 [109, 97, 105, 110] 0)]) (.slice none 0 0) []) _ (SyD_mk (x := (Sy.mk [109, 97, 105, 110] 1 1 8 [40, 0, 0, 0, 0, 0, 0, 0] v5 ([Rl.mk 4 1 [109, 97, 105, 110] 0] ++ [(Rl.mk 6 2 [109, 97, 105, 110] 0)]) (.slice none 0 0) [])) (Arr.lenF ((H16.arrR (i := 0) rfl)) (fun _ => rfl) (by decide)) (Arr.nil _ _)) (by show 4 < 2 ^ 47; decide) (by show 8 < 2 ^ 32; decide) (small_rl (by kernel_rfl)) (of_decide_eq_true (by kernel_rfl)) (by show 0 < 2 ^ 40; decide)).mono (fun e w17 hq => ?_)))
  obtain ⟨rfl, hf17⟩ := hq
  refine ⟨_, rfl, ?_⟩
  have H17 := H16.fr' hf17
  refine WL.yes rfl rfl rfl (by kernel_rfl) rfl (op_eqlN (b := 2) rfl rfl ?_)
  refine WL.op rfl rfl (op_pickT rfl (by kernel_rfl) rfl ?_)
  refine WL.op rfl rfl (op_move rfl ?_)
  refine WL.yes rfl rfl rfl (by kernel_rfl) rfl (op_loadS (vs := [_, _]) rfl (H17.cells (i := 5) rfl rfl) Tryd.underlying32 rfl Fa.I32 rfl ?_)
  refine WL.yes rfl rfl rfl (by kernel_rfl) rfl (op_callF Fa.C31 rfl ((ocheck_ok ([111]) _ ([(Sy.mk [109, 97, 105, 110] 1 1 8 [40, 0, 0, 0, 0, 0, 0, 0] v7 [Rl.mk 4 1 [109, 97, 105, 110] 0] (.slice none 0 0) [])]) _ (H17.arrR (i := 4) rfl) (SyD.list_one (SyD_mk (x := (Sy.mk [109, 97, 105, 110] 1 1 8 [40, 0, 0, 0, 0, 0, 0, 0] v7 [Rl.mk 4 1 [109, 97, 105, 110] 0] (.slice none 0 0) [])) (H17.arrR (i := 3) rfl) (Arr.nil _ _))) (fitH_main (by kernel_rfl) (by show 1 < 2 ^ 40; decide)) (by show 1 < 2 ^ 46; decide) (by show 1 < 2 ^ 47; decide)).mono (fun e w18 hq => ?_)))
  obtain ⟨rfl, hf18⟩ := hq
  refine ⟨_, rfl, ?_⟩
  have H18 := H17.fr' hf18
  refine WL.yes rfl rfl rfl (by kernel_rfl) rfl (op_eqlN (b := 0) rfl rfl ?_)
  refine WL.op rfl rfl (op_pickT rfl (by kernel_rfl) rfl ?_)
  refine WL.op rfl rfl (op_move rfl ?_)
  refine WL.yes rfl rfl rfl (by kernel_rfl) rfl (op_move rfl ?_)
  refine WL.yes rfl rfl rfl (by kernel_rfl) rfl (op_eqlN (b := 0) rfl rfl ?_)
  refine WL.op rfl rfl (op_pickT rfl (by kernel_rfl) rfl ?_)
  refine WL.op rfl rfl (op_move rfl ?_)
  refine WL.yes rfl rfl rfl (by kernel_rfl) rfl (op_move rfl ?_)
  refine WL.op rfl rfl (op_pickT rfl (by kernel_rfl) rfl ?_)
  refine WL.op rfl rfl (op_move rfl ?_)
  refine WL.yes rfl rfl rfl (by kernel_rfl) rfl (op_move rfl ?_)
  refine WL.yes rfl rfl rfl (by kernel_rfl) rfl (op_not rfl ?_)
  refine WL.op rfl rfl (op_pickT rfl (by kernel_rfl) rfl ?_)
  refine WL.op rfl rfl (op_move rfl ?_)
  refine WL.yes rfl rfl rfl (by kernel_rfl) rfl (op_loadS (vs := [_, _]) rfl (H18.cells (i := 5) rfl rfl) Tryd.underlying32 rfl Fa.I32 rfl ?_)
  refine WL.yes rfl rfl rfl (by kernel_rfl) rfl (op_loadS (vs := [_, _]) rfl (H18.cells (i := 5) rfl rfl) Tryd.underlying32 rfl Fa.I32 rfl ?_)
  refine WL.yes rfl rfl rfl (by kernel_rfl) rfl (op_buildSlice (cs := [_, _, _, _]) H18 Tryd.underlying78 Fa.I32 rfl rfl rfl rfl (by decide) (by decide) (fun b19 w19 H19 => ?_))
  refine WL.yes rfl rfl rfl (by kernel_rfl) rfl (op_callF Fa.C39 rfl ((onames_ok _ [(Ob.mk ([111]) (.slice (some ⟨b8, 0, none⟩) 1 1) ([(Sy.mk [109, 97, 105, 110] 1 1 8 [40, 0, 0, 0, 0, 0, 0, 0] v7 [Rl.mk 4 1 [109, 97, 105, 110] 0] (.slice none 0 0) [])])), (Ob.mk ([111]) (.slice (some ⟨b8, 0, none⟩) 1 1) ([(Sy.mk [109, 97, 105, 110] 1 1 8 [40, 0, 0, 0, 0, 0, 0, 0] v7 [Rl.mk 4 1 [109, 97, 105, 110] 0] (.slice none 0 0) [])]))] _ (H19.arrR (i := 8) rfl) (ObL_cons (ObD_mk (o := (Ob.mk ([111]) (.slice (some ⟨b8, 0, none⟩) 1 1) ([(Sy.mk [109, 97, 105, 110] 1 1 8 [40, 0, 0, 0, 0, 0, 0, 0] v7 [Rl.mk 4 1 [109, 97, 105, 110] 0] (.slice none 0 0) [])]))) (H19.arrR (i := 4) rfl) (SyD.list_one (SyD_mk (x := (Sy.mk [109, 97, 105, 110] 1 1 8 [40, 0, 0, 0, 0, 0, 0, 0] v7 [Rl.mk 4 1 [109, 97, 105, 110] 0] (.slice none 0 0) [])) (H19.arrR (i := 3) rfl) (Arr.nil _ _)))) (ObL_cons (ObD_mk (o := (Ob.mk ([111]) (.slice (some ⟨b8, 0, none⟩) 1 1) ([(Sy.mk [109, 97, 105, 110] 1 1 8 [40, 0, 0, 0, 0, 0, 0, 0] v7 [Rl.mk 4 1 [109, 97, 105, 110] 0] (.slice none 0 0) [])]))) (H19.arrR (i := 4) rfl) (SyD.list_one (SyD_mk (x := (Sy.mk [109, 97, 105, 110] 1 1 8 [40, 0, 0, 0, 0, 0, 0, 0] v7 [Rl.mk 4 1 [109, 97, 105, 110] 0] (.slice none 0 0) [])) (H19.arrR (i := 3) rfl) (Arr.nil _ _)))) (Deep.list_nil ObD))) (fitOb_two (fitOb_main (by kernel_rfl) (by show 1 < 2 ^ 40; decide))) (by show 2 ≤ 20; decide)).mono (fun e w20 hq => ?_)))
  obtain ⟨v20, rfl, hq20⟩ := hq
  refine ⟨_, rfl, ?_⟩
  have H20 : Own [] w w20 [.row v5 44 4 ([Rl.mk 4 1 [109, 97, 105, 110] 0].length + 1) (List.flatMap rlc ([Rl.mk 4 1 [109, 97, 105, 110] 0] ++ [(Rl.mk 6 2 [109, 97, 105, 110] 0)])), .blk b2 [(str [109, 97, 105, 110]), (vU8 1), (vU8 1), (vU32 8), (str [40, 0, 0, 0, 0, 0, 0, 0]), v5, (.slice none 0 0)] 26, .row (.slice (some ⟨b4, 0, none⟩) 1 1) 44 4 1 (List.flatMap rlc [(Rl.mk 6 2 [109, 97, 105, 110] 0)]), .row v7 44 4 [Rl.mk 4 1 [109, 97, 105, 110] 0].length (List.flatMap rlc [Rl.mk 4 1 [109, 97, 105, 110] 0]), .row (.slice (some ⟨b8, 0, none⟩) 1 1) 26 7 1 (List.flatMap syc [(Sy.mk [109, 97, 105, 110] 1 1 8 [40, 0, 0, 0, 0, 0, 0, 0] v7 [Rl.mk 4 1 [109, 97, 105, 110] 0] (.slice none 0 0) [])]), .blk b9 [(str [111]), (.slice (some ⟨b8, 0, none⟩) 1 1)] 32, .row v13 44 4 [Rl.mk 4 1 [109, 97, 105, 110] 0].length (List.flatMap rlc [Rl.mk 4 1 [109, 97, 105, 110] 0]), .row v15 44 4 [Rl.mk 5 1 [109, 97, 105, 110] 0].length (List.flatMap rlc [Rl.mk 5 1 [109, 97, 105, 110] 0]), .row (.slice (some ⟨b19, 0, none⟩) 2 2) 32 2 2 (List.flatMap obc [(Ob.mk [111] (.slice (some ⟨b8, 0, none⟩) 1 1) [(Sy.mk [109, 97, 105, 110] 1 1 8 [40, 0, 0, 0, 0, 0, 0, 0] v7 [Rl.mk 4 1 [109, 97, 105, 110] 0] (.slice none 0 0) [])]), (Ob.mk [111] (.slice (some ⟨b8, 0, none⟩) 1 1) [(Sy.mk [109, 97, 105, 110] 1 1 8 [40, 0, 0, 0, 0, 0, 0, 0] v7 [Rl.mk 4 1 [109, 97, 105, 110] 0] (.slice none 0 0) [])])]), .row v20 9 1 (resN [(Ob.mk ([111]) (.slice (some ⟨b8, 0, none⟩) 1 1) ([(Sy.mk [109, 97, 105, 110] 1 1 8 [40, 0, 0, 0, 0, 0, 0, 0] v7 [Rl.mk 4 1 [109, 97, 105, 110] 0] (.slice none 0 0) [])])), (Ob.mk ([111]) (.slice (some ⟨b8, 0, none⟩) 1 1) ([(Sy.mk [109, 97, 105, 110] 1 1 8 [40, 0, 0, 0, 0, 0, 0, 0] v7 [Rl.mk 4 1 [109, 97, 105, 110] 0] (.slice none 0 0) [])]))]).length (List.map str (resN [(Ob.mk ([111]) (.slice (some ⟨b8, 0, none⟩) 1 1) ([(Sy.mk [109, 97, 105, 110] 1 1 8 [40, 0, 0, 0, 0, 0, 0, 0] v7 [Rl.mk 4 1 [109, 97, 105, 110] 0] (.slice none 0 0) [])])), (Ob.mk ([111]) (.slice (some ⟨b8, 0, none⟩) 1 1) ([(Sy.mk [109, 97, 105, 110] 1 1 8 [40, 0, 0, 0, 0, 0, 0, 0] v7 [Rl.mk 4 1 [109, 97, 105, 110] 0] (.slice none 0 0) [])]))]))] := H19.splice [] [] [.row v20 9 1 (resN [(Ob.mk ([111]) (.slice (some ⟨b8, 0, none⟩) 1 1) ([(Sy.mk [109, 97, 105, 110] 1 1 8 [40, 0, 0, 0, 0, 0, 0, 0] v7 [Rl.mk 4 1 [109, 97, 105, 110] 0] (.slice none 0 0) [])])), (Ob.mk ([111]) (.slice (some ⟨b8, 0, none⟩) 1 1) ([(Sy.mk [109, 97, 105, 110] 1 1 8 [40, 0, 0, 0, 0, 0, 0, 0] v7 [Rl.mk 4 1 [109, 97, 105, 110] 0] (.slice none 0 0) [])]))]).length (List.map str (resN [(Ob.mk ([111]) (.slice (some ⟨b8, 0, none⟩) 1 1) ([(Sy.mk [109, 97, 105, 110] 1 1 8 [40, 0, 0, 0, 0, 0, 0, 0] v7 [Rl.mk 4 1 [109, 97, 105, 110] 0] (.slice none 0 0) [])])), (Ob.mk ([111]) (.slice (some ⟨b8, 0, none⟩) 1 1) ([(Sy.mk [109, 97, 105, 110] 1 1 8 [40, 0, 0, 0, 0, 0, 0, 0] v7 [Rl.mk 4 1 [109, 97, 105, 110] 0] (.slice none 0 0) [])]))]))] rfl rfl hq20 (Fits.solid True.intro Fits.nil)
  refine WL.yes rfl rfl rfl (by kernel_rfl) rfl (op_buildSlice (cs := [_]) H20 Tryd.underlying80 Fa.I9 rfl rfl rfl rfl (by decide) (by decide) (fun b21 w21 H21 => ?_))
  refine WL.yes rfl rfl rfl (by kernel_rfl) rfl (op_callF Fa.C38 rfl ((same07_ok _ _ (resN [(Ob.mk ([111]) (.slice (some ⟨b8, 0, none⟩) 1 1) ([(Sy.mk [109, 97, 105, 110] 1 1 8 [40, 0, 0, 0, 0, 0, 0, 0] v7 [Rl.mk 4 1 [109, 97, 105, 110] 0] (.slice none 0 0) [])])), (Ob.mk ([111]) (.slice (some ⟨b8, 0, none⟩) 1 1) ([(Sy.mk [109, 97, 105, 110] 1 1 8 [40, 0, 0, 0, 0, 0, 0, 0] v7 [Rl.mk 4 1 [109, 97, 105, 110] 0] (.slice none 0 0) [])]))]) ([[109, 97, 105, 110]]) _ (H21.arrR (i := 9) rfl) (H21.arrR (i := 10) rfl) (of_decide_eq_true (by kernel_rfl))).mono (fun e w22 hq => ?_)))
  obtain ⟨rfl, hf22⟩ := hq
  refine ⟨_, rfl, ?_⟩
  have H22 := H21.fr' hf22
  refine WL.op rfl rfl (op_pickT rfl (by kernel_rfl) rfl ?_)
  refine WL.op rfl rfl (op_move rfl ?_)
  refine WL.yes rfl rfl rfl (by kernel_rfl) rfl (op_build (cs := [_, _, _]) Fa.I68 Fa.PL68 rfl rfl ?_)
  refine WL.yes rfl rfl rfl (by kernel_rfl) rfl (op_callF Fa.C32 rfl ((onote_ok (Nt.mk 3 0 0) _).mono (fun e w23 hq => ?_)))
  obtain ⟨rfl, hf23⟩ := hq
  refine ⟨_, rfl, ?_⟩
  have H23 := H22.fr' hf23
  refine WL.yes rfl rfl rfl (by kernel_rfl) rfl (op_eqlN (b := 2) rfl rfl ?_)
  refine WL.op rfl rfl (op_pickT rfl (by kernel_rfl) rfl ?_)
  refine WL.op rfl rfl (op_assign rfl ?_)
  refine WL.nil ?_
  refine WQ.next ?_
  refine WC.ret ?_
  refine WQ.out (.tmp rfl .nil) ?_
  exact ⟨rfl, H23.fr⟩
set_option maxRecDepth 100000 in
theorem lg08U_ok (lv : Value) (l : List Ob) (w : World) (hA : Arr w lv 2 l.length (List.flatMap obc l)) (hI : ObD.list.ok w l) (hU : ∀ x ∈ l, FitU x) (hl : l.length < 2 ^ 46) :
    Calls Tryd.prog 29 #[lv] w (fun e w' => e = .returned (.bool (lg08 l)) ∧ Fr [] w w') := by
  refine enter (args := [lv]) Tryd.func29 rfl rfl ?_
  have H0 : Own [] w w [] := Own.start w []
  refine WC.seq ?_
  refine WC.region ?_
  refine WL.op rfl rfl (op_assign rfl ?_)
  refine WL.nil ?_
  refine WQ.next ?_
  refine WC.seq ?_
  refine WC.region ?_
  refine WL.op rfl rfl (op_assign rfl ?_)
  refine WL.nil ?_
  refine WQ.next ?_
  refine WC.seq ?_
  refine WC.seq ?_
  refine WC.region ?_
  refine WL.op rfl rfl (op_assign rfl ?_)
  refine WL.nil ?_
  refine WQ.next ?_
  refine WC.block ?_
  refine WC.loop (α := Nat) (fun i => [(0, lv), (2, (.bool false)), (3, (vN (obSum l i))), (4, (vN i))]) (fun i w' => (i ≤ l.length ∧ i ≤ 40) ∧ Own [] w w' []) (fun i => l.length - i) 0 ⟨⟨Nat.zero_le _, by omega⟩, H0⟩ ⟨rfl, rfl, rfl, rfl, trivial⟩ ?_
  rintro i w1 ⟨⟨hi1, hi4⟩, H1⟩
  show WC _ _ _ _ _ [(0, lv), (2, (.bool false)), (3, (vN (obSum l i))), (4, (vN i))] _
  have hso := obSum_leU hU i hi4
  have hfo := fitU_getD hU i
  have hfo1 := hfo.2.1
  refine WC.seq ?_
  refine WC.seq ?_
  refine WC.region ?_
  refine WL.op rfl rfl (op_move rfl ?_)
  refine WL.op rfl rfl (op_move rfl ?_)
  refine WL.op rfl rfl (op_lenA Tryd.underlying78 rfl (H1.arr hA) ?_)
  refine WL.op rfl rfl (op_lssN rfl rfl ?_)
  refine WL.op rfl rfl (op_move rfl ?_)
  refine WL.split (t := 12) rfl (fun (hb2 : (decide (i < l.length)) = true) => ?_) (fun (hb2 : (decide (i < l.length)) = false) => ?_)
  ·
    have hc2 := of_decide_eq_true hb2
    refine WL.yes rfl rfl rfl hb2 rfl (op_move rfl ?_)
    refine WL.yes rfl rfl rfl hb2 rfl (op_lssN (b := 40) rfl rfl ?_)
    refine WL.op rfl rfl (op_pickT rfl hb2 rfl ?_)
    refine WL.nil ?_
    refine WQ.next ?_
    refine WC.cond rfl (fun (hb3 : (decide (i < 40)) = true) => ?_) (fun (hb3 : (decide (i < 40)) = false) => ?_)
    ·
      have hc3 := of_decide_eq_true hb3
      refine WC.skip ?_
      refine WQ.next ?_
      refine WC.seq ?_
      refine WC.block ?_
      refine WC.seq ?_
      refine WC.region ?_
      refine WL.op rfl rfl (op_move rfl ?_)
      refine WL.op rfl rfl (op_move rfl ?_)
      refine WL.op rfl rfl (op_move rfl ?_)
      refine WL.op rfl rfl (op_indexAddr Tryd.underlying78 Fa.I32 rfl (H1.arr hA) rfl (by omega) ?_)
      refine WL.op rfl rfl (op_fieldAddrS rfl Fa.F32_1 ?_)
      refine WL.op rfl rfl (op_load rfl (Arr.atF (k := 1) (H1.arr hA) (fun _ => rfl) (by decide) Ob.zero (by omega) rfl) Tryd.underlying30 rfl ?_)
      refine WL.op rfl rfl (op_lenA Tryd.underlying30 rfl ((ObD_sy (Deep.getD ObD (Deep.fr0 ObD.list hI H1.fr) Ob.zero (ObD_zero _) i))) ?_)
      refine WL.op rfl rfl (op_addN rfl rfl (by omega) ?_)
      refine WL.op rfl rfl (op_assign rfl ?_)
      refine WL.nil ?_
      refine WQ.next ?_
      refine WC.seq ?_
      refine WC.region ?_
      refine WL.op rfl rfl (op_assign rfl ?_)
      refine WL.nil ?_
      refine WQ.next ?_
      refine WC.block ?_
      refine WC.loop (α := Nat) (fun k => [(0, lv), (2, (.bool false)), (3, (vN (obSum l i + (l.getD i Ob.zero).sy.length + sySum (l.getD i Ob.zero).sy k))), (4, (vN i)), (5, (vN k))]) (fun k w' => (k ≤ (l.getD i Ob.zero).sy.length ∧ k ≤ 200) ∧ Own [] w w' []) (fun k => (l.getD i Ob.zero).sy.length - k) 0 ⟨⟨Nat.zero_le _, by omega⟩, H1⟩ ⟨rfl, rfl, rfl, rfl, rfl, trivial⟩ ?_
      rintro k w4 ⟨⟨hk1, hk2⟩, H4⟩
      show WC _ _ _ _ _ [(0, lv), (2, (.bool false)), (3, (vN (obSum l i + (l.getD i Ob.zero).sy.length + sySum (l.getD i Ob.zero).sy k))), (4, (vN i)), (5, (vN k))] _
      have hsk := sySum_leU hfo.2.2 k
      have hfk := fitY_getD hfo.2.2 k
      have hfn := syN_leU hfk
      obtain ⟨hf1, hf2, hf3, hf4, hf5⟩ := hfk
      unfold syN at hfn
      refine WC.seq ?_
      refine WC.seq ?_
      refine WC.region ?_
      refine WL.op rfl rfl (op_move rfl ?_)
      refine WL.op rfl rfl (op_move rfl ?_)
      refine WL.op rfl rfl (op_move rfl ?_)
      refine WL.op rfl rfl (op_indexAddr Tryd.underlying78 Fa.I32 rfl (H4.arr hA) rfl (by omega) ?_)
      refine WL.op rfl rfl (op_fieldAddrS rfl Fa.F32_1 ?_)
      refine WL.op rfl rfl (op_load rfl (Arr.atF (k := 1) (H4.arr hA) (fun _ => rfl) (by decide) Ob.zero (by omega) rfl) Tryd.underlying30 rfl ?_)
      refine WL.op rfl rfl (op_lenA Tryd.underlying30 rfl ((ObD_sy (Deep.getD ObD (Deep.fr0 ObD.list hI H4.fr) Ob.zero (ObD_zero _) i))) ?_)
      refine WL.op rfl rfl (op_lssN rfl rfl ?_)
      refine WL.op rfl rfl (op_move rfl ?_)
      refine WL.split (t := 34) rfl (fun (hb5 : (decide (k < (l.getD i Ob.zero).sy.length)) = true) => ?_) (fun (hb5 : (decide (k < (l.getD i Ob.zero).sy.length)) = false) => ?_)
      ·
        have hc5 := of_decide_eq_true hb5
        refine WL.yes rfl rfl rfl hb5 rfl (op_move rfl ?_)
        refine WL.yes rfl rfl rfl hb5 rfl (op_lssN (b := 200) rfl rfl ?_)
        refine WL.op rfl rfl (op_pickT rfl hb5 rfl ?_)
        refine WL.nil ?_
        refine WQ.next ?_
        refine WC.cond rfl (fun (hb6 : (decide (k < 200)) = true) => ?_) (fun (hb6 : (decide (k < 200)) = false) => ?_)
        ·
          have hc6 := of_decide_eq_true hb6
          refine WC.skip ?_
          refine WQ.next ?_
          refine WC.seq ?_
          refine WC.block ?_
          refine WC.seq ?_
          refine WC.region ?_
          refine WL.op rfl rfl (op_move rfl ?_)
          refine WL.op rfl rfl (op_move rfl ?_)
          refine WL.op rfl rfl (op_indexAddr Tryd.underlying78 Fa.I32 rfl (H4.arr hA) rfl (by omega) ?_)
          refine WL.op rfl rfl (op_fieldAddrS rfl Fa.F32_1 ?_)
          refine WL.op rfl rfl (op_load rfl (Arr.atF (k := 1) (H4.arr hA) (fun _ => rfl) (by decide) Ob.zero (by omega) rfl) Tryd.underlying30 rfl ?_)
          refine WL.op rfl rfl (op_move rfl ?_)
          refine WL.op rfl rfl (op_indexAddr Tryd.underlying30 Fa.I26 rfl ((ObD_sy (Deep.getD ObD (Deep.fr0 ObD.list hI H4.fr) Ob.zero (ObD_zero _) i))) rfl (by omega) ?_)
          refine WL.op rfl rfl (op_loadSP (vs := syc ((l.getD i Ob.zero).sy.getD k Sy.zero)) rfl (Arr.atsF ((ObD_sy (Deep.getD ObD (Deep.fr0 ObD.list hI H4.fr) Ob.zero (ObD_zero _) i))) (fun _ => rfl) (by decide) Sy.zero (by omega)) Tryd.underlying26 rfl Fa.I26 rfl ?_)
          refine WL.op rfl rfl (op_alloc H4 Fa.I26 (fun b7 w7 H7 => ?_))
          refine WL.op rfl rfl (op_storeBW (i := 0) H7 rfl rfl rfl rfl (one_cons rfl (one_cons rfl (one_cons rfl (one_cons rfl (one_cons rfl (one_cons (Arr.one ((SyD_rl (Deep.getD SyD (ObD_in (Deep.getD ObD (Deep.fr0 ObD.list hI H7.fr) Ob.zero (ObD_zero _) i)) Sy.zero (SyD_zero _) k)))) (one_cons (Arr.one ((SyD_nt (Deep.getD SyD (ObD_in (Deep.getD ObD (Deep.fr0 ObD.list hI H7.fr) Ob.zero (ObD_zero _) i)) Sy.zero (SyD_zero _) k)))) one_nil))))))) Fa.I26 (fun w8 H8 => ?_))
          refine WL.nil ?_
          refine WQ.next ?_
          refine WC.seq ?_
          refine WC.region ?_
          refine WL.op rfl rfl (op_move rfl ?_)
          refine WL.op rfl rfl (op_fieldAddr rfl Fa.F26_5 ?_)
          refine WL.op rfl rfl (op_load rfl (H8.cell (i := 0) rfl rfl) Tryd.underlying23 rfl ?_)
          refine WL.op rfl rfl (op_lenA Tryd.underlying23 rfl ((SyD_rl (Deep.getD SyD (ObD_in (Deep.getD ObD (Deep.fr0 ObD.list hI H8.fr) Ob.zero (ObD_zero _) i)) Sy.zero (SyD_zero _) k))) ?_)
          refine WL.op rfl rfl (op_quoN (b := 4) rfl rfl (by omega) (by omega) ?_)
          refine WL.op rfl rfl (op_addN rfl rfl (by omega) ?_)
          refine WL.op rfl rfl (op_fieldAddr rfl Fa.F26_6 ?_)
          refine WL.op rfl rfl (op_load rfl (H8.cell (i := 0) rfl rfl) Tryd.underlying24 rfl ?_)
          refine WL.op rfl rfl (op_lenA Tryd.underlying24 rfl ((SyD_nt (Deep.getD SyD (ObD_in (Deep.getD ObD (Deep.fr0 ObD.list hI H8.fr) Ob.zero (ObD_zero _) i)) Sy.zero (SyD_zero _) k))) ?_)
          refine WL.op rfl rfl (op_quoN (b := 4) rfl rfl (by omega) (by omega) ?_)
          refine WL.op rfl rfl (op_addN rfl rfl (by omega) ?_)
          refine WL.op rfl rfl (op_fieldAddr rfl Fa.F26_4 ?_)
          refine WL.op rfl rfl (op_load rfl (H8.cell (i := 0) rfl rfl) Tryd.underlying9 rfl ?_)
          refine WL.op rfl rfl (op_lenStr Tryd.underlying9 rfl ?_)
          refine WL.op rfl rfl (op_quoN (b := 64) rfl rfl (by omega) (by omega) ?_)
          refine WL.op rfl rfl (op_addN rfl rfl (by omega) ?_)
          refine WL.op rfl rfl (op_fieldAddr rfl Fa.F26_0 ?_)
          refine WL.op rfl rfl (op_load rfl (H8.cell (i := 0) rfl rfl) Tryd.underlying9 rfl ?_)
          refine WL.op rfl rfl (op_lenStr Tryd.underlying9 rfl ?_)
          refine WL.op rfl rfl (op_quoN (b := 16) rfl rfl (by omega) (by omega) ?_)
          refine WL.op rfl rfl (op_addN rfl rfl (by omega) ?_)
          refine WL.op rfl rfl (op_assign rfl ?_)
          refine WL.nil ?_
          refine WQ.next ?_
          refine WC.seq ?_
          refine WC.region ?_
          refine WL.op rfl rfl (op_assign rfl ?_)
          refine WL.nil ?_
          refine WQ.next ?_
          refine WC.block ?_
          refine WC.loop (α := Nat) (fun j => [(0, lv), (2, (.bool false)), (3, (vN (obSum l i + (l.getD i Ob.zero).sy.length + sySum (l.getD i Ob.zero).sy k + ((l.getD i Ob.zero).sy.getD k Sy.zero).rl.length / 4 + ((l.getD i Ob.zero).sy.getD k Sy.zero).nt.length / 4 + ((l.getD i Ob.zero).sy.getD k Sy.zero).b.length / 64 + ((l.getD i Ob.zero).sy.getD k Sy.zero).nm.length / 16 + nameSum ((l.getD i Ob.zero).sy.getD k Sy.zero).rl j))), (4, (vN i)), (5, (vN k)), (6, (ptr b7 0)), (7, (vN j))]) (fun j w' => (j ≤ ((l.getD i Ob.zero).sy.getD k Sy.zero).rl.length ∧ j ≤ 1100) ∧ Own [] w w' [.blk b7 [(str ((l.getD i Ob.zero).sy.getD k Sy.zero).nm), (vU8 ((l.getD i Ob.zero).sy.getD k Sy.zero).bind), (vU8 ((l.getD i Ob.zero).sy.getD k Sy.zero).kind), (vU32 ((l.getD i Ob.zero).sy.getD k Sy.zero).size), (str ((l.getD i Ob.zero).sy.getD k Sy.zero).b), ((l.getD i Ob.zero).sy.getD k Sy.zero).rv, ((l.getD i Ob.zero).sy.getD k Sy.zero).nv] 26]) (fun j => ((l.getD i Ob.zero).sy.getD k Sy.zero).rl.length - j) 0 ⟨⟨Nat.zero_le _, by omega⟩, H8⟩ ⟨rfl, rfl, rfl, rfl, rfl, rfl, rfl, trivial⟩ ?_
          rintro j w9 ⟨⟨hj1, hj2⟩, H9⟩
          show WC _ _ _ _ _ [(0, lv), (2, (.bool false)), (3, (vN (obSum l i + (l.getD i Ob.zero).sy.length + sySum (l.getD i Ob.zero).sy k + ((l.getD i Ob.zero).sy.getD k Sy.zero).rl.length / 4 + ((l.getD i Ob.zero).sy.getD k Sy.zero).nt.length / 4 + ((l.getD i Ob.zero).sy.getD k Sy.zero).b.length / 64 + ((l.getD i Ob.zero).sy.getD k Sy.zero).nm.length / 16 + nameSum ((l.getD i Ob.zero).sy.getD k Sy.zero).rl j))), (4, (vN i)), (5, (vN k)), (6, (ptr b7 0)), (7, (vN j))] _
          have hsj := nameSum_leU hf5 j
          have hgj := getP (p := fun y : Rl => y.nm.length ≤ 1048576) (d := Rl.zero) hf5 (by decide) j
          refine WC.seq ?_
          refine WC.seq ?_
          refine WC.region ?_
          refine WL.op rfl rfl (op_move rfl ?_)
          refine WL.op rfl rfl (op_fieldAddr rfl Fa.F26_5 ?_)
          refine WL.op rfl rfl (op_load rfl (H9.cell (i := 0) rfl rfl) Tryd.underlying23 rfl ?_)
          refine WL.op rfl rfl (op_lenA Tryd.underlying23 rfl ((SyD_rl (Deep.getD SyD (ObD_in (Deep.getD ObD (Deep.fr0 ObD.list hI H9.fr) Ob.zero (ObD_zero _) i)) Sy.zero (SyD_zero _) k))) ?_)
          refine WL.op rfl rfl (op_lssN rfl rfl ?_)
          refine WL.op rfl rfl (op_move rfl ?_)
          refine WL.split (t := 74) rfl (fun (hb10 : (decide (j < ((l.getD i Ob.zero).sy.getD k Sy.zero).rl.length)) = true) => ?_) (fun (hb10 : (decide (j < ((l.getD i Ob.zero).sy.getD k Sy.zero).rl.length)) = false) => ?_)
          ·
            have hc10 := of_decide_eq_true hb10
            refine WL.yes rfl rfl rfl hb10 rfl (op_move rfl ?_)
            refine WL.yes rfl rfl rfl hb10 rfl (op_lssN (b := 1100) rfl rfl ?_)
            refine WL.op rfl rfl (op_pickT rfl hb10 rfl ?_)
            refine WL.nil ?_
            refine WQ.next ?_
            refine WC.cond rfl (fun (hb11 : (decide (j < 1100)) = true) => ?_) (fun (hb11 : (decide (j < 1100)) = false) => ?_)
            ·
              have hc11 := of_decide_eq_true hb11
              refine WC.skip ?_
              refine WQ.next ?_
              refine WC.seq ?_
              refine WC.block ?_
              refine WC.region ?_
              refine WL.op rfl rfl (op_move rfl ?_)
              refine WL.op rfl rfl (op_fieldAddr rfl Fa.F26_5 ?_)
              refine WL.op rfl rfl (op_load rfl (H9.cell (i := 0) rfl rfl) Tryd.underlying23 rfl ?_)
              refine WL.op rfl rfl (op_move rfl ?_)
              refine WL.op rfl rfl (op_indexAddr Tryd.underlying23 Fa.I44 rfl ((SyD_rl (Deep.getD SyD (ObD_in (Deep.getD ObD (Deep.fr0 ObD.list hI H9.fr) Ob.zero (ObD_zero _) i)) Sy.zero (SyD_zero _) k))) rfl (by omega) ?_)
              refine WL.op rfl rfl (op_fieldAddrS rfl Fa.F44_2 ?_)
              refine WL.op rfl rfl (op_load rfl (Arr.atF (k := 2) ((SyD_rl (Deep.getD SyD (ObD_in (Deep.getD ObD (Deep.fr0 ObD.list hI H9.fr) Ob.zero (ObD_zero _) i)) Sy.zero (SyD_zero _) k))) (fun _ => rfl) (by decide) Rl.zero (by omega) rfl) Tryd.underlying9 rfl ?_)
              refine WL.op rfl rfl (op_lenStr Tryd.underlying9 rfl ?_)
              refine WL.op rfl rfl (op_quoN (b := 64) rfl rfl (by omega) (by omega) ?_)
              refine WL.op rfl rfl (op_addN rfl rfl (by omega) ?_)
              refine WL.op rfl rfl (op_assign rfl ?_)
              refine WL.nil ?_
              refine WQ.inNormal ?_
              refine WQ.next ?_
              refine WC.region ?_
              refine WL.op rfl rfl (op_move rfl ?_)
              refine WL.op rfl rfl (op_addN (b := 1) rfl rfl (by omega) ?_)
              refine WL.op rfl rfl (op_assign rfl ?_)
              refine WL.nil ?_
              exact WQ.round (j + 1) ⟨(by omega), H9⟩ ⟨rfl, rfl, (congrArg (fun x => some (vN x)) (by rw [nameSum]; omega)), rfl, rfl, rfl, rfl, trivial⟩ (by omega)
            ·
              have hc11 := of_decide_eq_false hb11
              refine WC.exit ?_
              refine WQ.thenExit ?_
              refine WQ.thenExit ?_
              refine WQ.inHere ?_
              refine WQ.inNormal ?_
              refine WQ.next ?_
              refine WC.region ?_
              refine WL.op rfl rfl (op_move rfl ?_)
              refine WL.op rfl rfl (op_addN (b := 1) rfl rfl (by omega) ?_)
              refine WL.op rfl rfl (op_assign rfl ?_)
              refine WL.nil ?_
              exact WQ.round (k + 1) ⟨(by omega), (H9.take 0)⟩ ⟨rfl, rfl, (congrArg (fun x => some (vN x)) (by rw [sySum, show min ((l.getD i Ob.zero).sy.getD k Sy.zero).rl.length 1100 = j by omega, syN]; omega)), rfl, rfl, trivial⟩ (by omega)
          ·
            have hc10 := of_decide_eq_false hb10
            refine WL.no rfl rfl rfl hb10 rfl ?_
            refine WL.no rfl rfl rfl hb10 rfl ?_
            refine WL.op rfl rfl (op_pickF rfl hb10 rfl ?_)
            refine WL.nil ?_
            refine WQ.next ?_
            refine WC.no rfl rfl ?_
            refine WC.exit ?_
            refine WQ.thenExit ?_
            refine WQ.thenExit ?_
            refine WQ.inHere ?_
            refine WQ.inNormal ?_
            refine WQ.next ?_
            refine WC.region ?_
            refine WL.op rfl rfl (op_move rfl ?_)
            refine WL.op rfl rfl (op_addN (b := 1) rfl rfl (by omega) ?_)
            refine WL.op rfl rfl (op_assign rfl ?_)
            refine WL.nil ?_
            exact WQ.round (k + 1) ⟨(by omega), (H9.take 0)⟩ ⟨rfl, rfl, (congrArg (fun x => some (vN x)) (by rw [sySum, show min ((l.getD i Ob.zero).sy.getD k Sy.zero).rl.length 1100 = j by omega, syN]; omega)), rfl, rfl, trivial⟩ (by omega)
        ·
          have hc6 := of_decide_eq_false hb6
          refine WC.exit ?_
          refine WQ.thenExit ?_
          refine WQ.thenExit ?_
          refine WQ.inHere ?_
          refine WQ.inNormal ?_
          refine WQ.next ?_
          refine WC.region ?_
          refine WL.op rfl rfl (op_move rfl ?_)
          refine WL.op rfl rfl (op_addN (b := 1) rfl rfl (by omega) ?_)
          refine WL.op rfl rfl (op_assign rfl ?_)
          refine WL.nil ?_
          exact WQ.round (i + 1) ⟨(by omega), H4⟩ ⟨rfl, rfl, (congrArg (fun x => some (vN x)) (by rw [obSum, show min (l.getD i Ob.zero).sy.length 200 = k by omega])), rfl, trivial⟩ (by omega)
      ·
        have hc5 := of_decide_eq_false hb5
        refine WL.no rfl rfl rfl hb5 rfl ?_
        refine WL.no rfl rfl rfl hb5 rfl ?_
        refine WL.op rfl rfl (op_pickF rfl hb5 rfl ?_)
        refine WL.nil ?_
        refine WQ.next ?_
        refine WC.no rfl rfl ?_
        refine WC.exit ?_
        refine WQ.thenExit ?_
        refine WQ.thenExit ?_
        refine WQ.inHere ?_
        refine WQ.inNormal ?_
        refine WQ.next ?_
        refine WC.region ?_
        refine WL.op rfl rfl (op_move rfl ?_)
        refine WL.op rfl rfl (op_addN (b := 1) rfl rfl (by omega) ?_)
        refine WL.op rfl rfl (op_assign rfl ?_)
        refine WL.nil ?_
        exact WQ.round (i + 1) ⟨(by omega), H4⟩ ⟨rfl, rfl, (congrArg (fun x => some (vN x)) (by rw [obSum, show min (l.getD i Ob.zero).sy.length 200 = k by omega])), rfl, trivial⟩ (by omega)
    ·
      have hc3 := of_decide_eq_false hb3
      refine WC.exit ?_
      refine WQ.thenExit ?_
      refine WQ.thenExit ?_
      refine WQ.inHere ?_
      refine WQ.next ?_
      refine WC.seq ?_
      refine WC.region ?_
      refine WL.op rfl rfl (op_move rfl ?_)
      refine WL.op rfl rfl (op_lenA Tryd.underlying78 rfl (H1.arr hA) ?_)
      refine WL.op rfl rfl (op_gtrN (b := 20) rfl rfl ?_)
      refine WL.op rfl rfl (op_move rfl ?_)
      refine WL.split (t := 93) rfl (fun (hb12 : (decide (l.length > 20)) = true) => ?_) (fun (hb12 : (decide (l.length > 20)) = false) => ?_)
      ·
        have hc12 := of_decide_eq_true hb12
        refine WL.no rfl rfl rfl hb12 rfl ?_
        refine WL.no rfl rfl rfl hb12 rfl ?_
        refine WL.op rfl rfl (op_pickT rfl hb12 rfl ?_)
        refine WL.op rfl rfl (op_assign rfl ?_)
        refine WL.nil ?_
        refine WQ.next ?_
        refine WC.ret ?_
        refine WQ.out (.tmp rfl .nil) ?_
        exact ⟨by (rw [lg08, hb12]) <;> rfl, H1.fr⟩
      ·
        have hc12 := of_decide_eq_false hb12
        refine WL.yes rfl rfl rfl hb12 rfl (op_move rfl ?_)
        refine WL.yes rfl rfl rfl hb12 rfl (op_gtrN (b := 2000) rfl rfl ?_)
        refine WL.op rfl rfl (op_pickF rfl hb12 rfl ?_)
        refine WL.op rfl rfl (op_assign rfl ?_)
        refine WL.nil ?_
        refine WQ.next ?_
        refine WC.ret ?_
        refine WQ.out (.tmp rfl .nil) ?_
        exact ⟨by (rw [lg08, hb12, show min l.length 40 = i by omega]) <;> rfl, H1.fr⟩
  ·
    have hc2 := of_decide_eq_false hb2
    refine WL.no rfl rfl rfl hb2 rfl ?_
    refine WL.no rfl rfl rfl hb2 rfl ?_
    refine WL.op rfl rfl (op_pickF rfl hb2 rfl ?_)
    refine WL.nil ?_
    refine WQ.next ?_
    refine WC.no rfl rfl ?_
    refine WC.exit ?_
    refine WQ.thenExit ?_
    refine WQ.thenExit ?_
    refine WQ.inHere ?_
    refine WQ.next ?_
    refine WC.seq ?_
    refine WC.region ?_
    refine WL.op rfl rfl (op_move rfl ?_)
    refine WL.op rfl rfl (op_lenA Tryd.underlying78 rfl (H1.arr hA) ?_)
    refine WL.op rfl rfl (op_gtrN (b := 20) rfl rfl ?_)
    refine WL.op rfl rfl (op_move rfl ?_)
    refine WL.split (t := 93) rfl (fun (hb13 : (decide (l.length > 20)) = true) => ?_) (fun (hb13 : (decide (l.length > 20)) = false) => ?_)
    ·
      have hc13 := of_decide_eq_true hb13
      refine WL.no rfl rfl rfl hb13 rfl ?_
      refine WL.no rfl rfl rfl hb13 rfl ?_
      refine WL.op rfl rfl (op_pickT rfl hb13 rfl ?_)
      refine WL.op rfl rfl (op_assign rfl ?_)
      refine WL.nil ?_
      refine WQ.next ?_
      refine WC.ret ?_
      refine WQ.out (.tmp rfl .nil) ?_
      exact ⟨by (rw [lg08, hb13]) <;> rfl, H1.fr⟩
    ·
      have hc13 := of_decide_eq_false hb13
      refine WL.yes rfl rfl rfl hb13 rfl (op_move rfl ?_)
      refine WL.yes rfl rfl rfl hb13 rfl (op_gtrN (b := 2000) rfl rfl ?_)
      refine WL.op rfl rfl (op_pickF rfl hb13 rfl ?_)
      refine WL.op rfl rfl (op_assign rfl ?_)
      refine WL.nil ?_
      refine WQ.next ?_
      refine WC.ret ?_
      refine WQ.out (.tmp rfl .nil) ?_
      exact ⟨by (rw [lg08, hb13, show min l.length 40 = i by omega]) <;> rfl, H1.fr⟩
end Go.Proofs.YtnngbnenekjffaaDoor
/-! from DOb6 -/
namespace Go.Proofs.YtnngbnenekjffaaDoor
open Go.Owl Go.Spec
set_option maxRecDepth 100000 in
theorem objNames_ok (lv : Value) (l : List Ob) (w : World) (hA : Arr w lv 2 l.length (List.flatMap obc l)) (hI : ObD.list.ok w l) (hU : ∀ x ∈ l, FitU x) (hl : l.length < 2 ^ 46) :
    Calls Tryd.prog 9 #[lv] w (fun e w' => e = .returned (.bool true) ∧ Fr [] w w') := by
  refine enter (args := [lv]) Tryd.func9 rfl rfl ?_
  have H0 : Own [] w w [] := Own.start w []
  refine WC.seq ?_
  refine WC.region ?_
  refine WL.op rfl rfl (op_assign rfl ?_)
  refine WL.nil ?_
  refine WQ.next ?_
  refine WC.seq ?_
  refine WC.seq ?_
  refine WC.region ?_
  refine WL.op rfl rfl (op_move rfl ?_)
  refine WL.op rfl rfl (op_callF Fa.C29 rfl ((lg08U_ok _ l _ (H0.arr hA) (Deep.fr0 ObD.list hI H0.fr) hU hl).mono (fun e w1 hq => ?_)))
  obtain ⟨rfl, hf1⟩ := hq
  refine ⟨_, rfl, ?_⟩
  have H1 := H0.fr' hf1
  refine WL.nil ?_
  refine WQ.next ?_
  refine WC.cond rfl (fun (hb2 : (lg08 l) = true) => ?_) (fun (hb2 : (lg08 l) = false) => ?_)
  ·
    refine WC.seq ?_
    refine WC.region ?_
    refine WL.op rfl rfl (op_callF Fa.C30 rfl ((alive08_ok _).mono (fun e w3 hq => ?_)))
    obtain ⟨rfl, hf3⟩ := hq
    refine ⟨_, rfl, ?_⟩
    have H3 := H1.fr' hf3
    refine WL.op rfl rfl (op_assign rfl ?_)
    refine WL.nil ?_
    refine WQ.next ?_
    refine WC.ret ?_
    refine WQ.thenRet ?_
    refine WQ.out (.tmp rfl .nil) ?_
    exact ⟨rfl, H3.fr⟩
  ·
    have hl20 := lg_20 hb2
    have hrl := ptAll_len (lo := l) l.length
    have hF : ∀ o ∈ l, FitOb o := fun o ho => fitU_Ob (hU o ho)
    refine WC.skip ?_
    refine WQ.next ?_
    refine WC.seq ?_
    refine WC.region ?_
    refine WL.op rfl rfl (op_move rfl ?_)
    refine WL.op rfl rfl (op_callF Fa.C39 rfl ((onames_ok _ l _ (H1.arr hA) (Deep.fr0 ObD.list hI H1.fr) hF hl20).mono (fun e w4 hq => ?_)))
    obtain ⟨v4, rfl, hq4⟩ := hq
    refine ⟨_, rfl, ?_⟩
    have H4 : Own [] w w4 [.row v4 9 1 (resN l).length (List.map str (resN l))] := H1.splice [] [] [.row v4 9 1 (resN l).length (List.map str (resN l))] rfl rfl hq4 (Fits.solid True.intro Fits.nil)
    refine WL.op rfl rfl (op_move rfl ?_)
    refine WL.op rfl rfl (op_callF Fa.C40 rfl ((rnames_ok _ l _ (H4.arr hA) (Deep.fr0 ObD.list hI H4.fr) hF hl20).mono (fun e w5 hq => ?_)))
    obtain ⟨v5, rfl, ha5, hq5⟩ := hq
    refine ⟨_, rfl, ?_⟩
    have H5 : Own [] w w5 [.row v4 9 1 (resN l).length (List.map str (resN l)), Ent.ar v5 1 (resN l).length (List.map str (resN l))] := H4.splice [] [] [Ent.ar v5 1 (resN l).length (List.map str (resN l))] rfl rfl hq5 (Fits.fresh ha5 Fits.nil)
    refine WL.op rfl rfl (op_callF Fa.C38 rfl ((same07_ok _ _ (resN l) (resN l) _ (H5.arrR (i := 0) rfl) (H5.arrO (i := 1) rfl) (by show (ptAll l l.length).length < 2 ^ 40; omega)).mono (fun e w6 hq => ?_)))
    obtain ⟨rfl, hf6⟩ := hq
    refine ⟨_, rfl, ?_⟩
    have H6 := H5.fr' hf6
    refine WL.op rfl rfl (op_move rfl ?_)
    refine WL.yes rfl rfl rfl (decide_eq_true rfl) rfl (op_callF Fa.C30 rfl ((alive08_ok _).mono (fun e w7 hq => ?_)))
    obtain ⟨rfl, hf7⟩ := hq
    refine ⟨_, rfl, ?_⟩
    have H7 := H6.fr' hf7
    refine WL.op rfl rfl (op_pickT rfl (decide_eq_true rfl) rfl ?_)
    refine WL.op rfl rfl (op_assign rfl ?_)
    refine WL.nil ?_
    refine WQ.next ?_
    refine WC.ret ?_
    refine WQ.out (.tmp rfl .nil) ?_
    exact ⟨rfl, H7.fr⟩
end Go.Proofs.YtnngbnenekjffaaDoor
