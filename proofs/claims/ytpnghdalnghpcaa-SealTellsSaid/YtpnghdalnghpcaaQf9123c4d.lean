/- General lemmas and walks: WImg3, WImg4, WImg5, WImg6, WImg7, WImg8. No condition but what each theorem names. -/
import Derived.Test.YtpnghdalnghpcaaQcf708baf
import Derived.Test.YtpnghdalnghpcaaQ8b1839b4
/-! from WImg3 -/
namespace Go.Proofs.Ytpnghdalnghpcaa
open Go.Owl Go.Spec
set_option maxRecDepth 100000 in
theorem iput_ok (pg : UInt32) (ev pv sv : Value) (xs : List Xt) (ps : List UInt16) (con : Bool) (en : UInt32) (sg : List Sg) (w : World) (hE : Arr w ev 2 xs.length (List.flatMap xtc xs)) (hP : Arr w pv 1 ps.length (List.map vU16 ps)) (hS : Arr w sv 3 sg.length (List.flatMap sgc sg)) (bx : xs.length ≤ 2 ^ 20) (bp : ps.length ≤ 2 ^ 20) (bs : sg.length ≤ 2 ^ 10) (bb : ∀ x ∈ sg, x.b.length ≤ 2 ^ 30) :
    Calls Try.prog 41 #[(.agg #[(vU32 pg), ev, pv, (.bool con), (vU32 en), sv])] w (fun e w' => e = .returned (.tuple #[str (imB pg xs ps con en sg), vN (imE pg xs ps en sg)]) ∧ Fr [] w w') := by
  refine enter (args := [(.agg #[(vU32 pg), ev, pv, (.bool con), (vU32 en), sv])]) Try.func41 rfl rfl ?_
  have H0 : Own [] w w [] := Own.start w []
  have hq1 := imP1_len pg xs
  have hq2 := imP2_len pg xs ps
  have hq3 := imP3_len pg xs ps con en sg
  
  refine WC.seq ?_
  refine WC.region ?_
  refine WL.op rfl rfl (op_box H0 rfl rfl (fun b1 w1 H1 => ?_))
  refine WL.op rfl rfl (op_assign rfl ?_)
  refine WL.op rfl rfl (op_assign rfl ?_)
  refine WL.nil ?_
  refine WQ.next ?_
  refine WC.seq ?_
  refine WC.seq ?_
  refine WC.region ?_
  refine WL.op rfl rfl (op_loadS (vs := [_, _, _, _, _, _]) rfl (H1.cells (i := 0) rfl rfl) Try.underlying59 rfl Fa.I59 rfl ?_)
  refine WL.op rfl rfl (op_callF Fa.C40 rfl ((icheck_ok pg _ _ _ xs ps con en sg _ (H1.arr hE) (H1.arr hP) (H1.arr hS) (by omega) (by omega) (by omega)).mono (fun e w2 hq => ?_)))
  obtain ⟨rfl, hf2⟩ := hq
  refine ⟨_, rfl, ?_⟩
  have H2 := H1.fr' hf2
  refine WL.op rfl rfl (op_assign rfl ?_)
  refine WL.nil ?_
  refine WQ.next ?_
  refine WC.seq ?_
  refine WC.region ?_
  refine WL.op rfl rfl (op_move rfl ?_)
  refine WL.op rfl rfl (op_neqN (b := 0) rfl rfl ?_)
  refine WL.nil ?_
  refine WQ.next ?_
  refine WC.cond rfl (fun (hb3 : (decide ((imE pg xs ps en sg) ≠ 0)) = true) => ?_) (fun (hb3 : (decide ((imE pg xs ps en sg) ≠ 0)) = false) => ?_)
  ·
    have hc3 := of_decide_eq_true hb3
    refine WC.seq ?_
    refine WC.region ?_
    refine WL.op rfl rfl (op_move rfl ?_)
    refine WL.op rfl rfl (op_assign rfl ?_)
    refine WL.op rfl rfl (op_assign rfl ?_)
    refine WL.nil ?_
    refine WQ.next ?_
    refine WC.ret ?_
    refine WQ.thenRet ?_
    refine WQ.out (.tmp rfl (.tmp rfl .nil)) ?_
    have h2 := hc3
    rw [imB, if_neg h2]
    exact ⟨rfl, H2.fr⟩
  ·
    have hc3 := of_decide_eq_false hb3
    refine WC.skip ?_
    refine WQ.next ?_
    refine WC.seq ?_
    refine WC.region ?_
    refine WL.op rfl rfl (op_alloc H2 Fa.I123 (fun b4 w4 H4 => ?_))
    refine WL.nil ?_
    refine WQ.next ?_
    refine WC.seq ?_
    refine WC.region ?_
    have H5 : Own [] w w4 [.blk b1 [(vU32 pg), ev, pv, (.bool con), (vU32 en), sv] 59, .blk b4 [(.pointer none), (.slice none 0 0)] 123, .row (.slice none 0 0) 5 1 0 (List.map vU8 [])] := H4.nilRow 5 1
    refine WL.op rfl rfl (op_fieldAddr rfl Fa.F123_0 ?_)
    refine WL.op rfl rfl (op_callF Fa.C85 rfl ((ws_ok b4 (.pointer none) (.slice none 0 0) 0 ([]) ([65, 73, 77, 49]) 123 _ _ (H5.part [1, 2] rfl rfl) (.inl rfl) Fa.CO123 Fa.LI123_121 (by first | (show 0 + 4 < 2 ^ 46; decide) | (simp only [List.length_append]; omega))).mono (fun e w6 hq => ?_)))
    obtain ⟨v6, rfl, hq6⟩ := hq
    refine ⟨_, rfl, ?_⟩
    have H6 : Own [] w w6 [.blk b1 [(vU32 pg), ev, pv, (.bool con), (vU32 en), sv] 59, .blk b4 [(ptr b4 0), v6] 123, .row v6 5 1 (0 + [65, 73, 77, 49].length) (List.map vU8 ([] ++ [65, 73, 77, 49]))] := H5.splice [1, 2] [.blk b4 [(ptr b4 0), v6] 123, .row v6 5 1 (0 + [65, 73, 77, 49].length) (List.map vU8 ([] ++ [65, 73, 77, 49]))] [] rfl rfl hq6 (Fits.solid True.intro (Fits.solid True.intro Fits.nil))
    refine WL.nil ?_
    refine WQ.next ?_
    refine WC.seq ?_
    refine WC.region ?_
    refine WL.op rfl rfl (op_fieldAddr rfl Fa.F59_0 ?_)
    refine WL.op rfl rfl (op_fieldAddr rfl Fa.F56_0 ?_)
    refine WL.op rfl rfl (op_load rfl (H6.cell (i := 0) rfl rfl) Try.underlying22 rfl ?_)
    refine WL.op rfl rfl (op_buildSlice (cs := [_]) H6 Try.underlying64 Fa.I22 rfl rfl rfl rfl (by decide) (by decide) (fun b7 w7 H7 => ?_))
    refine WL.op rfl rfl (op_callF Fa.C86 rfl ((nums1_ok b4 v6 (.slice (some ⟨b7, 0, none⟩) 1 1) (0 + [65, 73, 77, 49].length) ([] ++ [65, 73, 77, 49]) pg 4 _ _ (H7.part [1, 2] rfl rfl) (H7.stayR (I := [1, 2]) (k := 3) rfl rfl rfl) (by (try simp only [List.length_append, List.length_cons, List.length_nil]); omega)).mono (fun e w8 hq => ?_)))
    obtain ⟨v8, rfl, hq8⟩ := hq
    refine ⟨_, rfl, ?_⟩
    have H8 : Own [] w w8 [.blk b1 [(vU32 pg), ev, pv, (.bool con), (vU32 en), sv] 59, .blk b4 [(ptr b4 0), v8] 123, .row v8 5 1 (([] ++ [65, 73, 77, 49]) ++ (numS pg 4)).length (List.map vU8 (([] ++ [65, 73, 77, 49]) ++ (numS pg 4))), .row (.slice (some ⟨b7, 0, none⟩) 1 1) 22 1 1 (List.map vU32 [pg])] := H7.splice [1, 2] [.blk b4 [(ptr b4 0), v8] 123, .row v8 5 1 (([] ++ [65, 73, 77, 49]) ++ (numS pg 4)).length (List.map vU8 (([] ++ [65, 73, 77, 49]) ++ (numS pg 4)))] [] rfl rfl hq8 (Fits.solid True.intro (Fits.solid True.intro Fits.nil))
    refine WL.nil ?_
    refine WQ.next ?_
    refine WC.seq ?_
    refine WC.region ?_
    refine WL.op rfl rfl (op_fieldAddr rfl Fa.F59_0 ?_)
    refine WL.op rfl rfl (op_fieldAddr rfl Fa.F56_1 ?_)
    refine WL.op rfl rfl (op_load rfl (H8.cell (i := 0) rfl rfl) Try.underlying53 rfl ?_)
    refine WL.op rfl rfl (op_lenA Try.underlying53 rfl (H8.arr hE) ?_)
    refine WL.op rfl rfl (op_convNU32 (hs := Try.underlying3) (hd := Try.underlying22) rfl ?_)
    refine WL.op rfl rfl (op_buildSlice (cs := [_]) H8 Try.underlying64 Fa.I22 rfl rfl rfl rfl (by decide) (by decide) (fun b9 w9 H9 => ?_))
    refine WL.op rfl rfl (op_callF Fa.C86 rfl ((nums1_ok b4 v8 (.slice (some ⟨b9, 0, none⟩) 1 1) (([] ++ [65, 73, 77, 49]) ++ (numS pg 4)).length (([] ++ [65, 73, 77, 49]) ++ (numS pg 4)) (UInt32.ofNat xs.length) 1 _ _ (H9.part [1, 2] rfl rfl) (H9.stayR (I := [1, 2]) (k := 4) rfl rfl rfl) (by have := numE_len pg 4; (try simp only [List.length_append, List.length_cons, List.length_nil]); omega)).mono (fun e w10 hq => ?_)))
    obtain ⟨v10, rfl, hq10⟩ := hq
    refine ⟨_, rfl, ?_⟩
    have H10 : Own [] w w10 [.blk b1 [(vU32 pg), ev, pv, (.bool con), (vU32 en), sv] 59, .blk b4 [(ptr b4 0), v10] 123, .row v10 5 1 ((([] ++ [65, 73, 77, 49]) ++ (numS pg 4)) ++ (numS (UInt32.ofNat xs.length) 1)).length (List.map vU8 ((([] ++ [65, 73, 77, 49]) ++ (numS pg 4)) ++ (numS (UInt32.ofNat xs.length) 1))), .row (.slice (some ⟨b7, 0, none⟩) 1 1) 22 1 1 (List.map vU32 [pg]), .row (.slice (some ⟨b9, 0, none⟩) 1 1) 22 1 1 (List.map vU32 [(UInt32.ofNat xs.length)])] := H9.splice [1, 2] [.blk b4 [(ptr b4 0), v10] 123, .row v10 5 1 ((([] ++ [65, 73, 77, 49]) ++ (numS pg 4)) ++ (numS (UInt32.ofNat xs.length) 1)).length (List.map vU8 ((([] ++ [65, 73, 77, 49]) ++ (numS pg 4)) ++ (numS (UInt32.ofNat xs.length) 1)))] [] rfl rfl hq10 (Fits.solid True.intro (Fits.solid True.intro Fits.nil))
    refine WL.nil ?_
    refine WQ.next ?_
    refine WC.seq ?_
    refine WC.seq ?_
    refine WC.region ?_
    have H11 : Own [] w w10 [.blk b1 [(vU32 pg), ev, pv, (.bool con), (vU32 en), sv] 59, .blk b4 [(ptr b4 0), v10] 123, .row v10 5 1 (imP1 pg xs).length (List.map vU8 (imP1 pg xs)), .row (.slice (some ⟨b7, 0, none⟩) 1 1) 22 1 1 (List.map vU32 [pg]), .row (.slice (some ⟨b9, 0, none⟩) 1 1) 22 1 1 (List.map vU32 [(UInt32.ofNat xs.length)])] := Own.rowEqN (i := 2) (f := vU8) H10 rfl rfl rfl
    refine WL.op rfl rfl (op_fieldAddr rfl Fa.F59_0 ?_)
    refine WL.op rfl rfl (op_fieldAddr rfl Fa.F56_1 ?_)
    refine WL.op rfl rfl (op_load rfl (H11.cell (i := 0) rfl rfl) Try.underlying53 rfl ?_)
    refine WL.op rfl rfl (op_lenA Try.underlying53 rfl (H11.arr hE) ?_)
    refine WL.op rfl rfl (op_move rfl ?_)
    refine WL.nil ?_
    refine WQ.next ?_
    refine WC.block ?_
    refine WC.loop (α := Nat × Value) (fun (k, x) => [(1, (ptr b1 0)), (5, (ptr b4 0)), (34, ev), (35, (vN xs.length)), (36, (vN k))]) (fun (k, x) w' => (k ≤ xs.length) ∧ Own [] w w' [.blk b1 [(vU32 pg), ev, pv, (.bool con), (vU32 en), sv] 59, .blk b4 [(ptr b4 0), x] 123, .row x 5 1 ((imP1 pg xs) ++ putX xs k).length (List.map vU8 ((imP1 pg xs) ++ putX xs k)), .row (.slice (some ⟨b7, 0, none⟩) 1 1) 22 1 1 (List.map vU32 [pg]), .row (.slice (some ⟨b9, 0, none⟩) 1 1) 22 1 1 (List.map vU32 [(UInt32.ofNat xs.length)])]) (fun (k, x) => xs.length - k) (0, v10) ⟨Nat.zero_le _, (Own.rowEqN (i := 2) (f := vU8) H11 rfl (List.append_nil _).symm (congrArg List.length (List.append_nil _).symm))⟩ ⟨rfl, rfl, rfl, rfl, rfl, trivial⟩ ?_
    rintro ⟨k, x⟩ w12 ⟨hk1, H12⟩
    show WC _ _ _ _ _ [(1, (ptr b1 0)), (5, (ptr b4 0)), (34, ev), (35, (vN xs.length)), (36, (vN k))] _
    have hq1 := imP1_len pg xs
    have hqx := putX_len xs k
    refine WC.seq ?_
    refine WC.region ?_
    refine WL.op rfl rfl (op_lssN rfl rfl ?_)
    refine WL.nil ?_
    refine WQ.next ?_
    refine WC.seq ?_
    refine WC.cond rfl (fun (hb13 : (decide (k < xs.length)) = true) => ?_) (fun (hb13 : (decide (k < xs.length)) = false) => ?_)
    ·
      have hc13 := of_decide_eq_true hb13
      refine WC.skip ?_
      refine WQ.next ?_
      refine WC.seq ?_
      refine WC.block ?_
      refine WC.seq ?_
      refine WC.region ?_
      refine WL.op rfl rfl (op_indexAddr Try.underlying53 Fa.I130 rfl (H12.arr hE) rfl (by omega) ?_)
      refine WL.op rfl rfl (op_loadSP (vs := xtc (xs.getD k Xt.zero)) rfl (Arr.atsF (H12.arr hE) (fun _ => rfl) (by decide) Xt.zero (by omega)) Try.underlying130 rfl Fa.I130 rfl ?_)
      refine WL.op rfl rfl (op_alloc H12 Fa.I130 (fun b14 w14 H14 => ?_))
      refine WL.op rfl rfl (op_storeBW (i := 5) H14 rfl rfl rfl rfl rfl Fa.I130 (fun w15 H15 => ?_))
      refine WL.nil ?_
      refine WQ.next ?_
      refine WC.seq ?_
      refine WC.region ?_
      refine WL.op rfl rfl (op_fieldAddr rfl Fa.F130_0 ?_)
      refine WL.op rfl rfl (op_load rfl (H15.cell (i := 5) rfl rfl) Try.underlying22 rfl ?_)
      refine WL.op rfl rfl (op_buildSlice (cs := [_]) H15 Try.underlying64 Fa.I22 rfl rfl rfl rfl (by decide) (by decide) (fun b16 w16 H16 => ?_))
      refine WL.op rfl rfl (op_callF Fa.C86 rfl ((nums1_ok b4 x (.slice (some ⟨b16, 0, none⟩) 1 1) ((imP1 pg xs) ++ putX xs k).length ((imP1 pg xs) ++ putX xs k) ((xs.getD k Xt.zero).id) 1 _ _ (H16.part [1, 2] rfl rfl) (H16.stayR (I := [1, 2]) (k := 6) rfl rfl rfl) (by (try simp only [List.length_append, List.length_cons, List.length_nil]); omega)).mono (fun e w17 hq => ?_)))
      obtain ⟨v17, rfl, hq17⟩ := hq
      refine ⟨_, rfl, ?_⟩
      have H17 : Own [] w w17 [.blk b1 [(vU32 pg), ev, pv, (.bool con), (vU32 en), sv] 59, .blk b4 [(ptr b4 0), v17] 123, .row v17 5 1 (((imP1 pg xs) ++ putX xs k) ++ (numS ((xs.getD k Xt.zero).id) 1)).length (List.map vU8 (((imP1 pg xs) ++ putX xs k) ++ (numS ((xs.getD k Xt.zero).id) 1))), .row (.slice (some ⟨b7, 0, none⟩) 1 1) 22 1 1 (List.map vU32 [pg]), .row (.slice (some ⟨b9, 0, none⟩) 1 1) 22 1 1 (List.map vU32 [(UInt32.ofNat xs.length)]), .blk b14 [(vU32 (xs.getD k Xt.zero).id), (vU32 (xs.getD k Xt.zero).bl)] 130, .row (.slice (some ⟨b16, 0, none⟩) 1 1) 22 1 1 (List.map vU32 [(xs.getD k Xt.zero).id])] := H16.splice [1, 2] [.blk b4 [(ptr b4 0), v17] 123, .row v17 5 1 (((imP1 pg xs) ++ putX xs k) ++ (numS ((xs.getD k Xt.zero).id) 1)).length (List.map vU8 (((imP1 pg xs) ++ putX xs k) ++ (numS ((xs.getD k Xt.zero).id) 1)))] [] rfl rfl hq17 (Fits.solid True.intro (Fits.solid True.intro Fits.nil))
      refine WL.nil ?_
      refine WQ.next ?_
      refine WC.region ?_
      refine WL.op rfl rfl (op_fieldAddr rfl Fa.F130_1 ?_)
      refine WL.op rfl rfl (op_load rfl (H17.cell (i := 5) rfl rfl) Try.underlying22 rfl ?_)
      refine WL.op rfl rfl (op_buildSlice (cs := [_]) H17 Try.underlying64 Fa.I22 rfl rfl rfl rfl (by decide) (by decide) (fun b18 w18 H18 => ?_))
      refine WL.op rfl rfl (op_callF Fa.C86 rfl ((nums1_ok b4 v17 (.slice (some ⟨b18, 0, none⟩) 1 1) (((imP1 pg xs) ++ putX xs k) ++ (numS ((xs.getD k Xt.zero).id) 1)).length (((imP1 pg xs) ++ putX xs k) ++ (numS ((xs.getD k Xt.zero).id) 1)) ((xs.getD k Xt.zero).bl) 2 _ _ (H18.part [1, 2] rfl rfl) (H18.stayR (I := [1, 2]) (k := 7) rfl rfl rfl) (by have := numE_len ((xs.getD k Xt.zero).id) 1; (try simp only [List.length_append, List.length_cons, List.length_nil]); omega)).mono (fun e w19 hq => ?_)))
      obtain ⟨v19, rfl, hq19⟩ := hq
      refine ⟨_, rfl, ?_⟩
      have H19 : Own [] w w19 [.blk b1 [(vU32 pg), ev, pv, (.bool con), (vU32 en), sv] 59, .blk b4 [(ptr b4 0), v19] 123, .row v19 5 1 ((((imP1 pg xs) ++ putX xs k) ++ (numS ((xs.getD k Xt.zero).id) 1)) ++ (numS ((xs.getD k Xt.zero).bl) 2)).length (List.map vU8 ((((imP1 pg xs) ++ putX xs k) ++ (numS ((xs.getD k Xt.zero).id) 1)) ++ (numS ((xs.getD k Xt.zero).bl) 2))), .row (.slice (some ⟨b7, 0, none⟩) 1 1) 22 1 1 (List.map vU32 [pg]), .row (.slice (some ⟨b9, 0, none⟩) 1 1) 22 1 1 (List.map vU32 [(UInt32.ofNat xs.length)]), .blk b14 [(vU32 (xs.getD k Xt.zero).id), (vU32 (xs.getD k Xt.zero).bl)] 130, .row (.slice (some ⟨b16, 0, none⟩) 1 1) 22 1 1 (List.map vU32 [(xs.getD k Xt.zero).id]), .row (.slice (some ⟨b18, 0, none⟩) 1 1) 22 1 1 (List.map vU32 [(xs.getD k Xt.zero).bl])] := H18.splice [1, 2] [.blk b4 [(ptr b4 0), v19] 123, .row v19 5 1 ((((imP1 pg xs) ++ putX xs k) ++ (numS ((xs.getD k Xt.zero).id) 1)) ++ (numS ((xs.getD k Xt.zero).bl) 2)).length (List.map vU8 ((((imP1 pg xs) ++ putX xs k) ++ (numS ((xs.getD k Xt.zero).id) 1)) ++ (numS ((xs.getD k Xt.zero).bl) 2)))] [] rfl rfl hq19 (Fits.solid True.intro (Fits.solid True.intro Fits.nil))
      refine WL.nil ?_
      refine WQ.inNormal ?_
      refine WQ.next ?_
      refine WC.region ?_
      refine WL.op rfl rfl (op_addN (b := 1) rfl rfl (by omega) ?_)
      refine WL.op rfl rfl (op_move rfl ?_)
      refine WL.nil ?_
      exact WQ.round (k + 1, v19) ⟨(by omega), (by have h := (show Own [] w w19 [.blk b1 [(vU32 pg), ev, pv, (.bool con), (vU32 en), sv] 59, .blk b4 [(ptr b4 0), v19] 123, .row v19 5 1 ((((imP1 pg xs) ++ putX xs k) ++ (numS ((xs.getD k Xt.zero).id) 1)) ++ (numS ((xs.getD k Xt.zero).bl) 2)).length (List.map vU8 ((((imP1 pg xs) ++ putX xs k) ++ (numS ((xs.getD k Xt.zero).id) 1)) ++ (numS ((xs.getD k Xt.zero).bl) 2))), .row (.slice (some ⟨b7, 0, none⟩) 1 1) 22 1 1 (List.map vU32 [pg]), .row (.slice (some ⟨b9, 0, none⟩) 1 1) 22 1 1 (List.map vU32 [(UInt32.ofNat xs.length)])] from (H19.take 5)); exact Own.rowEqN (i := 2) (f := vU8) h rfl (by simp only [putX, List.append_assoc]) (by simp only [putX, List.append_assoc, List.length_append]; try omega))⟩ ⟨rfl, rfl, rfl, rfl, rfl, trivial⟩ (by show xs.length - (k + 1) < xs.length - k; omega)
    ·
      have hc13 := of_decide_eq_false hb13
      refine WC.exit ?_
      refine WQ.thenExit ?_
      refine WQ.thenExit ?_
      refine WQ.inHere ?_
      refine WQ.next ?_
      refine WC.seq ?_
      refine WC.region ?_
      refine WL.op rfl rfl (op_fieldAddr rfl Fa.F59_0 ?_)
      refine WL.op rfl rfl (op_fieldAddr rfl Fa.F56_2 ?_)
      refine WL.op rfl rfl (op_load rfl (H12.cell (i := 0) rfl rfl) Try.underlying54 rfl ?_)
      refine WL.op rfl rfl (op_lenA Try.underlying54 rfl (H12.arr hP) ?_)
      refine WL.op rfl rfl (op_convNU32 (hs := Try.underlying3) (hd := Try.underlying22) rfl ?_)
      refine WL.op rfl rfl (op_buildSlice (cs := [_]) H12 Try.underlying64 Fa.I22 rfl rfl rfl rfl (by decide) (by decide) (fun b20 w20 H20 => ?_))
      refine WL.op rfl rfl (op_callF Fa.C86 rfl ((nums1_ok b4 x (.slice (some ⟨b20, 0, none⟩) 1 1) ((imP1 pg xs) ++ putX xs k).length ((imP1 pg xs) ++ putX xs k) (UInt32.ofNat ps.length) 1 _ _ (H20.part [1, 2] rfl rfl) (H20.stayR (I := [1, 2]) (k := 5) rfl rfl rfl) (by (try simp only [List.length_append, List.length_cons, List.length_nil]); omega)).mono (fun e w21 hq => ?_)))
      obtain ⟨v21, rfl, hq21⟩ := hq
      refine ⟨_, rfl, ?_⟩
      have H21 : Own [] w w21 [.blk b1 [(vU32 pg), ev, pv, (.bool con), (vU32 en), sv] 59, .blk b4 [(ptr b4 0), v21] 123, .row v21 5 1 (((imP1 pg xs) ++ putX xs k) ++ (numS (UInt32.ofNat ps.length) 1)).length (List.map vU8 (((imP1 pg xs) ++ putX xs k) ++ (numS (UInt32.ofNat ps.length) 1))), .row (.slice (some ⟨b7, 0, none⟩) 1 1) 22 1 1 (List.map vU32 [pg]), .row (.slice (some ⟨b9, 0, none⟩) 1 1) 22 1 1 (List.map vU32 [(UInt32.ofNat xs.length)]), .row (.slice (some ⟨b20, 0, none⟩) 1 1) 22 1 1 (List.map vU32 [(UInt32.ofNat ps.length)])] := H20.splice [1, 2] [.blk b4 [(ptr b4 0), v21] 123, .row v21 5 1 (((imP1 pg xs) ++ putX xs k) ++ (numS (UInt32.ofNat ps.length) 1)).length (List.map vU8 (((imP1 pg xs) ++ putX xs k) ++ (numS (UInt32.ofNat ps.length) 1)))] [] rfl rfl hq21 (Fits.solid True.intro (Fits.solid True.intro Fits.nil))
      refine WL.nil ?_
      refine WQ.next ?_
      refine WC.seq ?_
      refine WC.seq ?_
      refine WC.region ?_
      obtain rfl : k = xs.length := by omega
      have H22 : Own [] w w21 [.blk b1 [(vU32 pg), ev, pv, (.bool con), (vU32 en), sv] 59, .blk b4 [(ptr b4 0), v21] 123, .row v21 5 1 (imP2 pg xs ps).length (List.map vU8 (imP2 pg xs ps)), .row (.slice (some ⟨b7, 0, none⟩) 1 1) 22 1 1 (List.map vU32 [pg]), .row (.slice (some ⟨b9, 0, none⟩) 1 1) 22 1 1 (List.map vU32 [(UInt32.ofNat xs.length)]), .row (.slice (some ⟨b20, 0, none⟩) 1 1) 22 1 1 (List.map vU32 [(UInt32.ofNat ps.length)])] := Own.rowEqN (i := 2) (f := vU8) H21 rfl rfl rfl
      refine WL.op rfl rfl (op_fieldAddr rfl Fa.F59_0 ?_)
      refine WL.op rfl rfl (op_fieldAddr rfl Fa.F56_2 ?_)
      refine WL.op rfl rfl (op_load rfl (H22.cell (i := 0) rfl rfl) Try.underlying54 rfl ?_)
      refine WL.op rfl rfl (op_lenA Try.underlying54 rfl (H22.arr hP) ?_)
      refine WL.op rfl rfl (op_move rfl ?_)
      refine WL.nil ?_
      refine WQ.next ?_
      refine WC.block ?_
      refine WC.loop (α := Nat × Value) (fun (j, x) => [(1, (ptr b1 0)), (5, (ptr b4 0)), (58, pv), (59, (vN ps.length)), (60, (vN j))]) (fun (j, x) w' => (j ≤ ps.length) ∧ Own [] w w' [.blk b1 [(vU32 pg), ev, pv, (.bool con), (vU32 en), sv] 59, .blk b4 [(ptr b4 0), x] 123, .row x 5 1 ((imP2 pg xs ps) ++ putP ps j).length (List.map vU8 ((imP2 pg xs ps) ++ putP ps j)), .row (.slice (some ⟨b7, 0, none⟩) 1 1) 22 1 1 (List.map vU32 [pg]), .row (.slice (some ⟨b9, 0, none⟩) 1 1) 22 1 1 (List.map vU32 [(UInt32.ofNat xs.length)]), .row (.slice (some ⟨b20, 0, none⟩) 1 1) 22 1 1 (List.map vU32 [(UInt32.ofNat ps.length)])]) (fun (j, x) => ps.length - j) (0, v21) ⟨Nat.zero_le _, (Own.rowEqN (i := 2) (f := vU8) H22 rfl (List.append_nil _).symm (congrArg List.length (List.append_nil _).symm))⟩ ⟨rfl, rfl, rfl, rfl, rfl, trivial⟩ ?_
      rintro ⟨j, x⟩ w23 ⟨hj1, H23⟩
      show WC _ _ _ _ _ [(1, (ptr b1 0)), (5, (ptr b4 0)), (58, pv), (59, (vN ps.length)), (60, (vN j))] _
      have hq2 := imP2_len pg xs ps
      have hqp := putP_len ps j
      refine WC.seq ?_
      refine WC.region ?_
      refine WL.op rfl rfl (op_lssN rfl rfl ?_)
      refine WL.nil ?_
      refine WQ.next ?_
      refine WC.seq ?_
      refine WC.cond rfl (fun (hb24 : (decide (j < ps.length)) = true) => ?_) (fun (hb24 : (decide (j < ps.length)) = false) => ?_)
      ·
        have hc24 := of_decide_eq_true hb24
        refine WC.skip ?_
        refine WQ.next ?_
        refine WC.seq ?_
        refine WC.block ?_
        refine WC.seq ?_
        refine WC.region ?_
        refine WL.op rfl rfl (op_indexAddr1 Try.underlying54 Fa.I92 rfl (H23.arr hP) rfl (by omega) ?_)
        refine WL.op rfl rfl (op_load rfl ((H23.arr hP).at (get_map vU16 0 (Arr.ltM (H23.arr hP) (by omega)))) Try.underlying92 rfl ?_)
        refine WL.op rfl rfl (op_assign rfl ?_)
        refine WL.nil ?_
        refine WQ.next ?_
        refine WC.region ?_
        refine WL.op rfl rfl (op_move rfl ?_)
        refine WL.op rfl rfl (op_convU16U32 (hs := Try.underlying92) (hd := Try.underlying22) rfl ?_)
        refine WL.op rfl rfl (op_buildSlice (cs := [_]) H23 Try.underlying64 Fa.I22 rfl rfl rfl rfl (by decide) (by decide) (fun b25 w25 H25 => ?_))
        refine WL.op rfl rfl (op_callF Fa.C86 rfl ((nums1_ok b4 x (.slice (some ⟨b25, 0, none⟩) 1 1) ((imP2 pg xs ps) ++ putP ps j).length ((imP2 pg xs ps) ++ putP ps j) (UInt32.ofNat (ps.getD j 0).toNat) 2 _ _ (H25.part [1, 2] rfl rfl) (H25.stayR (I := [1, 2]) (k := 6) rfl rfl rfl) (by (try simp only [List.length_append, List.length_cons, List.length_nil]); omega)).mono (fun e w26 hq => ?_)))
        obtain ⟨v26, rfl, hq26⟩ := hq
        refine ⟨_, rfl, ?_⟩
        have H26 : Own [] w w26 [.blk b1 [(vU32 pg), ev, pv, (.bool con), (vU32 en), sv] 59, .blk b4 [(ptr b4 0), v26] 123, .row v26 5 1 (((imP2 pg xs ps) ++ putP ps j) ++ (numS (UInt32.ofNat (ps.getD j 0).toNat) 2)).length (List.map vU8 (((imP2 pg xs ps) ++ putP ps j) ++ (numS (UInt32.ofNat (ps.getD j 0).toNat) 2))), .row (.slice (some ⟨b7, 0, none⟩) 1 1) 22 1 1 (List.map vU32 [pg]), .row (.slice (some ⟨b9, 0, none⟩) 1 1) 22 1 1 (List.map vU32 [(UInt32.ofNat xs.length)]), .row (.slice (some ⟨b20, 0, none⟩) 1 1) 22 1 1 (List.map vU32 [(UInt32.ofNat ps.length)]), .row (.slice (some ⟨b25, 0, none⟩) 1 1) 22 1 1 (List.map vU32 [(UInt32.ofNat (ps.getD j 0).toNat)])] := H25.splice [1, 2] [.blk b4 [(ptr b4 0), v26] 123, .row v26 5 1 (((imP2 pg xs ps) ++ putP ps j) ++ (numS (UInt32.ofNat (ps.getD j 0).toNat) 2)).length (List.map vU8 (((imP2 pg xs ps) ++ putP ps j) ++ (numS (UInt32.ofNat (ps.getD j 0).toNat) 2)))] [] rfl rfl hq26 (Fits.solid True.intro (Fits.solid True.intro Fits.nil))
        refine WL.nil ?_
        refine WQ.inNormal ?_
        refine WQ.next ?_
        refine WC.region ?_
        refine WL.op rfl rfl (op_addN (b := 1) rfl rfl (by omega) ?_)
        refine WL.op rfl rfl (op_move rfl ?_)
        refine WL.nil ?_
        exact WQ.round (j + 1, v26) ⟨(by omega), (by have h := (show Own [] w w26 [.blk b1 [(vU32 pg), ev, pv, (.bool con), (vU32 en), sv] 59, .blk b4 [(ptr b4 0), v26] 123, .row v26 5 1 (((imP2 pg xs ps) ++ putP ps j) ++ (numS (UInt32.ofNat (ps.getD j 0).toNat) 2)).length (List.map vU8 (((imP2 pg xs ps) ++ putP ps j) ++ (numS (UInt32.ofNat (ps.getD j 0).toNat) 2))), .row (.slice (some ⟨b7, 0, none⟩) 1 1) 22 1 1 (List.map vU32 [pg]), .row (.slice (some ⟨b9, 0, none⟩) 1 1) 22 1 1 (List.map vU32 [(UInt32.ofNat xs.length)]), .row (.slice (some ⟨b20, 0, none⟩) 1 1) 22 1 1 (List.map vU32 [(UInt32.ofNat ps.length)])] from (H26.take 6)); exact Own.rowEqN (i := 2) (f := vU8) h rfl (by simp only [putP, List.append_assoc]) (by simp only [putP, List.append_assoc, List.length_append]; try omega))⟩ ⟨rfl, rfl, rfl, rfl, rfl, trivial⟩ (by show ps.length - (j + 1) < ps.length - j; omega)
      ·
        have hc24 := of_decide_eq_false hb24
        refine WC.exit ?_
        refine WQ.thenExit ?_
        refine WQ.thenExit ?_
        refine WQ.inHere ?_
        refine WQ.next ?_
        refine WC.seq ?_
        refine WC.region ?_
        refine WL.op rfl rfl (op_assign rfl ?_)
        refine WL.nil ?_
        refine WQ.next ?_
        refine WC.cut (α := Unit) (fun _ => [(1, (ptr b1 0)), (5, (ptr b4 0)), (10, (vU32 (conN con)))]) (fun _ w' => Own [] w w' [.blk b1 [(vU32 pg), ev, pv, (.bool con), (vU32 en), sv] 59, .blk b4 [(ptr b4 0), x] 123, .row x 5 1 ((imP2 pg xs ps) ++ putP ps j).length (List.map vU8 ((imP2 pg xs ps) ++ putP ps j)), .row (.slice (some ⟨b7, 0, none⟩) 1 1) 22 1 1 (List.map vU32 [pg]), .row (.slice (some ⟨b9, 0, none⟩) 1 1) 22 1 1 (List.map vU32 [(UInt32.ofNat xs.length)]), .row (.slice (some ⟨b20, 0, none⟩) 1 1) 22 1 1 (List.map vU32 [(UInt32.ofNat ps.length)])]) ?_ ?_
        ·
          refine WC.seq ?_
          refine WC.region ?_
          refine WL.op rfl rfl (op_fieldAddr rfl Fa.F59_0 ?_)
          refine WL.op rfl rfl (op_fieldAddr rfl Fa.F56_3 ?_)
          refine WL.op rfl rfl (op_load rfl (H23.cell (i := 0) rfl rfl) Try.underlying4 rfl ?_)
          refine WL.nil ?_
          refine WQ.next ?_
          refine WC.cond rfl (fun (hb27 : con = true) => ?_) (fun (hb27 : con = false) => ?_)
          ·
            refine WC.region ?_
            refine WL.op rfl rfl (op_assign rfl ?_)
            refine WL.nil ?_
            exact WQ.here () H23 ⟨rfl, rfl, (by rw [conN, hb27]; rfl), trivial⟩
          ·
            refine WC.skip ?_
            exact WQ.here () H23 ⟨rfl, rfl, (by rw [conN, hb27]; rfl), trivial⟩
        ·
          rintro ⟨⟩ w28 H28
          show WC _ _ _ _ _ [(1, (ptr b1 0)), (5, (ptr b4 0)), (10, (vU32 (conN con)))] _
          refine WC.seq ?_
          refine WC.region ?_
          refine WL.op rfl rfl (op_move rfl ?_)
          refine WL.op rfl rfl (op_buildSlice (cs := [_]) H28 Try.underlying64 Fa.I22 rfl rfl rfl rfl (by decide) (by decide) (fun b29 w29 H29 => ?_))
          refine WL.op rfl rfl (op_callF Fa.C86 rfl ((nums1_ok b4 x (.slice (some ⟨b29, 0, none⟩) 1 1) ((imP2 pg xs ps) ++ putP ps j).length ((imP2 pg xs ps) ++ putP ps j) (conN con) 1 _ _ (H29.part [1, 2] rfl rfl) (H29.stayR (I := [1, 2]) (k := 6) rfl rfl rfl) (by (try simp only [List.length_append, List.length_cons, List.length_nil]); omega)).mono (fun e w30 hq => ?_)))
          obtain ⟨v30, rfl, hq30⟩ := hq
          refine ⟨_, rfl, ?_⟩
          have H30 : Own [] w w30 [.blk b1 [(vU32 pg), ev, pv, (.bool con), (vU32 en), sv] 59, .blk b4 [(ptr b4 0), v30] 123, .row v30 5 1 (((imP2 pg xs ps) ++ putP ps j) ++ (numS (conN con) 1)).length (List.map vU8 (((imP2 pg xs ps) ++ putP ps j) ++ (numS (conN con) 1))), .row (.slice (some ⟨b7, 0, none⟩) 1 1) 22 1 1 (List.map vU32 [pg]), .row (.slice (some ⟨b9, 0, none⟩) 1 1) 22 1 1 (List.map vU32 [(UInt32.ofNat xs.length)]), .row (.slice (some ⟨b20, 0, none⟩) 1 1) 22 1 1 (List.map vU32 [(UInt32.ofNat ps.length)]), .row (.slice (some ⟨b29, 0, none⟩) 1 1) 22 1 1 (List.map vU32 [(conN con)])] := H29.splice [1, 2] [.blk b4 [(ptr b4 0), v30] 123, .row v30 5 1 (((imP2 pg xs ps) ++ putP ps j) ++ (numS (conN con) 1)).length (List.map vU8 (((imP2 pg xs ps) ++ putP ps j) ++ (numS (conN con) 1)))] [] rfl rfl hq30 (Fits.solid True.intro (Fits.solid True.intro Fits.nil))
          refine WL.nil ?_
          refine WQ.next ?_
          refine WC.seq ?_
          refine WC.region ?_
          refine WL.op rfl rfl (op_fieldAddr rfl Fa.F59_1 ?_)
          refine WL.op rfl rfl (op_load rfl (H30.cell (i := 0) rfl rfl) Try.underlying22 rfl ?_)
          refine WL.op rfl rfl (op_buildSlice (cs := [_]) H30 Try.underlying64 Fa.I22 rfl rfl rfl rfl (by decide) (by decide) (fun b31 w31 H31 => ?_))
          refine WL.op rfl rfl (op_callF Fa.C86 rfl ((nums1_ok b4 v30 (.slice (some ⟨b31, 0, none⟩) 1 1) (((imP2 pg xs ps) ++ putP ps j) ++ (numS (conN con) 1)).length (((imP2 pg xs ps) ++ putP ps j) ++ (numS (conN con) 1)) en 4 _ _ (H31.part [1, 2] rfl rfl) (H31.stayR (I := [1, 2]) (k := 7) rfl rfl rfl) (by have := numE_len (conN con) 1; (try simp only [List.length_append, List.length_cons, List.length_nil]); omega)).mono (fun e w32 hq => ?_)))
          obtain ⟨v32, rfl, hq32⟩ := hq
          refine ⟨_, rfl, ?_⟩
          have H32 : Own [] w w32 [.blk b1 [(vU32 pg), ev, pv, (.bool con), (vU32 en), sv] 59, .blk b4 [(ptr b4 0), v32] 123, .row v32 5 1 ((((imP2 pg xs ps) ++ putP ps j) ++ (numS (conN con) 1)) ++ (numS en 4)).length (List.map vU8 ((((imP2 pg xs ps) ++ putP ps j) ++ (numS (conN con) 1)) ++ (numS en 4))), .row (.slice (some ⟨b7, 0, none⟩) 1 1) 22 1 1 (List.map vU32 [pg]), .row (.slice (some ⟨b9, 0, none⟩) 1 1) 22 1 1 (List.map vU32 [(UInt32.ofNat xs.length)]), .row (.slice (some ⟨b20, 0, none⟩) 1 1) 22 1 1 (List.map vU32 [(UInt32.ofNat ps.length)]), .row (.slice (some ⟨b29, 0, none⟩) 1 1) 22 1 1 (List.map vU32 [(conN con)]), .row (.slice (some ⟨b31, 0, none⟩) 1 1) 22 1 1 (List.map vU32 [en])] := H31.splice [1, 2] [.blk b4 [(ptr b4 0), v32] 123, .row v32 5 1 ((((imP2 pg xs ps) ++ putP ps j) ++ (numS (conN con) 1)) ++ (numS en 4)).length (List.map vU8 ((((imP2 pg xs ps) ++ putP ps j) ++ (numS (conN con) 1)) ++ (numS en 4)))] [] rfl rfl hq32 (Fits.solid True.intro (Fits.solid True.intro Fits.nil))
          refine WL.nil ?_
          refine WQ.next ?_
          refine WC.seq ?_
          refine WC.region ?_
          refine WL.op rfl rfl (op_fieldAddr rfl Fa.F59_2 ?_)
          refine WL.op rfl rfl (op_load rfl (H32.cell (i := 0) rfl rfl) Try.underlying57 rfl ?_)
          refine WL.op rfl rfl (op_lenA Try.underlying57 rfl (H32.arr hS) ?_)
          refine WL.op rfl rfl (op_convNU32 (hs := Try.underlying3) (hd := Try.underlying22) rfl ?_)
          refine WL.op rfl rfl (op_buildSlice (cs := [_]) H32 Try.underlying64 Fa.I22 rfl rfl rfl rfl (by decide) (by decide) (fun b33 w33 H33 => ?_))
          refine WL.op rfl rfl (op_callF Fa.C86 rfl ((nums1_ok b4 v32 (.slice (some ⟨b33, 0, none⟩) 1 1) ((((imP2 pg xs ps) ++ putP ps j) ++ (numS (conN con) 1)) ++ (numS en 4)).length ((((imP2 pg xs ps) ++ putP ps j) ++ (numS (conN con) 1)) ++ (numS en 4)) (UInt32.ofNat sg.length) 1 _ _ (H33.part [1, 2] rfl rfl) (H33.stayR (I := [1, 2]) (k := 8) rfl rfl rfl) (by have := numE_len (conN con) 1; have := numE_len en 4; (try simp only [List.length_append, List.length_cons, List.length_nil]); omega)).mono (fun e w34 hq => ?_)))
          obtain ⟨v34, rfl, hq34⟩ := hq
          refine ⟨_, rfl, ?_⟩
          have H34 : Own [] w w34 [.blk b1 [(vU32 pg), ev, pv, (.bool con), (vU32 en), sv] 59, .blk b4 [(ptr b4 0), v34] 123, .row v34 5 1 (((((imP2 pg xs ps) ++ putP ps j) ++ (numS (conN con) 1)) ++ (numS en 4)) ++ (numS (UInt32.ofNat sg.length) 1)).length (List.map vU8 (((((imP2 pg xs ps) ++ putP ps j) ++ (numS (conN con) 1)) ++ (numS en 4)) ++ (numS (UInt32.ofNat sg.length) 1))), .row (.slice (some ⟨b7, 0, none⟩) 1 1) 22 1 1 (List.map vU32 [pg]), .row (.slice (some ⟨b9, 0, none⟩) 1 1) 22 1 1 (List.map vU32 [(UInt32.ofNat xs.length)]), .row (.slice (some ⟨b20, 0, none⟩) 1 1) 22 1 1 (List.map vU32 [(UInt32.ofNat ps.length)]), .row (.slice (some ⟨b29, 0, none⟩) 1 1) 22 1 1 (List.map vU32 [(conN con)]), .row (.slice (some ⟨b31, 0, none⟩) 1 1) 22 1 1 (List.map vU32 [en]), .row (.slice (some ⟨b33, 0, none⟩) 1 1) 22 1 1 (List.map vU32 [(UInt32.ofNat sg.length)])] := H33.splice [1, 2] [.blk b4 [(ptr b4 0), v34] 123, .row v34 5 1 (((((imP2 pg xs ps) ++ putP ps j) ++ (numS (conN con) 1)) ++ (numS en 4)) ++ (numS (UInt32.ofNat sg.length) 1)).length (List.map vU8 (((((imP2 pg xs ps) ++ putP ps j) ++ (numS (conN con) 1)) ++ (numS en 4)) ++ (numS (UInt32.ofNat sg.length) 1)))] [] rfl rfl hq34 (Fits.solid True.intro (Fits.solid True.intro Fits.nil))
          refine WL.nil ?_
          refine WQ.next ?_
          refine WC.seq ?_
          refine WC.seq ?_
          refine WC.region ?_
          obtain rfl : j = ps.length := by omega
          have H35 : Own [] w w34 [.blk b1 [(vU32 pg), ev, pv, (.bool con), (vU32 en), sv] 59, .blk b4 [(ptr b4 0), v34] 123, .row v34 5 1 (imP3 pg xs ps con en sg).length (List.map vU8 (imP3 pg xs ps con en sg)), .row (.slice (some ⟨b7, 0, none⟩) 1 1) 22 1 1 (List.map vU32 [pg]), .row (.slice (some ⟨b9, 0, none⟩) 1 1) 22 1 1 (List.map vU32 [(UInt32.ofNat xs.length)]), .row (.slice (some ⟨b20, 0, none⟩) 1 1) 22 1 1 (List.map vU32 [(UInt32.ofNat ps.length)]), .row (.slice (some ⟨b29, 0, none⟩) 1 1) 22 1 1 (List.map vU32 [(conN con)]), .row (.slice (some ⟨b31, 0, none⟩) 1 1) 22 1 1 (List.map vU32 [en]), .row (.slice (some ⟨b33, 0, none⟩) 1 1) 22 1 1 (List.map vU32 [(UInt32.ofNat sg.length)])] := Own.rowEqN (i := 2) (f := vU8) H34 rfl rfl rfl
          refine WL.op rfl rfl (op_fieldAddr rfl Fa.F59_2 ?_)
          refine WL.op rfl rfl (op_load rfl (H35.cell (i := 0) rfl rfl) Try.underlying57 rfl ?_)
          refine WL.op rfl rfl (op_lenA Try.underlying57 rfl (H35.arr hS) ?_)
          refine WL.op rfl rfl (op_move rfl ?_)
          refine WL.nil ?_
          refine WQ.next ?_
          refine WC.block ?_
          refine WC.loop (α := Nat × Value) (fun (i, x) => [(1, (ptr b1 0)), (5, (ptr b4 0)), (86, sv), (87, (vN sg.length)), (88, (vN i))]) (fun (i, x) w' => (i ≤ sg.length) ∧ Own [] w w' [.blk b1 [(vU32 pg), ev, pv, (.bool con), (vU32 en), sv] 59, .blk b4 [(ptr b4 0), x] 123, .row x 5 1 ((imP3 pg xs ps con en sg) ++ putS sg i).length (List.map vU8 ((imP3 pg xs ps con en sg) ++ putS sg i)), .row (.slice (some ⟨b7, 0, none⟩) 1 1) 22 1 1 (List.map vU32 [pg]), .row (.slice (some ⟨b9, 0, none⟩) 1 1) 22 1 1 (List.map vU32 [(UInt32.ofNat xs.length)]), .row (.slice (some ⟨b20, 0, none⟩) 1 1) 22 1 1 (List.map vU32 [(UInt32.ofNat ps.length)]), .row (.slice (some ⟨b29, 0, none⟩) 1 1) 22 1 1 (List.map vU32 [(conN con)]), .row (.slice (some ⟨b31, 0, none⟩) 1 1) 22 1 1 (List.map vU32 [en]), .row (.slice (some ⟨b33, 0, none⟩) 1 1) 22 1 1 (List.map vU32 [(UInt32.ofNat sg.length)])]) (fun (i, x) => sg.length - i) (0, v34) ⟨Nat.zero_le _, (Own.rowEqN (i := 2) (f := vU8) H35 rfl (List.append_nil _).symm (congrArg List.length (List.append_nil _).symm))⟩ ⟨rfl, rfl, rfl, rfl, rfl, trivial⟩ ?_
          rintro ⟨i, x⟩ w36 ⟨hi1, H36⟩
          show WC _ _ _ _ _ [(1, (ptr b1 0)), (5, (ptr b4 0)), (86, sv), (87, (vN sg.length)), (88, (vN i))] _
          have hq3 := imP3_len pg xs ps con en sg
          have hqs := putS_len bb i
          have hqb := getS_mem bb i
          have hn1 := numE_len (sg.getD i Sg.zero).a 4
          have hn2 := numE_len (UInt32.ofNat (sg.getD i Sg.zero).p.toNat) 1
          have hn3 := numE_len (UInt32.ofNat (sg.getD i Sg.zero).b.length) 4
          refine WC.seq ?_
          refine WC.region ?_
          refine WL.op rfl rfl (op_lssN rfl rfl ?_)
          refine WL.nil ?_
          refine WQ.next ?_
          refine WC.seq ?_
          refine WC.cond rfl (fun (hb37 : (decide (i < sg.length)) = true) => ?_) (fun (hb37 : (decide (i < sg.length)) = false) => ?_)
          ·
            have hc37 := of_decide_eq_true hb37
            refine WC.skip ?_
            refine WQ.next ?_
            refine WC.seq ?_
            refine WC.block ?_
            refine WC.seq ?_
            refine WC.region ?_
            refine WL.op rfl rfl (op_indexAddr Try.underlying57 Fa.I111 rfl (H36.arr hS) rfl (by omega) ?_)
            refine WL.op rfl rfl (op_loadSP (vs := sgc (sg.getD i Sg.zero)) rfl (Arr.atsF (H36.arr hS) (fun _ => rfl) (by decide) Sg.zero (by omega)) Try.underlying111 rfl Fa.I111 rfl ?_)
            refine WL.op rfl rfl (op_alloc H36 Fa.I111 (fun b38 w38 H38 => ?_))
            refine WL.op rfl rfl (op_storeBW (i := 9) H38 rfl rfl rfl rfl rfl Fa.I111 (fun w39 H39 => ?_))
            refine WL.nil ?_
            refine WQ.next ?_
            refine WC.seq ?_
            refine WC.region ?_
            refine WL.op rfl rfl (op_fieldAddr rfl Fa.F111_0 ?_)
            refine WL.op rfl rfl (op_load rfl (H39.cell (i := 9) rfl rfl) Try.underlying22 rfl ?_)
            refine WL.op rfl rfl (op_buildSlice (cs := [_]) H39 Try.underlying64 Fa.I22 rfl rfl rfl rfl (by decide) (by decide) (fun b40 w40 H40 => ?_))
            refine WL.op rfl rfl (op_callF Fa.C86 rfl ((nums1_ok b4 x (.slice (some ⟨b40, 0, none⟩) 1 1) ((imP3 pg xs ps con en sg) ++ putS sg i).length ((imP3 pg xs ps con en sg) ++ putS sg i) ((sg.getD i Sg.zero).a) 4 _ _ (H40.part [1, 2] rfl rfl) (H40.stayR (I := [1, 2]) (k := 10) rfl rfl rfl) (by (try simp only [List.length_append, List.length_cons, List.length_nil]); omega)).mono (fun e w41 hq => ?_)))
            obtain ⟨v41, rfl, hq41⟩ := hq
            refine ⟨_, rfl, ?_⟩
            have H41 : Own [] w w41 [.blk b1 [(vU32 pg), ev, pv, (.bool con), (vU32 en), sv] 59, .blk b4 [(ptr b4 0), v41] 123, .row v41 5 1 (((imP3 pg xs ps con en sg) ++ putS sg i) ++ (numS ((sg.getD i Sg.zero).a) 4)).length (List.map vU8 (((imP3 pg xs ps con en sg) ++ putS sg i) ++ (numS ((sg.getD i Sg.zero).a) 4))), .row (.slice (some ⟨b7, 0, none⟩) 1 1) 22 1 1 (List.map vU32 [pg]), .row (.slice (some ⟨b9, 0, none⟩) 1 1) 22 1 1 (List.map vU32 [(UInt32.ofNat xs.length)]), .row (.slice (some ⟨b20, 0, none⟩) 1 1) 22 1 1 (List.map vU32 [(UInt32.ofNat ps.length)]), .row (.slice (some ⟨b29, 0, none⟩) 1 1) 22 1 1 (List.map vU32 [(conN con)]), .row (.slice (some ⟨b31, 0, none⟩) 1 1) 22 1 1 (List.map vU32 [en]), .row (.slice (some ⟨b33, 0, none⟩) 1 1) 22 1 1 (List.map vU32 [(UInt32.ofNat sg.length)]), .blk b38 [(vU32 (sg.getD i Sg.zero).a), (vU8 (sg.getD i Sg.zero).p), (str (sg.getD i Sg.zero).b)] 111, .row (.slice (some ⟨b40, 0, none⟩) 1 1) 22 1 1 (List.map vU32 [(sg.getD i Sg.zero).a])] := H40.splice [1, 2] [.blk b4 [(ptr b4 0), v41] 123, .row v41 5 1 (((imP3 pg xs ps con en sg) ++ putS sg i) ++ (numS ((sg.getD i Sg.zero).a) 4)).length (List.map vU8 (((imP3 pg xs ps con en sg) ++ putS sg i) ++ (numS ((sg.getD i Sg.zero).a) 4)))] [] rfl rfl hq41 (Fits.solid True.intro (Fits.solid True.intro Fits.nil))
            refine WL.nil ?_
            refine WQ.next ?_
            refine WC.seq ?_
            refine WC.region ?_
            refine WL.op rfl rfl (op_fieldAddr rfl Fa.F111_1 ?_)
            refine WL.op rfl rfl (op_load rfl (H41.cell (i := 9) rfl rfl) Try.underlying5 rfl ?_)
            refine WL.op rfl rfl (op_convU8U32 (hs := Try.underlying5) (hd := Try.underlying22) rfl ?_)
            refine WL.op rfl rfl (op_buildSlice (cs := [_]) H41 Try.underlying64 Fa.I22 rfl rfl rfl rfl (by decide) (by decide) (fun b42 w42 H42 => ?_))
            refine WL.op rfl rfl (op_callF Fa.C86 rfl ((nums1_ok b4 v41 (.slice (some ⟨b42, 0, none⟩) 1 1) (((imP3 pg xs ps con en sg) ++ putS sg i) ++ (numS ((sg.getD i Sg.zero).a) 4)).length (((imP3 pg xs ps con en sg) ++ putS sg i) ++ (numS ((sg.getD i Sg.zero).a) 4)) (UInt32.ofNat (sg.getD i Sg.zero).p.toNat) 1 _ _ (H42.part [1, 2] rfl rfl) (H42.stayR (I := [1, 2]) (k := 11) rfl rfl rfl) (by have := numE_len ((sg.getD i Sg.zero).a) 4; (try simp only [List.length_append, List.length_cons, List.length_nil]); omega)).mono (fun e w43 hq => ?_)))
            obtain ⟨v43, rfl, hq43⟩ := hq
            refine ⟨_, rfl, ?_⟩
            have H43 : Own [] w w43 [.blk b1 [(vU32 pg), ev, pv, (.bool con), (vU32 en), sv] 59, .blk b4 [(ptr b4 0), v43] 123, .row v43 5 1 ((((imP3 pg xs ps con en sg) ++ putS sg i) ++ (numS ((sg.getD i Sg.zero).a) 4)) ++ (numS (UInt32.ofNat (sg.getD i Sg.zero).p.toNat) 1)).length (List.map vU8 ((((imP3 pg xs ps con en sg) ++ putS sg i) ++ (numS ((sg.getD i Sg.zero).a) 4)) ++ (numS (UInt32.ofNat (sg.getD i Sg.zero).p.toNat) 1))), .row (.slice (some ⟨b7, 0, none⟩) 1 1) 22 1 1 (List.map vU32 [pg]), .row (.slice (some ⟨b9, 0, none⟩) 1 1) 22 1 1 (List.map vU32 [(UInt32.ofNat xs.length)]), .row (.slice (some ⟨b20, 0, none⟩) 1 1) 22 1 1 (List.map vU32 [(UInt32.ofNat ps.length)]), .row (.slice (some ⟨b29, 0, none⟩) 1 1) 22 1 1 (List.map vU32 [(conN con)]), .row (.slice (some ⟨b31, 0, none⟩) 1 1) 22 1 1 (List.map vU32 [en]), .row (.slice (some ⟨b33, 0, none⟩) 1 1) 22 1 1 (List.map vU32 [(UInt32.ofNat sg.length)]), .blk b38 [(vU32 (sg.getD i Sg.zero).a), (vU8 (sg.getD i Sg.zero).p), (str (sg.getD i Sg.zero).b)] 111, .row (.slice (some ⟨b40, 0, none⟩) 1 1) 22 1 1 (List.map vU32 [(sg.getD i Sg.zero).a]), .row (.slice (some ⟨b42, 0, none⟩) 1 1) 22 1 1 (List.map vU32 [(UInt32.ofNat (sg.getD i Sg.zero).p.toNat)])] := H42.splice [1, 2] [.blk b4 [(ptr b4 0), v43] 123, .row v43 5 1 ((((imP3 pg xs ps con en sg) ++ putS sg i) ++ (numS ((sg.getD i Sg.zero).a) 4)) ++ (numS (UInt32.ofNat (sg.getD i Sg.zero).p.toNat) 1)).length (List.map vU8 ((((imP3 pg xs ps con en sg) ++ putS sg i) ++ (numS ((sg.getD i Sg.zero).a) 4)) ++ (numS (UInt32.ofNat (sg.getD i Sg.zero).p.toNat) 1)))] [] rfl rfl hq43 (Fits.solid True.intro (Fits.solid True.intro Fits.nil))
            refine WL.nil ?_
            refine WQ.next ?_
            refine WC.seq ?_
            refine WC.region ?_
            refine WL.op rfl rfl (op_fieldAddr rfl Fa.F111_2 ?_)
            refine WL.op rfl rfl (op_load rfl (H43.cell (i := 9) rfl rfl) Try.underlying9 rfl ?_)
            refine WL.op rfl rfl (op_lenStr Try.underlying9 rfl ?_)
            refine WL.op rfl rfl (op_convNU32 (hs := Try.underlying3) (hd := Try.underlying22) rfl ?_)
            refine WL.op rfl rfl (op_buildSlice (cs := [_]) H43 Try.underlying64 Fa.I22 rfl rfl rfl rfl (by decide) (by decide) (fun b44 w44 H44 => ?_))
            refine WL.op rfl rfl (op_callF Fa.C86 rfl ((nums1_ok b4 v43 (.slice (some ⟨b44, 0, none⟩) 1 1) ((((imP3 pg xs ps con en sg) ++ putS sg i) ++ (numS ((sg.getD i Sg.zero).a) 4)) ++ (numS (UInt32.ofNat (sg.getD i Sg.zero).p.toNat) 1)).length ((((imP3 pg xs ps con en sg) ++ putS sg i) ++ (numS ((sg.getD i Sg.zero).a) 4)) ++ (numS (UInt32.ofNat (sg.getD i Sg.zero).p.toNat) 1)) (UInt32.ofNat (sg.getD i Sg.zero).b.length) 4 _ _ (H44.part [1, 2] rfl rfl) (H44.stayR (I := [1, 2]) (k := 12) rfl rfl rfl) (by have := numE_len ((sg.getD i Sg.zero).a) 4; have := numE_len (UInt32.ofNat (sg.getD i Sg.zero).p.toNat) 1; (try simp only [List.length_append, List.length_cons, List.length_nil]); omega)).mono (fun e w45 hq => ?_)))
            obtain ⟨v45, rfl, hq45⟩ := hq
            refine ⟨_, rfl, ?_⟩
            have H45 : Own [] w w45 [.blk b1 [(vU32 pg), ev, pv, (.bool con), (vU32 en), sv] 59, .blk b4 [(ptr b4 0), v45] 123, .row v45 5 1 (((((imP3 pg xs ps con en sg) ++ putS sg i) ++ (numS ((sg.getD i Sg.zero).a) 4)) ++ (numS (UInt32.ofNat (sg.getD i Sg.zero).p.toNat) 1)) ++ (numS (UInt32.ofNat (sg.getD i Sg.zero).b.length) 4)).length (List.map vU8 (((((imP3 pg xs ps con en sg) ++ putS sg i) ++ (numS ((sg.getD i Sg.zero).a) 4)) ++ (numS (UInt32.ofNat (sg.getD i Sg.zero).p.toNat) 1)) ++ (numS (UInt32.ofNat (sg.getD i Sg.zero).b.length) 4))), .row (.slice (some ⟨b7, 0, none⟩) 1 1) 22 1 1 (List.map vU32 [pg]), .row (.slice (some ⟨b9, 0, none⟩) 1 1) 22 1 1 (List.map vU32 [(UInt32.ofNat xs.length)]), .row (.slice (some ⟨b20, 0, none⟩) 1 1) 22 1 1 (List.map vU32 [(UInt32.ofNat ps.length)]), .row (.slice (some ⟨b29, 0, none⟩) 1 1) 22 1 1 (List.map vU32 [(conN con)]), .row (.slice (some ⟨b31, 0, none⟩) 1 1) 22 1 1 (List.map vU32 [en]), .row (.slice (some ⟨b33, 0, none⟩) 1 1) 22 1 1 (List.map vU32 [(UInt32.ofNat sg.length)]), .blk b38 [(vU32 (sg.getD i Sg.zero).a), (vU8 (sg.getD i Sg.zero).p), (str (sg.getD i Sg.zero).b)] 111, .row (.slice (some ⟨b40, 0, none⟩) 1 1) 22 1 1 (List.map vU32 [(sg.getD i Sg.zero).a]), .row (.slice (some ⟨b42, 0, none⟩) 1 1) 22 1 1 (List.map vU32 [(UInt32.ofNat (sg.getD i Sg.zero).p.toNat)]), .row (.slice (some ⟨b44, 0, none⟩) 1 1) 22 1 1 (List.map vU32 [(UInt32.ofNat (sg.getD i Sg.zero).b.length)])] := H44.splice [1, 2] [.blk b4 [(ptr b4 0), v45] 123, .row v45 5 1 (((((imP3 pg xs ps con en sg) ++ putS sg i) ++ (numS ((sg.getD i Sg.zero).a) 4)) ++ (numS (UInt32.ofNat (sg.getD i Sg.zero).p.toNat) 1)) ++ (numS (UInt32.ofNat (sg.getD i Sg.zero).b.length) 4)).length (List.map vU8 (((((imP3 pg xs ps con en sg) ++ putS sg i) ++ (numS ((sg.getD i Sg.zero).a) 4)) ++ (numS (UInt32.ofNat (sg.getD i Sg.zero).p.toNat) 1)) ++ (numS (UInt32.ofNat (sg.getD i Sg.zero).b.length) 4)))] [] rfl rfl hq45 (Fits.solid True.intro (Fits.solid True.intro Fits.nil))
            refine WL.nil ?_
            refine WQ.next ?_
            refine WC.region ?_
            refine WL.op rfl rfl (op_fieldAddr rfl Fa.F123_0 ?_)
            refine WL.op rfl rfl (op_fieldAddr rfl Fa.F111_2 ?_)
            refine WL.op rfl rfl (op_load rfl (H45.cell (i := 9) rfl rfl) Try.underlying9 rfl ?_)
            refine WL.op rfl rfl (op_callF Fa.C85 rfl ((ws_ok b4 (ptr b4 0) v45 (((((imP3 pg xs ps con en sg) ++ putS sg i) ++ (numS ((sg.getD i Sg.zero).a) 4)) ++ (numS (UInt32.ofNat (sg.getD i Sg.zero).p.toNat) 1)) ++ (numS (UInt32.ofNat (sg.getD i Sg.zero).b.length) 4)).length (((((imP3 pg xs ps con en sg) ++ putS sg i) ++ (numS ((sg.getD i Sg.zero).a) 4)) ++ (numS (UInt32.ofNat (sg.getD i Sg.zero).p.toNat) 1)) ++ (numS (UInt32.ofNat (sg.getD i Sg.zero).b.length) 4)) ((sg.getD i Sg.zero).b) 123 _ _ (H45.part [1, 2] rfl rfl) (.inr rfl) Fa.CO123 Fa.LI123_121 (by first | (show 0 + 4 < 2 ^ 46; decide) | (simp only [List.length_append]; omega))).mono (fun e w46 hq => ?_)))
            obtain ⟨v46, rfl, hq46⟩ := hq
            refine ⟨_, rfl, ?_⟩
            have H46 : Own [] w w46 [.blk b1 [(vU32 pg), ev, pv, (.bool con), (vU32 en), sv] 59, .blk b4 [(ptr b4 0), v46] 123, .row v46 5 1 ((((((imP3 pg xs ps con en sg) ++ putS sg i) ++ (numS ((sg.getD i Sg.zero).a) 4)) ++ (numS (UInt32.ofNat (sg.getD i Sg.zero).p.toNat) 1)) ++ (numS (UInt32.ofNat (sg.getD i Sg.zero).b.length) 4)).length + (sg.getD i Sg.zero).b.length) (List.map vU8 ((((((imP3 pg xs ps con en sg) ++ putS sg i) ++ (numS ((sg.getD i Sg.zero).a) 4)) ++ (numS (UInt32.ofNat (sg.getD i Sg.zero).p.toNat) 1)) ++ (numS (UInt32.ofNat (sg.getD i Sg.zero).b.length) 4)) ++ (sg.getD i Sg.zero).b)), .row (.slice (some ⟨b7, 0, none⟩) 1 1) 22 1 1 (List.map vU32 [pg]), .row (.slice (some ⟨b9, 0, none⟩) 1 1) 22 1 1 (List.map vU32 [(UInt32.ofNat xs.length)]), .row (.slice (some ⟨b20, 0, none⟩) 1 1) 22 1 1 (List.map vU32 [(UInt32.ofNat ps.length)]), .row (.slice (some ⟨b29, 0, none⟩) 1 1) 22 1 1 (List.map vU32 [(conN con)]), .row (.slice (some ⟨b31, 0, none⟩) 1 1) 22 1 1 (List.map vU32 [en]), .row (.slice (some ⟨b33, 0, none⟩) 1 1) 22 1 1 (List.map vU32 [(UInt32.ofNat sg.length)]), .blk b38 [(vU32 (sg.getD i Sg.zero).a), (vU8 (sg.getD i Sg.zero).p), (str (sg.getD i Sg.zero).b)] 111, .row (.slice (some ⟨b40, 0, none⟩) 1 1) 22 1 1 (List.map vU32 [(sg.getD i Sg.zero).a]), .row (.slice (some ⟨b42, 0, none⟩) 1 1) 22 1 1 (List.map vU32 [(UInt32.ofNat (sg.getD i Sg.zero).p.toNat)]), .row (.slice (some ⟨b44, 0, none⟩) 1 1) 22 1 1 (List.map vU32 [(UInt32.ofNat (sg.getD i Sg.zero).b.length)])] := H45.splice [1, 2] [.blk b4 [(ptr b4 0), v46] 123, .row v46 5 1 ((((((imP3 pg xs ps con en sg) ++ putS sg i) ++ (numS ((sg.getD i Sg.zero).a) 4)) ++ (numS (UInt32.ofNat (sg.getD i Sg.zero).p.toNat) 1)) ++ (numS (UInt32.ofNat (sg.getD i Sg.zero).b.length) 4)).length + (sg.getD i Sg.zero).b.length) (List.map vU8 ((((((imP3 pg xs ps con en sg) ++ putS sg i) ++ (numS ((sg.getD i Sg.zero).a) 4)) ++ (numS (UInt32.ofNat (sg.getD i Sg.zero).p.toNat) 1)) ++ (numS (UInt32.ofNat (sg.getD i Sg.zero).b.length) 4)) ++ (sg.getD i Sg.zero).b))] [] rfl rfl hq46 (Fits.solid True.intro (Fits.solid True.intro Fits.nil))
            refine WL.nil ?_
            refine WQ.inNormal ?_
            refine WQ.next ?_
            refine WC.region ?_
            refine WL.op rfl rfl (op_addN (b := 1) rfl rfl (by omega) ?_)
            refine WL.op rfl rfl (op_move rfl ?_)
            refine WL.nil ?_
            exact WQ.round (i + 1, v46) ⟨(by omega), (by have h := (show Own [] w w46 [.blk b1 [(vU32 pg), ev, pv, (.bool con), (vU32 en), sv] 59, .blk b4 [(ptr b4 0), v46] 123, .row v46 5 1 ((((((imP3 pg xs ps con en sg) ++ putS sg i) ++ (numS ((sg.getD i Sg.zero).a) 4)) ++ (numS (UInt32.ofNat (sg.getD i Sg.zero).p.toNat) 1)) ++ (numS (UInt32.ofNat (sg.getD i Sg.zero).b.length) 4)).length + (sg.getD i Sg.zero).b.length) (List.map vU8 ((((((imP3 pg xs ps con en sg) ++ putS sg i) ++ (numS ((sg.getD i Sg.zero).a) 4)) ++ (numS (UInt32.ofNat (sg.getD i Sg.zero).p.toNat) 1)) ++ (numS (UInt32.ofNat (sg.getD i Sg.zero).b.length) 4)) ++ (sg.getD i Sg.zero).b)), .row (.slice (some ⟨b7, 0, none⟩) 1 1) 22 1 1 (List.map vU32 [pg]), .row (.slice (some ⟨b9, 0, none⟩) 1 1) 22 1 1 (List.map vU32 [(UInt32.ofNat xs.length)]), .row (.slice (some ⟨b20, 0, none⟩) 1 1) 22 1 1 (List.map vU32 [(UInt32.ofNat ps.length)]), .row (.slice (some ⟨b29, 0, none⟩) 1 1) 22 1 1 (List.map vU32 [(conN con)]), .row (.slice (some ⟨b31, 0, none⟩) 1 1) 22 1 1 (List.map vU32 [en]), .row (.slice (some ⟨b33, 0, none⟩) 1 1) 22 1 1 (List.map vU32 [(UInt32.ofNat sg.length)])] from (H46.take 9)); exact Own.rowEqN (i := 2) (f := vU8) h rfl (by simp only [putS, List.append_assoc]) (by simp only [putS, List.append_assoc, List.length_append]; try omega))⟩ ⟨rfl, rfl, rfl, rfl, rfl, trivial⟩ (by show sg.length - (i + 1) < sg.length - i; omega)
          ·
            have hc37 := of_decide_eq_false hb37
            refine WC.exit ?_
            refine WQ.thenExit ?_
            refine WQ.thenExit ?_
            refine WQ.inHere ?_
            refine WQ.next ?_
            refine WC.seq ?_
            refine WC.region ?_
            refine WL.op rfl rfl (op_fieldAddr rfl Fa.F123_0 ?_)
            refine WL.op rfl rfl (op_callF Fa.C87 rfl ((bstr_ok b4 (ptr b4 0) x ((imP3 pg xs ps con en sg) ++ putS sg i).length ((imP3 pg xs ps con en sg) ++ putS sg i) 123 _ _ (H36.part [1, 2] rfl rfl) (.inr (imP3_ne _ _ _ _ _ _ _))).mono (fun e w47 hq => ?_)))
            obtain ⟨rfl, hq47⟩ := hq
            refine ⟨_, rfl, ?_⟩
            have H47 : Own [] w w47 [.blk b1 [(vU32 pg), ev, pv, (.bool con), (vU32 en), sv] 59, .row (.slice (some ⟨b7, 0, none⟩) 1 1) 22 1 1 (List.map vU32 [pg]), .row (.slice (some ⟨b9, 0, none⟩) 1 1) 22 1 1 (List.map vU32 [(UInt32.ofNat xs.length)]), .row (.slice (some ⟨b20, 0, none⟩) 1 1) 22 1 1 (List.map vU32 [(UInt32.ofNat ps.length)]), .row (.slice (some ⟨b29, 0, none⟩) 1 1) 22 1 1 (List.map vU32 [(conN con)]), .row (.slice (some ⟨b31, 0, none⟩) 1 1) 22 1 1 (List.map vU32 [en]), .row (.slice (some ⟨b33, 0, none⟩) 1 1) 22 1 1 (List.map vU32 [(UInt32.ofNat sg.length)])] := H36.rest (I := [1, 2]) (J := [0, 3, 4, 5, 6, 7, 8]) rfl rfl rfl rfl hq47
            refine WL.op rfl rfl (op_assign rfl ?_)
            refine WL.op rfl rfl (op_assign rfl ?_)
            refine WL.nil ?_
            refine WQ.next ?_
            refine WC.ret ?_
            refine WQ.out (.tmp rfl (.tmp rfl .nil)) ?_
            obtain rfl : i = sg.length := by omega
            rw [imB, if_pos (Decidable.not_not.mp hc3), Decidable.not_not.mp hc3]
            exact ⟨rfl, H47.fr⟩
end Go.Proofs.Ytpnghdalnghpcaa
/-! from WImg4 -/
namespace Go.Proofs.Ytpnghdalnghpcaa
open Go.Owl Go.Spec
set_option maxRecDepth 100000 in
theorem rmsame_ok (pg : UInt32) (c : Bool) (ev pv : Value) (xs : List Xt) (ps : List UInt16) (pg' : UInt32) (c' : Bool) (ev' pv' : Value) (xs' : List Xt) (ps' : List UInt16) (w : World) (hE : Arr w ev 2 xs.length (List.flatMap xtc xs)) (hP : Arr w pv 1 ps.length (List.map vU16 ps)) (hF : Arr w ev' 2 xs'.length (List.flatMap xtc xs')) (hQ : Arr w pv' 1 ps'.length (List.map vU16 ps')) (hn : xs.length < 2 ^ 47) (hm : ps.length < 2 ^ 47) :
    Calls Try.prog 88 #[(.agg #[(vU32 pg), ev, pv, (.bool c)]), (.agg #[(vU32 pg'), ev', pv', (.bool c')])] w (fun e w' => e = .returned (.bool (sameM pg c xs ps pg' c' xs' ps')) ∧ Fr [] w w') := by
  refine enter (args := [(.agg #[(vU32 pg), ev, pv, (.bool c)]), (.agg #[(vU32 pg'), ev', pv', (.bool c')])]) Try.func88 rfl rfl ?_
  have H0 : Own [] w w [] := Own.start w []
  refine WC.seq ?_
  refine WC.region ?_
  refine WL.op rfl rfl (op_box H0 rfl rfl (fun b1 w1 H1 => ?_))
  refine WL.op rfl rfl (op_box H1 rfl rfl (fun b2 w2 H2 => ?_))
  refine WL.op rfl rfl (op_assign rfl ?_)
  refine WL.nil ?_
  refine WQ.next ?_
  refine WC.seq ?_
  refine WC.seq ?_
  refine WC.region ?_
  refine WL.op rfl rfl (op_fieldAddr rfl Fa.F56_0 ?_)
  refine WL.op rfl rfl (op_load rfl (H2.cell (i := 0) rfl rfl) Try.underlying22 rfl ?_)
  refine WL.op rfl rfl (op_fieldAddr rfl Fa.F56_0 ?_)
  refine WL.op rfl rfl (op_load rfl (H2.cell (i := 1) rfl rfl) Try.underlying22 rfl ?_)
  refine WL.op rfl rfl (op_neqU32 rfl rfl ?_)
  refine WL.op rfl rfl (op_move rfl ?_)
  refine WL.split (t := 12) rfl (fun (hb3 : (decide (pg ≠ pg')) = true) => ?_) (fun (hb3 : (decide (pg ≠ pg')) = false) => ?_)
  ·
    have hc3 := of_decide_eq_true hb3
    refine WL.no rfl rfl rfl hb3 rfl ?_
    refine WL.no rfl rfl rfl hb3 rfl ?_
    refine WL.no rfl rfl rfl hb3 rfl ?_
    refine WL.no rfl rfl rfl hb3 rfl ?_
    refine WL.no rfl rfl rfl hb3 rfl ?_
    refine WL.op rfl rfl (op_pickT rfl hb3 rfl ?_)
    refine WL.op rfl rfl (op_move rfl ?_)
    refine WL.no rfl rfl rfl rfl rfl ?_
    refine WL.no rfl rfl rfl rfl rfl ?_
    refine WL.no rfl rfl rfl rfl rfl ?_
    refine WL.no rfl rfl rfl rfl rfl ?_
    refine WL.no rfl rfl rfl rfl rfl ?_
    refine WL.no rfl rfl rfl rfl rfl ?_
    refine WL.no rfl rfl rfl rfl rfl ?_
    refine WL.op rfl rfl (op_pickT rfl rfl rfl ?_)
    refine WL.op rfl rfl (op_move rfl ?_)
    refine WL.no rfl rfl rfl rfl rfl ?_
    refine WL.no rfl rfl rfl rfl rfl ?_
    refine WL.no rfl rfl rfl rfl rfl ?_
    refine WL.no rfl rfl rfl rfl rfl ?_
    refine WL.no rfl rfl rfl rfl rfl ?_
    refine WL.no rfl rfl rfl rfl rfl ?_
    refine WL.no rfl rfl rfl rfl rfl ?_
    refine WL.op rfl rfl (op_pickT rfl rfl rfl ?_)
    refine WL.nil ?_
    refine WQ.next ?_
    refine WC.yes rfl rfl ?_
    refine WC.seq ?_
    refine WC.region ?_
    refine WL.op rfl rfl (op_assign rfl ?_)
    refine WL.nil ?_
    refine WQ.next ?_
    refine WC.ret ?_
    refine WQ.thenRet ?_
    refine WQ.out (.tmp rfl .nil) ?_
    exact ⟨by rw [sameM_no (fun h => hc3 h.1)]; rfl, H2.fr⟩
  ·
    have hc3 := of_decide_eq_false hb3
    refine WL.yes rfl rfl rfl hb3 rfl (op_fieldAddr rfl Fa.F56_3 ?_)
    refine WL.yes rfl rfl rfl hb3 rfl (op_load rfl (H2.cell (i := 0) rfl rfl) Try.underlying4 rfl ?_)
    refine WL.yes rfl rfl rfl hb3 rfl (op_fieldAddr rfl Fa.F56_3 ?_)
    refine WL.yes rfl rfl rfl hb3 rfl (op_load rfl (H2.cell (i := 1) rfl rfl) Try.underlying4 rfl ?_)
    refine WL.yes rfl rfl rfl hb3 rfl (op_neqB Try.underlying4 rfl rfl ?_)
    refine WL.op rfl rfl (op_pickF rfl hb3 rfl ?_)
    refine WL.op rfl rfl (op_move rfl ?_)
    refine WL.split (t := 19) rfl (fun (hb4 : (!(c == c')) = true) => ?_) (fun (hb4 : (!(c == c')) = false) => ?_)
    ·
      have hn4 := (Bool.not_eq_true' _).mp hb4
      refine WL.no rfl rfl rfl hb4 rfl ?_
      refine WL.no rfl rfl rfl hb4 rfl ?_
      refine WL.no rfl rfl rfl hb4 rfl ?_
      refine WL.no rfl rfl rfl hb4 rfl ?_
      refine WL.no rfl rfl rfl hb4 rfl ?_
      refine WL.no rfl rfl rfl hb4 rfl ?_
      refine WL.no rfl rfl rfl hb4 rfl ?_
      refine WL.op rfl rfl (op_pickT rfl hb4 rfl ?_)
      refine WL.op rfl rfl (op_move rfl ?_)
      refine WL.no rfl rfl rfl rfl rfl ?_
      refine WL.no rfl rfl rfl rfl rfl ?_
      refine WL.no rfl rfl rfl rfl rfl ?_
      refine WL.no rfl rfl rfl rfl rfl ?_
      refine WL.no rfl rfl rfl rfl rfl ?_
      refine WL.no rfl rfl rfl rfl rfl ?_
      refine WL.no rfl rfl rfl rfl rfl ?_
      refine WL.op rfl rfl (op_pickT rfl rfl rfl ?_)
      refine WL.nil ?_
      refine WQ.next ?_
      refine WC.yes rfl rfl ?_
      refine WC.seq ?_
      refine WC.region ?_
      refine WL.op rfl rfl (op_assign rfl ?_)
      refine WL.nil ?_
      refine WQ.next ?_
      refine WC.ret ?_
      refine WQ.thenRet ?_
      refine WQ.out (.tmp rfl .nil) ?_
      exact ⟨by rw [sameM_no (fun h => by have h1 := hn4; rw [h.2.1] at h1; simp at h1)]; rfl, H2.fr⟩
    ·
      have hn4 := (Bool.not_eq_false' _).mp hb4
      refine WL.yes rfl rfl rfl hb4 rfl (op_fieldAddr rfl Fa.F56_1 ?_)
      refine WL.yes rfl rfl rfl hb4 rfl (op_load rfl (H2.cell (i := 0) rfl rfl) Try.underlying53 rfl ?_)
      refine WL.yes rfl rfl rfl hb4 rfl (op_lenA Try.underlying53 rfl (H2.arr hE) ?_)
      refine WL.yes rfl rfl rfl hb4 rfl (op_fieldAddr rfl Fa.F56_1 ?_)
      refine WL.yes rfl rfl rfl hb4 rfl (op_load rfl (H2.cell (i := 1) rfl rfl) Try.underlying53 rfl ?_)
      refine WL.yes rfl rfl rfl hb4 rfl (op_lenA Try.underlying53 rfl (H2.arr hF) ?_)
      refine WL.yes rfl rfl rfl hb4 rfl (op_neqN rfl rfl ?_)
      refine WL.op rfl rfl (op_pickF rfl hb4 rfl ?_)
      refine WL.op rfl rfl (op_move rfl ?_)
      refine WL.split (t := 28) rfl (fun (hb5 : (decide (xs.length ≠ xs'.length)) = true) => ?_) (fun (hb5 : (decide (xs.length ≠ xs'.length)) = false) => ?_)
      ·
        have hc5 := of_decide_eq_true hb5
        refine WL.no rfl rfl rfl hb5 rfl ?_
        refine WL.no rfl rfl rfl hb5 rfl ?_
        refine WL.no rfl rfl rfl hb5 rfl ?_
        refine WL.no rfl rfl rfl hb5 rfl ?_
        refine WL.no rfl rfl rfl hb5 rfl ?_
        refine WL.no rfl rfl rfl hb5 rfl ?_
        refine WL.no rfl rfl rfl hb5 rfl ?_
        refine WL.op rfl rfl (op_pickT rfl hb5 rfl ?_)
        refine WL.nil ?_
        refine WQ.next ?_
        refine WC.yes rfl rfl ?_
        refine WC.seq ?_
        refine WC.region ?_
        refine WL.op rfl rfl (op_assign rfl ?_)
        refine WL.nil ?_
        refine WQ.next ?_
        refine WC.ret ?_
        refine WQ.thenRet ?_
        refine WQ.out (.tmp rfl .nil) ?_
        exact ⟨by rw [sameM_no (fun h => hc5 (by rw [h.2.2.1]))]; rfl, H2.fr⟩
      ·
        have hc5 := of_decide_eq_false hb5
        refine WL.yes rfl rfl rfl hb5 rfl (op_fieldAddr rfl Fa.F56_2 ?_)
        refine WL.yes rfl rfl rfl hb5 rfl (op_load rfl (H2.cell (i := 0) rfl rfl) Try.underlying54 rfl ?_)
        refine WL.yes rfl rfl rfl hb5 rfl (op_lenA Try.underlying54 rfl (H2.arr hP) ?_)
        refine WL.yes rfl rfl rfl hb5 rfl (op_fieldAddr rfl Fa.F56_2 ?_)
        refine WL.yes rfl rfl rfl hb5 rfl (op_load rfl (H2.cell (i := 1) rfl rfl) Try.underlying54 rfl ?_)
        refine WL.yes rfl rfl rfl hb5 rfl (op_lenA Try.underlying54 rfl (H2.arr hQ) ?_)
        refine WL.yes rfl rfl rfl hb5 rfl (op_neqN rfl rfl ?_)
        refine WL.op rfl rfl (op_pickF rfl hb5 rfl ?_)
        refine WL.nil ?_
        refine WQ.next ?_
        refine WC.cond rfl (fun (hb6 : (decide (ps.length ≠ ps'.length)) = true) => ?_) (fun (hb6 : (decide (ps.length ≠ ps'.length)) = false) => ?_)
        ·
          have hc6 := of_decide_eq_true hb6
          refine WC.seq ?_
          refine WC.region ?_
          refine WL.op rfl rfl (op_assign rfl ?_)
          refine WL.nil ?_
          refine WQ.next ?_
          refine WC.ret ?_
          refine WQ.thenRet ?_
          refine WQ.out (.tmp rfl .nil) ?_
          exact ⟨by rw [sameM_no (fun h => hc6 (by rw [h.2.2.2]))]; rfl, H2.fr⟩
        ·
          have hc6 := of_decide_eq_false hb6
          refine WC.skip ?_
          refine WQ.next ?_
          refine WC.seq ?_
          refine WC.seq ?_
          refine WC.region ?_
          refine WL.op rfl rfl (op_assign rfl ?_)
          refine WL.nil ?_
          refine WQ.next ?_
          refine WC.block ?_
          refine WC.loop (α := Nat) (fun k => [(2, (ptr b1 0)), (3, (ptr b2 0)), (5, (vN k))]) (fun k w' => (k ≤ xs.length ∧ (∀ j, j < k → xs.getD j Xt.zero = xs'.getD j Xt.zero)) ∧ Own [] w w' [.blk b1 [(vU32 pg), ev, pv, (.bool c)] 56, .blk b2 [(vU32 pg'), ev', pv', (.bool c')] 56]) (fun k => xs.length - k) 0 ⟨⟨Nat.zero_le _, fun j h => by omega⟩, H2⟩ ⟨rfl, rfl, rfl, trivial⟩ ?_
          rintro k w7 ⟨⟨hk1, hok⟩, H7⟩
          show WC _ _ _ _ _ [(2, (ptr b1 0)), (3, (ptr b2 0)), (5, (vN k))] _
          refine WC.seq ?_
          refine WC.seq ?_
          refine WC.region ?_
          refine WL.op rfl rfl (op_move rfl ?_)
          refine WL.op rfl rfl (op_fieldAddr rfl Fa.F56_1 ?_)
          refine WL.op rfl rfl (op_load rfl (H7.cell (i := 0) rfl rfl) Try.underlying53 rfl ?_)
          refine WL.op rfl rfl (op_lenA Try.underlying53 rfl (H7.arr hE) ?_)
          refine WL.op rfl rfl (op_lssN rfl rfl ?_)
          refine WL.nil ?_
          refine WQ.next ?_
          refine WC.cond rfl (fun (hb8 : (decide (k < xs.length)) = true) => ?_) (fun (hb8 : (decide (k < xs.length)) = false) => ?_)
          ·
            have hc8 := of_decide_eq_true hb8
            refine WC.skip ?_
            refine WQ.next ?_
            refine WC.seq ?_
            refine WC.block ?_
            refine WC.seq ?_
            refine WC.draw 11 Fa.M H7 (HW.op rfl (fun w1 H1 => op_fieldAddr rfl Fa.F56_1 ⟨rfl, Fr.refl _ _⟩) (HW.op rfl (fun w1 H1 => op_load rfl (H1.cell (i := 0) rfl rfl) Try.underlying53 rfl ⟨rfl, Fr.refl _ _⟩) (HW.op rfl (fun w1 H1 => op_move rfl ⟨rfl, Fr.refl _ _⟩) (HW.op rfl (fun w1 H1 => op_indexAddr Try.underlying53 Fa.I130 rfl (H1.arr hE) rfl (by omega) ⟨rfl, Fr.refl _ _⟩) (HW.op rfl (fun w1 H1 => op_loadSP (vs := xtc (xs.getD k Xt.zero)) rfl (Arr.atsF (H1.arr hE) (fun _ => rfl) (by decide) Xt.zero (by omega)) Try.underlying130 rfl Fa.I130 rfl ⟨rfl, Fr.refl _ _⟩) (HW.op rfl (fun w1 H1 => op_fieldAddr rfl Fa.F56_1 ⟨rfl, Fr.refl _ _⟩) (HW.op rfl (fun w1 H1 => op_load rfl (H1.cell (i := 1) rfl rfl) Try.underlying53 rfl ⟨rfl, Fr.refl _ _⟩) (HW.op rfl (fun w1 H1 => op_move rfl ⟨rfl, Fr.refl _ _⟩) (HW.op rfl (fun w1 H1 => op_indexAddr Try.underlying53 Fa.I130 rfl (H1.arr hF) rfl (by omega) ⟨rfl, Fr.refl _ _⟩) (HW.op rfl (fun w1 H1 => op_loadSP (vs := xtc (xs'.getD k Xt.zero)) rfl (Arr.atsF (H1.arr hF) (fun _ => rfl) (by decide) Xt.zero (by omega)) Try.underlying130 rfl Fa.I130 rfl ⟨rfl, Fr.refl _ _⟩) (HW.op rfl (fun w1 H1 => op_neqS (xs := [_, _]) (ys := [_, _]) (b := (!((decide ((xs.getD k Xt.zero).id = (xs'.getD k Xt.zero).id)) && (decide ((xs.getD k Xt.zero).bl = (xs'.getD k Xt.zero).bl))))) Fa.FL130 rfl rfl rfl (by simp [eqAll, veqU32]) ⟨rfl, Fr.refl _ _⟩)  HW.nil))))))))))) (by kernel_rfl) ?_
            intro β9 w9 H9
            refine WL.nil ?_
            refine WQ.next ?_
            refine WC.cond rfl (fun (hb10 : (!((decide ((xs.getD k Xt.zero).id = (xs'.getD k Xt.zero).id)) && (decide ((xs.getD k Xt.zero).bl = (xs'.getD k Xt.zero).bl)))) = true) => ?_) (fun (hb10 : (!((decide ((xs.getD k Xt.zero).id = (xs'.getD k Xt.zero).id)) && (decide ((xs.getD k Xt.zero).bl = (xs'.getD k Xt.zero).bl)))) = false) => ?_)
            ·
              have hn10 := (Bool.not_eq_true' _).mp hb10
              refine WC.seq ?_
              refine WC.region ?_
              refine WL.op rfl rfl (op_assign rfl ?_)
              refine WL.nil ?_
              refine WQ.next ?_
              refine WC.ret ?_
              refine WQ.inRet ?_
              refine WQ.thenRet ?_
              refine WQ.thenRet ?_
              refine WQ.inRet ?_
              refine WQ.thenRet ?_
              refine WQ.out (.tmp rfl .nil) ?_
              exact ⟨by rw [sameM_no (fun h => xt_ne hn10 (by rw [h.2.2.1]))]; rfl, H9.fr⟩
            ·
              have hn10 := (Bool.not_eq_false' _).mp hb10
              refine WC.skip ?_
              refine WQ.inNormal ?_
              refine WQ.next ?_
              refine WC.region ?_
              refine WL.op rfl rfl (op_move rfl ?_)
              refine WL.op rfl rfl (op_addN (b := 1) rfl rfl (by omega) ?_)
              refine WL.op rfl rfl (op_assign rfl ?_)
              refine WL.nil ?_
              exact WQ.round (k + 1) ⟨⟨by omega, allPrev hok (xt_eq hn10)⟩, H9⟩ ⟨rfl, rfl, rfl, trivial⟩ (by omega)
          ·
            have hc8 := of_decide_eq_false hb8
            refine WC.exit ?_
            refine WQ.thenExit ?_
            refine WQ.thenExit ?_
            refine WQ.inHere ?_
            refine WQ.next ?_
            refine WC.seq ?_
            refine WC.seq ?_
            refine WC.region ?_
            refine WL.op rfl rfl (op_assign rfl ?_)
            refine WL.nil ?_
            refine WQ.next ?_
            refine WC.block ?_
            refine WC.loop (α := Nat) (fun i => [(2, (ptr b1 0)), (3, (ptr b2 0)), (6, (vN i))]) (fun i w' => (i ≤ ps.length ∧ (∀ j, j < i → ps.getD j 0 = ps'.getD j 0)) ∧ Own [] w w' [.blk b1 [(vU32 pg), ev, pv, (.bool c)] 56, .blk b2 [(vU32 pg'), ev', pv', (.bool c')] 56]) (fun i => ps.length - i) 0 ⟨⟨Nat.zero_le _, fun j h => by omega⟩, H7⟩ ⟨rfl, rfl, rfl, trivial⟩ ?_
            rintro i w11 ⟨⟨hi1, hoi⟩, H11⟩
            show WC _ _ _ _ _ [(2, (ptr b1 0)), (3, (ptr b2 0)), (6, (vN i))] _
            refine WC.seq ?_
            refine WC.seq ?_
            refine WC.region ?_
            refine WL.op rfl rfl (op_move rfl ?_)
            refine WL.op rfl rfl (op_fieldAddr rfl Fa.F56_2 ?_)
            refine WL.op rfl rfl (op_load rfl (H11.cell (i := 0) rfl rfl) Try.underlying54 rfl ?_)
            refine WL.op rfl rfl (op_lenA Try.underlying54 rfl (H11.arr hP) ?_)
            refine WL.op rfl rfl (op_lssN rfl rfl ?_)
            refine WL.nil ?_
            refine WQ.next ?_
            refine WC.cond rfl (fun (hb12 : (decide (i < ps.length)) = true) => ?_) (fun (hb12 : (decide (i < ps.length)) = false) => ?_)
            ·
              have hc12 := of_decide_eq_true hb12
              refine WC.skip ?_
              refine WQ.next ?_
              refine WC.seq ?_
              refine WC.block ?_
              refine WC.seq ?_
              refine WC.draw 11 Fa.M H11 (HW.op rfl (fun w1 H1 => op_fieldAddr rfl Fa.F56_2 ⟨rfl, Fr.refl _ _⟩) (HW.op rfl (fun w1 H1 => op_load rfl (H1.cell (i := 0) rfl rfl) Try.underlying54 rfl ⟨rfl, Fr.refl _ _⟩) (HW.op rfl (fun w1 H1 => op_move rfl ⟨rfl, Fr.refl _ _⟩) (HW.op rfl (fun w1 H1 => op_indexAddr1 Try.underlying54 Fa.I92 rfl (H1.arr hP) rfl (by omega) ⟨rfl, Fr.refl _ _⟩) (HW.op rfl (fun w1 H1 => op_load rfl ((H1.arr hP).at (get_map vU16 0 (Arr.ltM (H1.arr hP) (by omega)))) Try.underlying92 rfl ⟨rfl, Fr.refl _ _⟩) (HW.op rfl (fun w1 H1 => op_fieldAddr rfl Fa.F56_2 ⟨rfl, Fr.refl _ _⟩) (HW.op rfl (fun w1 H1 => op_load rfl (H1.cell (i := 1) rfl rfl) Try.underlying54 rfl ⟨rfl, Fr.refl _ _⟩) (HW.op rfl (fun w1 H1 => op_move rfl ⟨rfl, Fr.refl _ _⟩) (HW.op rfl (fun w1 H1 => op_indexAddr1 Try.underlying54 Fa.I92 rfl (H1.arr hQ) rfl (by omega) ⟨rfl, Fr.refl _ _⟩) (HW.op rfl (fun w1 H1 => op_load rfl ((H1.arr hQ).at (get_map vU16 0 (Arr.ltM (H1.arr hQ) (by omega)))) Try.underlying92 rfl ⟨rfl, Fr.refl _ _⟩) (HW.op rfl (fun w1 H1 => op_neqU16 rfl rfl ⟨rfl, Fr.refl _ _⟩)  HW.nil))))))))))) (by kernel_rfl) ?_
              intro β13 w13 H13
              refine WL.nil ?_
              refine WQ.next ?_
              refine WC.cond rfl (fun (hb14 : (decide ((ps.getD i 0) ≠ (ps'.getD i 0))) = true) => ?_) (fun (hb14 : (decide ((ps.getD i 0) ≠ (ps'.getD i 0))) = false) => ?_)
              ·
                have hc14 := of_decide_eq_true hb14
                refine WC.seq ?_
                refine WC.region ?_
                refine WL.op rfl rfl (op_assign rfl ?_)
                refine WL.nil ?_
                refine WQ.next ?_
                refine WC.ret ?_
                refine WQ.inRet ?_
                refine WQ.thenRet ?_
                refine WQ.thenRet ?_
                refine WQ.inRet ?_
                refine WQ.thenRet ?_
                refine WQ.out (.tmp rfl .nil) ?_
                exact ⟨by rw [sameM_no (fun h => hc14 (by rw [h.2.2.2]))]; rfl, H13.fr⟩
              ·
                have hc14 := of_decide_eq_false hb14
                refine WC.skip ?_
                refine WQ.inNormal ?_
                refine WQ.next ?_
                refine WC.region ?_
                refine WL.op rfl rfl (op_move rfl ?_)
                refine WL.op rfl rfl (op_addN (b := 1) rfl rfl (by omega) ?_)
                refine WL.op rfl rfl (op_assign rfl ?_)
                refine WL.nil ?_
                exact WQ.round (i + 1) ⟨⟨by omega, allPrev hoi (Decidable.not_not.mp hc14)⟩, H13⟩ ⟨rfl, rfl, rfl, trivial⟩ (by omega)
            ·
              have hc12 := of_decide_eq_false hb12
              refine WC.exit ?_
              refine WQ.thenExit ?_
              refine WQ.thenExit ?_
              refine WQ.inHere ?_
              refine WQ.next ?_
              refine WC.seq ?_
              refine WC.region ?_
              refine WL.op rfl rfl (op_assign rfl ?_)
              refine WL.nil ?_
              refine WQ.next ?_
              refine WC.ret ?_
              refine WQ.out (.tmp rfl .nil) ?_
              exact ⟨by rw [sameM_iff.2 ⟨Decidable.not_not.mp hc3, by simpa using hn4, list_eqD (by omega) (fun j hj => hok j (by omega)), list_eqD (by omega) (fun j hj => hoi j (by omega))⟩]; rfl, H11.fr⟩
set_option maxRecDepth 100000 in
theorem risame_ok (pg : UInt32) (c : Bool) (ev pv sv : Value) (xs : List Xt) (ps : List UInt16) (en : UInt32) (sg : List Sg) (pg' : UInt32) (c' : Bool) (ev' pv' sv' : Value) (xs' : List Xt) (ps' : List UInt16) (en' : UInt32) (sg' : List Sg) (w : World) (hE : Arr w ev 2 xs.length (List.flatMap xtc xs)) (hP : Arr w pv 1 ps.length (List.map vU16 ps)) (hS : Arr w sv 3 sg.length (List.flatMap sgc sg)) (hF : Arr w ev' 2 xs'.length (List.flatMap xtc xs')) (hQ : Arr w pv' 1 ps'.length (List.map vU16 ps')) (hR : Arr w sv' 3 sg'.length (List.flatMap sgc sg')) (hn : xs.length < 2 ^ 47) (hm : ps.length < 2 ^ 47) (hk : sg.length < 2 ^ 47) :
    Calls Try.prog 43 #[(.agg #[(vU32 pg), ev, pv, (.bool c), (vU32 en), sv]), (.agg #[(vU32 pg'), ev', pv', (.bool c'), (vU32 en'), sv'])] w (fun e w' => e = .returned (.bool (sameI pg c xs ps en sg pg' c' xs' ps' en' sg')) ∧ Fr [] w w') := by
  refine enter (args := [(.agg #[(vU32 pg), ev, pv, (.bool c), (vU32 en), sv]), (.agg #[(vU32 pg'), ev', pv', (.bool c'), (vU32 en'), sv'])]) Try.func43 rfl rfl ?_
  have H0 : Own [] w w [] := Own.start w []
  refine WC.seq ?_
  refine WC.region ?_
  refine WL.op rfl rfl (op_box H0 rfl rfl (fun b1 w1 H1 => ?_))
  refine WL.op rfl rfl (op_box H1 rfl rfl (fun b2 w2 H2 => ?_))
  refine WL.op rfl rfl (op_assign rfl ?_)
  refine WL.nil ?_
  refine WQ.next ?_
  refine WC.seq ?_
  refine WC.seq ?_
  refine WC.region ?_
  refine WL.op rfl rfl (op_fieldAddr rfl Fa.F59_0 ?_)
  refine WL.op rfl rfl (op_loadS (vs := [_, _, _, _]) rfl (H2.cells (i := 0) rfl rfl) Try.underlying56 rfl Fa.I56 rfl ?_)
  refine WL.op rfl rfl (op_fieldAddr rfl Fa.F59_0 ?_)
  refine WL.op rfl rfl (op_loadS (vs := [_, _, _, _]) rfl (H2.cells (i := 1) rfl rfl) Try.underlying56 rfl Fa.I56 rfl ?_)
  refine WL.op rfl rfl (op_callF Fa.C88 rfl ((rmsame_ok pg c _ _ xs ps pg' c' _ _ xs' ps' _ (H2.arr hE) (H2.arr hP) (H2.arr hF) (H2.arr hQ) (by omega) (by omega)).mono (fun e w3 hq => ?_)))
  obtain ⟨rfl, hf3⟩ := hq
  refine ⟨_, rfl, ?_⟩
  have H3 := H2.fr' hf3
  refine WL.op rfl rfl (op_not rfl ?_)
  refine WL.op rfl rfl (op_move rfl ?_)
  refine WL.split (t := 12) rfl (fun (hb4 : (!(sameM pg c xs ps pg' c' xs' ps')) = true) => ?_) (fun (hb4 : (!(sameM pg c xs ps pg' c' xs' ps')) = false) => ?_)
  ·
    have hn4 := (Bool.not_eq_true' _).mp hb4
    refine WL.no rfl rfl rfl hb4 rfl ?_
    refine WL.no rfl rfl rfl hb4 rfl ?_
    refine WL.no rfl rfl rfl hb4 rfl ?_
    refine WL.no rfl rfl rfl hb4 rfl ?_
    refine WL.no rfl rfl rfl hb4 rfl ?_
    refine WL.op rfl rfl (op_pickT rfl hb4 rfl ?_)
    refine WL.op rfl rfl (op_move rfl ?_)
    refine WL.no rfl rfl rfl rfl rfl ?_
    refine WL.no rfl rfl rfl rfl rfl ?_
    refine WL.no rfl rfl rfl rfl rfl ?_
    refine WL.no rfl rfl rfl rfl rfl ?_
    refine WL.no rfl rfl rfl rfl rfl ?_
    refine WL.no rfl rfl rfl rfl rfl ?_
    refine WL.no rfl rfl rfl rfl rfl ?_
    refine WL.op rfl rfl (op_pickT rfl rfl rfl ?_)
    refine WL.nil ?_
    refine WQ.next ?_
    refine WC.yes rfl rfl ?_
    refine WC.seq ?_
    refine WC.region ?_
    refine WL.op rfl rfl (op_assign rfl ?_)
    refine WL.nil ?_
    refine WQ.next ?_
    refine WC.ret ?_
    refine WQ.thenRet ?_
    refine WQ.out (.tmp rfl .nil) ?_
    exact ⟨by rw [sameI_no (fun h => by have h1 := hn4; rw [h.1] at h1; cases h1)]; rfl, H3.fr⟩
  ·
    have hn4 := (Bool.not_eq_false' _).mp hb4
    refine WL.yes rfl rfl rfl hb4 rfl (op_fieldAddr rfl Fa.F59_1 ?_)
    refine WL.yes rfl rfl rfl hb4 rfl (op_load rfl (H3.cell (i := 0) rfl rfl) Try.underlying22 rfl ?_)
    refine WL.yes rfl rfl rfl hb4 rfl (op_fieldAddr rfl Fa.F59_1 ?_)
    refine WL.yes rfl rfl rfl hb4 rfl (op_load rfl (H3.cell (i := 1) rfl rfl) Try.underlying22 rfl ?_)
    refine WL.yes rfl rfl rfl hb4 rfl (op_neqU32 rfl rfl ?_)
    refine WL.op rfl rfl (op_pickF rfl hb4 rfl ?_)
    refine WL.op rfl rfl (op_move rfl ?_)
    refine WL.split (t := 19) rfl (fun (hb5 : (decide (en ≠ en')) = true) => ?_) (fun (hb5 : (decide (en ≠ en')) = false) => ?_)
    ·
      have hc5 := of_decide_eq_true hb5
      refine WL.no rfl rfl rfl hb5 rfl ?_
      refine WL.no rfl rfl rfl hb5 rfl ?_
      refine WL.no rfl rfl rfl hb5 rfl ?_
      refine WL.no rfl rfl rfl hb5 rfl ?_
      refine WL.no rfl rfl rfl hb5 rfl ?_
      refine WL.no rfl rfl rfl hb5 rfl ?_
      refine WL.no rfl rfl rfl hb5 rfl ?_
      refine WL.op rfl rfl (op_pickT rfl hb5 rfl ?_)
      refine WL.nil ?_
      refine WQ.next ?_
      refine WC.yes rfl rfl ?_
      refine WC.seq ?_
      refine WC.region ?_
      refine WL.op rfl rfl (op_assign rfl ?_)
      refine WL.nil ?_
      refine WQ.next ?_
      refine WC.ret ?_
      refine WQ.thenRet ?_
      refine WQ.out (.tmp rfl .nil) ?_
      exact ⟨by rw [sameI_no (fun h => hc5 h.2.1)]; rfl, H3.fr⟩
    ·
      have hc5 := of_decide_eq_false hb5
      refine WL.yes rfl rfl rfl hb5 rfl (op_fieldAddr rfl Fa.F59_2 ?_)
      refine WL.yes rfl rfl rfl hb5 rfl (op_load rfl (H3.cell (i := 0) rfl rfl) Try.underlying57 rfl ?_)
      refine WL.yes rfl rfl rfl hb5 rfl (op_lenA Try.underlying57 rfl (H3.arr hS) ?_)
      refine WL.yes rfl rfl rfl hb5 rfl (op_fieldAddr rfl Fa.F59_2 ?_)
      refine WL.yes rfl rfl rfl hb5 rfl (op_load rfl (H3.cell (i := 1) rfl rfl) Try.underlying57 rfl ?_)
      refine WL.yes rfl rfl rfl hb5 rfl (op_lenA Try.underlying57 rfl (H3.arr hR) ?_)
      refine WL.yes rfl rfl rfl hb5 rfl (op_neqN rfl rfl ?_)
      refine WL.op rfl rfl (op_pickF rfl hb5 rfl ?_)
      refine WL.nil ?_
      refine WQ.next ?_
      refine WC.cond rfl (fun (hb6 : (decide (sg.length ≠ sg'.length)) = true) => ?_) (fun (hb6 : (decide (sg.length ≠ sg'.length)) = false) => ?_)
      ·
        have hc6 := of_decide_eq_true hb6
        refine WC.seq ?_
        refine WC.region ?_
        refine WL.op rfl rfl (op_assign rfl ?_)
        refine WL.nil ?_
        refine WQ.next ?_
        refine WC.ret ?_
        refine WQ.thenRet ?_
        refine WQ.out (.tmp rfl .nil) ?_
        exact ⟨by rw [sameI_no (fun h => hc6 (by rw [h.2.2]))]; rfl, H3.fr⟩
      ·
        have hc6 := of_decide_eq_false hb6
        refine WC.skip ?_
        refine WQ.next ?_
        refine WC.seq ?_
        refine WC.seq ?_
        refine WC.region ?_
        refine WL.op rfl rfl (op_assign rfl ?_)
        refine WL.nil ?_
        refine WQ.next ?_
        refine WC.block ?_
        refine WC.loop (α := Nat) (fun k => [(2, (ptr b1 0)), (3, (ptr b2 0)), (5, (vN k))]) (fun k w' => (k ≤ sg.length ∧ (∀ j, j < k → sg.getD j Sg.zero = sg'.getD j Sg.zero)) ∧ Own [] w w' [.blk b1 [(vU32 pg), ev, pv, (.bool c), (vU32 en), sv] 59, .blk b2 [(vU32 pg'), ev', pv', (.bool c'), (vU32 en'), sv'] 59]) (fun k => sg.length - k) 0 ⟨⟨Nat.zero_le _, fun j h => by omega⟩, H3⟩ ⟨rfl, rfl, rfl, trivial⟩ ?_
        rintro k w7 ⟨⟨hk1, hok⟩, H7⟩
        show WC _ _ _ _ _ [(2, (ptr b1 0)), (3, (ptr b2 0)), (5, (vN k))] _
        refine WC.seq ?_
        refine WC.seq ?_
        refine WC.region ?_
        refine WL.op rfl rfl (op_move rfl ?_)
        refine WL.op rfl rfl (op_fieldAddr rfl Fa.F59_2 ?_)
        refine WL.op rfl rfl (op_load rfl (H7.cell (i := 0) rfl rfl) Try.underlying57 rfl ?_)
        refine WL.op rfl rfl (op_lenA Try.underlying57 rfl (H7.arr hS) ?_)
        refine WL.op rfl rfl (op_lssN rfl rfl ?_)
        refine WL.nil ?_
        refine WQ.next ?_
        refine WC.cond rfl (fun (hb8 : (decide (k < sg.length)) = true) => ?_) (fun (hb8 : (decide (k < sg.length)) = false) => ?_)
        ·
          have hc8 := of_decide_eq_true hb8
          refine WC.skip ?_
          refine WQ.next ?_
          refine WC.seq ?_
          refine WC.block ?_
          refine WC.seq ?_
          refine WC.draw 11 Fa.M H7 (HW.op rfl (fun w1 H1 => op_fieldAddr rfl Fa.F59_2 ⟨rfl, Fr.refl _ _⟩) (HW.op rfl (fun w1 H1 => op_load rfl (H1.cell (i := 0) rfl rfl) Try.underlying57 rfl ⟨rfl, Fr.refl _ _⟩) (HW.op rfl (fun w1 H1 => op_move rfl ⟨rfl, Fr.refl _ _⟩) (HW.op rfl (fun w1 H1 => op_indexAddr Try.underlying57 Fa.I111 rfl (H1.arr hS) rfl (by omega) ⟨rfl, Fr.refl _ _⟩) (HW.op rfl (fun w1 H1 => op_loadSP (vs := sgc (sg.getD k Sg.zero)) rfl (Arr.atsF (H1.arr hS) (fun _ => rfl) (by decide) Sg.zero (by omega)) Try.underlying111 rfl Fa.I111 rfl ⟨rfl, Fr.refl _ _⟩) (HW.op rfl (fun w1 H1 => op_fieldAddr rfl Fa.F59_2 ⟨rfl, Fr.refl _ _⟩) (HW.op rfl (fun w1 H1 => op_load rfl (H1.cell (i := 1) rfl rfl) Try.underlying57 rfl ⟨rfl, Fr.refl _ _⟩) (HW.op rfl (fun w1 H1 => op_move rfl ⟨rfl, Fr.refl _ _⟩) (HW.op rfl (fun w1 H1 => op_indexAddr Try.underlying57 Fa.I111 rfl (H1.arr hR) rfl (by omega) ⟨rfl, Fr.refl _ _⟩) (HW.op rfl (fun w1 H1 => op_loadSP (vs := sgc (sg'.getD k Sg.zero)) rfl (Arr.atsF (H1.arr hR) (fun _ => rfl) (by decide) Sg.zero (by omega)) Try.underlying111 rfl Fa.I111 rfl ⟨rfl, Fr.refl _ _⟩) (HW.op rfl (fun w1 H1 => op_neqS (xs := [_, _, _]) (ys := [_, _, _]) (b := (!((decide ((sg.getD k Sg.zero).a = (sg'.getD k Sg.zero).a)) && ((decide ((sg.getD k Sg.zero).p = (sg'.getD k Sg.zero).p)) && (decide ((sg.getD k Sg.zero).b = (sg'.getD k Sg.zero).b)))))) Fa.FL111 rfl rfl rfl (by simp [eqAll, veqStr, veqU32, veqU8]) ⟨rfl, Fr.refl _ _⟩)  HW.nil))))))))))) (by kernel_rfl) ?_
          intro β9 w9 H9
          refine WL.nil ?_
          refine WQ.next ?_
          refine WC.cond rfl (fun (hb10 : (!((decide ((sg.getD k Sg.zero).a = (sg'.getD k Sg.zero).a)) && ((decide ((sg.getD k Sg.zero).p = (sg'.getD k Sg.zero).p)) && (decide ((sg.getD k Sg.zero).b = (sg'.getD k Sg.zero).b))))) = true) => ?_) (fun (hb10 : (!((decide ((sg.getD k Sg.zero).a = (sg'.getD k Sg.zero).a)) && ((decide ((sg.getD k Sg.zero).p = (sg'.getD k Sg.zero).p)) && (decide ((sg.getD k Sg.zero).b = (sg'.getD k Sg.zero).b))))) = false) => ?_)
          ·
            have hn10 := (Bool.not_eq_true' _).mp hb10
            refine WC.seq ?_
            refine WC.region ?_
            refine WL.op rfl rfl (op_assign rfl ?_)
            refine WL.nil ?_
            refine WQ.next ?_
            refine WC.ret ?_
            refine WQ.inRet ?_
            refine WQ.thenRet ?_
            refine WQ.thenRet ?_
            refine WQ.inRet ?_
            refine WQ.thenRet ?_
            refine WQ.out (.tmp rfl .nil) ?_
            exact ⟨by rw [sameI_no (fun h => sg_ne hn10 (by rw [h.2.2]))]; rfl, H9.fr⟩
          ·
            have hn10 := (Bool.not_eq_false' _).mp hb10
            refine WC.skip ?_
            refine WQ.inNormal ?_
            refine WQ.next ?_
            refine WC.region ?_
            refine WL.op rfl rfl (op_move rfl ?_)
            refine WL.op rfl rfl (op_addN (b := 1) rfl rfl (by omega) ?_)
            refine WL.op rfl rfl (op_assign rfl ?_)
            refine WL.nil ?_
            exact WQ.round (k + 1) ⟨⟨by omega, allPrev hok (sg_eq hn10)⟩, H9⟩ ⟨rfl, rfl, rfl, trivial⟩ (by omega)
        ·
          have hc8 := of_decide_eq_false hb8
          refine WC.exit ?_
          refine WQ.thenExit ?_
          refine WQ.thenExit ?_
          refine WQ.inHere ?_
          refine WQ.next ?_
          refine WC.seq ?_
          refine WC.region ?_
          refine WL.op rfl rfl (op_assign rfl ?_)
          refine WL.nil ?_
          refine WQ.next ?_
          refine WC.ret ?_
          refine WQ.out (.tmp rfl .nil) ?_
          exact ⟨by rw [sameI_iff.2 ⟨sameM_iff.1 (by simpa using hn4), Decidable.not_not.mp hc5, list_eqD (by omega) (fun j hj => hok j (by omega))⟩]; rfl, H7.fr⟩
end Go.Proofs.Ytpnghdalnghpcaa
/-! from WImg5 -/
namespace Go.Proofs.Ytpnghdalnghpcaa
open Go.Owl Go.Spec
set_option maxRecDepth 100000 in
theorem large11_ok (pg : UInt32) (ev pv lv : Value) (xs : List Xt) (ps : List UInt16) (con : Bool) (w : World) (hL : Arr w lv 4 1 [vU32 pg, ev, pv, .bool con]) (hE : Arr w ev 2 xs.length (List.flatMap xtc xs)) (hP : Arr w pv 1 ps.length (List.map vU16 ps)) (hn : xs.length < 2 ^ 47) (hm : ps.length < 2 ^ 47) :
    Calls Try.prog 79 #[lv] w (fun e w' => e = .returned (.bool (decide (1 + xs.length + ps.length > 600))) ∧ Fr [] w w') := by
  refine enter (args := [lv]) Try.func79 rfl rfl ?_
  have H0 : Own [] w w [] := Own.start w []
  refine WC.seq ?_
  refine WC.region ?_
  refine WL.op rfl rfl (op_assign rfl ?_)
  refine WL.nil ?_
  refine WQ.next ?_
  refine WC.seq ?_
  refine WC.region ?_
  refine WL.op rfl rfl (op_move rfl ?_)
  refine WL.op rfl rfl (op_lenA Try.underlying167 rfl (H0.arr hL) ?_)
  refine WL.op rfl rfl (op_assign rfl ?_)
  refine WL.nil ?_
  refine WQ.next ?_
  refine WC.cut (α := Unit) (fun _ => [(3, (vN (1 + xs.length + ps.length)))]) (fun _ w' => Own [] w w' []) ?_ ?_
  ·
    refine WC.seq ?_
    refine WC.region ?_
    refine WL.op rfl rfl (op_assign rfl ?_)
    refine WL.nil ?_
    refine WQ.next ?_
    refine WC.block ?_
    refine WC.loop (α := Nat) (fun k => [(0, lv), (3, (vN (if k = 0 then 1 else 1 + xs.length + ps.length))), (4, (vN k))]) (fun k w' => (k ≤ 1) ∧ Own [] w w' []) (fun k => 1 - k) 0 ⟨(Nat.zero_le _), H0⟩ ⟨rfl, rfl, rfl, trivial⟩ ?_
    rintro k w1 ⟨hinv, H1⟩
    show WC _ _ _ _ _ [(0, lv), (3, (vN (if k = 0 then 1 else 1 + xs.length + ps.length))), (4, (vN k))] _
    refine WC.seq ?_
    refine WC.seq ?_
    refine WC.region ?_
    refine WL.op rfl rfl (op_move rfl ?_)
    refine WL.op rfl rfl (op_move rfl ?_)
    refine WL.op rfl rfl (op_lenA Try.underlying167 rfl (H1.arr hL) ?_)
    refine WL.op rfl rfl (op_lssN rfl rfl ?_)
    refine WL.op rfl rfl (op_move rfl ?_)
    refine WL.split (t := 11) rfl (fun (hb2 : (decide (k < 1)) = true) => ?_) (fun (hb2 : (decide (k < 1)) = false) => ?_)
    ·
      have hc2 := of_decide_eq_true hb2
      refine WL.yes rfl rfl rfl hb2 rfl (op_move rfl ?_)
      refine WL.yes rfl rfl rfl hb2 rfl (op_lssN (b := 100) rfl rfl ?_)
      refine WL.op rfl rfl (op_pickT rfl hb2 rfl ?_)
      refine WL.nil ?_
      refine WQ.next ?_
      refine WC.cond rfl (fun (hb3 : (decide (k < 100)) = true) => ?_) (fun (hb3 : (decide (k < 100)) = false) => ?_)
      ·
        have hc3 := of_decide_eq_true hb3
        obtain rfl : k = 0 := by omega
        refine WC.skip ?_
        refine WQ.next ?_
        refine WC.seq ?_
        refine WC.block ?_
        refine WC.draw 16 Fa.M H1 (HW.op rfl (fun w1 H1 => op_move rfl ⟨rfl, Fr.refl _ _⟩) (HW.op rfl (fun w1 H1 => op_move rfl ⟨rfl, Fr.refl _ _⟩) (HW.op rfl (fun w1 H1 => op_move rfl ⟨rfl, Fr.refl _ _⟩) (HW.op rfl (fun w1 H1 => op_indexAddr Try.underlying167 Fa.I56 rfl (H1.arr hL) rfl (by omega) ⟨rfl, Fr.refl _ _⟩) (HW.op rfl (fun w1 H1 => op_fieldAddrS rfl Fa.F56_1 ⟨rfl, Fr.refl _ _⟩) (HW.op rfl (fun w1 H1 => op_load rfl ((H1.arr hL).at rfl) Try.underlying53 rfl ⟨rfl, Fr.refl _ _⟩) (HW.op rfl (fun w1 H1 => op_lenA Try.underlying53 rfl (H1.arr hE) ⟨rfl, Fr.refl _ _⟩) (HW.op rfl (fun w1 H1 => op_addN rfl rfl (by rw [if_pos rfl]; omega) ⟨rfl, Fr.refl _ _⟩) (HW.op rfl (fun w1 H1 => op_move rfl ⟨rfl, Fr.refl _ _⟩) (HW.op rfl (fun w1 H1 => op_move rfl ⟨rfl, Fr.refl _ _⟩) (HW.op rfl (fun w1 H1 => op_indexAddr Try.underlying167 Fa.I56 rfl (H1.arr hL) rfl (by omega) ⟨rfl, Fr.refl _ _⟩) (HW.op rfl (fun w1 H1 => op_fieldAddrS rfl Fa.F56_2 ⟨rfl, Fr.refl _ _⟩) (HW.op rfl (fun w1 H1 => op_load rfl ((H1.arr hL).at rfl) Try.underlying54 rfl ⟨rfl, Fr.refl _ _⟩) (HW.op rfl (fun w1 H1 => op_lenA Try.underlying54 rfl (H1.arr hP) ⟨rfl, Fr.refl _ _⟩) (HW.op rfl (fun w1 H1 => op_addN rfl rfl (by rw [if_pos rfl]; omega) ⟨rfl, Fr.refl _ _⟩) (HW.op rfl (fun w1 H1 => op_assign rfl ⟨rfl, Fr.refl _ _⟩)  HW.nil)))))))))))))))) (by kernel_rfl) ?_
        intro β4 w4 H4
        refine WL.nil ?_
        refine WQ.inNormal ?_
        refine WQ.next ?_
        refine WC.region ?_
        refine WL.op rfl rfl (op_move rfl ?_)
        refine WL.op rfl rfl (op_addN (b := 1) rfl rfl (by omega) ?_)
        refine WL.op rfl rfl (op_assign rfl ?_)
        refine WL.nil ?_
        exact WQ.round 1 ⟨(Nat.le_refl _), H4⟩ ⟨rfl, rfl, rfl, trivial⟩ (by decide)
      ·
        have hc3 := of_decide_eq_false hb3
        refine WC.exit ?_
        refine WQ.thenExit ?_
        refine WQ.thenExit ?_
        refine WQ.inHere ?_
        obtain rfl : k = 1 := by omega
        exact WQ.here () H1 ⟨rfl, trivial⟩
    ·
      have hc2 := of_decide_eq_false hb2
      refine WL.no rfl rfl rfl hb2 rfl ?_
      refine WL.no rfl rfl rfl hb2 rfl ?_
      refine WL.op rfl rfl (op_pickF rfl hb2 rfl ?_)
      refine WL.nil ?_
      refine WQ.next ?_
      refine WC.no rfl rfl ?_
      refine WC.exit ?_
      refine WQ.thenExit ?_
      refine WQ.thenExit ?_
      refine WQ.inHere ?_
      obtain rfl : k = 1 := by omega
      exact WQ.here () H1 ⟨rfl, trivial⟩
  ·
    rintro ⟨⟩ w5 H5
    show WC _ _ _ _ _ [(3, (vN (1 + xs.length + ps.length)))] _
    refine WC.seq ?_
    refine WC.region ?_
    refine WL.op rfl rfl (op_move rfl ?_)
    refine WL.op rfl rfl (op_gtrN (b := 600) rfl rfl ?_)
    refine WL.op rfl rfl (op_assign rfl ?_)
    refine WL.nil ?_
    refine WQ.next ?_
    refine WC.ret ?_
    refine WQ.out (.tmp rfl .nil) ?_
    exact ⟨rfl, H5.fr⟩
set_option maxRecDepth 100000 in
theorem large16_ok (pg : UInt32) (ev pv sv : Value) (xs : List Xt) (ps : List UInt16) (con : Bool) (en : UInt32) (sg : List Sg) (w : World) (hE : Arr w ev 2 xs.length (List.flatMap xtc xs)) (hP : Arr w pv 1 ps.length (List.map vU16 ps)) (hS : Arr w sv 3 sg.length (List.flatMap sgc sg)) (hn : xs.length < 2 ^ 47) (hm : ps.length < 2 ^ 47) (hk : sg.length < 2 ^ 47) (hB : ∀ x ∈ sg, x.b.length ≤ 140737488351232) :
    Calls Try.prog 37 #[(.agg #[(vU32 pg), ev, pv, (.bool con), (vU32 en), sv])] w (fun e w' => e = .returned (.bool (large16 xs ps sg)) ∧ Fr [] w w') := by
  refine enter (args := [(.agg #[(vU32 pg), ev, pv, (.bool con), (vU32 en), sv])]) Try.func37 rfl rfl ?_
  have H0 : Own [] w w [] := Own.start w []
  refine WC.seq ?_
  refine WC.region ?_
  refine WL.op rfl rfl (op_box H0 rfl rfl (fun b1 w1 H1 => ?_))
  refine WL.op rfl rfl (op_assign rfl ?_)
  refine WL.nil ?_
  refine WQ.next ?_
  refine WC.seq ?_
  refine WC.region ?_
  refine WL.op rfl rfl (op_assign rfl ?_)
  refine WL.nil ?_
  refine WQ.next ?_
  refine WC.cut (α := Nat) (fun k => [(1, (ptr b1 0)), (3, (vN (sumS sg k)))]) (fun k w' => (k = min sg.length 20) ∧ Own [] w w' [.blk b1 [(vU32 pg), ev, pv, (.bool con), (vU32 en), sv] 59]) ?_ ?_
  ·
    refine WC.seq ?_
    refine WC.region ?_
    refine WL.op rfl rfl (op_assign rfl ?_)
    refine WL.nil ?_
    refine WQ.next ?_
    refine WC.block ?_
    refine WC.loop (α := Nat) (fun k => [(1, (ptr b1 0)), (3, (vN (sumS sg k))), (4, (vN k))]) (fun k w' => (k ≤ sg.length ∧ k ≤ 20) ∧ Own [] w w' [.blk b1 [(vU32 pg), ev, pv, (.bool con), (vU32 en), sv] 59]) (fun k => sg.length - k) 0 ⟨⟨by omega, by omega⟩, H1⟩ ⟨rfl, rfl, rfl, trivial⟩ ?_
    rintro k w2 ⟨hinv, H2⟩
    show WC _ _ _ _ _ [(1, (ptr b1 0)), (3, (vN (sumS sg k))), (4, (vN k))] _
    have hs0 := sumS_le hB k
    have hg0 := getS_mem hB k
    refine WC.seq ?_
    refine WC.seq ?_
    refine WC.region ?_
    refine WL.op rfl rfl (op_move rfl ?_)
    refine WL.op rfl rfl (op_fieldAddr rfl Fa.F59_2 ?_)
    refine WL.op rfl rfl (op_load rfl (H2.cell (i := 0) rfl rfl) Try.underlying57 rfl ?_)
    refine WL.op rfl rfl (op_lenA Try.underlying57 rfl (H2.arr hS) ?_)
    refine WL.op rfl rfl (op_lssN rfl rfl ?_)
    refine WL.op rfl rfl (op_move rfl ?_)
    refine WL.split (t := 10) rfl (fun (hb3 : (decide (k < sg.length)) = true) => ?_) (fun (hb3 : (decide (k < sg.length)) = false) => ?_)
    ·
      have hc3 := of_decide_eq_true hb3
      refine WL.yes rfl rfl rfl hb3 rfl (op_move rfl ?_)
      refine WL.yes rfl rfl rfl hb3 rfl (op_lssN (b := 20) rfl rfl ?_)
      refine WL.op rfl rfl (op_pickT rfl hb3 rfl ?_)
      refine WL.nil ?_
      refine WQ.next ?_
      refine WC.cond rfl (fun (hb4 : (decide (k < 20)) = true) => ?_) (fun (hb4 : (decide (k < 20)) = false) => ?_)
      ·
        have hc4 := of_decide_eq_true hb4
        refine WC.skip ?_
        refine WQ.next ?_
        refine WC.seq ?_
        refine WC.block ?_
        refine WC.region ?_
        refine WL.op rfl rfl (op_move rfl ?_)
        refine WL.op rfl rfl (op_fieldAddr rfl Fa.F59_2 ?_)
        refine WL.op rfl rfl (op_load rfl (H2.cell (i := 0) rfl rfl) Try.underlying57 rfl ?_)
        refine WL.op rfl rfl (op_move rfl ?_)
        refine WL.op rfl rfl (op_indexAddr Try.underlying57 Fa.I111 rfl (H2.arr hS) rfl (by omega) ?_)
        refine WL.op rfl rfl (op_fieldAddrS rfl Fa.F111_2 ?_)
        refine WL.op rfl rfl (op_load rfl (Arr.atF (k := 2) (H2.arr hS) (fun _ => rfl) (by decide) Sg.zero (by omega) rfl) Try.underlying9 rfl ?_)
        refine WL.op rfl rfl (op_lenStr Try.underlying9 rfl ?_)
        refine WL.op rfl rfl (op_addN rfl rfl (by omega) ?_)
        refine WL.op rfl rfl (op_assign rfl ?_)
        refine WL.nil ?_
        refine WQ.inNormal ?_
        refine WQ.next ?_
        refine WC.region ?_
        refine WL.op rfl rfl (op_move rfl ?_)
        refine WL.op rfl rfl (op_addN (b := 1) rfl rfl (by omega) ?_)
        refine WL.op rfl rfl (op_assign rfl ?_)
        refine WL.nil ?_
        exact WQ.round (k + 1) ⟨(by omega), H2⟩ ⟨rfl, rfl, rfl, trivial⟩ (by omega)
      ·
        have hc4 := of_decide_eq_false hb4
        refine WC.exit ?_
        refine WQ.thenExit ?_
        refine WQ.thenExit ?_
        refine WQ.inHere ?_
        exact WQ.here k ⟨(by omega), H2⟩ ⟨rfl, rfl, trivial⟩
    ·
      have hc3 := of_decide_eq_false hb3
      refine WL.no rfl rfl rfl hb3 rfl ?_
      refine WL.no rfl rfl rfl hb3 rfl ?_
      refine WL.op rfl rfl (op_pickF rfl hb3 rfl ?_)
      refine WL.nil ?_
      refine WQ.next ?_
      refine WC.no rfl rfl ?_
      refine WC.exit ?_
      refine WQ.thenExit ?_
      refine WQ.thenExit ?_
      refine WQ.inHere ?_
      exact WQ.here k ⟨(by omega), H2⟩ ⟨rfl, rfl, trivial⟩
  ·
    rintro k w5 ⟨hinv, H5⟩
    show WC _ _ _ _ _ [(1, (ptr b1 0)), (3, (vN (sumS sg k)))] _
    refine WC.seq ?_
    refine WC.region ?_
    refine WL.op rfl rfl (op_fieldAddr rfl Fa.F59_0 ?_)
    refine WL.op rfl rfl (op_loadS (vs := [_, _, _, _]) rfl (H5.cells (i := 0) rfl rfl) Try.underlying56 rfl Fa.I56 rfl ?_)
    refine WL.op rfl rfl (op_buildSlice (cs := [_, _, _, _]) H5 Try.underlying167 Fa.I56 rfl rfl rfl rfl (by decide) (by decide) (fun b6 w6 H6 => ?_))
    refine WL.op rfl rfl (op_callF Fa.C79 rfl ((large11_ok pg ev pv (.slice (some ⟨b6, 0, none⟩) 1 1) xs ps con _ (H6.arrR (i := 1) rfl) (H6.arr hE) (H6.arr hP) (by omega) (by omega)).mono (fun e w7 hq => ?_)))
    obtain ⟨rfl, hf7⟩ := hq
    refine ⟨_, rfl, ?_⟩
    have H7 := H6.fr' hf7
    refine WL.op rfl rfl (op_move rfl ?_)
    refine WL.split (t := 29) rfl (fun (hb8 : (decide (1 + xs.length + ps.length > 600)) = true) => ?_) (fun (hb8 : (decide (1 + xs.length + ps.length > 600)) = false) => ?_)
    ·
      have hc8 := of_decide_eq_true hb8
      refine WL.no rfl rfl rfl hb8 rfl ?_
      refine WL.no rfl rfl rfl hb8 rfl ?_
      refine WL.no rfl rfl rfl hb8 rfl ?_
      refine WL.no rfl rfl rfl hb8 rfl ?_
      refine WL.op rfl rfl (op_pickT rfl hb8 rfl ?_)
      refine WL.op rfl rfl (op_move rfl ?_)
      refine WL.no rfl rfl rfl rfl rfl ?_
      refine WL.no rfl rfl rfl rfl rfl ?_
      refine WL.op rfl rfl (op_pickT rfl rfl rfl ?_)
      refine WL.op rfl rfl (op_assign rfl ?_)
      refine WL.nil ?_
      refine WQ.next ?_
      refine WC.ret ?_
      refine WQ.out (.tmp rfl .nil) ?_
      exact ⟨by subst hinv; (rw [large16, hb8]) <;> rfl, H7.fr⟩
    ·
      have hc8 := of_decide_eq_false hb8
      refine WL.yes rfl rfl rfl hb8 rfl (op_fieldAddr rfl Fa.F59_2 ?_)
      refine WL.yes rfl rfl rfl hb8 rfl (op_load rfl (H7.cell (i := 0) rfl rfl) Try.underlying57 rfl ?_)
      refine WL.yes rfl rfl rfl hb8 rfl (op_lenA Try.underlying57 rfl (H7.arr hS) ?_)
      refine WL.yes rfl rfl rfl hb8 rfl (op_gtrN (b := 15) rfl rfl ?_)
      refine WL.op rfl rfl (op_pickF rfl hb8 rfl ?_)
      refine WL.op rfl rfl (op_move rfl ?_)
      refine WL.split (t := 35) rfl (fun (hb9 : (decide (sg.length > 15)) = true) => ?_) (fun (hb9 : (decide (sg.length > 15)) = false) => ?_)
      ·
        have hc9 := of_decide_eq_true hb9
        refine WL.no rfl rfl rfl hb9 rfl ?_
        refine WL.no rfl rfl rfl hb9 rfl ?_
        refine WL.op rfl rfl (op_pickT rfl hb9 rfl ?_)
        refine WL.op rfl rfl (op_assign rfl ?_)
        refine WL.nil ?_
        refine WQ.next ?_
        refine WC.ret ?_
        refine WQ.out (.tmp rfl .nil) ?_
        exact ⟨by subst hinv; (rw [large16, hb8, hb9]) <;> rfl, H7.fr⟩
      ·
        have hc9 := of_decide_eq_false hb9
        refine WL.yes rfl rfl rfl hb9 rfl (op_move rfl ?_)
        refine WL.yes rfl rfl rfl hb9 rfl (op_gtrN (b := 262144) rfl rfl ?_)
        refine WL.op rfl rfl (op_pickF rfl hb9 rfl ?_)
        refine WL.op rfl rfl (op_assign rfl ?_)
        refine WL.nil ?_
        refine WQ.next ?_
        refine WC.ret ?_
        refine WQ.out (.tmp rfl .nil) ?_
        exact ⟨by subst hinv; (rw [large16, hb8, hb9]) <;> rfl, H7.fr⟩
set_option maxRecDepth 100000 in
theorem copy11_ok (pg : UInt32) (ev pv : Value) (xs : List Xt) (ps : List UInt16) (con : Bool) (w : World) (hE : Arr w ev 2 xs.length (List.flatMap xtc xs)) (hP : Arr w pv 1 ps.length (List.map vU16 ps)) (hn : xs.length < 2 ^ 40) (hm : ps.length < 2 ^ 40) :
    Calls Try.prog 81 #[(.agg #[(vU32 pg), ev, pv, (.bool con)])] w (fun e w' => ∃ v u, e = .returned (.agg #[vU32 pg, v, u, .bool con]) ∧ Own [] w w' [.row v 130 2 xs.length (List.flatMap xtc xs), .row u 92 1 ps.length (List.map vU16 ps)]) := by
  refine enter (args := [(.agg #[(vU32 pg), ev, pv, (.bool con)])]) Try.func81 rfl rfl ?_
  have H0 : Own [] w w [] := Own.start w []
  refine WC.seq ?_
  refine WC.region ?_
  refine WL.op rfl rfl (op_box H0 rfl rfl (fun b1 w1 H1 => ?_))
  refine WL.op rfl rfl (op_alloc H1 Fa.I56 (fun b2 w2 H2 => ?_))
  refine WL.nil ?_
  refine WQ.next ?_
  refine WC.seq ?_
  refine WC.region ?_
  refine WL.op rfl rfl (op_fieldAddr rfl Fa.F56_1 ?_)
  refine WL.op rfl rfl (op_load rfl (H2.cell (i := 0) rfl rfl) Try.underlying53 rfl ?_)
  have H4 := H2.nilRow 130 2
  refine WL.op rfl rfl (op_appendF (f := xtc) (l := []) (l' := xs) (i := 2) H4 Try.underlying53 Fa.I130 rfl rfl rfl rfl (Src.ofArr Try.underlying53 (H4.arr hE)) (one_flat (fun _ => by simp [xtc, Value.oneCell'])) (by omega) (by omega) (fun v3 w3 H3 => ?_))
  refine WL.op rfl rfl (op_fieldAddr rfl Fa.F56_1 ?_)
  refine WL.op rfl rfl (op_storeB (i := 0) H3 rfl rfl rfl rfl (Arr.one (H3.arrR (i := 2) rfl)) Fa.I53 (fun w5 H5 => ?_))
  refine WL.nil ?_
  refine WQ.next ?_
  refine WC.seq ?_
  refine WC.region ?_
  refine WL.op rfl rfl (op_fieldAddr rfl Fa.F56_2 ?_)
  refine WL.op rfl rfl (op_load rfl (H5.cell (i := 0) rfl rfl) Try.underlying54 rfl ?_)
  have H7 := H5.nilRow 92 1
  refine WL.op rfl rfl (op_appendM (f := vU16) (l := []) (l' := ps) (i := 3) H7 Try.underlying54 Fa.I92 rfl rfl rfl rfl (Src.ofArr Try.underlying54 (H7.arr hP)) (one_mapM (fun _ => rfl)) (by omega) (by omega) (fun v6 w6 H6 => ?_))
  refine WL.op rfl rfl (op_fieldAddr rfl Fa.F56_2 ?_)
  refine WL.op rfl rfl (op_storeB (i := 0) H6 rfl rfl rfl rfl (Arr.one (H6.arrR (i := 3) rfl)) Fa.I54 (fun w8 H8 => ?_))
  refine WL.nil ?_
  refine WQ.next ?_
  refine WC.seq ?_
  refine WC.region ?_
  refine WL.op rfl rfl (op_loadS (vs := [_, _, _, _]) rfl (H8.cells (i := 0) rfl rfl) Try.underlying56 rfl Fa.I56 rfl ?_)
  refine WL.op rfl rfl (op_storeBW (i := 1) H8 rfl rfl rfl rfl (one_cons rfl (one_cons (Arr.one (H8.arrR (i := 2) rfl)) (one_cons (Arr.one (H8.arrR (i := 3) rfl)) (one_cons rfl one_nil)))) Fa.I56 (fun w9 H9 => ?_))
  refine WL.nil ?_
  refine WQ.next ?_
  refine WC.ret ?_
  refine WQ.out (.cell rfl (run_loadVarS (vs := [_, _, _, _]) (H9.cells (i := 1) rfl rfl) Try.underlying56 rfl Fa.I56 rfl) .nil) ?_
  exact ⟨_, _, rfl, (by have h := (show Own [] w w9 [.blk b1 [(vU32 pg), v3, v6, (.bool con)] 56, .blk b2 [(vU32 pg), v3, v6, (.bool con)] 56, .row v3 130 2 (0 + xs.length) (List.flatMap xtc ([] ++ xs)), .row v6 92 1 (0 + ps.length) (List.map vU16 ([] ++ ps))] from H9); have h2 := Own.sel h [2, 3] rfl rfl; simp only [Nat.zero_add, List.nil_append] at h2; exact h2)⟩
set_option maxRecDepth 100000 in
theorem copy16_ok (pg : UInt32) (ev pv sv : Value) (xs : List Xt) (ps : List UInt16) (con : Bool) (en : UInt32) (sg : List Sg) (w : World) (hE : Arr w ev 2 xs.length (List.flatMap xtc xs)) (hP : Arr w pv 1 ps.length (List.map vU16 ps)) (hS : Arr w sv 3 sg.length (List.flatMap sgc sg)) (hn : xs.length < 2 ^ 40) (hm : ps.length < 2 ^ 40) (hk : sg.length < 2 ^ 40) :
    Calls Try.prog 39 #[(.agg #[(vU32 pg), ev, pv, (.bool con), (vU32 en), sv])] w (fun e w' => ∃ v u q, e = .returned (.agg #[vU32 pg, v, u, .bool con, vU32 en, q]) ∧ Own [] w w' [.row v 130 2 xs.length (List.flatMap xtc xs), .row u 92 1 ps.length (List.map vU16 ps), .row q 111 3 sg.length (List.flatMap sgc sg)]) := by
  refine enter (args := [(.agg #[(vU32 pg), ev, pv, (.bool con), (vU32 en), sv])]) Try.func39 rfl rfl ?_
  have H0 : Own [] w w [] := Own.start w []
  refine WC.seq ?_
  refine WC.region ?_
  refine WL.op rfl rfl (op_box H0 rfl rfl (fun b1 w1 H1 => ?_))
  refine WL.op rfl rfl (op_alloc H1 Fa.I59 (fun b2 w2 H2 => ?_))
  refine WL.nil ?_
  refine WQ.next ?_
  refine WC.seq ?_
  refine WC.region ?_
  refine WL.op rfl rfl (op_fieldAddr rfl Fa.F59_0 ?_)
  refine WL.op rfl rfl (op_loadS (vs := [_, _, _, _]) rfl (H2.cells (i := 0) rfl rfl) Try.underlying56 rfl Fa.I56 rfl ?_)
  refine WL.op rfl rfl (op_callF Fa.C81 rfl ((copy11_ok pg _ _ xs ps con _ (H2.arr hE) (H2.arr hP) (by omega) (by omega)).mono (fun e w3 hq => ?_)))
  obtain ⟨v3, u3, rfl, hq3⟩ := hq
  refine ⟨_, rfl, ?_⟩
  have H3 : Own [] w w3 [.blk b1 [(vU32 pg), ev, pv, (.bool con), (vU32 en), sv] 59, .blk b2 [(vU32 0), (.slice none 0 0), (.slice none 0 0), (.bool false), (vU32 0), (.slice none 0 0)] 59, .row v3 130 2 xs.length (List.flatMap xtc xs), .row u3 92 1 ps.length (List.map vU16 ps)] := H2.splice [] [] [.row v3 130 2 xs.length (List.flatMap xtc xs), .row u3 92 1 ps.length (List.map vU16 ps)] rfl rfl hq3 (Fits.solid True.intro (Fits.solid True.intro Fits.nil))
  refine WL.op rfl rfl (op_fieldAddr rfl Fa.F59_0 ?_)
  refine WL.op rfl rfl (op_storeBS (i := 0) (vs := [_, _, _, _]) H3 rfl rfl rfl rfl (one_cons rfl (one_cons (Arr.one (H3.arrR (i := 2) rfl)) (one_cons (Arr.one (H3.arrR (i := 3) rfl)) (one_cons rfl one_nil)))) Fa.I56 (fun w4 H4 => ?_))
  refine WL.nil ?_
  refine WQ.next ?_
  refine WC.seq ?_
  refine WC.region ?_
  refine WL.op rfl rfl (op_fieldAddr rfl Fa.F59_2 ?_)
  refine WL.op rfl rfl (op_load rfl (H4.cell (i := 0) rfl rfl) Try.underlying57 rfl ?_)
  have H6 := H4.nilRow 111 3
  refine WL.op rfl rfl (op_appendF (f := sgc) (l := []) (l' := sg) (i := 4) H6 Try.underlying57 Fa.I111 rfl rfl rfl rfl (Src.ofArr Try.underlying57 (H6.arr hS)) (one_flat (fun _ => by simp [sgc, Value.oneCell'])) (by omega) (by omega) (fun v5 w5 H5 => ?_))
  refine WL.op rfl rfl (op_fieldAddr rfl Fa.F59_2 ?_)
  refine WL.op rfl rfl (op_storeB (i := 0) H5 rfl rfl rfl rfl (Arr.one (H5.arrR (i := 4) rfl)) Fa.I57 (fun w7 H7 => ?_))
  refine WL.nil ?_
  refine WQ.next ?_
  refine WC.seq ?_
  refine WC.region ?_
  refine WL.op rfl rfl (op_loadS (vs := [_, _, _, _, _, _]) rfl (H7.cells (i := 0) rfl rfl) Try.underlying59 rfl Fa.I59 rfl ?_)
  refine WL.op rfl rfl (op_storeBW (i := 1) H7 rfl rfl rfl rfl (one_cons rfl (one_cons (Arr.one (H7.arrR (i := 2) rfl)) (one_cons (Arr.one (H7.arrR (i := 3) rfl)) (one_cons rfl (one_cons rfl (one_cons (Arr.one (H7.arrR (i := 4) rfl)) one_nil)))))) Fa.I59 (fun w8 H8 => ?_))
  refine WL.nil ?_
  refine WQ.next ?_
  refine WC.ret ?_
  refine WQ.out (.cell rfl (run_loadVarS (vs := [_, _, _, _, _, _]) (H8.cells (i := 1) rfl rfl) Try.underlying59 rfl Fa.I59 rfl) .nil) ?_
  exact ⟨_, _, _, rfl, (by have h := (show Own [] w w8 [.blk b1 [(vU32 pg), v3, u3, (.bool con), (vU32 en), v5] 59, .blk b2 [(vU32 pg), v3, u3, (.bool con), (vU32 en), v5] 59, .row v3 130 2 xs.length (List.flatMap xtc xs), .row u3 92 1 ps.length (List.map vU16 ps), .row v5 111 3 (0 + sg.length) (List.flatMap sgc ([] ++ sg))] from H8); have h2 := Own.sel h [2, 3, 4] rfl rfl; simp only [Nat.zero_add, List.nil_append] at h2; exact h2)⟩
end Go.Proofs.Ytpnghdalnghpcaa
/-! from WImg6 -/
namespace Go.Proofs.Ytpnghdalnghpcaa
open Go.Owl Go.Spec
set_option maxRecDepth 100000 in
theorem segb_ok (x : Sg) (w : World) (hb : x.b.length < 2 ^ 47) :
    Calls Try.prog 92 #[(.agg #[(vU32 x.a), (vU8 x.p), (str x.b)])] w (fun e w' => e = .returned (.bool (segB x)) ∧ Fr [] w w') := by
  refine enter (args := [(.agg #[(vU32 x.a), (vU8 x.p), (str x.b)])]) Try.func92 rfl rfl ?_
  have H0 : Own [] w w [] := Own.start w []
  have ha := x.a.toNat_lt
  refine WC.seq ?_
  refine WC.region ?_
  refine WL.op rfl rfl (op_box H0 rfl rfl (fun b1 w1 H1 => ?_))
  refine WL.op rfl rfl (op_assign rfl ?_)
  refine WL.nil ?_
  refine WQ.next ?_
  refine WC.seq ?_
  refine WC.region ?_
  refine WL.op rfl rfl (op_fieldAddr rfl Fa.F111_1 ?_)
  refine WL.op rfl rfl (op_load rfl (H1.cell (i := 0) rfl rfl) Try.underlying5 rfl ?_)
  refine WL.op rfl rfl (op_eqlU8 (b := 1) rfl rfl ?_)
  refine WL.op rfl rfl (op_move rfl ?_)
  refine WL.split (t := 7) rfl (fun (hb2 : (decide (x.p = (1 : UInt8))) = true) => ?_) (fun (hb2 : (decide (x.p = (1 : UInt8))) = false) => ?_)
  ·
    have hc2 := of_decide_eq_true hb2
    refine WL.no rfl rfl rfl hb2 rfl ?_
    refine WL.no rfl rfl rfl hb2 rfl ?_
    refine WL.no rfl rfl rfl hb2 rfl ?_
    refine WL.op rfl rfl (op_pickT rfl hb2 rfl ?_)
    refine WL.op rfl rfl (op_move rfl ?_)
    refine WL.no rfl rfl rfl rfl rfl ?_
    refine WL.no rfl rfl rfl rfl rfl ?_
    refine WL.no rfl rfl rfl rfl rfl ?_
    refine WL.op rfl rfl (op_pickT rfl rfl rfl ?_)
    refine WL.op rfl rfl (op_assign rfl ?_)
    refine WL.nil ?_
    refine WQ.next ?_
    refine WC.seq ?_
    refine WC.region ?_
    refine WL.op rfl rfl (op_move rfl ?_)
    refine WL.op rfl rfl (op_move rfl ?_)
    refine WL.yes rfl rfl rfl rfl rfl (op_fieldAddr rfl Fa.F111_0 ?_)
    refine WL.yes rfl rfl rfl rfl rfl (op_load rfl (H1.cell (i := 0) rfl rfl) Try.underlying22 rfl ?_)
    refine WL.yes rfl rfl rfl rfl rfl (op_remU32 (b := 256) rfl rfl (by decide) ?_)
    refine WL.yes rfl rfl rfl rfl rfl (op_eqlU32 (b := 0) rfl rfl ?_)
    refine WL.op rfl rfl (op_pickT rfl rfl rfl ?_)
    refine WL.op rfl rfl (op_move rfl ?_)
    refine WL.split (t := 24) rfl (fun (hb3 : (decide ((x.a % (256 : UInt32)) = (0 : UInt32))) = true) => ?_) (fun (hb3 : (decide ((x.a % (256 : UInt32)) = (0 : UInt32))) = false) => ?_)
    ·
      have hc3 := of_decide_eq_true hb3
      refine WL.yes rfl rfl rfl hb3 rfl (op_fieldAddr rfl Fa.F111_0 ?_)
      refine WL.yes rfl rfl rfl hb3 rfl (op_load rfl (H1.cell (i := 0) rfl rfl) Try.underlying22 rfl ?_)
      refine WL.yes rfl rfl rfl hb3 rfl (op_geqU32 (b := 256) rfl rfl ?_)
      refine WL.op rfl rfl (op_pickT rfl hb3 rfl ?_)
      refine WL.op rfl rfl (op_move rfl ?_)
      refine WL.split (t := 29) rfl (fun (hb4 : (decide (x.a ≥ (256 : UInt32))) = true) => ?_) (fun (hb4 : (decide (x.a ≥ (256 : UInt32))) = false) => ?_)
      ·
        have hc4 := of_decide_eq_true hb4
        refine WL.yes rfl rfl rfl hb4 rfl (op_fieldAddr rfl Fa.F111_0 ?_)
        refine WL.yes rfl rfl rfl hb4 rfl (op_load rfl (H1.cell (i := 0) rfl rfl) Try.underlying22 rfl ?_)
        refine WL.yes rfl rfl rfl hb4 rfl (op_lssU32 (b := 131072) rfl rfl ?_)
        refine WL.op rfl rfl (op_pickT rfl hb4 rfl ?_)
        refine WL.op rfl rfl (op_move rfl ?_)
        refine WL.split (t := 34) rfl (fun (hb5 : (decide (x.a < (131072 : UInt32))) = true) => ?_) (fun (hb5 : (decide (x.a < (131072 : UInt32))) = false) => ?_)
        ·
          have hc5 := of_decide_eq_true hb5
          refine WL.yes rfl rfl rfl hb5 rfl (op_fieldAddr rfl Fa.F111_2 ?_)
          refine WL.yes rfl rfl rfl hb5 rfl (op_load rfl (H1.cell (i := 0) rfl rfl) Try.underlying9 rfl ?_)
          refine WL.yes rfl rfl rfl hb5 rfl (op_lenStr Try.underlying9 rfl ?_)
          refine WL.yes rfl rfl rfl hb5 rfl (op_geqN (b := 1) rfl rfl ?_)
          refine WL.op rfl rfl (op_pickT rfl hb5 rfl ?_)
          refine WL.op rfl rfl (op_move rfl ?_)
          refine WL.split (t := 40) rfl (fun (hb6 : (decide (x.b.length ≥ 1)) = true) => ?_) (fun (hb6 : (decide (x.b.length ≥ 1)) = false) => ?_)
          ·
            have hc6 := of_decide_eq_true hb6
            refine WL.yes rfl rfl rfl hb6 rfl (op_fieldAddr rfl Fa.F111_2 ?_)
            refine WL.yes rfl rfl rfl hb6 rfl (op_load rfl (H1.cell (i := 0) rfl rfl) Try.underlying9 rfl ?_)
            refine WL.yes rfl rfl rfl hb6 rfl (op_lenStr Try.underlying9 rfl ?_)
            refine WL.yes rfl rfl rfl hb6 rfl (op_fieldAddr rfl Fa.F111_0 ?_)
            refine WL.yes rfl rfl rfl hb6 rfl (op_load rfl (H1.cell (i := 0) rfl rfl) Try.underlying22 rfl ?_)
            refine WL.yes rfl rfl rfl hb6 rfl (op_convU32N (hs := Try.underlying22) (hd := Try.underlying3) rfl ?_)
            refine WL.yes rfl rfl rfl hb6 rfl (op_subI (a := ((131072 : Nat) : Int)) (b := ((x.a.toNat : Nat) : Int)) rfl rfl (by omega) ?_)
            refine WL.yes rfl rfl rfl hb6 rfl (op_leqI rfl rfl ?_)
            refine WL.op rfl rfl (op_pickT rfl hb6 rfl ?_)
            refine WL.op rfl rfl (op_assign rfl ?_)
            refine WL.nil ?_
            refine WQ.next ?_
            refine WC.ret ?_
            refine WQ.out (.tmp rfl .nil) ?_
            exact ⟨by (rw [segB, permR, hb2, hb3, hb4, hb5, hb6]) <;> rfl, H1.fr⟩
          ·
            have hc6 := of_decide_eq_false hb6
            refine WL.no rfl rfl rfl hb6 rfl ?_
            refine WL.no rfl rfl rfl hb6 rfl ?_
            refine WL.no rfl rfl rfl hb6 rfl ?_
            refine WL.no rfl rfl rfl hb6 rfl ?_
            refine WL.no rfl rfl rfl hb6 rfl ?_
            refine WL.no rfl rfl rfl hb6 rfl ?_
            refine WL.no rfl rfl rfl hb6 rfl ?_
            refine WL.no rfl rfl rfl hb6 rfl ?_
            refine WL.op rfl rfl (op_pickF rfl hb6 rfl ?_)
            refine WL.op rfl rfl (op_assign rfl ?_)
            refine WL.nil ?_
            refine WQ.next ?_
            refine WC.ret ?_
            refine WQ.out (.tmp rfl .nil) ?_
            exact ⟨by (rw [segB, permR, hb2, hb3, hb4, hb5, hb6]) <;> rfl, H1.fr⟩
        ·
          have hc5 := of_decide_eq_false hb5
          refine WL.no rfl rfl rfl hb5 rfl ?_
          refine WL.no rfl rfl rfl hb5 rfl ?_
          refine WL.no rfl rfl rfl hb5 rfl ?_
          refine WL.no rfl rfl rfl hb5 rfl ?_
          refine WL.op rfl rfl (op_pickF rfl hb5 rfl ?_)
          refine WL.op rfl rfl (op_move rfl ?_)
          refine WL.no rfl rfl rfl rfl rfl ?_
          refine WL.no rfl rfl rfl rfl rfl ?_
          refine WL.no rfl rfl rfl rfl rfl ?_
          refine WL.no rfl rfl rfl rfl rfl ?_
          refine WL.no rfl rfl rfl rfl rfl ?_
          refine WL.no rfl rfl rfl rfl rfl ?_
          refine WL.no rfl rfl rfl rfl rfl ?_
          refine WL.no rfl rfl rfl rfl rfl ?_
          refine WL.op rfl rfl (op_pickF rfl rfl rfl ?_)
          refine WL.op rfl rfl (op_assign rfl ?_)
          refine WL.nil ?_
          refine WQ.next ?_
          refine WC.ret ?_
          refine WQ.out (.tmp rfl .nil) ?_
          exact ⟨by (rw [segB, permR, hb2, hb3, hb4, hb5]) <;> rfl, H1.fr⟩
      ·
        have hc4 := of_decide_eq_false hb4
        refine WL.no rfl rfl rfl hb4 rfl ?_
        refine WL.no rfl rfl rfl hb4 rfl ?_
        refine WL.no rfl rfl rfl hb4 rfl ?_
        refine WL.op rfl rfl (op_pickF rfl hb4 rfl ?_)
        refine WL.op rfl rfl (op_move rfl ?_)
        refine WL.no rfl rfl rfl rfl rfl ?_
        refine WL.no rfl rfl rfl rfl rfl ?_
        refine WL.no rfl rfl rfl rfl rfl ?_
        refine WL.no rfl rfl rfl rfl rfl ?_
        refine WL.op rfl rfl (op_pickF rfl rfl rfl ?_)
        refine WL.op rfl rfl (op_move rfl ?_)
        refine WL.no rfl rfl rfl rfl rfl ?_
        refine WL.no rfl rfl rfl rfl rfl ?_
        refine WL.no rfl rfl rfl rfl rfl ?_
        refine WL.no rfl rfl rfl rfl rfl ?_
        refine WL.no rfl rfl rfl rfl rfl ?_
        refine WL.no rfl rfl rfl rfl rfl ?_
        refine WL.no rfl rfl rfl rfl rfl ?_
        refine WL.no rfl rfl rfl rfl rfl ?_
        refine WL.op rfl rfl (op_pickF rfl rfl rfl ?_)
        refine WL.op rfl rfl (op_assign rfl ?_)
        refine WL.nil ?_
        refine WQ.next ?_
        refine WC.ret ?_
        refine WQ.out (.tmp rfl .nil) ?_
        exact ⟨by (rw [segB, permR, hb2, hb3, hb4]) <;> rfl, H1.fr⟩
    ·
      have hc3 := of_decide_eq_false hb3
      refine WL.no rfl rfl rfl hb3 rfl ?_
      refine WL.no rfl rfl rfl hb3 rfl ?_
      refine WL.no rfl rfl rfl hb3 rfl ?_
      refine WL.op rfl rfl (op_pickF rfl hb3 rfl ?_)
      refine WL.op rfl rfl (op_move rfl ?_)
      refine WL.no rfl rfl rfl rfl rfl ?_
      refine WL.no rfl rfl rfl rfl rfl ?_
      refine WL.no rfl rfl rfl rfl rfl ?_
      refine WL.op rfl rfl (op_pickF rfl rfl rfl ?_)
      refine WL.op rfl rfl (op_move rfl ?_)
      refine WL.no rfl rfl rfl rfl rfl ?_
      refine WL.no rfl rfl rfl rfl rfl ?_
      refine WL.no rfl rfl rfl rfl rfl ?_
      refine WL.no rfl rfl rfl rfl rfl ?_
      refine WL.op rfl rfl (op_pickF rfl rfl rfl ?_)
      refine WL.op rfl rfl (op_move rfl ?_)
      refine WL.no rfl rfl rfl rfl rfl ?_
      refine WL.no rfl rfl rfl rfl rfl ?_
      refine WL.no rfl rfl rfl rfl rfl ?_
      refine WL.no rfl rfl rfl rfl rfl ?_
      refine WL.no rfl rfl rfl rfl rfl ?_
      refine WL.no rfl rfl rfl rfl rfl ?_
      refine WL.no rfl rfl rfl rfl rfl ?_
      refine WL.no rfl rfl rfl rfl rfl ?_
      refine WL.op rfl rfl (op_pickF rfl rfl rfl ?_)
      refine WL.op rfl rfl (op_assign rfl ?_)
      refine WL.nil ?_
      refine WQ.next ?_
      refine WC.ret ?_
      refine WQ.out (.tmp rfl .nil) ?_
      exact ⟨by (rw [segB, permR, hb2, hb3]) <;> rfl, H1.fr⟩
  ·
    have hc2 := of_decide_eq_false hb2
    refine WL.yes rfl rfl rfl hb2 rfl (op_fieldAddr rfl Fa.F111_1 ?_)
    refine WL.yes rfl rfl rfl hb2 rfl (op_load rfl (H1.cell (i := 0) rfl rfl) Try.underlying5 rfl ?_)
    refine WL.yes rfl rfl rfl hb2 rfl (op_eqlU8 (b := 3) rfl rfl ?_)
    refine WL.op rfl rfl (op_pickF rfl hb2 rfl ?_)
    refine WL.op rfl rfl (op_move rfl ?_)
    refine WL.split (t := 12) rfl (fun (hb7 : (decide (x.p = (3 : UInt8))) = true) => ?_) (fun (hb7 : (decide (x.p = (3 : UInt8))) = false) => ?_)
    ·
      have hc7 := of_decide_eq_true hb7
      refine WL.no rfl rfl rfl hb7 rfl ?_
      refine WL.no rfl rfl rfl hb7 rfl ?_
      refine WL.no rfl rfl rfl hb7 rfl ?_
      refine WL.op rfl rfl (op_pickT rfl hb7 rfl ?_)
      refine WL.op rfl rfl (op_assign rfl ?_)
      refine WL.nil ?_
      refine WQ.next ?_
      refine WC.seq ?_
      refine WC.region ?_
      refine WL.op rfl rfl (op_move rfl ?_)
      refine WL.op rfl rfl (op_move rfl ?_)
      refine WL.yes rfl rfl rfl rfl rfl (op_fieldAddr rfl Fa.F111_0 ?_)
      refine WL.yes rfl rfl rfl rfl rfl (op_load rfl (H1.cell (i := 0) rfl rfl) Try.underlying22 rfl ?_)
      refine WL.yes rfl rfl rfl rfl rfl (op_remU32 (b := 256) rfl rfl (by decide) ?_)
      refine WL.yes rfl rfl rfl rfl rfl (op_eqlU32 (b := 0) rfl rfl ?_)
      refine WL.op rfl rfl (op_pickT rfl rfl rfl ?_)
      refine WL.op rfl rfl (op_move rfl ?_)
      refine WL.split (t := 24) rfl (fun (hb8 : (decide ((x.a % (256 : UInt32)) = (0 : UInt32))) = true) => ?_) (fun (hb8 : (decide ((x.a % (256 : UInt32)) = (0 : UInt32))) = false) => ?_)
      ·
        have hc8 := of_decide_eq_true hb8
        refine WL.yes rfl rfl rfl hb8 rfl (op_fieldAddr rfl Fa.F111_0 ?_)
        refine WL.yes rfl rfl rfl hb8 rfl (op_load rfl (H1.cell (i := 0) rfl rfl) Try.underlying22 rfl ?_)
        refine WL.yes rfl rfl rfl hb8 rfl (op_geqU32 (b := 256) rfl rfl ?_)
        refine WL.op rfl rfl (op_pickT rfl hb8 rfl ?_)
        refine WL.op rfl rfl (op_move rfl ?_)
        refine WL.split (t := 29) rfl (fun (hb9 : (decide (x.a ≥ (256 : UInt32))) = true) => ?_) (fun (hb9 : (decide (x.a ≥ (256 : UInt32))) = false) => ?_)
        ·
          have hc9 := of_decide_eq_true hb9
          refine WL.yes rfl rfl rfl hb9 rfl (op_fieldAddr rfl Fa.F111_0 ?_)
          refine WL.yes rfl rfl rfl hb9 rfl (op_load rfl (H1.cell (i := 0) rfl rfl) Try.underlying22 rfl ?_)
          refine WL.yes rfl rfl rfl hb9 rfl (op_lssU32 (b := 131072) rfl rfl ?_)
          refine WL.op rfl rfl (op_pickT rfl hb9 rfl ?_)
          refine WL.op rfl rfl (op_move rfl ?_)
          refine WL.split (t := 34) rfl (fun (hb10 : (decide (x.a < (131072 : UInt32))) = true) => ?_) (fun (hb10 : (decide (x.a < (131072 : UInt32))) = false) => ?_)
          ·
            have hc10 := of_decide_eq_true hb10
            refine WL.yes rfl rfl rfl hb10 rfl (op_fieldAddr rfl Fa.F111_2 ?_)
            refine WL.yes rfl rfl rfl hb10 rfl (op_load rfl (H1.cell (i := 0) rfl rfl) Try.underlying9 rfl ?_)
            refine WL.yes rfl rfl rfl hb10 rfl (op_lenStr Try.underlying9 rfl ?_)
            refine WL.yes rfl rfl rfl hb10 rfl (op_geqN (b := 1) rfl rfl ?_)
            refine WL.op rfl rfl (op_pickT rfl hb10 rfl ?_)
            refine WL.op rfl rfl (op_move rfl ?_)
            refine WL.split (t := 40) rfl (fun (hb11 : (decide (x.b.length ≥ 1)) = true) => ?_) (fun (hb11 : (decide (x.b.length ≥ 1)) = false) => ?_)
            ·
              have hc11 := of_decide_eq_true hb11
              refine WL.yes rfl rfl rfl hb11 rfl (op_fieldAddr rfl Fa.F111_2 ?_)
              refine WL.yes rfl rfl rfl hb11 rfl (op_load rfl (H1.cell (i := 0) rfl rfl) Try.underlying9 rfl ?_)
              refine WL.yes rfl rfl rfl hb11 rfl (op_lenStr Try.underlying9 rfl ?_)
              refine WL.yes rfl rfl rfl hb11 rfl (op_fieldAddr rfl Fa.F111_0 ?_)
              refine WL.yes rfl rfl rfl hb11 rfl (op_load rfl (H1.cell (i := 0) rfl rfl) Try.underlying22 rfl ?_)
              refine WL.yes rfl rfl rfl hb11 rfl (op_convU32N (hs := Try.underlying22) (hd := Try.underlying3) rfl ?_)
              refine WL.yes rfl rfl rfl hb11 rfl (op_subI (a := ((131072 : Nat) : Int)) (b := ((x.a.toNat : Nat) : Int)) rfl rfl (by omega) ?_)
              refine WL.yes rfl rfl rfl hb11 rfl (op_leqI rfl rfl ?_)
              refine WL.op rfl rfl (op_pickT rfl hb11 rfl ?_)
              refine WL.op rfl rfl (op_assign rfl ?_)
              refine WL.nil ?_
              refine WQ.next ?_
              refine WC.ret ?_
              refine WQ.out (.tmp rfl .nil) ?_
              exact ⟨by (rw [segB, permR, hb2, hb7, hb8, hb9, hb10, hb11]) <;> rfl, H1.fr⟩
            ·
              have hc11 := of_decide_eq_false hb11
              refine WL.no rfl rfl rfl hb11 rfl ?_
              refine WL.no rfl rfl rfl hb11 rfl ?_
              refine WL.no rfl rfl rfl hb11 rfl ?_
              refine WL.no rfl rfl rfl hb11 rfl ?_
              refine WL.no rfl rfl rfl hb11 rfl ?_
              refine WL.no rfl rfl rfl hb11 rfl ?_
              refine WL.no rfl rfl rfl hb11 rfl ?_
              refine WL.no rfl rfl rfl hb11 rfl ?_
              refine WL.op rfl rfl (op_pickF rfl hb11 rfl ?_)
              refine WL.op rfl rfl (op_assign rfl ?_)
              refine WL.nil ?_
              refine WQ.next ?_
              refine WC.ret ?_
              refine WQ.out (.tmp rfl .nil) ?_
              exact ⟨by (rw [segB, permR, hb2, hb7, hb8, hb9, hb10, hb11]) <;> rfl, H1.fr⟩
          ·
            have hc10 := of_decide_eq_false hb10
            refine WL.no rfl rfl rfl hb10 rfl ?_
            refine WL.no rfl rfl rfl hb10 rfl ?_
            refine WL.no rfl rfl rfl hb10 rfl ?_
            refine WL.no rfl rfl rfl hb10 rfl ?_
            refine WL.op rfl rfl (op_pickF rfl hb10 rfl ?_)
            refine WL.op rfl rfl (op_move rfl ?_)
            refine WL.no rfl rfl rfl rfl rfl ?_
            refine WL.no rfl rfl rfl rfl rfl ?_
            refine WL.no rfl rfl rfl rfl rfl ?_
            refine WL.no rfl rfl rfl rfl rfl ?_
            refine WL.no rfl rfl rfl rfl rfl ?_
            refine WL.no rfl rfl rfl rfl rfl ?_
            refine WL.no rfl rfl rfl rfl rfl ?_
            refine WL.no rfl rfl rfl rfl rfl ?_
            refine WL.op rfl rfl (op_pickF rfl rfl rfl ?_)
            refine WL.op rfl rfl (op_assign rfl ?_)
            refine WL.nil ?_
            refine WQ.next ?_
            refine WC.ret ?_
            refine WQ.out (.tmp rfl .nil) ?_
            exact ⟨by (rw [segB, permR, hb2, hb7, hb8, hb9, hb10]) <;> rfl, H1.fr⟩
        ·
          have hc9 := of_decide_eq_false hb9
          refine WL.no rfl rfl rfl hb9 rfl ?_
          refine WL.no rfl rfl rfl hb9 rfl ?_
          refine WL.no rfl rfl rfl hb9 rfl ?_
          refine WL.op rfl rfl (op_pickF rfl hb9 rfl ?_)
          refine WL.op rfl rfl (op_move rfl ?_)
          refine WL.no rfl rfl rfl rfl rfl ?_
          refine WL.no rfl rfl rfl rfl rfl ?_
          refine WL.no rfl rfl rfl rfl rfl ?_
          refine WL.no rfl rfl rfl rfl rfl ?_
          refine WL.op rfl rfl (op_pickF rfl rfl rfl ?_)
          refine WL.op rfl rfl (op_move rfl ?_)
          refine WL.no rfl rfl rfl rfl rfl ?_
          refine WL.no rfl rfl rfl rfl rfl ?_
          refine WL.no rfl rfl rfl rfl rfl ?_
          refine WL.no rfl rfl rfl rfl rfl ?_
          refine WL.no rfl rfl rfl rfl rfl ?_
          refine WL.no rfl rfl rfl rfl rfl ?_
          refine WL.no rfl rfl rfl rfl rfl ?_
          refine WL.no rfl rfl rfl rfl rfl ?_
          refine WL.op rfl rfl (op_pickF rfl rfl rfl ?_)
          refine WL.op rfl rfl (op_assign rfl ?_)
          refine WL.nil ?_
          refine WQ.next ?_
          refine WC.ret ?_
          refine WQ.out (.tmp rfl .nil) ?_
          exact ⟨by (rw [segB, permR, hb2, hb7, hb8, hb9]) <;> rfl, H1.fr⟩
      ·
        have hc8 := of_decide_eq_false hb8
        refine WL.no rfl rfl rfl hb8 rfl ?_
        refine WL.no rfl rfl rfl hb8 rfl ?_
        refine WL.no rfl rfl rfl hb8 rfl ?_
        refine WL.op rfl rfl (op_pickF rfl hb8 rfl ?_)
        refine WL.op rfl rfl (op_move rfl ?_)
        refine WL.no rfl rfl rfl rfl rfl ?_
        refine WL.no rfl rfl rfl rfl rfl ?_
        refine WL.no rfl rfl rfl rfl rfl ?_
        refine WL.op rfl rfl (op_pickF rfl rfl rfl ?_)
        refine WL.op rfl rfl (op_move rfl ?_)
        refine WL.no rfl rfl rfl rfl rfl ?_
        refine WL.no rfl rfl rfl rfl rfl ?_
        refine WL.no rfl rfl rfl rfl rfl ?_
        refine WL.no rfl rfl rfl rfl rfl ?_
        refine WL.op rfl rfl (op_pickF rfl rfl rfl ?_)
        refine WL.op rfl rfl (op_move rfl ?_)
        refine WL.no rfl rfl rfl rfl rfl ?_
        refine WL.no rfl rfl rfl rfl rfl ?_
        refine WL.no rfl rfl rfl rfl rfl ?_
        refine WL.no rfl rfl rfl rfl rfl ?_
        refine WL.no rfl rfl rfl rfl rfl ?_
        refine WL.no rfl rfl rfl rfl rfl ?_
        refine WL.no rfl rfl rfl rfl rfl ?_
        refine WL.no rfl rfl rfl rfl rfl ?_
        refine WL.op rfl rfl (op_pickF rfl rfl rfl ?_)
        refine WL.op rfl rfl (op_assign rfl ?_)
        refine WL.nil ?_
        refine WQ.next ?_
        refine WC.ret ?_
        refine WQ.out (.tmp rfl .nil) ?_
        exact ⟨by (rw [segB, permR, hb2, hb7, hb8]) <;> rfl, H1.fr⟩
    ·
      have hc7 := of_decide_eq_false hb7
      refine WL.yes rfl rfl rfl hb7 rfl (op_fieldAddr rfl Fa.F111_1 ?_)
      refine WL.yes rfl rfl rfl hb7 rfl (op_load rfl (H1.cell (i := 0) rfl rfl) Try.underlying5 rfl ?_)
      refine WL.yes rfl rfl rfl hb7 rfl (op_eqlU8 (b := 5) rfl rfl ?_)
      refine WL.op rfl rfl (op_pickF rfl hb7 rfl ?_)
      refine WL.op rfl rfl (op_assign rfl ?_)
      refine WL.nil ?_
      refine WQ.next ?_
      refine WC.seq ?_
      refine WC.region ?_
      refine WL.op rfl rfl (op_move rfl ?_)
      refine WL.op rfl rfl (op_move rfl ?_)
      refine WL.split (t := 18) rfl (fun (hb12 : (decide (x.p = (5 : UInt8))) = true) => ?_) (fun (hb12 : (decide (x.p = (5 : UInt8))) = false) => ?_)
      ·
        have hc12 := of_decide_eq_true hb12
        refine WL.yes rfl rfl rfl hb12 rfl (op_fieldAddr rfl Fa.F111_0 ?_)
        refine WL.yes rfl rfl rfl hb12 rfl (op_load rfl (H1.cell (i := 0) rfl rfl) Try.underlying22 rfl ?_)
        refine WL.yes rfl rfl rfl hb12 rfl (op_remU32 (b := 256) rfl rfl (by decide) ?_)
        refine WL.yes rfl rfl rfl hb12 rfl (op_eqlU32 (b := 0) rfl rfl ?_)
        refine WL.op rfl rfl (op_pickT rfl hb12 rfl ?_)
        refine WL.op rfl rfl (op_move rfl ?_)
        refine WL.split (t := 24) rfl (fun (hb13 : (decide ((x.a % (256 : UInt32)) = (0 : UInt32))) = true) => ?_) (fun (hb13 : (decide ((x.a % (256 : UInt32)) = (0 : UInt32))) = false) => ?_)
        ·
          have hc13 := of_decide_eq_true hb13
          refine WL.yes rfl rfl rfl hb13 rfl (op_fieldAddr rfl Fa.F111_0 ?_)
          refine WL.yes rfl rfl rfl hb13 rfl (op_load rfl (H1.cell (i := 0) rfl rfl) Try.underlying22 rfl ?_)
          refine WL.yes rfl rfl rfl hb13 rfl (op_geqU32 (b := 256) rfl rfl ?_)
          refine WL.op rfl rfl (op_pickT rfl hb13 rfl ?_)
          refine WL.op rfl rfl (op_move rfl ?_)
          refine WL.split (t := 29) rfl (fun (hb14 : (decide (x.a ≥ (256 : UInt32))) = true) => ?_) (fun (hb14 : (decide (x.a ≥ (256 : UInt32))) = false) => ?_)
          ·
            have hc14 := of_decide_eq_true hb14
            refine WL.yes rfl rfl rfl hb14 rfl (op_fieldAddr rfl Fa.F111_0 ?_)
            refine WL.yes rfl rfl rfl hb14 rfl (op_load rfl (H1.cell (i := 0) rfl rfl) Try.underlying22 rfl ?_)
            refine WL.yes rfl rfl rfl hb14 rfl (op_lssU32 (b := 131072) rfl rfl ?_)
            refine WL.op rfl rfl (op_pickT rfl hb14 rfl ?_)
            refine WL.op rfl rfl (op_move rfl ?_)
            refine WL.split (t := 34) rfl (fun (hb15 : (decide (x.a < (131072 : UInt32))) = true) => ?_) (fun (hb15 : (decide (x.a < (131072 : UInt32))) = false) => ?_)
            ·
              have hc15 := of_decide_eq_true hb15
              refine WL.yes rfl rfl rfl hb15 rfl (op_fieldAddr rfl Fa.F111_2 ?_)
              refine WL.yes rfl rfl rfl hb15 rfl (op_load rfl (H1.cell (i := 0) rfl rfl) Try.underlying9 rfl ?_)
              refine WL.yes rfl rfl rfl hb15 rfl (op_lenStr Try.underlying9 rfl ?_)
              refine WL.yes rfl rfl rfl hb15 rfl (op_geqN (b := 1) rfl rfl ?_)
              refine WL.op rfl rfl (op_pickT rfl hb15 rfl ?_)
              refine WL.op rfl rfl (op_move rfl ?_)
              refine WL.split (t := 40) rfl (fun (hb16 : (decide (x.b.length ≥ 1)) = true) => ?_) (fun (hb16 : (decide (x.b.length ≥ 1)) = false) => ?_)
              ·
                have hc16 := of_decide_eq_true hb16
                refine WL.yes rfl rfl rfl hb16 rfl (op_fieldAddr rfl Fa.F111_2 ?_)
                refine WL.yes rfl rfl rfl hb16 rfl (op_load rfl (H1.cell (i := 0) rfl rfl) Try.underlying9 rfl ?_)
                refine WL.yes rfl rfl rfl hb16 rfl (op_lenStr Try.underlying9 rfl ?_)
                refine WL.yes rfl rfl rfl hb16 rfl (op_fieldAddr rfl Fa.F111_0 ?_)
                refine WL.yes rfl rfl rfl hb16 rfl (op_load rfl (H1.cell (i := 0) rfl rfl) Try.underlying22 rfl ?_)
                refine WL.yes rfl rfl rfl hb16 rfl (op_convU32N (hs := Try.underlying22) (hd := Try.underlying3) rfl ?_)
                refine WL.yes rfl rfl rfl hb16 rfl (op_subI (a := ((131072 : Nat) : Int)) (b := ((x.a.toNat : Nat) : Int)) rfl rfl (by omega) ?_)
                refine WL.yes rfl rfl rfl hb16 rfl (op_leqI rfl rfl ?_)
                refine WL.op rfl rfl (op_pickT rfl hb16 rfl ?_)
                refine WL.op rfl rfl (op_assign rfl ?_)
                refine WL.nil ?_
                refine WQ.next ?_
                refine WC.ret ?_
                refine WQ.out (.tmp rfl .nil) ?_
                exact ⟨by (rw [segB, permR, hb2, hb7, hb12, hb13, hb14, hb15, hb16]) <;> rfl, H1.fr⟩
              ·
                have hc16 := of_decide_eq_false hb16
                refine WL.no rfl rfl rfl hb16 rfl ?_
                refine WL.no rfl rfl rfl hb16 rfl ?_
                refine WL.no rfl rfl rfl hb16 rfl ?_
                refine WL.no rfl rfl rfl hb16 rfl ?_
                refine WL.no rfl rfl rfl hb16 rfl ?_
                refine WL.no rfl rfl rfl hb16 rfl ?_
                refine WL.no rfl rfl rfl hb16 rfl ?_
                refine WL.no rfl rfl rfl hb16 rfl ?_
                refine WL.op rfl rfl (op_pickF rfl hb16 rfl ?_)
                refine WL.op rfl rfl (op_assign rfl ?_)
                refine WL.nil ?_
                refine WQ.next ?_
                refine WC.ret ?_
                refine WQ.out (.tmp rfl .nil) ?_
                exact ⟨by (rw [segB, permR, hb2, hb7, hb12, hb13, hb14, hb15, hb16]) <;> rfl, H1.fr⟩
            ·
              have hc15 := of_decide_eq_false hb15
              refine WL.no rfl rfl rfl hb15 rfl ?_
              refine WL.no rfl rfl rfl hb15 rfl ?_
              refine WL.no rfl rfl rfl hb15 rfl ?_
              refine WL.no rfl rfl rfl hb15 rfl ?_
              refine WL.op rfl rfl (op_pickF rfl hb15 rfl ?_)
              refine WL.op rfl rfl (op_move rfl ?_)
              refine WL.no rfl rfl rfl rfl rfl ?_
              refine WL.no rfl rfl rfl rfl rfl ?_
              refine WL.no rfl rfl rfl rfl rfl ?_
              refine WL.no rfl rfl rfl rfl rfl ?_
              refine WL.no rfl rfl rfl rfl rfl ?_
              refine WL.no rfl rfl rfl rfl rfl ?_
              refine WL.no rfl rfl rfl rfl rfl ?_
              refine WL.no rfl rfl rfl rfl rfl ?_
              refine WL.op rfl rfl (op_pickF rfl rfl rfl ?_)
              refine WL.op rfl rfl (op_assign rfl ?_)
              refine WL.nil ?_
              refine WQ.next ?_
              refine WC.ret ?_
              refine WQ.out (.tmp rfl .nil) ?_
              exact ⟨by (rw [segB, permR, hb2, hb7, hb12, hb13, hb14, hb15]) <;> rfl, H1.fr⟩
          ·
            have hc14 := of_decide_eq_false hb14
            refine WL.no rfl rfl rfl hb14 rfl ?_
            refine WL.no rfl rfl rfl hb14 rfl ?_
            refine WL.no rfl rfl rfl hb14 rfl ?_
            refine WL.op rfl rfl (op_pickF rfl hb14 rfl ?_)
            refine WL.op rfl rfl (op_move rfl ?_)
            refine WL.no rfl rfl rfl rfl rfl ?_
            refine WL.no rfl rfl rfl rfl rfl ?_
            refine WL.no rfl rfl rfl rfl rfl ?_
            refine WL.no rfl rfl rfl rfl rfl ?_
            refine WL.op rfl rfl (op_pickF rfl rfl rfl ?_)
            refine WL.op rfl rfl (op_move rfl ?_)
            refine WL.no rfl rfl rfl rfl rfl ?_
            refine WL.no rfl rfl rfl rfl rfl ?_
            refine WL.no rfl rfl rfl rfl rfl ?_
            refine WL.no rfl rfl rfl rfl rfl ?_
            refine WL.no rfl rfl rfl rfl rfl ?_
            refine WL.no rfl rfl rfl rfl rfl ?_
            refine WL.no rfl rfl rfl rfl rfl ?_
            refine WL.no rfl rfl rfl rfl rfl ?_
            refine WL.op rfl rfl (op_pickF rfl rfl rfl ?_)
            refine WL.op rfl rfl (op_assign rfl ?_)
            refine WL.nil ?_
            refine WQ.next ?_
            refine WC.ret ?_
            refine WQ.out (.tmp rfl .nil) ?_
            exact ⟨by (rw [segB, permR, hb2, hb7, hb12, hb13, hb14]) <;> rfl, H1.fr⟩
        ·
          have hc13 := of_decide_eq_false hb13
          refine WL.no rfl rfl rfl hb13 rfl ?_
          refine WL.no rfl rfl rfl hb13 rfl ?_
          refine WL.no rfl rfl rfl hb13 rfl ?_
          refine WL.op rfl rfl (op_pickF rfl hb13 rfl ?_)
          refine WL.op rfl rfl (op_move rfl ?_)
          refine WL.no rfl rfl rfl rfl rfl ?_
          refine WL.no rfl rfl rfl rfl rfl ?_
          refine WL.no rfl rfl rfl rfl rfl ?_
          refine WL.op rfl rfl (op_pickF rfl rfl rfl ?_)
          refine WL.op rfl rfl (op_move rfl ?_)
          refine WL.no rfl rfl rfl rfl rfl ?_
          refine WL.no rfl rfl rfl rfl rfl ?_
          refine WL.no rfl rfl rfl rfl rfl ?_
          refine WL.no rfl rfl rfl rfl rfl ?_
          refine WL.op rfl rfl (op_pickF rfl rfl rfl ?_)
          refine WL.op rfl rfl (op_move rfl ?_)
          refine WL.no rfl rfl rfl rfl rfl ?_
          refine WL.no rfl rfl rfl rfl rfl ?_
          refine WL.no rfl rfl rfl rfl rfl ?_
          refine WL.no rfl rfl rfl rfl rfl ?_
          refine WL.no rfl rfl rfl rfl rfl ?_
          refine WL.no rfl rfl rfl rfl rfl ?_
          refine WL.no rfl rfl rfl rfl rfl ?_
          refine WL.no rfl rfl rfl rfl rfl ?_
          refine WL.op rfl rfl (op_pickF rfl rfl rfl ?_)
          refine WL.op rfl rfl (op_assign rfl ?_)
          refine WL.nil ?_
          refine WQ.next ?_
          refine WC.ret ?_
          refine WQ.out (.tmp rfl .nil) ?_
          exact ⟨by (rw [segB, permR, hb2, hb7, hb12, hb13]) <;> rfl, H1.fr⟩
      ·
        have hc12 := of_decide_eq_false hb12
        refine WL.no rfl rfl rfl hb12 rfl ?_
        refine WL.no rfl rfl rfl hb12 rfl ?_
        refine WL.no rfl rfl rfl hb12 rfl ?_
        refine WL.no rfl rfl rfl hb12 rfl ?_
        refine WL.op rfl rfl (op_pickF rfl hb12 rfl ?_)
        refine WL.op rfl rfl (op_move rfl ?_)
        refine WL.no rfl rfl rfl rfl rfl ?_
        refine WL.no rfl rfl rfl rfl rfl ?_
        refine WL.no rfl rfl rfl rfl rfl ?_
        refine WL.op rfl rfl (op_pickF rfl rfl rfl ?_)
        refine WL.op rfl rfl (op_move rfl ?_)
        refine WL.no rfl rfl rfl rfl rfl ?_
        refine WL.no rfl rfl rfl rfl rfl ?_
        refine WL.no rfl rfl rfl rfl rfl ?_
        refine WL.op rfl rfl (op_pickF rfl rfl rfl ?_)
        refine WL.op rfl rfl (op_move rfl ?_)
        refine WL.no rfl rfl rfl rfl rfl ?_
        refine WL.no rfl rfl rfl rfl rfl ?_
        refine WL.no rfl rfl rfl rfl rfl ?_
        refine WL.no rfl rfl rfl rfl rfl ?_
        refine WL.op rfl rfl (op_pickF rfl rfl rfl ?_)
        refine WL.op rfl rfl (op_move rfl ?_)
        refine WL.no rfl rfl rfl rfl rfl ?_
        refine WL.no rfl rfl rfl rfl rfl ?_
        refine WL.no rfl rfl rfl rfl rfl ?_
        refine WL.no rfl rfl rfl rfl rfl ?_
        refine WL.no rfl rfl rfl rfl rfl ?_
        refine WL.no rfl rfl rfl rfl rfl ?_
        refine WL.no rfl rfl rfl rfl rfl ?_
        refine WL.no rfl rfl rfl rfl rfl ?_
        refine WL.op rfl rfl (op_pickF rfl rfl rfl ?_)
        refine WL.op rfl rfl (op_assign rfl ?_)
        refine WL.nil ?_
        refine WQ.next ?_
        refine WC.ret ?_
        refine WQ.out (.tmp rfl .nil) ?_
        exact ⟨by (rw [segB, permR, hb2, hb7, hb12]) <;> rfl, H1.fr⟩
set_option maxRecDepth 100000 in
theorem rpages_ok (x : Sg) (w : World) (hb : x.b.length < 2 ^ 40) :
    Calls Try.prog 91 #[(.agg #[(vU32 x.a), (vU8 x.p), (str x.b)])] w (fun e w' => ∃ v, e = .returned v ∧ Own [] w w' [.row v 22 1 (pgN x) (List.map vU32 (pgL x (pgN x)))]) := by
  refine enter (args := [(.agg #[(vU32 x.a), (vU8 x.p), (str x.b)])]) Try.func91 rfl rfl ?_
  have H0 : Own [] w w [] := Own.start w []
  refine WC.seq ?_
  refine WC.region ?_
  refine WL.op rfl rfl (op_box H0 rfl rfl (fun b1 w1 H1 => ?_))
  refine WL.op rfl rfl (op_assign rfl ?_)
  refine WL.nil ?_
  refine WQ.next ?_
  refine WC.seq ?_
  refine WC.region ?_
  refine WL.op rfl rfl (op_assign rfl ?_)
  have H2 := H1.nilRow 22 1
  refine WL.nil ?_
  refine WQ.next ?_
  refine WC.seq ?_
  refine WC.seq ?_
  refine WC.region ?_
  refine WL.op rfl rfl (op_assign rfl ?_)
  refine WL.nil ?_
  refine WQ.next ?_
  refine WC.block ?_
  refine WC.loop (α := Nat × Value) (fun (k, q) => [(1, (ptr b1 0)), (3, q), (4, (vN (256 * k)))]) (fun (k, q) w' => (k ≤ pgN x) ∧ Own [] w w' [.blk b1 [(vU32 x.a), (vU8 x.p), (str x.b)] 111, .row q 22 1 k (List.map vU32 (pgL x k))]) (fun (k, q) => pgN x - k) (0, (.slice none 0 0)) ⟨Nat.zero_le _, H2⟩ ⟨rfl, rfl, rfl, trivial⟩ ?_
  rintro ⟨k, q⟩ w3 ⟨hk1, H3⟩
  show WC _ _ _ _ _ [(1, (ptr b1 0)), (3, q), (4, (vN (256 * k)))] _
  have hpg : pgN x = (x.b.length + 255) / 256 := rfl
  refine WC.seq ?_
  refine WC.seq ?_
  refine WC.region ?_
  refine WL.op rfl rfl (op_move rfl ?_)
  refine WL.op rfl rfl (op_fieldAddr rfl Fa.F111_2 ?_)
  refine WL.op rfl rfl (op_load rfl (H3.cell (i := 0) rfl rfl) Try.underlying9 rfl ?_)
  refine WL.op rfl rfl (op_lenStr Try.underlying9 rfl ?_)
  refine WL.op rfl rfl (op_lssN rfl rfl ?_)
  refine WL.nil ?_
  refine WQ.next ?_
  refine WC.cond rfl (fun (hb4 : (decide ((256 * k) < x.b.length)) = true) => ?_) (fun (hb4 : (decide ((256 * k) < x.b.length)) = false) => ?_)
  ·
    have hc4 := of_decide_eq_true hb4
    refine WC.skip ?_
    refine WQ.next ?_
    refine WC.seq ?_
    refine WC.block ?_
    refine WC.region ?_
    refine WL.op rfl rfl (op_move rfl ?_)
    refine WL.op rfl rfl (op_fieldAddr rfl Fa.F111_0 ?_)
    refine WL.op rfl rfl (op_load rfl (H3.cell (i := 0) rfl rfl) Try.underlying22 rfl ?_)
    refine WL.op rfl rfl (op_move rfl ?_)
    refine WL.op rfl rfl (op_convNU32 (hs := Try.underlying3) (hd := Try.underlying22) rfl ?_)
    refine WL.op rfl rfl (op_addU32 rfl rfl ?_)
    refine WL.op rfl rfl (op_buildSlice (cs := [_]) H3 Try.underlying64 Fa.I22 rfl rfl rfl rfl (by decide) (by decide) (fun b5 w5 H5 => ?_))
    refine WL.op rfl rfl (op_appendM (f := vU32) (l := (pgL x k)) (l' := [(x.a + (UInt32.ofNat (256 * k)))]) (i := 1) H5 Try.underlying64 Fa.I22 rfl rfl rfl rfl (Src.ofArr Try.underlying64 (H5.arrR (i := 2) rfl)) (one_mapM (fun _ => rfl)) (by omega) (by omega) (fun v6 w6 H6 => ?_))
    refine WL.op rfl rfl (op_assign rfl ?_)
    refine WL.nil ?_
    refine WQ.inNormal ?_
    refine WQ.next ?_
    refine WC.region ?_
    refine WL.op rfl rfl (op_move rfl ?_)
    refine WL.op rfl rfl (op_addN (b := 256) rfl rfl (by omega) ?_)
    refine WL.op rfl rfl (op_assign rfl ?_)
    refine WL.nil ?_
    exact WQ.round (k + 1, v6) ⟨(by omega), (H6.take 2)⟩ ⟨rfl, rfl, (congrArg (fun n => some (vN n)) (Nat.mul_succ 256 k).symm), trivial⟩ (by show pgN x - (k + 1) < pgN x - k; omega)
  ·
    have hc4 := of_decide_eq_false hb4
    refine WC.exit ?_
    refine WQ.thenExit ?_
    refine WQ.thenExit ?_
    refine WQ.inHere ?_
    refine WQ.next ?_
    refine WC.seq ?_
    refine WC.region ?_
    refine WL.op rfl rfl (op_move rfl ?_)
    refine WL.op rfl rfl (op_assign rfl ?_)
    refine WL.nil ?_
    refine WQ.next ?_
    refine WC.ret ?_
    refine WQ.out (.tmp rfl .nil) ?_
    obtain rfl : k = pgN x := by omega
    exact ⟨_, rfl, H3.sel [1] rfl rfl⟩
set_option maxRecDepth 100000 in
theorem rmay11_ok (pg : UInt32) (ev pv : Value) (xs : List Xt) (ps : List UInt16) (con : Bool) (w : World) (hE : Arr w ev 2 xs.length (List.flatMap xtc xs)) (hP : Arr w pv 1 ps.length (List.map vU16 ps)) (hn : xs.length < 2 ^ 47) (hm : ps.length < 2 ^ 47) :
    Calls Try.prog 93 #[(.agg #[(vU32 pg), ev, pv, (.bool con)])] w (fun e w' => e = .returned (.bool (mfMay pg xs ps)) ∧ Fr [] w w') := by
  refine enter (args := [(.agg #[(vU32 pg), ev, pv, (.bool con)])]) Try.func93 rfl rfl ?_
  have H0 : Own [] w w [] := Own.start w []
  refine WC.seq ?_
  refine WC.region ?_
  refine WL.op rfl rfl (op_box H0 rfl rfl (fun b1 w1 H1 => ?_))
  refine WL.op rfl rfl (op_assign rfl ?_)
  refine WL.nil ?_
  refine WQ.next ?_
  refine WC.seq ?_
  refine WC.seq ?_
  refine WC.region ?_
  refine WL.op rfl rfl (op_assign rfl ?_)
  refine WL.nil ?_
  refine WQ.next ?_
  refine WC.block ?_
  refine WC.loop (α := Nat) (fun k => [(1, (ptr b1 0)), (3, (vN k))]) (fun k w' => (k ≤ xs.length ∧ (∀ j, j < k → xtBad (xs.getD j Xt.zero) = false ∧ (0 < j → ¬ (xs.getD (j - 1) Xt.zero).id ≥ (xs.getD j Xt.zero).id))) ∧ Own [] w w' [.blk b1 [(vU32 pg), ev, pv, (.bool con)] 56]) (fun k => xs.length - k) 0 ⟨⟨Nat.zero_le _, fun j h => by omega⟩, H1⟩ ⟨rfl, rfl, trivial⟩ ?_
  rintro k w2 ⟨⟨hk1, hok⟩, H2⟩
  show WC _ _ _ _ _ [(1, (ptr b1 0)), (3, (vN k))] _
  refine WC.seq ?_
  refine WC.seq ?_
  refine WC.region ?_
  refine WL.op rfl rfl (op_move rfl ?_)
  refine WL.op rfl rfl (op_fieldAddr rfl Fa.F56_1 ?_)
  refine WL.op rfl rfl (op_load rfl (H2.cell (i := 0) rfl rfl) Try.underlying53 rfl ?_)
  refine WL.op rfl rfl (op_lenA Try.underlying53 rfl (H2.arr hE) ?_)
  refine WL.op rfl rfl (op_lssN rfl rfl ?_)
  refine WL.nil ?_
  refine WQ.next ?_
  refine WC.cond rfl (fun (hb3 : (decide (k < xs.length)) = true) => ?_) (fun (hb3 : (decide (k < xs.length)) = false) => ?_)
  ·
    have hc3 := of_decide_eq_true hb3
    refine WC.skip ?_
    refine WQ.next ?_
    refine WC.seq ?_
    refine WC.block ?_
    refine WC.seq ?_
    refine WC.region ?_
    refine WL.op rfl rfl (op_fieldAddr rfl Fa.F56_1 ?_)
    refine WL.op rfl rfl (op_load rfl (H2.cell (i := 0) rfl rfl) Try.underlying53 rfl ?_)
    refine WL.op rfl rfl (op_move rfl ?_)
    refine WL.op rfl rfl (op_indexAddr Try.underlying53 Fa.I130 rfl (H2.arr hE) rfl (by omega) ?_)
    refine WL.op rfl rfl (op_loadSP (vs := xtc (xs.getD k Xt.zero)) rfl (Arr.atsF (H2.arr hE) (fun _ => rfl) (by decide) Xt.zero (by omega)) Try.underlying130 rfl Fa.I130 rfl ?_)
    refine WL.op rfl rfl (op_alloc H2 Fa.I130 (fun b4 w4 H4 => ?_))
    refine WL.op rfl rfl (op_storeBW (i := 1) H4 rfl rfl rfl rfl rfl Fa.I130 (fun w5 H5 => ?_))
    refine WL.nil ?_
    refine WQ.next ?_
    refine WC.seq ?_
    refine bsplit (fun (hb6 : (decide ((xs.getD k Xt.zero).id ≥ (16 : UInt32))) = true) => ?_) (fun (hb6 : (decide ((xs.getD k Xt.zero).id ≥ (16 : UInt32))) = false) => ?_)
    ·
      have hc6 := of_decide_eq_true hb6
      refine WC.draw 29 Fa.M H5 (HW.op rfl (fun w1 H1 => op_fieldAddr rfl Fa.F130_0 ⟨rfl, Fr.refl _ _⟩) (HW.op rfl (fun w1 H1 => op_load rfl (H1.cell (i := 1) rfl rfl) Try.underlying22 rfl ⟨rfl, Fr.refl _ _⟩) (HW.op rfl (fun w1 H1 => op_geqU32 (b := 16) rfl rfl ⟨rfl, Fr.refl _ _⟩) (HW.op rfl (fun w1 H1 => op_move rfl ⟨rfl, Fr.refl _ _⟩) (HW.no rfl rfl rfl hb6 (HW.no rfl rfl rfl hb6 (HW.no rfl rfl rfl hb6 (HW.op rfl (fun w1 H1 => op_pickT rfl hb6 rfl ⟨rfl, Fr.refl _ _⟩) (HW.op rfl (fun w1 H1 => op_move rfl ⟨rfl, Fr.refl _ _⟩) (HW.no rfl rfl rfl rfl (HW.no rfl rfl rfl rfl (HW.no rfl rfl rfl rfl (HW.op rfl (fun w1 H1 => op_pickT rfl rfl rfl ⟨rfl, Fr.refl _ _⟩) (HW.op rfl (fun w1 H1 => op_move rfl ⟨rfl, Fr.refl _ _⟩) (HW.no rfl rfl rfl rfl (HW.no rfl rfl rfl rfl (HW.no rfl rfl rfl rfl (HW.non rfl rfl rfl (HW.non rfl rfl rfl (HW.non rfl rfl rfl (HW.non rfl rfl rfl (HW.non rfl rfl rfl (HW.non rfl rfl rfl (HW.non rfl rfl rfl (HW.non rfl rfl rfl (HW.non rfl rfl rfl (HW.non rfl rfl rfl (HW.no rfl rfl rfl rfl (HW.op rfl (fun w1 H1 => op_pickT rfl rfl rfl ⟨rfl, Fr.refl _ _⟩)  HW.nil))))))))))))))))))))))))))))) (by kernel_rfl) ?_
      intro β7 w7 H7
      refine WL.nil ?_
      refine WQ.next ?_
      refine WC.yes rfl rfl ?_
      refine WC.seq ?_
      refine WC.region ?_
      refine WL.op rfl rfl (op_assign rfl ?_)
      refine WL.nil ?_
      refine WQ.next ?_
      refine WC.ret ?_
      refine WQ.inRet ?_
      refine WQ.thenRet ?_
      refine WQ.thenRet ?_
      refine WQ.inRet ?_
      refine WQ.thenRet ?_
      refine WQ.out (.tmp rfl .nil) ?_
      exact ⟨by rw [mfMay_x (k := k) (by omega) (by (rw [xtBad, hb6]) <;> rfl)]; rfl, H7.fr⟩
    ·
      have hc6 := of_decide_eq_false hb6
      refine bsplit (fun (hb8 : (decide ((xs.getD k Xt.zero).bl < (1 : UInt32))) = true) => ?_) (fun (hb8 : (decide ((xs.getD k Xt.zero).bl < (1 : UInt32))) = false) => ?_)
      ·
        have hc8 := of_decide_eq_true hb8
        refine WC.draw 29 Fa.M H5 (HW.op rfl (fun w1 H1 => op_fieldAddr rfl Fa.F130_0 ⟨rfl, Fr.refl _ _⟩) (HW.op rfl (fun w1 H1 => op_load rfl (H1.cell (i := 1) rfl rfl) Try.underlying22 rfl ⟨rfl, Fr.refl _ _⟩) (HW.op rfl (fun w1 H1 => op_geqU32 (b := 16) rfl rfl ⟨rfl, Fr.refl _ _⟩) (HW.op rfl (fun w1 H1 => op_move rfl ⟨rfl, Fr.refl _ _⟩) (HW.yes rfl rfl rfl hb6 (fun w1 H1 => op_fieldAddr rfl Fa.F130_1 ⟨rfl, Fr.refl _ _⟩) (HW.yes rfl rfl rfl hb6 (fun w1 H1 => op_load rfl (H1.cell (i := 1) rfl rfl) Try.underlying22 rfl ⟨rfl, Fr.refl _ _⟩) (HW.yes rfl rfl rfl hb6 (fun w1 H1 => op_lssU32 (b := 1) rfl rfl ⟨rfl, Fr.refl _ _⟩) (HW.op rfl (fun w1 H1 => op_pickF rfl hb6 rfl ⟨rfl, Fr.refl _ _⟩) (HW.op rfl (fun w1 H1 => op_move rfl ⟨rfl, Fr.refl _ _⟩) (HW.no rfl rfl rfl hb8 (HW.no rfl rfl rfl hb8 (HW.no rfl rfl rfl hb8 (HW.op rfl (fun w1 H1 => op_pickT rfl hb8 rfl ⟨rfl, Fr.refl _ _⟩) (HW.op rfl (fun w1 H1 => op_move rfl ⟨rfl, Fr.refl _ _⟩) (HW.no rfl rfl rfl rfl (HW.no rfl rfl rfl rfl (HW.no rfl rfl rfl rfl (HW.non rfl rfl rfl (HW.non rfl rfl rfl (HW.non rfl rfl rfl (HW.non rfl rfl rfl (HW.non rfl rfl rfl (HW.non rfl rfl rfl (HW.non rfl rfl rfl (HW.non rfl rfl rfl (HW.non rfl rfl rfl (HW.non rfl rfl rfl (HW.no rfl rfl rfl rfl (HW.op rfl (fun w1 H1 => op_pickT rfl rfl rfl ⟨rfl, Fr.refl _ _⟩)  HW.nil))))))))))))))))))))))))))))) (by kernel_rfl) ?_
        intro β9 w9 H9
        refine WL.nil ?_
        refine WQ.next ?_
        refine WC.yes rfl rfl ?_
        refine WC.seq ?_
        refine WC.region ?_
        refine WL.op rfl rfl (op_assign rfl ?_)
        refine WL.nil ?_
        refine WQ.next ?_
        refine WC.ret ?_
        refine WQ.inRet ?_
        refine WQ.thenRet ?_
        refine WQ.thenRet ?_
        refine WQ.inRet ?_
        refine WQ.thenRet ?_
        refine WQ.out (.tmp rfl .nil) ?_
        exact ⟨by rw [mfMay_x (k := k) (by omega) (by (rw [xtBad, hb6, hb8]) <;> rfl)]; rfl, H9.fr⟩
      ·
        have hc8 := of_decide_eq_false hb8
        refine bsplit (fun (hb10 : (decide ((xs.getD k Xt.zero).bl > (1024 : UInt32))) = true) => ?_) (fun (hb10 : (decide ((xs.getD k Xt.zero).bl > (1024 : UInt32))) = false) => ?_)
        ·
          have hc10 := of_decide_eq_true hb10
          refine WC.draw 29 Fa.M H5 (HW.op rfl (fun w1 H1 => op_fieldAddr rfl Fa.F130_0 ⟨rfl, Fr.refl _ _⟩) (HW.op rfl (fun w1 H1 => op_load rfl (H1.cell (i := 1) rfl rfl) Try.underlying22 rfl ⟨rfl, Fr.refl _ _⟩) (HW.op rfl (fun w1 H1 => op_geqU32 (b := 16) rfl rfl ⟨rfl, Fr.refl _ _⟩) (HW.op rfl (fun w1 H1 => op_move rfl ⟨rfl, Fr.refl _ _⟩) (HW.yes rfl rfl rfl hb6 (fun w1 H1 => op_fieldAddr rfl Fa.F130_1 ⟨rfl, Fr.refl _ _⟩) (HW.yes rfl rfl rfl hb6 (fun w1 H1 => op_load rfl (H1.cell (i := 1) rfl rfl) Try.underlying22 rfl ⟨rfl, Fr.refl _ _⟩) (HW.yes rfl rfl rfl hb6 (fun w1 H1 => op_lssU32 (b := 1) rfl rfl ⟨rfl, Fr.refl _ _⟩) (HW.op rfl (fun w1 H1 => op_pickF rfl hb6 rfl ⟨rfl, Fr.refl _ _⟩) (HW.op rfl (fun w1 H1 => op_move rfl ⟨rfl, Fr.refl _ _⟩) (HW.yes rfl rfl rfl hb8 (fun w1 H1 => op_fieldAddr rfl Fa.F130_1 ⟨rfl, Fr.refl _ _⟩) (HW.yes rfl rfl rfl hb8 (fun w1 H1 => op_load rfl (H1.cell (i := 1) rfl rfl) Try.underlying22 rfl ⟨rfl, Fr.refl _ _⟩) (HW.yes rfl rfl rfl hb8 (fun w1 H1 => op_gtrU32 (b := 1024) rfl rfl ⟨rfl, Fr.refl _ _⟩) (HW.op rfl (fun w1 H1 => op_pickF rfl hb8 rfl ⟨rfl, Fr.refl _ _⟩) (HW.op rfl (fun w1 H1 => op_move rfl ⟨rfl, Fr.refl _ _⟩) (HW.no rfl rfl rfl hb10 (HW.no rfl rfl rfl hb10 (HW.no rfl rfl rfl hb10 (HW.non rfl rfl rfl (HW.non rfl rfl rfl (HW.non rfl rfl rfl (HW.non rfl rfl rfl (HW.non rfl rfl rfl (HW.non rfl rfl rfl (HW.non rfl rfl rfl (HW.non rfl rfl rfl (HW.non rfl rfl rfl (HW.non rfl rfl rfl (HW.no rfl rfl rfl hb10 (HW.op rfl (fun w1 H1 => op_pickT rfl hb10 rfl ⟨rfl, Fr.refl _ _⟩)  HW.nil))))))))))))))))))))))))))))) (by kernel_rfl) ?_
          intro β11 w11 H11
          refine WL.nil ?_
          refine WQ.next ?_
          refine WC.yes rfl rfl ?_
          refine WC.seq ?_
          refine WC.region ?_
          refine WL.op rfl rfl (op_assign rfl ?_)
          refine WL.nil ?_
          refine WQ.next ?_
          refine WC.ret ?_
          refine WQ.inRet ?_
          refine WQ.thenRet ?_
          refine WQ.thenRet ?_
          refine WQ.inRet ?_
          refine WQ.thenRet ?_
          refine WQ.out (.tmp rfl .nil) ?_
          exact ⟨by rw [mfMay_x (k := k) (by omega) (by (rw [xtBad, hb6, hb8, hb10]) <;> rfl)]; rfl, H11.fr⟩
        ·
          have hc10 := of_decide_eq_false hb10
          refine bsplit (fun (hb12 : (decide (k > 0)) = true) => ?_) (fun (hb12 : (decide (k > 0)) = false) => ?_)
          ·
            have hc12 := of_decide_eq_true hb12
            refine WC.draw 29 Fa.M H5 (HW.op rfl (fun w1 H1 => op_fieldAddr rfl Fa.F130_0 ⟨rfl, Fr.refl _ _⟩) (HW.op rfl (fun w1 H1 => op_load rfl (H1.cell (i := 1) rfl rfl) Try.underlying22 rfl ⟨rfl, Fr.refl _ _⟩) (HW.op rfl (fun w1 H1 => op_geqU32 (b := 16) rfl rfl ⟨rfl, Fr.refl _ _⟩) (HW.op rfl (fun w1 H1 => op_move rfl ⟨rfl, Fr.refl _ _⟩) (HW.yes rfl rfl rfl hb6 (fun w1 H1 => op_fieldAddr rfl Fa.F130_1 ⟨rfl, Fr.refl _ _⟩) (HW.yes rfl rfl rfl hb6 (fun w1 H1 => op_load rfl (H1.cell (i := 1) rfl rfl) Try.underlying22 rfl ⟨rfl, Fr.refl _ _⟩) (HW.yes rfl rfl rfl hb6 (fun w1 H1 => op_lssU32 (b := 1) rfl rfl ⟨rfl, Fr.refl _ _⟩) (HW.op rfl (fun w1 H1 => op_pickF rfl hb6 rfl ⟨rfl, Fr.refl _ _⟩) (HW.op rfl (fun w1 H1 => op_move rfl ⟨rfl, Fr.refl _ _⟩) (HW.yes rfl rfl rfl hb8 (fun w1 H1 => op_fieldAddr rfl Fa.F130_1 ⟨rfl, Fr.refl _ _⟩) (HW.yes rfl rfl rfl hb8 (fun w1 H1 => op_load rfl (H1.cell (i := 1) rfl rfl) Try.underlying22 rfl ⟨rfl, Fr.refl _ _⟩) (HW.yes rfl rfl rfl hb8 (fun w1 H1 => op_gtrU32 (b := 1024) rfl rfl ⟨rfl, Fr.refl _ _⟩) (HW.op rfl (fun w1 H1 => op_pickF rfl hb8 rfl ⟨rfl, Fr.refl _ _⟩) (HW.op rfl (fun w1 H1 => op_move rfl ⟨rfl, Fr.refl _ _⟩) (HW.yes rfl rfl rfl hb10 (fun w1 H1 => op_move rfl ⟨rfl, Fr.refl _ _⟩) (HW.yes rfl rfl rfl hb10 (fun w1 H1 => op_gtrN (b := 0) rfl rfl ⟨rfl, Fr.refl _ _⟩) (HW.yes rfl rfl rfl hb10 (fun w1 H1 => op_move rfl ⟨rfl, Fr.refl _ _⟩) (HW.yes rfl rfl rfl hb12 (fun w1 H1 => op_fieldAddr rfl Fa.F56_1 ⟨rfl, Fr.refl _ _⟩) (HW.yes rfl rfl rfl hb12 (fun w1 H1 => op_load rfl (H1.cell (i := 0) rfl rfl) Try.underlying53 rfl ⟨rfl, Fr.refl _ _⟩) (HW.yes rfl rfl rfl hb12 (fun w1 H1 => op_move rfl ⟨rfl, Fr.refl _ _⟩) (HW.yes rfl rfl rfl hb12 (fun w1 H1 => op_subN (b := 1) rfl rfl (by omega) (by omega) ⟨rfl, Fr.refl _ _⟩) (HW.yes rfl rfl rfl hb12 (fun w1 H1 => op_indexAddr Try.underlying53 Fa.I130 rfl (H1.arr hE) rfl (by omega) ⟨rfl, Fr.refl _ _⟩) (HW.yes rfl rfl rfl hb12 (fun w1 H1 => op_fieldAddrS rfl Fa.F130_0 ⟨rfl, Fr.refl _ _⟩) (HW.yes rfl rfl rfl hb12 (fun w1 H1 => op_load rfl (Arr.atF (k := 0) (H1.arr hE) (fun _ => rfl) (by decide) Xt.zero (by omega) rfl) Try.underlying22 rfl ⟨rfl, Fr.refl _ _⟩) (HW.yes rfl rfl rfl hb12 (fun w1 H1 => op_fieldAddr rfl Fa.F130_0 ⟨rfl, Fr.refl _ _⟩) (HW.yes rfl rfl rfl hb12 (fun w1 H1 => op_load rfl (H1.cell (i := 1) rfl rfl) Try.underlying22 rfl ⟨rfl, Fr.refl _ _⟩) (HW.yes rfl rfl rfl hb12 (fun w1 H1 => op_geqU32 rfl rfl ⟨rfl, Fr.refl _ _⟩) (HW.yes rfl rfl rfl hb10 (fun w1 H1 => op_pickT rfl hb12 rfl ⟨rfl, Fr.refl _ _⟩) (HW.op rfl (fun w1 H1 => op_pickF rfl hb10 rfl ⟨rfl, Fr.refl _ _⟩)  HW.nil))))))))))))))))))))))))))))) (by kernel_rfl) ?_
            intro β13 w13 H13
            refine WL.nil ?_
            refine WQ.next ?_
            refine WC.cond rfl (fun (hb14 : (decide ((xs.getD (k - 1) Xt.zero).id ≥ (xs.getD k Xt.zero).id)) = true) => ?_) (fun (hb14 : (decide ((xs.getD (k - 1) Xt.zero).id ≥ (xs.getD k Xt.zero).id)) = false) => ?_)
            ·
              have hc14 := of_decide_eq_true hb14
              refine WC.seq ?_
              refine WC.region ?_
              refine WL.op rfl rfl (op_assign rfl ?_)
              refine WL.nil ?_
              refine WQ.next ?_
              refine WC.ret ?_
              refine WQ.inRet ?_
              refine WQ.thenRet ?_
              refine WQ.thenRet ?_
              refine WQ.inRet ?_
              refine WQ.thenRet ?_
              refine WQ.out (.tmp rfl .nil) ?_
              exact ⟨by rw [mfMay_r (k := k) (by omega) (by omega) hc14]; rfl, H13.fr⟩
            ·
              have hc14 := of_decide_eq_false hb14
              refine WC.skip ?_
              refine WQ.inNormal ?_
              refine WQ.next ?_
              refine WC.region ?_
              refine WL.op rfl rfl (op_move rfl ?_)
              refine WL.op rfl rfl (op_addN (b := 1) rfl rfl (by omega) ?_)
              refine WL.op rfl rfl (op_assign rfl ?_)
              refine WL.nil ?_
              exact WQ.round (k + 1) ⟨⟨by omega, allPrev hok ⟨by (rw [xtBad, hb6, hb8, hb10]) <;> rfl, fun h0 => by first | exact hc14 | (exact absurd h0 hc14)⟩⟩, (H13.take 1)⟩ ⟨rfl, rfl, trivial⟩ (by omega)
          ·
            have hc12 := of_decide_eq_false hb12
            refine WC.draw 29 Fa.M H5 (HW.op rfl (fun w1 H1 => op_fieldAddr rfl Fa.F130_0 ⟨rfl, Fr.refl _ _⟩) (HW.op rfl (fun w1 H1 => op_load rfl (H1.cell (i := 1) rfl rfl) Try.underlying22 rfl ⟨rfl, Fr.refl _ _⟩) (HW.op rfl (fun w1 H1 => op_geqU32 (b := 16) rfl rfl ⟨rfl, Fr.refl _ _⟩) (HW.op rfl (fun w1 H1 => op_move rfl ⟨rfl, Fr.refl _ _⟩) (HW.yes rfl rfl rfl hb6 (fun w1 H1 => op_fieldAddr rfl Fa.F130_1 ⟨rfl, Fr.refl _ _⟩) (HW.yes rfl rfl rfl hb6 (fun w1 H1 => op_load rfl (H1.cell (i := 1) rfl rfl) Try.underlying22 rfl ⟨rfl, Fr.refl _ _⟩) (HW.yes rfl rfl rfl hb6 (fun w1 H1 => op_lssU32 (b := 1) rfl rfl ⟨rfl, Fr.refl _ _⟩) (HW.op rfl (fun w1 H1 => op_pickF rfl hb6 rfl ⟨rfl, Fr.refl _ _⟩) (HW.op rfl (fun w1 H1 => op_move rfl ⟨rfl, Fr.refl _ _⟩) (HW.yes rfl rfl rfl hb8 (fun w1 H1 => op_fieldAddr rfl Fa.F130_1 ⟨rfl, Fr.refl _ _⟩) (HW.yes rfl rfl rfl hb8 (fun w1 H1 => op_load rfl (H1.cell (i := 1) rfl rfl) Try.underlying22 rfl ⟨rfl, Fr.refl _ _⟩) (HW.yes rfl rfl rfl hb8 (fun w1 H1 => op_gtrU32 (b := 1024) rfl rfl ⟨rfl, Fr.refl _ _⟩) (HW.op rfl (fun w1 H1 => op_pickF rfl hb8 rfl ⟨rfl, Fr.refl _ _⟩) (HW.op rfl (fun w1 H1 => op_move rfl ⟨rfl, Fr.refl _ _⟩) (HW.yes rfl rfl rfl hb10 (fun w1 H1 => op_move rfl ⟨rfl, Fr.refl _ _⟩) (HW.yes rfl rfl rfl hb10 (fun w1 H1 => op_gtrN (b := 0) rfl rfl ⟨rfl, Fr.refl _ _⟩) (HW.yes rfl rfl rfl hb10 (fun w1 H1 => op_move rfl ⟨rfl, Fr.refl _ _⟩) (HW.no rfl rfl rfl hb12 (HW.no rfl rfl rfl hb12 (HW.no rfl rfl rfl hb12 (HW.no rfl rfl rfl hb12 (HW.no rfl rfl rfl hb12 (HW.no rfl rfl rfl hb12 (HW.no rfl rfl rfl hb12 (HW.no rfl rfl rfl hb12 (HW.no rfl rfl rfl hb12 (HW.no rfl rfl rfl hb12 (HW.yes rfl rfl rfl hb10 (fun w1 H1 => op_pickF rfl hb12 rfl ⟨rfl, Fr.refl _ _⟩) (HW.op rfl (fun w1 H1 => op_pickF rfl hb10 rfl ⟨rfl, Fr.refl _ _⟩)  HW.nil))))))))))))))))))))))))))))) (by kernel_rfl) ?_
            intro β15 w15 H15
            refine WL.nil ?_
            refine WQ.next ?_
            refine WC.no rfl rfl ?_
            refine WC.skip ?_
            refine WQ.inNormal ?_
            refine WQ.next ?_
            refine WC.region ?_
            refine WL.op rfl rfl (op_move rfl ?_)
            refine WL.op rfl rfl (op_addN (b := 1) rfl rfl (by omega) ?_)
            refine WL.op rfl rfl (op_assign rfl ?_)
            refine WL.nil ?_
            exact WQ.round (k + 1) ⟨⟨by omega, allPrev hok ⟨by (rw [xtBad, hb6, hb8, hb10]) <;> rfl, fun h0 => by first | exact hc12 | (exact absurd h0 hc12)⟩⟩, (H15.take 1)⟩ ⟨rfl, rfl, trivial⟩ (by omega)
  ·
    have hc3 := of_decide_eq_false hb3
    refine WC.exit ?_
    refine WQ.thenExit ?_
    refine WQ.thenExit ?_
    refine WQ.inHere ?_
    refine WQ.next ?_
    refine WC.seq ?_
    refine WC.seq ?_
    refine WC.region ?_
    refine WL.op rfl rfl (op_assign rfl ?_)
    refine WL.nil ?_
    refine WQ.next ?_
    refine WC.block ?_
    refine WC.loop (α := Nat) (fun i => [(1, (ptr b1 0)), (5, (vN i))]) (fun i w' => (i ≤ ps.length ∧ (∀ j, j < i → ps.getD j 0 ≠ 0 ∧ (0 < j → ¬ ps.getD (j - 1) 0 ≥ ps.getD j 0))) ∧ Own [] w w' [.blk b1 [(vU32 pg), ev, pv, (.bool con)] 56]) (fun i => ps.length - i) 0 ⟨⟨Nat.zero_le _, fun j h => by omega⟩, H2⟩ ⟨rfl, rfl, trivial⟩ ?_
    rintro i w16 ⟨⟨hi1, hoi⟩, H16⟩
    show WC _ _ _ _ _ [(1, (ptr b1 0)), (5, (vN i))] _
    refine WC.seq ?_
    refine WC.seq ?_
    refine WC.region ?_
    refine WL.op rfl rfl (op_move rfl ?_)
    refine WL.op rfl rfl (op_fieldAddr rfl Fa.F56_2 ?_)
    refine WL.op rfl rfl (op_load rfl (H16.cell (i := 0) rfl rfl) Try.underlying54 rfl ?_)
    refine WL.op rfl rfl (op_lenA Try.underlying54 rfl (H16.arr hP) ?_)
    refine WL.op rfl rfl (op_lssN rfl rfl ?_)
    refine WL.nil ?_
    refine WQ.next ?_
    refine WC.cond rfl (fun (hb17 : (decide (i < ps.length)) = true) => ?_) (fun (hb17 : (decide (i < ps.length)) = false) => ?_)
    ·
      have hc17 := of_decide_eq_true hb17
      refine WC.skip ?_
      refine WQ.next ?_
      refine WC.seq ?_
      refine WC.block ?_
      refine WC.seq ?_
      refine bsplit (fun (hb18 : (decide ((ps.getD i 0) = (0 : UInt16))) = true) => ?_) (fun (hb18 : (decide ((ps.getD i 0) = (0 : UInt16))) = false) => ?_)
      ·
        have hc18 := of_decide_eq_true hb18
        refine WC.draw 24 Fa.M H16 (HW.op rfl (fun w1 H1 => op_fieldAddr rfl Fa.F56_2 ⟨rfl, Fr.refl _ _⟩) (HW.op rfl (fun w1 H1 => op_load rfl (H1.cell (i := 0) rfl rfl) Try.underlying54 rfl ⟨rfl, Fr.refl _ _⟩) (HW.op rfl (fun w1 H1 => op_move rfl ⟨rfl, Fr.refl _ _⟩) (HW.op rfl (fun w1 H1 => op_indexAddr1 Try.underlying54 Fa.I92 rfl (H1.arr hP) rfl (by omega) ⟨rfl, Fr.refl _ _⟩) (HW.op rfl (fun w1 H1 => op_load rfl ((H1.arr hP).at (get_map vU16 0 (Arr.ltM (H1.arr hP) (by omega)))) Try.underlying92 rfl ⟨rfl, Fr.refl _ _⟩) (HW.op rfl (fun w1 H1 => op_eqlU16 (b := 0) rfl rfl ⟨rfl, Fr.refl _ _⟩) (HW.op rfl (fun w1 H1 => op_move rfl ⟨rfl, Fr.refl _ _⟩) (HW.no rfl rfl rfl hb18 (HW.no rfl rfl rfl hb18 (HW.no rfl rfl rfl hb18 (HW.non rfl rfl rfl (HW.non rfl rfl rfl (HW.non rfl rfl rfl (HW.non rfl rfl rfl (HW.non rfl rfl rfl (HW.non rfl rfl rfl (HW.non rfl rfl rfl (HW.non rfl rfl rfl (HW.non rfl rfl rfl (HW.non rfl rfl rfl (HW.non rfl rfl rfl (HW.non rfl rfl rfl (HW.no rfl rfl rfl hb18 (HW.op rfl (fun w1 H1 => op_pickT rfl hb18 rfl ⟨rfl, Fr.refl _ _⟩)  HW.nil)))))))))))))))))))))))) (by kernel_rfl) ?_
        intro β19 w19 H19
        refine WL.nil ?_
        refine WQ.next ?_
        refine WC.yes rfl rfl ?_
        refine WC.seq ?_
        refine WC.region ?_
        refine WL.op rfl rfl (op_assign rfl ?_)
        refine WL.nil ?_
        refine WQ.next ?_
        refine WC.ret ?_
        refine WQ.inRet ?_
        refine WQ.thenRet ?_
        refine WQ.thenRet ?_
        refine WQ.inRet ?_
        refine WQ.thenRet ?_
        refine WQ.out (.tmp rfl .nil) ?_
        exact ⟨by rw [mfMay_p (k := i) (by omega) hc18]; rfl, H19.fr⟩
      ·
        have hc18 := of_decide_eq_false hb18
        refine bsplit (fun (hb20 : (decide (i > 0)) = true) => ?_) (fun (hb20 : (decide (i > 0)) = false) => ?_)
        ·
          have hc20 := of_decide_eq_true hb20
          refine WC.draw 24 Fa.M H16 (HW.op rfl (fun w1 H1 => op_fieldAddr rfl Fa.F56_2 ⟨rfl, Fr.refl _ _⟩) (HW.op rfl (fun w1 H1 => op_load rfl (H1.cell (i := 0) rfl rfl) Try.underlying54 rfl ⟨rfl, Fr.refl _ _⟩) (HW.op rfl (fun w1 H1 => op_move rfl ⟨rfl, Fr.refl _ _⟩) (HW.op rfl (fun w1 H1 => op_indexAddr1 Try.underlying54 Fa.I92 rfl (H1.arr hP) rfl (by omega) ⟨rfl, Fr.refl _ _⟩) (HW.op rfl (fun w1 H1 => op_load rfl ((H1.arr hP).at (get_map vU16 0 (Arr.ltM (H1.arr hP) (by omega)))) Try.underlying92 rfl ⟨rfl, Fr.refl _ _⟩) (HW.op rfl (fun w1 H1 => op_eqlU16 (b := 0) rfl rfl ⟨rfl, Fr.refl _ _⟩) (HW.op rfl (fun w1 H1 => op_move rfl ⟨rfl, Fr.refl _ _⟩) (HW.yes rfl rfl rfl hb18 (fun w1 H1 => op_move rfl ⟨rfl, Fr.refl _ _⟩) (HW.yes rfl rfl rfl hb18 (fun w1 H1 => op_gtrN (b := 0) rfl rfl ⟨rfl, Fr.refl _ _⟩) (HW.yes rfl rfl rfl hb18 (fun w1 H1 => op_move rfl ⟨rfl, Fr.refl _ _⟩) (HW.yes rfl rfl rfl hb20 (fun w1 H1 => op_fieldAddr rfl Fa.F56_2 ⟨rfl, Fr.refl _ _⟩) (HW.yes rfl rfl rfl hb20 (fun w1 H1 => op_load rfl (H1.cell (i := 0) rfl rfl) Try.underlying54 rfl ⟨rfl, Fr.refl _ _⟩) (HW.yes rfl rfl rfl hb20 (fun w1 H1 => op_move rfl ⟨rfl, Fr.refl _ _⟩) (HW.yes rfl rfl rfl hb20 (fun w1 H1 => op_subN (b := 1) rfl rfl (by omega) (by omega) ⟨rfl, Fr.refl _ _⟩) (HW.yes rfl rfl rfl hb20 (fun w1 H1 => op_indexAddr1 Try.underlying54 Fa.I92 rfl (H1.arr hP) rfl (by omega) ⟨rfl, Fr.refl _ _⟩) (HW.yes rfl rfl rfl hb20 (fun w1 H1 => op_load rfl ((H1.arr hP).at (get_map vU16 0 (Arr.ltM (H1.arr hP) (by omega)))) Try.underlying92 rfl ⟨rfl, Fr.refl _ _⟩) (HW.yes rfl rfl rfl hb20 (fun w1 H1 => op_fieldAddr rfl Fa.F56_2 ⟨rfl, Fr.refl _ _⟩) (HW.yes rfl rfl rfl hb20 (fun w1 H1 => op_load rfl (H1.cell (i := 0) rfl rfl) Try.underlying54 rfl ⟨rfl, Fr.refl _ _⟩) (HW.yes rfl rfl rfl hb20 (fun w1 H1 => op_move rfl ⟨rfl, Fr.refl _ _⟩) (HW.yes rfl rfl rfl hb20 (fun w1 H1 => op_indexAddr1 Try.underlying54 Fa.I92 rfl (H1.arr hP) rfl (by omega) ⟨rfl, Fr.refl _ _⟩) (HW.yes rfl rfl rfl hb20 (fun w1 H1 => op_load rfl ((H1.arr hP).at (get_map vU16 0 (Arr.ltM (H1.arr hP) (by omega)))) Try.underlying92 rfl ⟨rfl, Fr.refl _ _⟩) (HW.yes rfl rfl rfl hb20 (fun w1 H1 => op_geqU16 rfl rfl ⟨rfl, Fr.refl _ _⟩) (HW.yes rfl rfl rfl hb18 (fun w1 H1 => op_pickT rfl hb20 rfl ⟨rfl, Fr.refl _ _⟩) (HW.op rfl (fun w1 H1 => op_pickF rfl hb18 rfl ⟨rfl, Fr.refl _ _⟩)  HW.nil)))))))))))))))))))))))) (by kernel_rfl) ?_
          intro β21 w21 H21
          refine WL.nil ?_
          refine WQ.next ?_
          refine WC.cond rfl (fun (hb22 : (decide ((ps.getD (i - 1) 0) ≥ (ps.getD i 0))) = true) => ?_) (fun (hb22 : (decide ((ps.getD (i - 1) 0) ≥ (ps.getD i 0))) = false) => ?_)
          ·
            have hc22 := of_decide_eq_true hb22
            refine WC.seq ?_
            refine WC.region ?_
            refine WL.op rfl rfl (op_assign rfl ?_)
            refine WL.nil ?_
            refine WQ.next ?_
            refine WC.ret ?_
            refine WQ.inRet ?_
            refine WQ.thenRet ?_
            refine WQ.thenRet ?_
            refine WQ.inRet ?_
            refine WQ.thenRet ?_
            refine WQ.out (.tmp rfl .nil) ?_
            exact ⟨by rw [mfMay_q (k := i) (by omega) (by omega) hc22]; rfl, H21.fr⟩
          ·
            have hc22 := of_decide_eq_false hb22
            refine WC.skip ?_
            refine WQ.inNormal ?_
            refine WQ.next ?_
            refine WC.region ?_
            refine WL.op rfl rfl (op_move rfl ?_)
            refine WL.op rfl rfl (op_addN (b := 1) rfl rfl (by omega) ?_)
            refine WL.op rfl rfl (op_assign rfl ?_)
            refine WL.nil ?_
            exact WQ.round (i + 1) ⟨⟨by omega, allPrev hoi ⟨of_decide_eq_false hb18, fun h0 => by first | exact hc22 | (exact absurd h0 hc22)⟩⟩, H21⟩ ⟨rfl, rfl, trivial⟩ (by omega)
        ·
          have hc20 := of_decide_eq_false hb20
          refine WC.draw 24 Fa.M H16 (HW.op rfl (fun w1 H1 => op_fieldAddr rfl Fa.F56_2 ⟨rfl, Fr.refl _ _⟩) (HW.op rfl (fun w1 H1 => op_load rfl (H1.cell (i := 0) rfl rfl) Try.underlying54 rfl ⟨rfl, Fr.refl _ _⟩) (HW.op rfl (fun w1 H1 => op_move rfl ⟨rfl, Fr.refl _ _⟩) (HW.op rfl (fun w1 H1 => op_indexAddr1 Try.underlying54 Fa.I92 rfl (H1.arr hP) rfl (by omega) ⟨rfl, Fr.refl _ _⟩) (HW.op rfl (fun w1 H1 => op_load rfl ((H1.arr hP).at (get_map vU16 0 (Arr.ltM (H1.arr hP) (by omega)))) Try.underlying92 rfl ⟨rfl, Fr.refl _ _⟩) (HW.op rfl (fun w1 H1 => op_eqlU16 (b := 0) rfl rfl ⟨rfl, Fr.refl _ _⟩) (HW.op rfl (fun w1 H1 => op_move rfl ⟨rfl, Fr.refl _ _⟩) (HW.yes rfl rfl rfl hb18 (fun w1 H1 => op_move rfl ⟨rfl, Fr.refl _ _⟩) (HW.yes rfl rfl rfl hb18 (fun w1 H1 => op_gtrN (b := 0) rfl rfl ⟨rfl, Fr.refl _ _⟩) (HW.yes rfl rfl rfl hb18 (fun w1 H1 => op_move rfl ⟨rfl, Fr.refl _ _⟩) (HW.no rfl rfl rfl hb20 (HW.no rfl rfl rfl hb20 (HW.no rfl rfl rfl hb20 (HW.no rfl rfl rfl hb20 (HW.no rfl rfl rfl hb20 (HW.no rfl rfl rfl hb20 (HW.no rfl rfl rfl hb20 (HW.no rfl rfl rfl hb20 (HW.no rfl rfl rfl hb20 (HW.no rfl rfl rfl hb20 (HW.no rfl rfl rfl hb20 (HW.no rfl rfl rfl hb20 (HW.yes rfl rfl rfl hb18 (fun w1 H1 => op_pickF rfl hb20 rfl ⟨rfl, Fr.refl _ _⟩) (HW.op rfl (fun w1 H1 => op_pickF rfl hb18 rfl ⟨rfl, Fr.refl _ _⟩)  HW.nil)))))))))))))))))))))))) (by kernel_rfl) ?_
          intro β23 w23 H23
          refine WL.nil ?_
          refine WQ.next ?_
          refine WC.no rfl rfl ?_
          refine WC.skip ?_
          refine WQ.inNormal ?_
          refine WQ.next ?_
          refine WC.region ?_
          refine WL.op rfl rfl (op_move rfl ?_)
          refine WL.op rfl rfl (op_addN (b := 1) rfl rfl (by omega) ?_)
          refine WL.op rfl rfl (op_assign rfl ?_)
          refine WL.nil ?_
          exact WQ.round (i + 1) ⟨⟨by omega, allPrev hoi ⟨of_decide_eq_false hb18, fun h0 => by first | exact hc20 | (exact absurd h0 hc20)⟩⟩, H23⟩ ⟨rfl, rfl, trivial⟩ (by omega)
    ·
      have hc17 := of_decide_eq_false hb17
      refine WC.exit ?_
      refine WQ.thenExit ?_
      refine WQ.thenExit ?_
      refine WQ.inHere ?_
      refine WQ.next ?_
      refine WC.seq ?_
      refine WC.region ?_
      refine WL.op rfl rfl (op_fieldAddr rfl Fa.F56_0 ?_)
      refine WL.op rfl rfl (op_load rfl (H16.cell (i := 0) rfl rfl) Try.underlying22 rfl ?_)
      refine WL.op rfl rfl (op_leqU32 (b := 1024) rfl rfl ?_)
      refine WL.op rfl rfl (op_move rfl ?_)
      refine WL.split (t := 81) rfl (fun (hb24 : (decide (pg ≤ (1024 : UInt32))) = true) => ?_) (fun (hb24 : (decide (pg ≤ (1024 : UInt32))) = false) => ?_)
      ·
        have hc24 := of_decide_eq_true hb24
        refine WL.yes rfl rfl rfl hb24 rfl (op_fieldAddr rfl Fa.F56_2 ?_)
        refine WL.yes rfl rfl rfl hb24 rfl (op_load rfl (H16.cell (i := 0) rfl rfl) Try.underlying54 rfl ?_)
        refine WL.yes rfl rfl rfl hb24 rfl (op_lenA Try.underlying54 rfl (H16.arr hP) ?_)
        refine WL.yes rfl rfl rfl hb24 rfl (op_leqN (b := 16) rfl rfl ?_)
        refine WL.op rfl rfl (op_pickT rfl hb24 rfl ?_)
        refine WL.op rfl rfl (op_assign rfl ?_)
        refine WL.nil ?_
        refine WQ.next ?_
        refine WC.ret ?_
        refine WQ.out (.tmp rfl .nil) ?_
        exact ⟨by (rw [mfMay_end (fun j hj => hok j (by omega)) (fun j hj => hoi j (by omega)), hb24]) <;> rfl, H16.fr⟩
      ·
        have hc24 := of_decide_eq_false hb24
        refine WL.no rfl rfl rfl hb24 rfl ?_
        refine WL.no rfl rfl rfl hb24 rfl ?_
        refine WL.no rfl rfl rfl hb24 rfl ?_
        refine WL.no rfl rfl rfl hb24 rfl ?_
        refine WL.op rfl rfl (op_pickF rfl hb24 rfl ?_)
        refine WL.op rfl rfl (op_assign rfl ?_)
        refine WL.nil ?_
        refine WQ.next ?_
        refine WC.ret ?_
        refine WQ.out (.tmp rfl .nil) ?_
        exact ⟨by (rw [mfMay_end (fun j hj => hok j (by omega)) (fun j hj => hoi j (by omega)), hb24]) <;> rfl, H16.fr⟩
set_option maxRecDepth 100000 in
theorem entb_ok (pg : UInt32) (ev pv sv : Value) (xs : List Xt) (ps : List UInt16) (con : Bool) (en : UInt32) (sg : List Sg) (w : World) (hE : Arr w ev 2 xs.length (List.flatMap xtc xs)) (hP : Arr w pv 1 ps.length (List.map vU16 ps)) (hS : Arr w sv 3 sg.length (List.flatMap sgc sg)) (hn : xs.length < 2 ^ 47) (hm : ps.length < 2 ^ 47) (hk : sg.length < 2 ^ 47) :
    Calls Try.prog 94 #[(.agg #[(vU32 pg), ev, pv, (.bool con), (vU32 en), sv])] w (fun e w' => e = .returned (.bool (entB en sg)) ∧ Fr [] w w') := by
  refine enter (args := [(.agg #[(vU32 pg), ev, pv, (.bool con), (vU32 en), sv])]) Try.func94 rfl rfl ?_
  have H0 : Own [] w w [] := Own.start w []
  refine WC.seq ?_
  refine WC.region ?_
  refine WL.op rfl rfl (op_box H0 rfl rfl (fun b1 w1 H1 => ?_))
  refine WL.op rfl rfl (op_assign rfl ?_)
  refine WL.nil ?_
  refine WQ.next ?_
  refine WC.seq ?_
  refine WC.seq ?_
  refine WC.region ?_
  refine WL.op rfl rfl (op_assign rfl ?_)
  refine WL.nil ?_
  refine WQ.next ?_
  refine WC.block ?_
  refine WC.loop (α := Nat) (fun k => [(1, (ptr b1 0)), (3, (vN k))]) (fun k w' => (k ≤ sg.length ∧ (∀ j, j < k → hitB en (sg.getD j Sg.zero) = false)) ∧ Own [] w w' [.blk b1 [(vU32 pg), ev, pv, (.bool con), (vU32 en), sv] 59]) (fun k => sg.length - k) 0 ⟨⟨Nat.zero_le _, fun j h => by omega⟩, H1⟩ ⟨rfl, rfl, trivial⟩ ?_
  rintro k w2 ⟨⟨hk1, hok⟩, H2⟩
  show WC _ _ _ _ _ [(1, (ptr b1 0)), (3, (vN k))] _
  refine WC.seq ?_
  refine WC.seq ?_
  refine WC.region ?_
  refine WL.op rfl rfl (op_move rfl ?_)
  refine WL.op rfl rfl (op_fieldAddr rfl Fa.F59_2 ?_)
  refine WL.op rfl rfl (op_load rfl (H2.cell (i := 0) rfl rfl) Try.underlying57 rfl ?_)
  refine WL.op rfl rfl (op_lenA Try.underlying57 rfl (H2.arr hS) ?_)
  refine WL.op rfl rfl (op_lssN rfl rfl ?_)
  refine WL.nil ?_
  refine WQ.next ?_
  refine WC.cond rfl (fun (hb3 : (decide (k < sg.length)) = true) => ?_) (fun (hb3 : (decide (k < sg.length)) = false) => ?_)
  ·
    have hc3 := of_decide_eq_true hb3
    refine WC.skip ?_
    refine WQ.next ?_
    refine WC.seq ?_
    refine WC.block ?_
    refine WC.seq ?_
    refine WC.region ?_
    refine WL.op rfl rfl (op_fieldAddr rfl Fa.F59_2 ?_)
    refine WL.op rfl rfl (op_load rfl (H2.cell (i := 0) rfl rfl) Try.underlying57 rfl ?_)
    refine WL.op rfl rfl (op_move rfl ?_)
    refine WL.op rfl rfl (op_indexAddr Try.underlying57 Fa.I111 rfl (H2.arr hS) rfl (by omega) ?_)
    refine WL.op rfl rfl (op_loadSP (vs := sgc (sg.getD k Sg.zero)) rfl (Arr.atsF (H2.arr hS) (fun _ => rfl) (by decide) Sg.zero (by omega)) Try.underlying111 rfl Fa.I111 rfl ?_)
    refine WL.op rfl rfl (op_alloc H2 Fa.I111 (fun b4 w4 H4 => ?_))
    refine WL.op rfl rfl (op_storeBW (i := 1) H4 rfl rfl rfl rfl rfl Fa.I111 (fun w5 H5 => ?_))
    refine WL.nil ?_
    refine WQ.next ?_
    refine WC.seq ?_
    refine WC.region ?_
    refine WL.op rfl rfl (op_fieldAddr rfl Fa.F111_1 ?_)
    refine WL.op rfl rfl (op_load rfl (H5.cell (i := 1) rfl rfl) Try.underlying5 rfl ?_)
    refine WL.op rfl rfl (op_eqlU8 (b := 5) rfl rfl ?_)
    refine WL.op rfl rfl (op_move rfl ?_)
    refine WL.split (t := 20) rfl (fun (hb6 : (decide ((sg.getD k Sg.zero).p = (5 : UInt8))) = true) => ?_) (fun (hb6 : (decide ((sg.getD k Sg.zero).p = (5 : UInt8))) = false) => ?_)
    ·
      have hc6 := of_decide_eq_true hb6
      refine WL.yes rfl rfl rfl hb6 rfl (op_fieldAddr rfl Fa.F59_1 ?_)
      refine WL.yes rfl rfl rfl hb6 rfl (op_load rfl (H5.cell (i := 0) rfl rfl) Try.underlying22 rfl ?_)
      refine WL.yes rfl rfl rfl hb6 rfl (op_fieldAddr rfl Fa.F111_0 ?_)
      refine WL.yes rfl rfl rfl hb6 rfl (op_load rfl (H5.cell (i := 1) rfl rfl) Try.underlying22 rfl ?_)
      refine WL.yes rfl rfl rfl hb6 rfl (op_geqU32 rfl rfl ?_)
      refine WL.op rfl rfl (op_pickT rfl hb6 rfl ?_)
      refine WL.op rfl rfl (op_move rfl ?_)
      refine WL.split (t := 27) rfl (fun (hb7 : (decide (en ≥ (sg.getD k Sg.zero).a)) = true) => ?_) (fun (hb7 : (decide (en ≥ (sg.getD k Sg.zero).a)) = false) => ?_)
      ·
        have hc7 := of_decide_eq_true hb7
        refine WL.yes rfl rfl rfl hb7 rfl (op_fieldAddr rfl Fa.F59_1 ?_)
        refine WL.yes rfl rfl rfl hb7 rfl (op_load rfl (H5.cell (i := 0) rfl rfl) Try.underlying22 rfl ?_)
        refine WL.yes rfl rfl rfl hb7 rfl (op_convU32U64 (hs := Try.underlying22) (hd := Try.underlying116) rfl ?_)
        refine WL.yes rfl rfl rfl hb7 rfl (op_addU64 (b := 8) rfl rfl ?_)
        refine WL.yes rfl rfl rfl hb7 rfl (op_fieldAddr rfl Fa.F111_0 ?_)
        refine WL.yes rfl rfl rfl hb7 rfl (op_load rfl (H5.cell (i := 1) rfl rfl) Try.underlying22 rfl ?_)
        refine WL.yes rfl rfl rfl hb7 rfl (op_convU32U64 (hs := Try.underlying22) (hd := Try.underlying116) rfl ?_)
        refine WL.yes rfl rfl rfl hb7 rfl (op_fieldAddr rfl Fa.F111_2 ?_)
        refine WL.yes rfl rfl rfl hb7 rfl (op_load rfl (H5.cell (i := 1) rfl rfl) Try.underlying9 rfl ?_)
        refine WL.yes rfl rfl rfl hb7 rfl (op_lenStr Try.underlying9 rfl ?_)
        refine WL.yes rfl rfl rfl hb7 rfl (op_convNU64 (hs := Try.underlying3) (hd := Try.underlying116) rfl ?_)
        refine WL.yes rfl rfl rfl hb7 rfl (op_addU64 rfl rfl ?_)
        refine WL.yes rfl rfl rfl hb7 rfl (op_leqU64 rfl rfl ?_)
        refine WL.op rfl rfl (op_pickT rfl hb7 rfl ?_)
        refine WL.nil ?_
        refine WQ.next ?_
        refine WC.cond rfl (fun (hb8 : (decide (((UInt64.ofNat en.toNat) + (8 : UInt64)) ≤ ((UInt64.ofNat (sg.getD k Sg.zero).a.toNat) + (UInt64.ofNat (sg.getD k Sg.zero).b.length)))) = true) => ?_) (fun (hb8 : (decide (((UInt64.ofNat en.toNat) + (8 : UInt64)) ≤ ((UInt64.ofNat (sg.getD k Sg.zero).a.toNat) + (UInt64.ofNat (sg.getD k Sg.zero).b.length)))) = false) => ?_)
        ·
          have hc8 := of_decide_eq_true hb8
          refine WC.seq ?_
          refine WC.region ?_
          refine WL.op rfl rfl (op_fieldAddr rfl Fa.F59_1 ?_)
          refine WL.op rfl rfl (op_load rfl (H5.cell (i := 0) rfl rfl) Try.underlying22 rfl ?_)
          refine WL.op rfl rfl (op_remU32 (b := 8) rfl rfl (by decide) ?_)
          refine WL.op rfl rfl (op_eqlU32 (b := 0) rfl rfl ?_)
          refine WL.op rfl rfl (op_assign rfl ?_)
          refine WL.nil ?_
          refine WQ.next ?_
          refine WC.ret ?_
          refine WQ.inRet ?_
          refine WQ.thenRet ?_
          refine WQ.thenRet ?_
          refine WQ.inRet ?_
          refine WQ.thenRet ?_
          refine WQ.out (.tmp rfl .nil) ?_
          exact ⟨by rw [entB, any_yes (d := Sg.zero) (k := k) (by omega) (by (rw [hitB, sgEnd, hb6, hb7, hb8]) <;> rfl)]; rfl, H5.fr⟩
        ·
          have hc8 := of_decide_eq_false hb8
          refine WC.skip ?_
          refine WQ.inNormal ?_
          refine WQ.next ?_
          refine WC.region ?_
          refine WL.op rfl rfl (op_move rfl ?_)
          refine WL.op rfl rfl (op_addN (b := 1) rfl rfl (by omega) ?_)
          refine WL.op rfl rfl (op_assign rfl ?_)
          refine WL.nil ?_
          exact WQ.round (k + 1) ⟨⟨by omega, allPrev hok (by (rw [hitB, sgEnd, hb6, hb7, hb8]) <;> rfl)⟩, (H5.take 1)⟩ ⟨rfl, rfl, trivial⟩ (by omega)
      ·
        have hc7 := of_decide_eq_false hb7
        refine WL.no rfl rfl rfl hb7 rfl ?_
        refine WL.no rfl rfl rfl hb7 rfl ?_
        refine WL.no rfl rfl rfl hb7 rfl ?_
        refine WL.no rfl rfl rfl hb7 rfl ?_
        refine WL.no rfl rfl rfl hb7 rfl ?_
        refine WL.no rfl rfl rfl hb7 rfl ?_
        refine WL.no rfl rfl rfl hb7 rfl ?_
        refine WL.no rfl rfl rfl hb7 rfl ?_
        refine WL.no rfl rfl rfl hb7 rfl ?_
        refine WL.no rfl rfl rfl hb7 rfl ?_
        refine WL.no rfl rfl rfl hb7 rfl ?_
        refine WL.no rfl rfl rfl hb7 rfl ?_
        refine WL.no rfl rfl rfl hb7 rfl ?_
        refine WL.op rfl rfl (op_pickF rfl hb7 rfl ?_)
        refine WL.nil ?_
        refine WQ.next ?_
        refine WC.no rfl rfl ?_
        refine WC.skip ?_
        refine WQ.inNormal ?_
        refine WQ.next ?_
        refine WC.region ?_
        refine WL.op rfl rfl (op_move rfl ?_)
        refine WL.op rfl rfl (op_addN (b := 1) rfl rfl (by omega) ?_)
        refine WL.op rfl rfl (op_assign rfl ?_)
        refine WL.nil ?_
        exact WQ.round (k + 1) ⟨⟨by omega, allPrev hok (by (rw [hitB, sgEnd, hb6, hb7]) <;> rfl)⟩, (H5.take 1)⟩ ⟨rfl, rfl, trivial⟩ (by omega)
    ·
      have hc6 := of_decide_eq_false hb6
      refine WL.no rfl rfl rfl hb6 rfl ?_
      refine WL.no rfl rfl rfl hb6 rfl ?_
      refine WL.no rfl rfl rfl hb6 rfl ?_
      refine WL.no rfl rfl rfl hb6 rfl ?_
      refine WL.no rfl rfl rfl hb6 rfl ?_
      refine WL.op rfl rfl (op_pickF rfl hb6 rfl ?_)
      refine WL.op rfl rfl (op_move rfl ?_)
      refine WL.no rfl rfl rfl rfl rfl ?_
      refine WL.no rfl rfl rfl rfl rfl ?_
      refine WL.no rfl rfl rfl rfl rfl ?_
      refine WL.no rfl rfl rfl rfl rfl ?_
      refine WL.no rfl rfl rfl rfl rfl ?_
      refine WL.no rfl rfl rfl rfl rfl ?_
      refine WL.no rfl rfl rfl rfl rfl ?_
      refine WL.no rfl rfl rfl rfl rfl ?_
      refine WL.no rfl rfl rfl rfl rfl ?_
      refine WL.no rfl rfl rfl rfl rfl ?_
      refine WL.no rfl rfl rfl rfl rfl ?_
      refine WL.no rfl rfl rfl rfl rfl ?_
      refine WL.no rfl rfl rfl rfl rfl ?_
      refine WL.op rfl rfl (op_pickF rfl rfl rfl ?_)
      refine WL.nil ?_
      refine WQ.next ?_
      refine WC.no rfl rfl ?_
      refine WC.skip ?_
      refine WQ.inNormal ?_
      refine WQ.next ?_
      refine WC.region ?_
      refine WL.op rfl rfl (op_move rfl ?_)
      refine WL.op rfl rfl (op_addN (b := 1) rfl rfl (by omega) ?_)
      refine WL.op rfl rfl (op_assign rfl ?_)
      refine WL.nil ?_
      exact WQ.round (k + 1) ⟨⟨by omega, allPrev hok (by (rw [hitB, sgEnd, hb6]) <;> rfl)⟩, (H5.take 1)⟩ ⟨rfl, rfl, trivial⟩ (by omega)
  ·
    have hc3 := of_decide_eq_false hb3
    refine WC.exit ?_
    refine WQ.thenExit ?_
    refine WQ.thenExit ?_
    refine WQ.inHere ?_
    refine WQ.next ?_
    refine WC.seq ?_
    refine WC.region ?_
    refine WL.op rfl rfl (op_assign rfl ?_)
    refine WL.nil ?_
    refine WQ.next ?_
    refine WC.ret ?_
    refine WQ.out (.tmp rfl .nil) ?_
    exact ⟨by rw [entB, any_no (d := Sg.zero) (fun j hj => hok j (by omega))]; rfl, H2.fr⟩
set_option maxRecDepth 100000 in
theorem rmay16_ok (pg : UInt32) (ev pv sv : Value) (xs : List Xt) (ps : List UInt16) (con : Bool) (en : UInt32) (sg : List Sg) (w : World) (hE : Arr w ev 2 xs.length (List.flatMap xtc xs)) (hP : Arr w pv 1 ps.length (List.map vU16 ps)) (hS : Arr w sv 3 sg.length (List.flatMap sgc sg)) (hn : xs.length < 2 ^ 47) (hm : ps.length < 2 ^ 47) (hk : sg.length < 2 ^ 47) (hB : ∀ x ∈ sg, x.b.length ≤ 2 ^ 30) :
    Calls Try.prog 47 #[(.agg #[(vU32 pg), ev, pv, (.bool con), (vU32 en), sv])] w (fun e w' => e = .returned (.bool (rMay pg xs ps en sg)) ∧ Fr [] w w') := by
  refine enter (args := [(.agg #[(vU32 pg), ev, pv, (.bool con), (vU32 en), sv])]) Try.func47 rfl rfl ?_
  have H0 : Own [] w w [] := Own.start w []
  refine WC.seq ?_
  refine WC.region ?_
  refine WL.op rfl rfl (op_box H0 rfl rfl (fun b1 w1 H1 => ?_))
  refine WL.op rfl rfl (op_assign rfl ?_)
  refine WL.nil ?_
  refine WQ.next ?_
  refine WC.seq ?_
  refine WC.region ?_
  refine WL.op rfl rfl (op_assign rfl ?_)
  refine WL.nil ?_
  refine WQ.next ?_
  refine WC.seq ?_
  refine WC.seq ?_
  refine WC.region ?_
  refine WL.op rfl rfl (op_assign rfl ?_)
  refine WL.nil ?_
  refine WQ.next ?_
  refine WC.block ?_
  refine WC.loop (α := Nat) (fun k => [(1, (ptr b1 0)), (3, (vI (lastTo sg k))), (4, (vN k))]) (fun k w' => (k ≤ sg.length ∧ (∀ j, j < k → stepB sg j = true)) ∧ Own [] w w' [.blk b1 [(vU32 pg), ev, pv, (.bool con), (vU32 en), sv] 59]) (fun k => sg.length - k) 0 ⟨⟨Nat.zero_le _, fun j h => by omega⟩, H1⟩ ⟨rfl, rfl, rfl, trivial⟩ ?_
  rintro k w2 ⟨⟨hk1, hok⟩, H2⟩
  show WC _ _ _ _ _ [(1, (ptr b1 0)), (3, (vI (lastTo sg k))), (4, (vN k))] _
  refine WC.seq ?_
  refine WC.seq ?_
  refine WC.region ?_
  refine WL.op rfl rfl (op_move rfl ?_)
  refine WL.op rfl rfl (op_fieldAddr rfl Fa.F59_2 ?_)
  refine WL.op rfl rfl (op_load rfl (H2.cell (i := 0) rfl rfl) Try.underlying57 rfl ?_)
  refine WL.op rfl rfl (op_lenA Try.underlying57 rfl (H2.arr hS) ?_)
  refine WL.op rfl rfl (op_lssN rfl rfl ?_)
  refine WL.nil ?_
  refine WQ.next ?_
  refine WC.cond rfl (fun (hb3 : (decide (k < sg.length)) = true) => ?_) (fun (hb3 : (decide (k < sg.length)) = false) => ?_)
  ·
    have hc3 := of_decide_eq_true hb3
    refine WC.skip ?_
    refine WQ.next ?_
    refine WC.seq ?_
    refine WC.block ?_
    refine WC.seq ?_
    refine WC.seq ?_
    refine WC.region ?_
    refine WL.op rfl rfl (op_fieldAddr rfl Fa.F59_2 ?_)
    refine WL.op rfl rfl (op_load rfl (H2.cell (i := 0) rfl rfl) Try.underlying57 rfl ?_)
    refine WL.op rfl rfl (op_move rfl ?_)
    refine WL.op rfl rfl (op_indexAddr Try.underlying57 Fa.I111 rfl (H2.arr hS) rfl (by omega) ?_)
    refine WL.op rfl rfl (op_loadSP (vs := sgc (sg.getD k Sg.zero)) rfl (Arr.atsF (H2.arr hS) (fun _ => rfl) (by decide) Sg.zero (by omega)) Try.underlying111 rfl Fa.I111 rfl ?_)
    refine WL.op rfl rfl (op_callF Fa.C92 rfl ((segb_ok (sg.getD k Sg.zero) _ (by have := getS_mem hB k; omega)).mono (fun e w4 hq => ?_)))
    obtain ⟨rfl, hf4⟩ := hq
    refine ⟨_, rfl, ?_⟩
    have H4 := H2.fr' hf4
    refine WL.op rfl rfl (op_not rfl ?_)
    refine WL.op rfl rfl (op_move rfl ?_)
    refine WL.split (t := 20) rfl (fun (hb5 : (!(segB (sg.getD k Sg.zero))) = true) => ?_) (fun (hb5 : (!(segB (sg.getD k Sg.zero))) = false) => ?_)
    ·
      have hn5 := (Bool.not_eq_true' _).mp hb5
      refine WL.no rfl rfl rfl hb5 rfl ?_
      refine WL.no rfl rfl rfl hb5 rfl ?_
      refine WL.no rfl rfl rfl hb5 rfl ?_
      refine WL.no rfl rfl rfl hb5 rfl ?_
      refine WL.no rfl rfl rfl hb5 rfl ?_
      refine WL.no rfl rfl rfl hb5 rfl ?_
      refine WL.no rfl rfl rfl hb5 rfl ?_
      refine WL.no rfl rfl rfl hb5 rfl ?_
      refine WL.no rfl rfl rfl hb5 rfl ?_
      refine WL.op rfl rfl (op_pickT rfl hb5 rfl ?_)
      refine WL.nil ?_
      refine WQ.next ?_
      refine WC.yes rfl rfl ?_
      refine WC.seq ?_
      refine WC.region ?_
      refine WL.op rfl rfl (op_assign rfl ?_)
      refine WL.nil ?_
      refine WQ.next ?_
      refine WC.ret ?_
      refine WQ.thenRet ?_
      refine WQ.inRet ?_
      refine WQ.thenRet ?_
      refine WQ.thenRet ?_
      refine WQ.inRet ?_
      refine WQ.thenRet ?_
      refine WQ.out (.tmp rfl .nil) ?_
      exact ⟨by rw [rMay_no (k := k) (by omega) (by (rw [stepB, hn5]) <;> rfl)]; rfl, H4.fr⟩
    ·
      have hn5 := (Bool.not_eq_false' _).mp hb5
      refine WL.yes rfl rfl rfl hb5 rfl (op_fieldAddr rfl Fa.F59_2 ?_)
      refine WL.yes rfl rfl rfl hb5 rfl (op_load rfl (H4.cell (i := 0) rfl rfl) Try.underlying57 rfl ?_)
      refine WL.yes rfl rfl rfl hb5 rfl (op_move rfl ?_)
      refine WL.yes rfl rfl rfl hb5 rfl (op_indexAddr Try.underlying57 Fa.I111 rfl (H4.arr hS) rfl (by omega) ?_)
      refine WL.yes rfl rfl rfl hb5 rfl (op_fieldAddrS rfl Fa.F111_0 ?_)
      refine WL.yes rfl rfl rfl hb5 rfl (op_load rfl (Arr.atF (k := 0) (H4.arr hS) (fun _ => rfl) (by decide) Sg.zero (by omega) rfl) Try.underlying22 rfl ?_)
      refine WL.yes rfl rfl rfl hb5 rfl (op_convU32N (hs := Try.underlying22) (hd := Try.underlying3) rfl ?_)
      refine WL.yes rfl rfl rfl hb5 rfl (op_move rfl ?_)
      refine WL.yes rfl rfl rfl hb5 rfl (op_leqI rfl rfl ?_)
      refine WL.op rfl rfl (op_pickF rfl hb5 rfl ?_)
      refine WL.nil ?_
      refine WQ.next ?_
      refine WC.cond rfl (fun (hb6 : (decide (((sg.getD k Sg.zero).a.toNat : Int) ≤ (lastTo sg k))) = true) => ?_) (fun (hb6 : (decide (((sg.getD k Sg.zero).a.toNat : Int) ≤ (lastTo sg k))) = false) => ?_)
      ·
        have hc6 := of_decide_eq_true hb6
        refine WC.seq ?_
        refine WC.region ?_
        refine WL.op rfl rfl (op_assign rfl ?_)
        refine WL.nil ?_
        refine WQ.next ?_
        refine WC.ret ?_
        refine WQ.thenRet ?_
        refine WQ.inRet ?_
        refine WQ.thenRet ?_
        refine WQ.thenRet ?_
        refine WQ.inRet ?_
        refine WQ.thenRet ?_
        refine WQ.out (.tmp rfl .nil) ?_
        exact ⟨by rw [rMay_no (k := k) (by omega) (by (rw [stepB, hn5, hb6]) <;> rfl)]; rfl, H4.fr⟩
      ·
        have hc6 := of_decide_eq_false hb6
        have hstp : stepB sg k = true := by (rw [stepB, hn5, hb6]) <;> rfl
        have hsg := segB_len (x := sg.getD k Sg.zero) (by simpa using hn5)
        have hgb := getS_mem hB k
        have hpg : pgN (sg.getD k Sg.zero) = ((sg.getD k Sg.zero).b.length + 255) / 256 := rfl
        refine WC.skip ?_
        refine WQ.next ?_
        refine WC.seq ?_
        refine WC.region ?_
        refine WL.op rfl rfl (op_fieldAddr rfl Fa.F59_2 ?_)
        refine WL.op rfl rfl (op_load rfl (H4.cell (i := 0) rfl rfl) Try.underlying57 rfl ?_)
        refine WL.op rfl rfl (op_move rfl ?_)
        refine WL.op rfl rfl (op_indexAddr Try.underlying57 Fa.I111 rfl (H4.arr hS) rfl (by omega) ?_)
        refine WL.op rfl rfl (op_loadSP (vs := sgc (sg.getD k Sg.zero)) rfl (Arr.atsF (H4.arr hS) (fun _ => rfl) (by decide) Sg.zero (by omega)) Try.underlying111 rfl Fa.I111 rfl ?_)
        refine WL.op rfl rfl (op_callF Fa.C91 rfl ((rpages_ok (sg.getD k Sg.zero) _ (by have := getS_mem hB k; omega)).mono (fun e w7 hq => ?_)))
        obtain ⟨v7, rfl, hq7⟩ := hq
        refine ⟨_, rfl, ?_⟩
        have H7 : Own [] w w7 [.blk b1 [(vU32 pg), ev, pv, (.bool con), (vU32 en), sv] 59, .row v7 22 1 (pgN (sg.getD k Sg.zero)) (List.map vU32 (pgL (sg.getD k Sg.zero) (pgN (sg.getD k Sg.zero))))] := H4.splice [] [] [.row v7 22 1 (pgN (sg.getD k Sg.zero)) (List.map vU32 (pgL (sg.getD k Sg.zero) (pgN (sg.getD k Sg.zero))))] rfl rfl hq7 (Fits.solid True.intro Fits.nil)
        refine WL.op rfl rfl (op_assign rfl ?_)
        refine WL.nil ?_
        refine WQ.next ?_
        refine WC.region ?_
        refine WL.op rfl rfl (op_move rfl ?_)
        refine WL.op rfl rfl (op_move rfl ?_)
        refine WL.op rfl rfl (op_lenA Try.underlying64 rfl (H7.arrR (i := 1) rfl) ?_)
        refine WL.op rfl rfl (op_subN (b := 1) rfl rfl (by omega) (by omega) ?_)
        refine WL.op rfl rfl (op_indexAddr1 Try.underlying64 Fa.I22 rfl (H7.arrR (i := 1) rfl) rfl (by omega) ?_)
        refine WL.op rfl rfl (op_load rfl ((H7.arrR (i := 1) rfl).at (get_map vU32 0 (Arr.ltM (H7.arrR (i := 1) rfl) (by omega)))) Try.underlying22 rfl ?_)
        refine WL.op rfl rfl (op_convU32N (hs := Try.underlying22) (hd := Try.underlying3) rfl ?_)
        refine WL.op rfl rfl (op_assign rfl ?_)
        refine WL.nil ?_
        refine WQ.inNormal ?_
        refine WQ.next ?_
        refine WC.region ?_
        refine WL.op rfl rfl (op_move rfl ?_)
        refine WL.op rfl rfl (op_addN (b := 1) rfl rfl (by omega) ?_)
        refine WL.op rfl rfl (op_assign rfl ?_)
        refine WL.nil ?_
        exact WQ.round (k + 1) ⟨⟨by omega, allPrev hok hstp⟩, (H7.take 1)⟩ ⟨rfl, rfl, rfl, trivial⟩ (by omega)
  ·
    have hc3 := of_decide_eq_false hb3
    refine WC.exit ?_
    refine WQ.thenExit ?_
    refine WQ.thenExit ?_
    refine WQ.inHere ?_
    refine WQ.next ?_
    refine WC.seq ?_
    refine WC.region ?_
    refine WL.op rfl rfl (op_fieldAddr rfl Fa.F59_0 ?_)
    refine WL.op rfl rfl (op_loadS (vs := [_, _, _, _]) rfl (H2.cells (i := 0) rfl rfl) Try.underlying56 rfl Fa.I56 rfl ?_)
    refine WL.op rfl rfl (op_callF Fa.C93 rfl ((rmay11_ok pg _ _ xs ps con _ (H2.arr hE) (H2.arr hP) (by omega) (by omega)).mono (fun e w8 hq => ?_)))
    obtain ⟨rfl, hf8⟩ := hq
    refine ⟨_, rfl, ?_⟩
    have H8 := H2.fr' hf8
    refine WL.op rfl rfl (op_move rfl ?_)
    refine WL.split (t := 47) rfl (fun (hb9 : (mfMay pg xs ps) = true) => ?_) (fun (hb9 : (mfMay pg xs ps) = false) => ?_)
    ·
      refine WL.yes rfl rfl rfl hb9 rfl (op_fieldAddr rfl Fa.F59_2 ?_)
      refine WL.yes rfl rfl rfl hb9 rfl (op_load rfl (H8.cell (i := 0) rfl rfl) Try.underlying57 rfl ?_)
      refine WL.yes rfl rfl rfl hb9 rfl (op_lenA Try.underlying57 rfl (H8.arr hS) ?_)
      refine WL.yes rfl rfl rfl hb9 rfl (op_geqN (b := 1) rfl rfl ?_)
      refine WL.op rfl rfl (op_pickT rfl hb9 rfl ?_)
      refine WL.op rfl rfl (op_move rfl ?_)
      refine WL.split (t := 53) rfl (fun (hb10 : (decide (sg.length ≥ 1)) = true) => ?_) (fun (hb10 : (decide (sg.length ≥ 1)) = false) => ?_)
      ·
        have hc10 := of_decide_eq_true hb10
        refine WL.yes rfl rfl rfl hb10 rfl (op_fieldAddr rfl Fa.F59_2 ?_)
        refine WL.yes rfl rfl rfl hb10 rfl (op_load rfl (H8.cell (i := 0) rfl rfl) Try.underlying57 rfl ?_)
        refine WL.yes rfl rfl rfl hb10 rfl (op_lenA Try.underlying57 rfl (H8.arr hS) ?_)
        refine WL.yes rfl rfl rfl hb10 rfl (op_leqN (b := 8) rfl rfl ?_)
        refine WL.op rfl rfl (op_pickT rfl hb10 rfl ?_)
        refine WL.op rfl rfl (op_move rfl ?_)
        refine WL.split (t := 59) rfl (fun (hb11 : (decide (sg.length ≤ 8)) = true) => ?_) (fun (hb11 : (decide (sg.length ≤ 8)) = false) => ?_)
        ·
          have hc11 := of_decide_eq_true hb11
          refine WL.yes rfl rfl rfl hb11 rfl (op_loadS (vs := [_, _, _, _, _, _]) rfl (H8.cells (i := 0) rfl rfl) Try.underlying59 rfl Fa.I59 rfl ?_)
          refine WL.yes rfl rfl rfl hb11 rfl (op_callF Fa.C94 rfl ((entb_ok pg _ _ _ xs ps con en sg _ (H8.arr hE) (H8.arr hP) (H8.arr hS) (by omega) (by omega) (by omega)).mono (fun e w12 hq => ?_)))
          obtain ⟨rfl, hf12⟩ := hq
          refine ⟨_, rfl, ?_⟩
          have H12 := H8.fr' hf12
          refine WL.op rfl rfl (op_pickT rfl hb11 rfl ?_)
          refine WL.op rfl rfl (op_assign rfl ?_)
          refine WL.nil ?_
          refine WQ.next ?_
          refine WC.ret ?_
          refine WQ.out (.tmp rfl .nil) ?_
          exact ⟨by (rw [rMay_end (fun j hj => hok j (by omega)), hb9, hb10, hb11]) <;> rfl, H12.fr⟩
        ·
          have hc11 := of_decide_eq_false hb11
          refine WL.no rfl rfl rfl hb11 rfl ?_
          refine WL.no rfl rfl rfl hb11 rfl ?_
          refine WL.op rfl rfl (op_pickF rfl hb11 rfl ?_)
          refine WL.op rfl rfl (op_assign rfl ?_)
          refine WL.nil ?_
          refine WQ.next ?_
          refine WC.ret ?_
          refine WQ.out (.tmp rfl .nil) ?_
          exact ⟨by (rw [rMay_end (fun j hj => hok j (by omega)), hb9, hb10, hb11]) <;> rfl, H8.fr⟩
      ·
        have hc10 := of_decide_eq_false hb10
        refine WL.no rfl rfl rfl hb10 rfl ?_
        refine WL.no rfl rfl rfl hb10 rfl ?_
        refine WL.no rfl rfl rfl hb10 rfl ?_
        refine WL.no rfl rfl rfl hb10 rfl ?_
        refine WL.op rfl rfl (op_pickF rfl hb10 rfl ?_)
        refine WL.op rfl rfl (op_move rfl ?_)
        refine WL.no rfl rfl rfl rfl rfl ?_
        refine WL.no rfl rfl rfl rfl rfl ?_
        refine WL.op rfl rfl (op_pickF rfl rfl rfl ?_)
        refine WL.op rfl rfl (op_assign rfl ?_)
        refine WL.nil ?_
        refine WQ.next ?_
        refine WC.ret ?_
        refine WQ.out (.tmp rfl .nil) ?_
        exact ⟨by (rw [rMay_end (fun j hj => hok j (by omega)), hb9, hb10]) <;> rfl, H8.fr⟩
    ·
      refine WL.no rfl rfl rfl hb9 rfl ?_
      refine WL.no rfl rfl rfl hb9 rfl ?_
      refine WL.no rfl rfl rfl hb9 rfl ?_
      refine WL.no rfl rfl rfl hb9 rfl ?_
      refine WL.op rfl rfl (op_pickF rfl hb9 rfl ?_)
      refine WL.op rfl rfl (op_move rfl ?_)
      refine WL.no rfl rfl rfl rfl rfl ?_
      refine WL.no rfl rfl rfl rfl rfl ?_
      refine WL.no rfl rfl rfl rfl rfl ?_
      refine WL.no rfl rfl rfl rfl rfl ?_
      refine WL.op rfl rfl (op_pickF rfl rfl rfl ?_)
      refine WL.op rfl rfl (op_move rfl ?_)
      refine WL.no rfl rfl rfl rfl rfl ?_
      refine WL.no rfl rfl rfl rfl rfl ?_
      refine WL.op rfl rfl (op_pickF rfl rfl rfl ?_)
      refine WL.op rfl rfl (op_assign rfl ?_)
      refine WL.nil ?_
      refine WQ.next ?_
      refine WC.ret ?_
      refine WQ.out (.tmp rfl .nil) ?_
      exact ⟨by (rw [rMay_end (fun j hj => hok j (by omega)), hb9]) <;> rfl, H8.fr⟩
end Go.Proofs.Ytpnghdalnghpcaa
/-! from WImg7 -/
namespace Go.Proofs.Ytpnghdalnghpcaa
open Go.Owl Go.Spec
set_option maxRecDepth 100000 in
theorem rnum16_ok (v : UInt32) (n : Int) (w : World) :
    Calls Try.prog 95 #[(vU32 v), (vI n)] w (fun e w' => e = .returned (str (numS v n)) ∧ Fr [] w w') := by
  refine enter (args := [(vU32 v), (vI n)]) Try.func95 rfl rfl ?_
  have H0 : Own [] w w [] := Own.start w []
  refine WC.seq ?_
  refine WC.region ?_
  refine WL.op rfl rfl (op_assign rfl ?_)
  refine WL.nil ?_
  refine WQ.next ?_
  refine WC.seq ?_
  refine WC.region ?_
  refine WL.op rfl rfl (op_move rfl ?_)
  refine WL.op rfl rfl (op_move rfl ?_)
  refine WL.op rfl rfl (op_callF Fa.C18 rfl ((rnum_ok v (n) _).mono (fun e w1 hq => ?_)))
  obtain ⟨rfl, hf1⟩ := hq
  refine ⟨_, rfl, ?_⟩
  have H1 := H0.fr' hf1
  refine WL.op rfl rfl (op_move rfl ?_)
  refine WL.op rfl rfl (op_extract rfl rfl ?_)
  refine WL.op rfl rfl (op_extract rfl rfl ?_)
  refine WL.op rfl rfl (op_assign rfl ?_)
  refine WL.op rfl rfl (op_assign rfl ?_)
  refine WL.nil ?_
  refine WQ.next ?_
  refine WC.seq ?_
  refine WC.region ?_
  refine WL.op rfl rfl (op_move rfl ?_)
  refine WL.op rfl rfl (op_assign rfl ?_)
  refine WL.nil ?_
  refine WQ.next ?_
  refine WC.ret ?_
  refine WQ.out (.tmp rfl .nil) ?_
  exact ⟨rfl, H1.fr⟩
end Go.Proofs.Ytpnghdalnghpcaa
/-! from WImg8 -/
namespace Go.Proofs.Ytpnghdalnghpcaa
open Go.Owl Go.Spec
end Go.Proofs.Ytpnghdalnghpcaa
