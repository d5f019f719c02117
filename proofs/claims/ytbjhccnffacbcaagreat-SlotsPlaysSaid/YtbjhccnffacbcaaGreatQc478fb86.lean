/- General lemmas and walks: WSlot2, WSlot3, WSlot4, WSlot5, WSlot6. No condition but what each theorem names. -/
import Derived.Test.YtbjhccnffacbcaaGreatQe22db859
import Derived.Test.YtbjhccnffacbcaaGreatQ41cd5987
import Derived.Test.YtbjhccnffacbcaaGreatQ76ffd70d
import Derived.Test.YtbjhccnffacbcaaGreatQ54427b1e
/-! from WSlot2 -/
namespace Go.Proofs.YtbjhccnffacbcaaGreat
open Go.Owl Go.Spec
theorem rep0_ok (i : Int) (w : World) (h0 : 0 ≤ i) (hi : i ≤ 4096) :
    Calls Tryz.prog 152 #[str [0], vI i] w (fun e w' => e = .returned (str (List.replicate i.toNat 0)) ∧ Fr [] w w') := by
  obtain ⟨c, rfl⟩ : ∃ c : Nat, i = (c : Int) := ⟨i.toNat, by omega⟩
  refine (Tryz.strings_Repeat ⟨#[0]⟩ c w (by omega) (by show 1 * c ≤ _; omega)).mono (fun e w' h => ⟨?_, Fr.ofBelow h.2⟩)
  rw [h.1]
  have e : ∀ c, Lib.repeatL [(0 : UInt8)] c = List.replicate c 0 := by
    intro c
    induction c with
    | zero => rfl
    | succ c ih => rw [List.replicate_succ, ← ih]; rfl
  show Ending.returned (.string ⟨(Lib.repeatL [(0 : UInt8)] c).toArray⟩) = .returned (.string ⟨(List.replicate (c : Int).toNat 0).toArray⟩)
  rw [e]; rfl
set_option maxRecDepth 100000 in
theorem room_ok (s : Nat) (xv : Value) (id : UInt32) (key : List UInt8) (each : Nat) (left : Int) (w : World) (hS : cellsAt w s [xv, (vU32 id), (str key), (vN each), (vI left)]) (he : each < 2 ^ 40) :
    Calls Tryz.prog 15 #[(ptr s 0)] w (fun e w' => e = .returned (vN (each * 64)) ∧ Fr [] w w') := by
  refine enter (args := [(ptr s 0)]) Tryz.func15 rfl rfl ?_
  have H0 : Own [] w w [Ent.bo s [xv, (vU32 id), (str key), (vN each), (vI left)]] := ((Own.start w []).oldB hS)
  refine WC.seq ?_
  refine WC.region ?_
  refine WL.op rfl rfl (op_assign rfl ?_)
  refine WL.nil ?_
  refine WQ.next ?_
  refine WC.seq ?_
  refine WC.seq ?_
  refine WC.region ?_
  refine WL.op rfl rfl (op_move rfl ?_)
  refine WL.op rfl rfl (op_eqlPN Fa.PT24 rfl rfl ?_)
  refine WL.nil ?_
  refine WQ.next ?_
  refine WC.no rfl rfl ?_
  refine WC.skip ?_
  refine WQ.next ?_
  refine WC.seq ?_
  refine WC.region ?_
  refine WL.op rfl rfl (op_move rfl ?_)
  refine WL.op rfl rfl (op_nilCheck rfl ?_)
  refine WL.op rfl rfl (op_fieldAddr rfl Fa.F95_3 ?_)
  refine WL.op rfl rfl (op_load rfl (H0.cellO (i := 0) rfl rfl) Tryz.underlying3 rfl ?_)
  refine WL.op rfl rfl (op_mulN (b := 64) rfl rfl (by omega) ?_)
  refine WL.op rfl rfl (op_assign rfl ?_)
  refine WL.nil ?_
  refine WQ.next ?_
  refine WC.ret ?_
  refine WQ.out (.tmp rfl .nil) ?_
  exact ⟨rfl, H0.fr⟩
set_option maxRecDepth 100000 in
theorem fuse_ok (s : Nat) (xv : Value) (ox : xv.oneCell' = true) (id : UInt32) (key : List UInt8) (each : Nat) (left : Int) (n : Int) (T : List Nat) (w : World) (H : Own T w w [.blk s [xv, (vU32 id), (str key), (vN each), (vI left)] 95]) :
    Calls Tryz.prog 16 #[(ptr s 0), (vI n)] w (fun e w' => e = .returned (vN 0) ∧ Own T w w' [.blk s [xv, (vU32 id), (str key), (vN each), (vI (max n (-1)))] 95]) := by
  refine enter (args := [(ptr s 0), (vI n)]) Tryz.func16 rfl rfl ?_
  refine WC.seq ?_
  refine WC.region ?_
  refine WL.op rfl rfl (op_assign rfl ?_)
  refine WL.nil ?_
  refine WQ.next ?_
  refine WC.seq ?_
  refine WC.seq ?_
  refine WC.region ?_
  refine WL.op rfl rfl (op_move rfl ?_)
  refine WL.op rfl rfl (op_eqlPN Fa.PT24 rfl rfl ?_)
  refine WL.nil ?_
  refine WQ.next ?_
  refine WC.no rfl rfl ?_
  refine WC.skip ?_
  refine WQ.next ?_
  refine WC.seq ?_
  refine WC.region ?_
  refine WL.op rfl rfl (op_move rfl ?_)
  refine WL.op rfl rfl (op_move rfl ?_)
  refine WL.op rfl rfl (op_maxI (b := (-1)) rfl rfl ?_)
  refine WL.op rfl rfl (op_nilCheck rfl ?_)
  refine WL.op rfl rfl (op_fieldAddr rfl Fa.F95_4 ?_)
  refine WL.op rfl rfl (op_storeB (i := 0) H rfl rfl rfl rfl rfl Fa.I3 (fun w1 H1 => ?_))
  refine WL.nil ?_
  refine WQ.next ?_
  refine WC.seq ?_
  refine WC.region ?_
  refine WL.op rfl rfl (op_assign rfl ?_)
  refine WL.nil ?_
  refine WQ.next ?_
  refine WC.ret ?_
  refine WQ.out (.tmp rfl .nil) ?_
  exact ⟨rfl, H1⟩
set_option maxRecDepth 100000 in
theorem slfill_ok (t : List UInt8) (w : World) (ht : t.length < 2 ^ 40) :
    Calls Tryz.prog 111 #[(str t)] w (fun e w' => e = .returned (str (pad64 t)) ∧ Fr [] w w') := by
  refine enter (args := [(str t)]) Tryz.func111 rfl rfl ?_
  have H0 : Own [] w w [] := Own.start w []
  refine WC.seq ?_
  refine WC.region ?_
  refine WL.op rfl rfl (op_assign rfl ?_)
  refine WL.nil ?_
  refine WQ.next ?_
  refine WC.seq ?_
  refine WC.region ?_
  refine WL.op rfl rfl (op_move rfl ?_)
  refine WL.op rfl rfl (op_move rfl ?_)
  refine WL.op rfl rfl (op_lenStr Tryz.underlying9 rfl ?_)
  refine WL.op rfl rfl (op_subI (a := ((64 : Nat) : Int)) (b := ((t.length : Nat) : Int)) rfl rfl (by omega) ?_)
  refine WL.op rfl rfl (op_maxI (a := (0 : Int)) rfl rfl ?_)
  refine WL.op rfl rfl (op_callF Fa.C152 rfl ((rep0_ok (max (0 : Int) (((64 : Nat) : Int) - ((t.length : Nat) : Int))) _ (by show (0 : Int) ≤ max _ _; omega) (by show max _ _ ≤ (4096 : Int); omega)).mono (fun e w1 hq => ?_)))
  obtain ⟨rfl, hf1⟩ := hq
  refine ⟨_, rfl, ?_⟩
  have H1 := H0.fr' hf1
  refine WL.op rfl rfl (op_addStr rfl rfl (by rw [List.length_replicate]; omega) ?_)
  refine WL.op rfl rfl (op_assign rfl ?_)
  refine WL.nil ?_
  refine WQ.next ?_
  refine WC.ret ?_
  refine WQ.out (.tmp rfl .nil) ?_
  exact ⟨by rw [pad64, show (max (0 : Int) (((64 : Nat) : Int) - ((t.length : Nat) : Int))).toNat = 64 - t.length by show (max _ _ : Int).toNat = _; omega]; rfl, H1.fr⟩
set_option maxRecDepth 100000 in
theorem num8_ok (v z : UInt32) (w : World) :
    Calls Tryz.prog 110 #[(vU32 v), (vU32 z)] w (fun e w' => e = .returned (str (num8 v z)) ∧ Fr [] w w') := by
  refine enter (args := [(vU32 v), (vU32 z)]) Tryz.func110 rfl rfl ?_
  have H0 : Own [] w w [] := Own.start w []
  refine WC.seq ?_
  refine WC.region ?_
  refine WL.op rfl rfl (op_assign rfl ?_)
  refine WL.nil ?_
  refine WQ.next ?_
  refine WC.seq ?_
  refine WC.region ?_
  refine WL.op rfl rfl (op_move rfl ?_)
  refine WL.op rfl rfl (op_callF Fa.C151 rfl ((put4_ok (v) _).mono (fun e w1 hq => ?_)))
  obtain ⟨rfl, hf1⟩ := hq
  refine ⟨_, rfl, ?_⟩
  have H1 := H0.fr' hf1
  refine WL.op rfl rfl (op_move rfl ?_)
  refine WL.op rfl rfl (op_extract rfl rfl ?_)
  refine WL.op rfl rfl (op_extract rfl rfl ?_)
  refine WL.op rfl rfl (op_assign rfl ?_)
  refine WL.op rfl rfl (op_assign rfl ?_)
  refine WL.nil ?_
  refine WQ.next ?_
  refine WC.seq ?_
  refine WC.region ?_
  refine WL.op rfl rfl (op_move rfl ?_)
  refine WL.op rfl rfl (op_callF Fa.C151 rfl ((put4_ok (z) _).mono (fun e w2 hq => ?_)))
  obtain ⟨rfl, hf2⟩ := hq
  refine ⟨_, rfl, ?_⟩
  have H2 := H1.fr' hf2
  refine WL.op rfl rfl (op_move rfl ?_)
  refine WL.op rfl rfl (op_extract rfl rfl ?_)
  refine WL.op rfl rfl (op_extract rfl rfl ?_)
  refine WL.op rfl rfl (op_assign rfl ?_)
  refine WL.op rfl rfl (op_assign rfl ?_)
  refine WL.nil ?_
  refine WQ.next ?_
  refine WC.seq ?_
  refine WC.region ?_
  refine WL.op rfl rfl (op_move rfl ?_)
  refine WL.op rfl rfl (op_move rfl ?_)
  refine WL.op rfl rfl (op_addStr rfl rfl (by rw [le4_length, le4_length]; decide) ?_)
  refine WL.op rfl rfl (op_assign rfl ?_)
  refine WL.nil ?_
  refine WQ.next ?_
  refine WC.ret ?_
  refine WQ.out (.tmp rfl .nil) ?_
  exact ⟨rfl, H2.fr⟩
set_option maxRecDepth 100000 in
theorem head_ok (s : Nat) (xv : Value) (id : UInt32) (key : List UInt8) (each : Nat) (left : Int) (v : UInt32) (t : List UInt8) (w : World) (hS : cellsAt w s [xv, (vU32 id), (str key), (vN each), (vI left)]) (hk : key.length < 2 ^ 40) (ht : t.length < 2 ^ 32) :
    Calls Tryz.prog 49 #[(ptr s 0), (vU32 v), (str t)] w (fun e w' => e = .returned (str (hdrS key v t)) ∧ Fr [] w w') := by
  refine enter (args := [(ptr s 0), (vU32 v), (str t)]) Tryz.func49 rfl rfl ?_
  have H0 : Own [] w w [Ent.bo s [xv, (vU32 id), (str key), (vN each), (vI left)]] := ((Own.start w []).oldB hS)
  refine WC.seq ?_
  refine WC.region ?_
  refine WL.op rfl rfl (op_assign rfl ?_)
  refine WL.nil ?_
  refine WQ.next ?_
  refine WC.seq ?_
  refine WC.region ?_
  refine WL.op rfl rfl (op_move rfl ?_)
  refine WL.op rfl rfl (op_move rfl ?_)
  refine WL.op rfl rfl (op_lenStr Tryz.underlying9 rfl ?_)
  refine WL.op rfl rfl (op_convNU32 (hs := Tryz.underlying3) (hd := Tryz.underlying22) rfl ?_)
  refine WL.op rfl rfl (op_callF Fa.C110 rfl ((num8_ok v (UInt32.ofNat t.length) _).mono (fun e w1 hq => ?_)))
  obtain ⟨rfl, hf1⟩ := hq
  refine ⟨_, rfl, ?_⟩
  have H1 := H0.fr' hf1
  refine WL.op rfl rfl (op_assign rfl ?_)
  refine WL.nil ?_
  refine WQ.next ?_
  refine WC.seq ?_
  refine WC.region ?_
  refine WL.op rfl rfl (op_move rfl ?_)
  refine WL.op rfl rfl (op_addStr rfl rfl (by simp only [List.length_append, num8_len, mac_length, List.length_cons, List.length_nil] <;> omega) ?_)
  refine WL.op rfl rfl (op_move rfl ?_)
  refine WL.op rfl rfl (op_nilCheck rfl ?_)
  refine WL.op rfl rfl (op_fieldAddr rfl Fa.F95_2 ?_)
  refine WL.op rfl rfl (op_load rfl (H1.cellO (i := 0) rfl rfl) Tryz.underlying9 rfl ?_)
  refine WL.op rfl rfl (op_move rfl ?_)
  refine WL.op rfl rfl (op_move rfl ?_)
  refine WL.op rfl rfl (op_addStr rfl rfl (by simp only [List.length_append, num8_len, mac_length, List.length_cons, List.length_nil] <;> omega) ?_)
  refine WL.op rfl rfl (op_callF Fa.C112 rfl ((msum_ok key ((num8 v (UInt32.ofNat t.length)) ++ t) _ hk (by simp only [List.length_append, num8_len, mac_length, List.length_cons, List.length_nil] <;> omega)).mono (fun e w2 hq => ?_)))
  obtain ⟨rfl, hf2⟩ := hq
  refine ⟨_, rfl, ?_⟩
  have H2 := H1.fr' hf2
  refine WL.op rfl rfl (op_addStr rfl rfl (by simp only [List.length_append, num8_len, mac_length, List.length_cons, List.length_nil] <;> omega) ?_)
  refine WL.op rfl rfl (op_callF Fa.C111 rfl ((slfill_ok (([65, 83, 76, 49] ++ (num8 v (UInt32.ofNat t.length))) ++ (mac key ((num8 v (UInt32.ofNat t.length)) ++ t))) _ (by simp only [List.length_append, num8_len, mac_length, List.length_cons, List.length_nil] <;> omega)).mono (fun e w3 hq => ?_)))
  obtain ⟨rfl, hf3⟩ := hq
  refine ⟨_, rfl, ?_⟩
  have H3 := H2.fr' hf3
  refine WL.op rfl rfl (op_assign rfl ?_)
  refine WL.nil ?_
  refine WQ.next ?_
  refine WC.ret ?_
  refine WQ.out (.tmp rfl .nil) ?_
  exact ⟨rfl, H3.fr⟩
set_option maxRecDepth 100000 in
theorem pick_ok (s : Nat) (xv : Value) (id : UInt32) (key : List UInt8) (each : Nat) (left : Int) (q : Nat) (hd all : List UInt8) (v z : UInt32) (w : World) (hS : cellsAt w s [xv, (vU32 id), (str key), (vN each), (vI left)]) (hk : key.length < 2 ^ 40) (ha : all.length < 2 ^ 32) :
    Calls Tryz.prog 108 #[(.agg #[(ptr s 0), (vN q)]), (vU32 v), (vU32 z), (str hd), (str all)] w (fun e w' => e = .returned (.tuple #[vU32 (pickS key hd all v z).v, str (pickS key hd all v z).t, .bool (pickS key hd all v z).is]) ∧ Fr [] w w') := by
  refine enter (args := [(.agg #[(ptr s 0), (vN q)]), (vU32 v), (vU32 z), (str hd), (str all)]) Tryz.func108 rfl rfl ?_
  have H0 : Own [] w w [Ent.bo s [xv, (vU32 id), (str key), (vN each), (vI left)]] := ((Own.start w []).oldB hS)
  refine WC.seq ?_
  refine WC.region ?_
  refine WL.op rfl rfl (op_box H0 rfl rfl (fun b1 w1 H1 => ?_))
  refine WL.op rfl rfl (op_assign rfl ?_)
  refine WL.op rfl rfl (op_assign rfl ?_)
  refine WL.op rfl rfl (op_assign rfl ?_)
  refine WL.nil ?_
  refine WQ.next ?_
  refine WC.seq ?_
  refine WC.seq ?_
  refine bsplit (fun (hb2 : (decide (z > (UInt32.ofNat all.length))) = true) => ?_) (fun (hb2 : (decide (z > (UInt32.ofNat all.length))) = false) => ?_)
  ·
    have hc2 := of_decide_eq_true hb2
    refine WC.draw 16 Fa.M H1 (HW.op rfl (fun w1 H1 => op_move rfl ⟨rfl, Fr.refl _ _⟩) (HW.op rfl (fun w1 H1 => op_move rfl ⟨rfl, Fr.refl _ _⟩) (HW.op rfl (fun w1 H1 => op_lenStr Tryz.underlying9 rfl ⟨rfl, Fr.refl _ _⟩) (HW.op rfl (fun w1 H1 => op_convNU32 (hs := Tryz.underlying3) (hd := Tryz.underlying22) rfl ⟨rfl, Fr.refl _ _⟩) (HW.op rfl (fun w1 H1 => op_gtrU32 rfl rfl ⟨rfl, Fr.refl _ _⟩) (HW.op rfl (fun w1 H1 => op_move rfl ⟨rfl, Fr.refl _ _⟩) (HW.no rfl rfl rfl hb2 (HW.no rfl rfl rfl hb2 (HW.no rfl rfl rfl hb2 (HW.no rfl rfl rfl hb2 (HW.no rfl rfl rfl hb2 (HW.no rfl rfl rfl hb2 (HW.no rfl rfl rfl hb2 (HW.no rfl rfl rfl hb2 (HW.no rfl rfl rfl hb2 (HW.op rfl (fun w1 H1 => op_pickT rfl hb2 rfl ⟨rfl, Fr.refl _ _⟩)  HW.nil)))))))))))))))) (by kernel_rfl) ?_
    intro β3 w3 H3
    refine WL.nil ?_
    refine WQ.next ?_
    refine WC.yes rfl rfl ?_
    refine WC.seq ?_
    refine WC.region ?_
    refine WL.op rfl rfl (op_assign rfl ?_)
    refine WL.op rfl rfl (op_assign rfl ?_)
    refine WL.op rfl rfl (op_assign rfl ?_)
    refine WL.nil ?_
    refine WQ.next ?_
    refine WC.ret ?_
    refine WQ.thenRet ?_
    refine WQ.out (.tmp rfl (.tmp rfl (.tmp rfl .nil))) ?_
    exact ⟨by rw [pickS, if_pos (.inl (of_decide_eq_true hb2))]; rfl, H3.fr⟩
  ·
    have hc2 := of_decide_eq_false hb2
    have hzl := sl_le (of_decide_eq_false hb2) ha
    refine WC.draw 16 Fa.M H1 (HW.op rfl (fun w1 H1 => op_move rfl ⟨rfl, Fr.refl _ _⟩) (HW.op rfl (fun w1 H1 => op_move rfl ⟨rfl, Fr.refl _ _⟩) (HW.op rfl (fun w1 H1 => op_lenStr Tryz.underlying9 rfl ⟨rfl, Fr.refl _ _⟩) (HW.op rfl (fun w1 H1 => op_convNU32 (hs := Tryz.underlying3) (hd := Tryz.underlying22) rfl ⟨rfl, Fr.refl _ _⟩) (HW.op rfl (fun w1 H1 => op_gtrU32 rfl rfl ⟨rfl, Fr.refl _ _⟩) (HW.op rfl (fun w1 H1 => op_move rfl ⟨rfl, Fr.refl _ _⟩) (HW.yes rfl rfl rfl hb2 (fun w1 H1 => op_move rfl ⟨rfl, Fr.refl _ _⟩) (HW.yes rfl rfl rfl hb2 (fun w1 H1 => op_fieldAddr rfl Fa.F97_0 ⟨rfl, Fr.refl _ _⟩) (HW.yes rfl rfl rfl hb2 (fun w1 H1 => op_load rfl (H1.cell (i := 1) rfl rfl) Tryz.underlying24 rfl ⟨rfl, Fr.refl _ _⟩) (HW.yes rfl rfl rfl hb2 (fun w1 H1 => op_move rfl ⟨rfl, Fr.refl _ _⟩) (HW.yes rfl rfl rfl hb2 (fun w1 H1 => op_move rfl ⟨rfl, Fr.refl _ _⟩) (HW.yes rfl rfl rfl hb2 (fun w1 H1 => op_move rfl ⟨rfl, Fr.refl _ _⟩) (HW.yes rfl rfl rfl hb2 (fun w1 H1 => op_sliceStrHi Tryz.underlying9 rfl rfl (by omega) ⟨rfl, Fr.refl _ _⟩) (HW.yes rfl rfl rfl hb2 (fun w1 H1 => op_callF Fa.C49 rfl ((head_ok s xv id key each left v (all.take z.toNat) _ (H1.cellsAtO (i := 0) rfl) hk (by rw [List.length_take]; omega)).mono (fun e w2 hq => ⟨_, hq.1, rfl, hq.2⟩))) (HW.yes rfl rfl rfl hb2 (fun w1 H1 => op_neqStr rfl rfl ⟨rfl, Fr.refl _ _⟩) (HW.op rfl (fun w1 H1 => op_pickF rfl hb2 rfl ⟨rfl, Fr.refl _ _⟩)  HW.nil)))))))))))))))) (by kernel_rfl) ?_
    intro β5 w5 H5
    refine WL.nil ?_
    refine WQ.next ?_
    refine WC.cond rfl (fun (hb6 : (decide (hd ≠ (hdrS key v (all.take z.toNat)))) = true) => ?_) (fun (hb6 : (decide (hd ≠ (hdrS key v (all.take z.toNat)))) = false) => ?_)
    ·
      have hc6 := of_decide_eq_true hb6
      refine WC.seq ?_
      refine WC.region ?_
      refine WL.op rfl rfl (op_assign rfl ?_)
      refine WL.op rfl rfl (op_assign rfl ?_)
      refine WL.op rfl rfl (op_assign rfl ?_)
      refine WL.nil ?_
      refine WQ.next ?_
      refine WC.ret ?_
      refine WQ.thenRet ?_
      refine WQ.out (.tmp rfl (.tmp rfl (.tmp rfl .nil))) ?_
      exact ⟨by rw [pickS, if_pos (.inr (of_decide_eq_true hb6))]; rfl, H5.fr⟩
    ·
      have hc6 := of_decide_eq_false hb6
      refine WC.skip ?_
      refine WQ.next ?_
      refine WC.seq ?_
      refine WC.draw 7 Fa.M H5 (HW.op rfl (fun w1 H1 => op_move rfl ⟨rfl, Fr.refl _ _⟩) (HW.op rfl (fun w1 H1 => op_move rfl ⟨rfl, Fr.refl _ _⟩) (HW.op rfl (fun w1 H1 => op_move rfl ⟨rfl, Fr.refl _ _⟩) (HW.op rfl (fun w1 H1 => op_sliceStrHi Tryz.underlying9 rfl rfl (by omega) ⟨rfl, Fr.refl _ _⟩) (HW.op rfl (fun w1 H1 => op_assign rfl ⟨rfl, Fr.refl _ _⟩) (HW.op rfl (fun w1 H1 => op_assign rfl ⟨rfl, Fr.refl _ _⟩) (HW.op rfl (fun w1 H1 => op_assign rfl ⟨rfl, Fr.refl _ _⟩)  HW.nil))))))) (by kernel_rfl) ?_
      intro β7 w7 H7
      refine WL.nil ?_
      refine WQ.next ?_
      refine WC.ret ?_
      refine WQ.out (.tmp rfl (.tmp rfl (.tmp rfl .nil))) ?_
      exact ⟨by rw [pickS, if_neg (fun h => h.elim (of_decide_eq_false hb2) (of_decide_eq_false hb6))]; rfl, H7.fr⟩
set_option maxHeartbeats 1000000 in
set_option maxRecDepth 100000 in
theorem read_ok (s : Nat) (id : UInt32) (key : List UInt8) (each : Nat) (left : Int) (x : Nat) (k : Nat) (bv ev xv cv nv : Value) (pg : UInt32) (m n : Nat) (es : List Value) (B : List (List UInt8)) (q : Nat) (w : World) (hS : cellsAt w s [(ptr x 0), (vU32 id), (str key), (vN each), (vI left)]) (hX : cellsAt w x [(ptr k 0)]) (hK : cellsAt w k [(vU32 pg), xv, cv, nv, bv]) (hV : Arr w bv 1 m es) (hE : Arr w ev 1 n (List.map str B)) (hid : id.toNat < m) (hev : es[id.toNat]? = some ev) (hn : B.length = n) (hB : ∀ b ∈ B, b.length = 64) (hc : 2 + each + each ≤ n) (hm : n < 2 ^ 20) (hk : key.length < 2 ^ 40) (hq : q < 2) :
    Calls Tryz.prog 47 #[(.agg #[(ptr s 0), (vN q)])] w (fun e w' => e = .returned (.tuple #[vU32 (slotN B each key q).v, str (slotN B each key q).t, .bool (slotN B each key q).is]) ∧ Fr [] w w') := by
  refine enter (args := [(.agg #[(ptr s 0), (vN q)])]) Tryz.func47 rfl rfl ?_
  have H0 : Own [] w w [Ent.bo s [(ptr x 0), (vU32 id), (str key), (vN each), (vI left)], Ent.bo x [(ptr k 0)], Ent.bo k [(vU32 pg), xv, cv, nv, bv], Ent.ar bv 1 m es, Ent.ar ev 1 n (List.map str B)] := ((((((Own.start w []).oldB hS).oldB hX).oldB hK).oldA hV).oldA hE)
  have hhl : (B.getD q []).length = 64 := all_get hB (by omega)
  have hqe : q * each ≤ each := by have : q * each ≤ 1 * each := Nat.mul_le_mul_right _ (by omega); omega
  refine WC.seq ?_
  refine WC.region ?_
  refine WL.op rfl rfl (op_box H0 rfl rfl (fun b1 w1 H1 => ?_))
  refine WL.op rfl rfl (op_assign rfl ?_)
  refine WL.op rfl rfl (op_assign rfl ?_)
  refine WL.op rfl rfl (op_assign rfl ?_)
  refine WL.nil ?_
  refine WQ.next ?_
  refine WC.seq ?_
  refine WC.draw 19 Fa.M H1 (HW.op rfl (fun w1 H1 => op_fieldAddr rfl Fa.F97_0 ⟨rfl, Fr.refl _ _⟩) (HW.op rfl (fun w1 H1 => op_load rfl (H1.cell (i := 5) rfl rfl) Tryz.underlying24 rfl ⟨rfl, Fr.refl _ _⟩) (HW.op rfl (fun w1 H1 => op_nilCheck rfl ⟨rfl, Fr.refl _ _⟩) (HW.op rfl (fun w1 H1 => op_fieldAddr rfl Fa.F95_0 ⟨rfl, Fr.refl _ _⟩) (HW.op rfl (fun w1 H1 => op_load rfl (H1.cellO (i := 0) rfl rfl) Tryz.underlying47 rfl ⟨rfl, Fr.refl _ _⟩) (HW.op rfl (fun w1 H1 => op_fieldAddr rfl Fa.F97_0 ⟨rfl, Fr.refl _ _⟩) (HW.op rfl (fun w1 H1 => op_load rfl (H1.cell (i := 5) rfl rfl) Tryz.underlying24 rfl ⟨rfl, Fr.refl _ _⟩) (HW.op rfl (fun w1 H1 => op_nilCheck rfl ⟨rfl, Fr.refl _ _⟩) (HW.op rfl (fun w1 H1 => op_fieldAddr rfl Fa.F95_1 ⟨rfl, Fr.refl _ _⟩) (HW.op rfl (fun w1 H1 => op_load rfl (H1.cellO (i := 0) rfl rfl) Tryz.underlying22 rfl ⟨rfl, Fr.refl _ _⟩) (HW.op rfl (fun w1 H1 => op_fieldAddr rfl Fa.F97_1 ⟨rfl, Fr.refl _ _⟩) (HW.op rfl (fun w1 H1 => op_load rfl (H1.cell (i := 5) rfl rfl) Tryz.underlying3 rfl ⟨rfl, Fr.refl _ _⟩) (HW.op rfl (fun w1 H1 => op_convNU32 (hs := Tryz.underlying3) (hd := Tryz.underlying22) rfl ⟨rfl, Fr.refl _ _⟩) (HW.op rfl (fun w1 H1 => op_callF Fa.C29 rfl ((xblk_in x k bv ev xv cv nv pg m n es B id q _ (H1.cellsAtO (i := 1) rfl) (H1.cellsAtO (i := 2) rfl) (H1.arrO (i := 3) rfl) (H1.arrO (i := 4) rfl) hid hev (by omega) (by omega)).mono (fun e w2 hq => ⟨_, hq.1, rfl, hq.2⟩))) (HW.op rfl (fun w1 H1 => op_move rfl ⟨rfl, Fr.refl _ _⟩) (HW.op rfl (fun w1 H1 => op_extract rfl rfl ⟨rfl, Fr.refl _ _⟩) (HW.op rfl (fun w1 H1 => op_extract rfl rfl ⟨rfl, Fr.refl _ _⟩) (HW.op rfl (fun w1 H1 => op_assign rfl ⟨rfl, Fr.refl _ _⟩) (HW.op rfl (fun w1 H1 => op_assign rfl ⟨rfl, Fr.refl _ _⟩)  HW.nil))))))))))))))))))) (by kernel_rfl) ?_
  intro β3 w3 H3
  refine WL.nil ?_
  refine WQ.next ?_
  refine WC.seq ?_
  refine WC.seq ?_
  refine WC.region ?_
  refine WL.op rfl rfl (op_move rfl ?_)
  refine WL.op rfl rfl (op_neqN (b := 0) rfl rfl ?_)
  refine WL.op rfl rfl (op_move rfl ?_)
  refine WL.yes rfl rfl rfl (by decide) rfl (op_move rfl ?_)
  refine WL.yes rfl rfl rfl (by decide) rfl (op_lenStr Tryz.underlying9 rfl ?_)
  refine WL.yes rfl rfl rfl (by decide) rfl (op_neqN (b := 64) rfl rfl ?_)
  refine WL.op rfl rfl (op_pickF rfl (by decide) rfl ?_)
  refine WL.nil ?_
  refine WQ.next ?_
  refine WC.no rfl (decide_eq_false (fun h => h hhl)) ?_
  refine WC.skip ?_
  refine WQ.next ?_
  refine WC.seq ?_
  refine WC.region ?_
  refine WL.op rfl rfl (op_alloc H3 Fa.I175 (fun b4 w4 H4 => ?_))
  refine WL.nil ?_
  refine WQ.next ?_
  refine WC.seq ?_
  refine WC.seq ?_
  refine WC.region ?_
  refine WL.op rfl rfl (op_fieldAddr rfl Fa.F97_0 ?_)
  refine WL.op rfl rfl (op_load rfl (H4.cell (i := 5) rfl rfl) Tryz.underlying24 rfl ?_)
  refine WL.op rfl rfl (op_nilCheck rfl ?_)
  refine WL.op rfl rfl (op_fieldAddr rfl Fa.F95_3 ?_)
  refine WL.op rfl rfl (op_load rfl (H4.cellO (i := 0) rfl rfl) Tryz.underlying3 rfl ?_)
  refine WL.op rfl rfl (op_move rfl ?_)
  refine WL.nil ?_
  refine WQ.next ?_
  refine WC.block ?_
  have H5 : Own [] w w4 [Ent.bo s [(ptr x 0), (vU32 id), (str key), (vN each), (vI left)], Ent.bo x [(ptr k 0)], Ent.bo k [(vU32 pg), xv, cv, nv, bv], Ent.ar bv 1 m es, Ent.ar ev 1 n (List.map str B), .blk b1 [(ptr s 0), (vN q)] 97, .blk b4 [(.pointer none), (.slice none 0 0)] 175, .row (.slice none 0 0) 5 1 (catB B (2 + q * each) 0).length (List.map vU8 (catB B (2 + q * each) 0))] := H4.nilRow 5 1
  refine WC.loop (α := Nat × Value × Value) (fun (u, A0, v) => [(0, (.agg #[(ptr s 0), (vN q)])), (1, (ptr b1 0)), (5, (str (B.getD q []))), (7, (ptr b4 0)), (41, (vN each)), (42, (vN u))]) (fun (u, A0, v) w' => (u ≤ each ∧ (A0 = .pointer none ∨ A0 = ptr b4 0) ∧ (v = .slice none 0 0 ∨ u ≠ 0)) ∧ Own [] w w' [Ent.bo s [(ptr x 0), (vU32 id), (str key), (vN each), (vI left)], Ent.bo x [(ptr k 0)], Ent.bo k [(vU32 pg), xv, cv, nv, bv], Ent.ar bv 1 m es, Ent.ar ev 1 n (List.map str B), .blk b1 [(ptr s 0), (vN q)] 97, .blk b4 [A0, v] 175, .row v 5 1 (catB B (2 + q * each) u).length (List.map vU8 (catB B (2 + q * each) u))]) (fun (u, A0, v) => each - u) (0, (.pointer none), (.slice none 0 0)) ⟨⟨Nat.zero_le _, .inl rfl, .inl rfl⟩, H5⟩ ⟨rfl, rfl, rfl, rfl, rfl, rfl, trivial⟩ ?_
  rintro ⟨u, A0, v⟩ w6 ⟨⟨hk1, hA0, hv0⟩, H6⟩
  show WC _ _ _ _ _ [(0, (.agg #[(ptr s 0), (vN q)])), (1, (ptr b1 0)), (5, (str (B.getD q []))), (7, (ptr b4 0)), (41, (vN each)), (42, (vN u))] _
  have hcl : (catB B (2 + q * each) u).length = 64 * u := catB_len (fun j h1 h2 => all_get hB (by omega))
  have hgl : u < each → (B.getD (2 + q * each + u) []).length = 64 := fun h => all_get hB (by omega)
  refine WC.seq ?_
  refine WC.region ?_
  refine WL.op rfl rfl (op_lssN rfl rfl ?_)
  refine WL.nil ?_
  refine WQ.next ?_
  refine WC.seq ?_
  refine WC.cond rfl (fun (hb7 : (decide (u < each)) = true) => ?_) (fun (hb7 : (decide (u < each)) = false) => ?_)
  ·
    have hc7 := of_decide_eq_true hb7
    refine WC.skip ?_
    refine WQ.next ?_
    refine WC.seq ?_
    refine WC.block ?_
    refine WC.seq ?_
    refine WC.region ?_
    refine WL.op rfl rfl (op_move rfl ?_)
    refine WL.op rfl rfl (op_assign rfl ?_)
    refine WL.nil ?_
    refine WQ.next ?_
    refine WC.seq ?_
    refine WC.draw 28 Fa.M H6 (HW.op rfl (fun w1 H1 => op_fieldAddr rfl Fa.F97_0 ⟨rfl, Fr.refl _ _⟩) (HW.op rfl (fun w1 H1 => op_load rfl (H1.cell (i := 5) rfl rfl) Tryz.underlying24 rfl ⟨rfl, Fr.refl _ _⟩) (HW.op rfl (fun w1 H1 => op_nilCheck rfl ⟨rfl, Fr.refl _ _⟩) (HW.op rfl (fun w1 H1 => op_fieldAddr rfl Fa.F95_0 ⟨rfl, Fr.refl _ _⟩) (HW.op rfl (fun w1 H1 => op_load rfl (H1.cellO (i := 0) rfl rfl) Tryz.underlying47 rfl ⟨rfl, Fr.refl _ _⟩) (HW.op rfl (fun w1 H1 => op_fieldAddr rfl Fa.F97_0 ⟨rfl, Fr.refl _ _⟩) (HW.op rfl (fun w1 H1 => op_load rfl (H1.cell (i := 5) rfl rfl) Tryz.underlying24 rfl ⟨rfl, Fr.refl _ _⟩) (HW.op rfl (fun w1 H1 => op_nilCheck rfl ⟨rfl, Fr.refl _ _⟩) (HW.op rfl (fun w1 H1 => op_fieldAddr rfl Fa.F95_1 ⟨rfl, Fr.refl _ _⟩) (HW.op rfl (fun w1 H1 => op_load rfl (H1.cellO (i := 0) rfl rfl) Tryz.underlying22 rfl ⟨rfl, Fr.refl _ _⟩) (HW.op rfl (fun w1 H1 => op_fieldAddr rfl Fa.F97_1 ⟨rfl, Fr.refl _ _⟩) (HW.op rfl (fun w1 H1 => op_load rfl (H1.cell (i := 5) rfl rfl) Tryz.underlying3 rfl ⟨rfl, Fr.refl _ _⟩) (HW.op rfl (fun w1 H1 => op_fieldAddr rfl Fa.F97_0 ⟨rfl, Fr.refl _ _⟩) (HW.op rfl (fun w1 H1 => op_load rfl (H1.cell (i := 5) rfl rfl) Tryz.underlying24 rfl ⟨rfl, Fr.refl _ _⟩) (HW.op rfl (fun w1 H1 => op_nilCheck rfl ⟨rfl, Fr.refl _ _⟩) (HW.op rfl (fun w1 H1 => op_fieldAddr rfl Fa.F95_3 ⟨rfl, Fr.refl _ _⟩) (HW.op rfl (fun w1 H1 => op_load rfl (H1.cellO (i := 0) rfl rfl) Tryz.underlying3 rfl ⟨rfl, Fr.refl _ _⟩) (HW.op rfl (fun w1 H1 => op_mulN rfl rfl (by omega) ⟨rfl, Fr.refl _ _⟩) (HW.op rfl (fun w1 H1 => op_addN (a := 2) rfl rfl (by omega) ⟨rfl, Fr.refl _ _⟩) (HW.op rfl (fun w1 H1 => op_move rfl ⟨rfl, Fr.refl _ _⟩) (HW.op rfl (fun w1 H1 => op_addN rfl rfl (by omega) ⟨rfl, Fr.refl _ _⟩) (HW.op rfl (fun w1 H1 => op_convNU32 (hs := Tryz.underlying3) (hd := Tryz.underlying22) rfl ⟨rfl, Fr.refl _ _⟩) (HW.op rfl (fun w1 H1 => op_callF Fa.C29 rfl ((xblk_in x k bv ev xv cv nv pg m n es B id ((2 + (q * each)) + u) _ (H1.cellsAtO (i := 1) rfl) (H1.cellsAtO (i := 2) rfl) (H1.arrO (i := 3) rfl) (H1.arrO (i := 4) rfl) hid hev (by omega) (by omega)).mono (fun e w2 hq => ⟨_, hq.1, rfl, hq.2⟩))) (HW.op rfl (fun w1 H1 => op_move rfl ⟨rfl, Fr.refl _ _⟩) (HW.op rfl (fun w1 H1 => op_extract rfl rfl ⟨rfl, Fr.refl _ _⟩) (HW.op rfl (fun w1 H1 => op_extract rfl rfl ⟨rfl, Fr.refl _ _⟩) (HW.op rfl (fun w1 H1 => op_assign rfl ⟨rfl, Fr.refl _ _⟩) (HW.op rfl (fun w1 H1 => op_assign rfl ⟨rfl, Fr.refl _ _⟩)  HW.nil)))))))))))))))))))))))))))) (by kernel_rfl) ?_
    intro β9 w9 H9
    refine WL.nil ?_
    refine WQ.next ?_
    refine WC.region ?_
    refine WL.op rfl rfl (op_move rfl ?_)
    refine WL.op rfl rfl (op_callF Fa.C106 rfl ((ws_ok b4 A0 v (catB B (2 + q * each) u).length (catB B (2 + q * each) u) (B.getD ((2 + (q * each)) + u) []) 175 _ _ (H9.part [6, 7] rfl rfl) hA0 Fa.CO175 Fa.LI175_175 (by have := hgl (by omega); omega)).mono (fun e w10 hq => ?_)))
    obtain ⟨v10, rfl, hq10⟩ := hq
    refine ⟨_, rfl, ?_⟩
    have H10 : Own [] w w10 [Ent.bo s [(ptr x 0), (vU32 id), (str key), (vN each), (vI left)], Ent.bo x [(ptr k 0)], Ent.bo k [(vU32 pg), xv, cv, nv, bv], Ent.ar bv 1 m es, Ent.ar ev 1 n (List.map str B), .blk b1 [(ptr s 0), (vN q)] 97, .blk b4 [(ptr b4 0), v10] 175, .row v10 5 1 ((catB B (2 + q * each) u).length + (B.getD ((2 + (q * each)) + u) []).length) (List.map vU8 ((catB B (2 + q * each) u) ++ (B.getD ((2 + (q * each)) + u) [])))] := H9.splice [6, 7] [.blk b4 [(ptr b4 0), v10] 175, .row v10 5 1 ((catB B (2 + q * each) u).length + (B.getD ((2 + (q * each)) + u) []).length) (List.map vU8 ((catB B (2 + q * each) u) ++ (B.getD ((2 + (q * each)) + u) [])))] [] rfl rfl hq10 (Fits.solid True.intro (Fits.solid True.intro Fits.nil))
    refine WL.nil ?_
    refine WQ.inNormal ?_
    refine WQ.next ?_
    refine WC.region ?_
    refine WL.op rfl rfl (op_addN (b := 1) rfl rfl (by omega) ?_)
    refine WL.op rfl rfl (op_move rfl ?_)
    refine WL.nil ?_
    exact WQ.round (u + 1, (ptr b4 0), v10) ⟨⟨by omega, .inr rfl, .inr (by omega)⟩, (Own.rowEqN (i := 7) (f := vU8) H10 rfl rfl (List.length_append).symm)⟩ ⟨rfl, rfl, rfl, rfl, rfl, rfl, trivial⟩ (by show each - (u + 1) < each - u; omega)
  ·
    have hc7 := of_decide_eq_false hb7
    have hke : u = each := by omega
    refine WC.exit ?_
    refine WQ.thenExit ?_
    refine WQ.thenExit ?_
    refine WQ.inHere ?_
    refine WQ.next ?_
    refine WC.seq ?_
    refine WC.region ?_
    refine WL.op rfl rfl (op_move rfl ?_)
    refine WL.op rfl rfl (op_sliceStr (a := 4) (b := 8) Tryz.underlying9 rfl rfl rfl (by omega) (by omega) ?_)
    refine WL.op rfl rfl (op_callF Fa.C107 rfl ((get_ok (((B.getD q []).drop 4).take (8 - 4)) _).mono (fun e w11 hq => ?_)))
    obtain ⟨rfl, hf11⟩ := hq
    refine ⟨_, rfl, ?_⟩
    have H11 := H6.fr' hf11
    refine WL.op rfl rfl (op_move rfl ?_)
    refine WL.op rfl rfl (op_extract rfl rfl ?_)
    refine WL.op rfl rfl (op_extract rfl rfl ?_)
    refine WL.op rfl rfl (op_assign rfl ?_)
    refine WL.nil ?_
    refine WQ.next ?_
    refine WC.seq ?_
    refine WC.region ?_
    refine WL.op rfl rfl (op_move rfl ?_)
    refine WL.op rfl rfl (op_sliceStr (a := 8) (b := 12) Tryz.underlying9 rfl rfl rfl (by omega) (by omega) ?_)
    refine WL.op rfl rfl (op_callF Fa.C107 rfl ((get_ok (((B.getD q []).drop 8).take (12 - 8)) _).mono (fun e w12 hq => ?_)))
    obtain ⟨rfl, hf12⟩ := hq
    refine ⟨_, rfl, ?_⟩
    have H12 := H11.fr' hf12
    refine WL.op rfl rfl (op_move rfl ?_)
    refine WL.op rfl rfl (op_extract rfl rfl ?_)
    refine WL.op rfl rfl (op_extract rfl rfl ?_)
    refine WL.op rfl rfl (op_assign rfl ?_)
    refine WL.op rfl rfl (op_assign rfl ?_)
    refine WL.nil ?_
    refine WQ.next ?_
    refine WC.seq ?_
    refine WC.held 12 rfl Fa.M H12 (fun w' => ∃ L', Own [] w w' ([Ent.bo s [(ptr x 0), (vU32 id), (str key), (vN each), (vI left)], Ent.bo x [(ptr k 0)], Ent.bo k [(vU32 pg), xv, cv, nv, bv], Ent.ar bv 1 m es, Ent.ar ev 1 n (List.map str B), .blk b1 [(ptr s 0), (vN q)] 97] ++ L')) ?_
    intro w13 H13
    refine WH.take (i := 0) (v := (.agg #[(ptr s 0), (vN q)])) rfl rfl (.inl rfl) rfl (by kernel_rfl) ⟨[.blk b4 [A0, v] 175, .row v 5 1 (catB B (2 + q * each) u).length (List.map vU8 (catB B (2 + q * each) u))], H13⟩ (fun wX hSX => hSX.elim fun LX HX => op_loadS (vs := [_, _]) rfl (HX.cells (i := 5) rfl rfl) Tryz.underlying97 rfl Fa.I97 rfl ⟨rfl, rfl⟩) ?_
    refine WH.take (i := 1) (v := (vU32 (getV (((B.getD q []).drop 4).take (8 - 4))))) rfl rfl (.inl rfl) rfl (by kernel_rfl) ⟨[.blk b4 [A0, v] 175, .row v 5 1 (catB B (2 + q * each) u).length (List.map vU8 (catB B (2 + q * each) u))], H13⟩ (fun wX hSX => hSX.elim fun LX HX => op_move rfl ⟨rfl, rfl⟩) ?_
    refine WH.take (i := 2) (v := (vU32 (getV (((B.getD q []).drop 8).take (12 - 8))))) rfl rfl (.inl rfl) rfl (by kernel_rfl) ⟨[.blk b4 [A0, v] 175, .row v 5 1 (catB B (2 + q * each) u).length (List.map vU8 (catB B (2 + q * each) u))], H13⟩ (fun wX hSX => hSX.elim fun LX HX => op_move rfl ⟨rfl, rfl⟩) ?_
    refine WH.take (i := 3) (v := (str (B.getD q []))) rfl rfl (.inl rfl) rfl (by kernel_rfl) ⟨[.blk b4 [A0, v] 175, .row v 5 1 (catB B (2 + q * each) u).length (List.map vU8 (catB B (2 + q * each) u))], H13⟩ (fun wX hSX => hSX.elim fun LX HX => op_move rfl ⟨rfl, rfl⟩) ?_
    refine WH.named (fun W hW => ?_)
    have st13_2 : ∀ (wS : World), Own [] w wS [Ent.bo s [(ptr x 0), (vU32 id), (str key), (vN each), (vI left)], Ent.bo x [(ptr k 0)], Ent.bo k [(vU32 pg), xv, cv, nv, bv], Ent.ar bv 1 m es, Ent.ar ev 1 n (List.map str B), .blk b1 [(ptr s 0), (vN q)] 97] → W 0 #[true, true, true, true, true, true, true, true, true, true, true, true] [(0, (.agg #[(ptr s 0), (vN q)])), (1, (ptr b1 0)), (2, (vU32 (pickS key (B.getD q []) (catB B (2 + q * each) u) (getV (((B.getD q []).drop 4).take (8 - 4))) (getV (((B.getD q []).drop 8).take (12 - 8)))).v)), (3, (str (pickS key (B.getD q []) (catB B (2 + q * each) u) (getV (((B.getD q []).drop 4).take (8 - 4))) (getV (((B.getD q []).drop 8).take (12 - 8)))).t)), (4, (.bool (pickS key (B.getD q []) (catB B (2 + q * each) u) (getV (((B.getD q []).drop 4).take (8 - 4))) (getV (((B.getD q []).drop 8).take (12 - 8)))).is)), (5, (str (B.getD q []))), (7, (ptr b4 0)), (11, (vU32 (getV (((B.getD q []).drop 8).take (12 - 8))))), (12, (vN (getE (((B.getD q []).drop 8).take (12 - 8))))), (41, (vN each)), (42, (vN u)), (43, (.bool (decide (u < each)))), (74, (.tuple #[(vU32 (getV (((B.getD q []).drop 4).take (8 - 4)))), (vN (getE (((B.getD q []).drop 4).take (8 - 4))))])), (75, (str (B.getD q []))), (76, (str (((B.getD q []).drop 4).take (8 - 4)))), (77, (.tuple #[(vU32 (getV (((B.getD q []).drop 4).take (8 - 4)))), (vN (getE (((B.getD q []).drop 4).take (8 - 4))))])), (78, (vU32 (getV (((B.getD q []).drop 4).take (8 - 4))))), (79, (vN (getE (((B.getD q []).drop 4).take (8 - 4))))), (80, (.tuple #[(vU32 (getV (((B.getD q []).drop 8).take (12 - 8)))), (vN (getE (((B.getD q []).drop 8).take (12 - 8))))])), (81, (str (B.getD q []))), (82, (str (((B.getD q []).drop 8).take (12 - 8)))), (83, (.tuple #[(vU32 (getV (((B.getD q []).drop 8).take (12 - 8)))), (vN (getE (((B.getD q []).drop 8).take (12 - 8))))])), (84, (vU32 (getV (((B.getD q []).drop 8).take (12 - 8))))), (85, (vN (getE (((B.getD q []).drop 8).take (12 - 8))))), (86, (.agg #[(ptr s 0), (vN q)])), (87, (vU32 (getV (((B.getD q []).drop 4).take (8 - 4))))), (88, (vU32 (getV (((B.getD q []).drop 8).take (12 - 8))))), (89, (str (B.getD q []))), (90, (str (catB B (2 + q * each) u))), (91, (.tuple #[(vU32 (pickS key (B.getD q []) (catB B (2 + q * each) u) (getV (((B.getD q []).drop 4).take (8 - 4))) (getV (((B.getD q []).drop 8).take (12 - 8)))).v), (str (pickS key (B.getD q []) (catB B (2 + q * each) u) (getV (((B.getD q []).drop 4).take (8 - 4))) (getV (((B.getD q []).drop 8).take (12 - 8)))).t), (.bool (pickS key (B.getD q []) (catB B (2 + q * each) u) (getV (((B.getD q []).drop 4).take (8 - 4))) (getV (((B.getD q []).drop 8).take (12 - 8)))).is)])), (92, (vU32 (pickS key (B.getD q []) (catB B (2 + q * each) u) (getV (((B.getD q []).drop 4).take (8 - 4))) (getV (((B.getD q []).drop 8).take (12 - 8)))).v)), (93, (str (pickS key (B.getD q []) (catB B (2 + q * each) u) (getV (((B.getD q []).drop 4).take (8 - 4))) (getV (((B.getD q []).drop 8).take (12 - 8)))).t)), (94, (.bool (pickS key (B.getD q []) (catB B (2 + q * each) u) (getV (((B.getD q []).drop 4).take (8 - 4))) (getV (((B.getD q []).drop 8).take (12 - 8)))).is))] wS := by
      intro wS HS
      rw [hW]
      refine WH.done (by kernel_rfl) ?_
      refine WQ.next ?_
      refine WC.ret ?_
      refine WQ.out (.tmp rfl (.tmp rfl (.tmp rfl .nil))) ?_
      exact ⟨by rw [hke]; rfl, HS.fr⟩
    have st13_1 : ∀ (wS : World), Own [] w wS [Ent.bo s [(ptr x 0), (vU32 id), (str key), (vN each), (vI left)], Ent.bo x [(ptr k 0)], Ent.bo k [(vU32 pg), xv, cv, nv, bv], Ent.ar bv 1 m es, Ent.ar ev 1 n (List.map str B), .blk b1 [(ptr s 0), (vN q)] 97] → W 7 #[true, true, true, true, true, false, false, false, false, false, false, false] [(0, (.agg #[(ptr s 0), (vN q)])), (1, (ptr b1 0)), (2, (vU32 (getV (((B.getD q []).drop 4).take (8 - 4))))), (5, (str (B.getD q []))), (7, (ptr b4 0)), (11, (vU32 (getV (((B.getD q []).drop 8).take (12 - 8))))), (12, (vN (getE (((B.getD q []).drop 8).take (12 - 8))))), (41, (vN each)), (42, (vN u)), (43, (.bool (decide (u < each)))), (74, (.tuple #[(vU32 (getV (((B.getD q []).drop 4).take (8 - 4)))), (vN (getE (((B.getD q []).drop 4).take (8 - 4))))])), (75, (str (B.getD q []))), (76, (str (((B.getD q []).drop 4).take (8 - 4)))), (77, (.tuple #[(vU32 (getV (((B.getD q []).drop 4).take (8 - 4)))), (vN (getE (((B.getD q []).drop 4).take (8 - 4))))])), (78, (vU32 (getV (((B.getD q []).drop 4).take (8 - 4))))), (79, (vN (getE (((B.getD q []).drop 4).take (8 - 4))))), (80, (.tuple #[(vU32 (getV (((B.getD q []).drop 8).take (12 - 8)))), (vN (getE (((B.getD q []).drop 8).take (12 - 8))))])), (81, (str (B.getD q []))), (82, (str (((B.getD q []).drop 8).take (12 - 8)))), (83, (.tuple #[(vU32 (getV (((B.getD q []).drop 8).take (12 - 8)))), (vN (getE (((B.getD q []).drop 8).take (12 - 8))))])), (84, (vU32 (getV (((B.getD q []).drop 8).take (12 - 8))))), (85, (vN (getE (((B.getD q []).drop 8).take (12 - 8))))), (86, (.agg #[(ptr s 0), (vN q)])), (87, (vU32 (getV (((B.getD q []).drop 4).take (8 - 4))))), (88, (vU32 (getV (((B.getD q []).drop 8).take (12 - 8))))), (89, (str (B.getD q []))), (90, (str (catB B (2 + q * each) u)))] wS := by
      intro wS HS
      rw [hW]
      refine WH.all1 (i := 5) (by kernel_rfl) ?_
      ·
        refine WHS.op (i := 5) rfl (.inl rfl) rfl (op_callF Fa.C108 rfl ((pick_ok s (ptr x 0) id key each left q (B.getD q []) (catB B (2 + q * each) u) (getV (((B.getD q []).drop 4).take (8 - 4))) (getV (((B.getD q []).drop 8).take (12 - 8))) _ (HS.cellsAtO (i := 0) rfl) hk (by omega)).mono (fun e w24101 hq => ?_)))
        obtain ⟨rfl, hf24101⟩ := hq
        refine ⟨_, rfl, ?_⟩
        have H24101 := HS.fr' hf24101
        refine ⟨⟨[], H24101⟩, ?_⟩
        refine WH.take (i := 6) (v := (vU32 (pickS key (B.getD q []) (catB B (2 + q * each) u) (getV (((B.getD q []).drop 4).take (8 - 4))) (getV (((B.getD q []).drop 8).take (12 - 8)))).v)) rfl rfl (.inl rfl) rfl (by kernel_rfl) ⟨[], H24101⟩ (fun wX hSX => hSX.elim fun LX HX => op_extract rfl rfl ⟨rfl, rfl⟩) ?_
        refine WH.take (i := 7) (v := (str (pickS key (B.getD q []) (catB B (2 + q * each) u) (getV (((B.getD q []).drop 4).take (8 - 4))) (getV (((B.getD q []).drop 8).take (12 - 8)))).t)) rfl rfl (.inl rfl) rfl (by kernel_rfl) ⟨[], H24101⟩ (fun wX hSX => hSX.elim fun LX HX => op_extract rfl rfl ⟨rfl, rfl⟩) ?_
        refine WH.take (i := 8) (v := (.bool (pickS key (B.getD q []) (catB B (2 + q * each) u) (getV (((B.getD q []).drop 4).take (8 - 4))) (getV (((B.getD q []).drop 8).take (12 - 8)))).is)) rfl rfl (.inl rfl) rfl (by kernel_rfl) ⟨[], H24101⟩ (fun wX hSX => hSX.elim fun LX HX => op_extract rfl rfl ⟨rfl, rfl⟩) ?_
        refine WH.take (i := 9) (v := (vU32 (pickS key (B.getD q []) (catB B (2 + q * each) u) (getV (((B.getD q []).drop 4).take (8 - 4))) (getV (((B.getD q []).drop 8).take (12 - 8)))).v)) rfl rfl (.inl rfl) rfl (by kernel_rfl) ⟨[], H24101⟩ (fun wX hSX => hSX.elim fun LX HX => op_assign rfl ⟨rfl, rfl⟩) ?_
        refine WH.take (i := 10) (v := (str (pickS key (B.getD q []) (catB B (2 + q * each) u) (getV (((B.getD q []).drop 4).take (8 - 4))) (getV (((B.getD q []).drop 8).take (12 - 8)))).t)) rfl rfl (.inl rfl) rfl (by kernel_rfl) ⟨[], H24101⟩ (fun wX hSX => hSX.elim fun LX HX => op_assign rfl ⟨rfl, rfl⟩) ?_
        refine WH.take (i := 11) (v := (.bool (pickS key (B.getD q []) (catB B (2 + q * each) u) (getV (((B.getD q []).drop 4).take (8 - 4))) (getV (((B.getD q []).drop 8).take (12 - 8)))).is)) rfl rfl (.inl rfl) rfl (by kernel_rfl) ⟨[], H24101⟩ (fun wX hSX => hSX.elim fun LX HX => op_assign rfl ⟨rfl, rfl⟩) ?_
        have hq := st13_2 w24101 H24101
        rw [hW] at hq
        refine WH.cov ?_ hq
        exact by repeat (first | exact trivial | refine ⟨rfl, ?_⟩)
    have st13_0 : ∀ (wS : World), Own [] w wS [Ent.bo s [(ptr x 0), (vU32 id), (str key), (vN each), (vI left)], Ent.bo x [(ptr k 0)], Ent.bo k [(vU32 pg), xv, cv, nv, bv], Ent.ar bv 1 m es, Ent.ar ev 1 n (List.map str B), .blk b1 [(ptr s 0), (vN q)] 97, .blk b4 [A0, v] 175, .row v 5 1 (catB B (2 + q * each) u).length (List.map vU8 (catB B (2 + q * each) u))] → W 8 #[true, true, true, true, false, false, false, false, false, false, false, false] [(0, (.agg #[(ptr s 0), (vN q)])), (1, (ptr b1 0)), (2, (vU32 (getV (((B.getD q []).drop 4).take (8 - 4))))), (5, (str (B.getD q []))), (7, (ptr b4 0)), (11, (vU32 (getV (((B.getD q []).drop 8).take (12 - 8))))), (12, (vN (getE (((B.getD q []).drop 8).take (12 - 8))))), (41, (vN each)), (42, (vN u)), (43, (.bool (decide (u < each)))), (74, (.tuple #[(vU32 (getV (((B.getD q []).drop 4).take (8 - 4)))), (vN (getE (((B.getD q []).drop 4).take (8 - 4))))])), (75, (str (B.getD q []))), (76, (str (((B.getD q []).drop 4).take (8 - 4)))), (77, (.tuple #[(vU32 (getV (((B.getD q []).drop 4).take (8 - 4)))), (vN (getE (((B.getD q []).drop 4).take (8 - 4))))])), (78, (vU32 (getV (((B.getD q []).drop 4).take (8 - 4))))), (79, (vN (getE (((B.getD q []).drop 4).take (8 - 4))))), (80, (.tuple #[(vU32 (getV (((B.getD q []).drop 8).take (12 - 8)))), (vN (getE (((B.getD q []).drop 8).take (12 - 8))))])), (81, (str (B.getD q []))), (82, (str (((B.getD q []).drop 8).take (12 - 8)))), (83, (.tuple #[(vU32 (getV (((B.getD q []).drop 8).take (12 - 8)))), (vN (getE (((B.getD q []).drop 8).take (12 - 8))))])), (84, (vU32 (getV (((B.getD q []).drop 8).take (12 - 8))))), (85, (vN (getE (((B.getD q []).drop 8).take (12 - 8))))), (86, (.agg #[(ptr s 0), (vN q)])), (87, (vU32 (getV (((B.getD q []).drop 4).take (8 - 4))))), (88, (vU32 (getV (((B.getD q []).drop 8).take (12 - 8))))), (89, (str (B.getD q [])))] wS := by
      intro wS HS
      rw [hW]
      refine WH.all1 (i := 4) (by kernel_rfl) ?_
      ·
        refine WHS.op (i := 4) rfl (.inl rfl) rfl (op_callF Fa.C109 rfl ((bstr_ok b4 A0 v (catB B (2 + q * each) u).length (catB B (2 + q * each) u) 175 _ _ (HS.part [6, 7] rfl rfl) (hv0.imp (fun h => h) (fun h => by omega))).mono (fun e w24081 hq => ?_)))
        obtain ⟨rfl, hq24081⟩ := hq
        refine ⟨_, rfl, ?_⟩
        have H24081 : Own [] w w24081 [Ent.bo s [(ptr x 0), (vU32 id), (str key), (vN each), (vI left)], Ent.bo x [(ptr k 0)], Ent.bo k [(vU32 pg), xv, cv, nv, bv], Ent.ar bv 1 m es, Ent.ar ev 1 n (List.map str B), .blk b1 [(ptr s 0), (vN q)] 97] := HS.rest (I := [6, 7]) (J := [0, 1, 2, 3, 4, 5]) rfl rfl rfl rfl hq24081
        refine ⟨⟨[], H24081⟩, ?_⟩
        have hq := st13_1 w24081 H24081
        rw [hW] at hq
        refine WH.cov ?_ hq
        exact by repeat (first | exact trivial | refine ⟨rfl, ?_⟩)
    have hq := st13_0 w13 H13
    rw [hW] at hq ⊢
    refine WH.cov ?_ hq
    exact by repeat (first | exact trivial | refine ⟨rfl, ?_⟩)
set_option maxRecDepth 100000 in
theorem slot_ok (s : Nat) (id : UInt32) (key : List UInt8) (each : Nat) (left : Int) (x : Nat) (k : Nat) (bv ev xv cv nv : Value) (pg : UInt32) (m n : Nat) (es : List Value) (B : List (List UInt8)) (q : Nat) (w : World) (hS : cellsAt w s [(ptr x 0), (vU32 id), (str key), (vN each), (vI left)]) (hX : cellsAt w x [(ptr k 0)]) (hK : cellsAt w k [(vU32 pg), xv, cv, nv, bv]) (hV : Arr w bv 1 m es) (hE : Arr w ev 1 n (List.map str B)) (hid : id.toNat < m) (hev : es[id.toNat]? = some ev) (hn : B.length = n) (hB : ∀ b ∈ B, b.length = 64) (hc : 2 + each + each ≤ n) (hm : n < 2 ^ 20) (hk : key.length < 2 ^ 40) (hq : q < 2) :
    Calls Tryz.prog 12 #[(ptr s 0), (vN q)] w (fun e w' => e = .returned (.tuple #[vU32 (slotN B each key q).v, str (slotN B each key q).t, .bool (slotN B each key q).is]) ∧ Fr [] w w') := by
  refine enter (args := [(ptr s 0), (vN q)]) Tryz.func12 rfl rfl ?_
  have H0 : Own [] w w [Ent.bo s [(ptr x 0), (vU32 id), (str key), (vN each), (vI left)], Ent.bo x [(ptr k 0)], Ent.bo k [(vU32 pg), xv, cv, nv, bv], Ent.ar bv 1 m es, Ent.ar ev 1 n (List.map str B)] := ((((((Own.start w []).oldB hS).oldB hX).oldB hK).oldA hV).oldA hE)
  refine WC.seq ?_
  refine WC.region ?_
  refine WL.op rfl rfl (op_assign rfl ?_)
  refine WL.op rfl rfl (op_assign rfl ?_)
  refine WL.op rfl rfl (op_assign rfl ?_)
  refine WL.nil ?_
  refine WQ.next ?_
  refine WC.seq ?_
  refine WC.seq ?_
  refine WC.region ?_
  refine WL.op rfl rfl (op_move rfl ?_)
  refine WL.op rfl rfl (op_eqlPN Fa.PT24 rfl rfl ?_)
  refine WL.op rfl rfl (op_move rfl ?_)
  refine WL.yes rfl rfl rfl rfl rfl (op_move rfl ?_)
  refine WL.yes rfl rfl rfl rfl rfl (op_lssN (b := 0) rfl rfl ?_)
  refine WL.op rfl rfl (op_pickF rfl rfl rfl ?_)
  refine WL.op rfl rfl (op_move rfl ?_)
  refine WL.yes rfl rfl rfl (decide_eq_false (by omega)) rfl (op_move rfl ?_)
  refine WL.yes rfl rfl rfl (decide_eq_false (by omega)) rfl (op_gtrN (b := 1) rfl rfl ?_)
  refine WL.op rfl rfl (op_pickF rfl (decide_eq_false (by omega)) rfl ?_)
  refine WL.nil ?_
  refine WQ.next ?_
  refine WC.no rfl (decide_eq_false (by omega)) ?_
  refine WC.skip ?_
  refine WQ.next ?_
  refine WC.seq ?_
  refine WC.region ?_
  refine WL.op rfl rfl (op_move rfl ?_)
  refine WL.op rfl rfl (op_move rfl ?_)
  refine WL.op rfl rfl (op_build (cs := [_, _]) Fa.I97 Fa.PL97 rfl rfl ?_)
  refine WL.op rfl rfl (op_callF Fa.C47 rfl ((read_ok s id key each left x k bv ev xv cv nv pg m n es B q _ (H0.cellsAtO (i := 0) rfl) (H0.cellsAtO (i := 1) rfl) (H0.cellsAtO (i := 2) rfl) (H0.arrO (i := 3) rfl) (H0.arrO (i := 4) rfl) hid hev hn hB hc hm hk (by omega)).mono (fun e w1 hq => ?_)))
  obtain ⟨rfl, hf1⟩ := hq
  refine ⟨_, rfl, ?_⟩
  have H1 := H0.fr' hf1
  refine WL.op rfl rfl (op_extract rfl rfl ?_)
  refine WL.op rfl rfl (op_extract rfl rfl ?_)
  refine WL.op rfl rfl (op_extract rfl rfl ?_)
  refine WL.op rfl rfl (op_assign rfl ?_)
  refine WL.op rfl rfl (op_assign rfl ?_)
  refine WL.op rfl rfl (op_assign rfl ?_)
  refine WL.nil ?_
  refine WQ.next ?_
  refine WC.ret ?_
  refine WQ.out (.tmp rfl (.tmp rfl (.tmp rfl .nil))) ?_
  exact ⟨rfl, H1.fr⟩
set_option maxRecDepth 100000 in
theorem cur_ok (s : Nat) (id : UInt32) (key : List UInt8) (each : Nat) (left : Int) (x : Nat) (k : Nat) (bv ev xv cv nv : Value) (pg : UInt32) (m n : Nat) (es : List Value) (B : List (List UInt8)) (w : World) (hS : cellsAt w s [(ptr x 0), (vU32 id), (str key), (vN each), (vI left)]) (hX : cellsAt w x [(ptr k 0)]) (hK : cellsAt w k [(vU32 pg), xv, cv, nv, bv]) (hV : Arr w bv 1 m es) (hE : Arr w ev 1 n (List.map str B)) (hid : id.toNat < m) (hev : es[id.toNat]? = some ev) (hn : B.length = n) (hB : ∀ b ∈ B, b.length = 64) (hc : 2 + each + each ≤ n) (hm : n < 2 ^ 20) (hk : key.length < 2 ^ 40) :
    Calls Tryz.prog 48 #[(ptr s 0)] w (fun e w' => e = .returned (.tuple #[.agg #[ptr s 0, vN (curN (slotN B each key 0) (slotN B each key 1))], .bool (curIs (slotN B each key 0) (slotN B each key 1))]) ∧ Fr [] w w') := by
  refine enter (args := [(ptr s 0)]) Tryz.func48 rfl rfl ?_
  have H0 : Own [] w w [Ent.bo s [(ptr x 0), (vU32 id), (str key), (vN each), (vI left)], Ent.bo x [(ptr k 0)], Ent.bo k [(vU32 pg), xv, cv, nv, bv], Ent.ar bv 1 m es, Ent.ar ev 1 n (List.map str B)] := ((((((Own.start w []).oldB hS).oldB hX).oldB hK).oldA hV).oldA hE)
  refine WC.seq ?_
  refine WC.region ?_
  refine WL.op rfl rfl (op_alloc H0 Fa.I97 (fun b1 w1 H1 => ?_))
  refine WL.op rfl rfl (op_assign rfl ?_)
  refine WL.nil ?_
  refine WQ.next ?_
  refine WC.seq ?_
  refine WC.region ?_
  refine WL.op rfl rfl (op_move rfl ?_)
  refine WL.op rfl rfl (op_callF Fa.C12 rfl ((slot_ok s id key each left x k bv ev xv cv nv pg m n es B 0 _ (H1.cellsAtO (i := 0) rfl) (H1.cellsAtO (i := 1) rfl) (H1.cellsAtO (i := 2) rfl) (H1.arrO (i := 3) rfl) (H1.arrO (i := 4) rfl) hid hev hn hB hc hm hk (by omega)).mono (fun e w2 hq => ?_)))
  obtain ⟨rfl, hf2⟩ := hq
  refine ⟨_, rfl, ?_⟩
  have H2 := H1.fr' hf2
  refine WL.op rfl rfl (op_move rfl ?_)
  refine WL.op rfl rfl (op_extract rfl rfl ?_)
  refine WL.op rfl rfl (op_extract rfl rfl ?_)
  refine WL.op rfl rfl (op_extract rfl rfl ?_)
  refine WL.op rfl rfl (op_assign rfl ?_)
  refine WL.op rfl rfl (op_assign rfl ?_)
  refine WL.op rfl rfl (op_assign rfl ?_)
  refine WL.nil ?_
  refine WQ.next ?_
  refine WC.seq ?_
  refine WC.region ?_
  refine WL.op rfl rfl (op_move rfl ?_)
  refine WL.op rfl rfl (op_callF Fa.C12 rfl ((slot_ok s id key each left x k bv ev xv cv nv pg m n es B 1 _ (H2.cellsAtO (i := 0) rfl) (H2.cellsAtO (i := 1) rfl) (H2.cellsAtO (i := 2) rfl) (H2.arrO (i := 3) rfl) (H2.arrO (i := 4) rfl) hid hev hn hB hc hm hk (by omega)).mono (fun e w3 hq => ?_)))
  obtain ⟨rfl, hf3⟩ := hq
  refine ⟨_, rfl, ?_⟩
  have H3 := H2.fr' hf3
  refine WL.op rfl rfl (op_move rfl ?_)
  refine WL.op rfl rfl (op_extract rfl rfl ?_)
  refine WL.op rfl rfl (op_extract rfl rfl ?_)
  refine WL.op rfl rfl (op_extract rfl rfl ?_)
  refine WL.op rfl rfl (op_assign rfl ?_)
  refine WL.op rfl rfl (op_assign rfl ?_)
  refine WL.op rfl rfl (op_assign rfl ?_)
  refine WL.nil ?_
  refine WQ.next ?_
  refine WC.seq ?_
  refine WC.seq ?_
  refine WC.region ?_
  refine WL.op rfl rfl (op_move rfl ?_)
  refine WL.op rfl rfl (op_move rfl ?_)
  refine WL.split (t := 23) rfl (fun (hb4 : (slotN B each key 1).is = true) => ?_) (fun (hb4 : (slotN B each key 1).is = false) => ?_)
  ·
    refine WL.yes rfl rfl rfl hb4 rfl (op_move rfl ?_)
    refine WL.yes rfl rfl rfl hb4 rfl (op_not rfl ?_)
    refine WL.yes rfl rfl rfl hb4 rfl (op_move rfl ?_)
    refine WL.split (t := 26) rfl (fun (hb5 : (!(slotN B each key 0).is) = true) => ?_) (fun (hb5 : (!(slotN B each key 0).is) = false) => ?_)
    ·
      have hn5 := (Bool.not_eq_true' _).mp hb5
      refine WL.no rfl rfl rfl hb5 rfl ?_
      refine WL.no rfl rfl rfl hb5 rfl ?_
      refine WL.no rfl rfl rfl hb5 rfl ?_
      refine WL.yes rfl rfl rfl hb4 rfl (op_pickT rfl hb5 rfl ?_)
      refine WL.op rfl rfl (op_pickT rfl hb4 rfl ?_)
      refine WL.nil ?_
      refine WQ.next ?_
      refine WC.yes rfl rfl ?_
      refine WC.seq ?_
      refine WC.region ?_
      refine WL.op rfl rfl (op_move rfl ?_)
      refine WL.op rfl rfl (op_build (cs := [_, _]) Fa.I97 Fa.PL97 rfl rfl ?_)
      refine WL.op rfl rfl (op_storeBW (i := 5) H3 rfl rfl rfl rfl rfl Fa.I97 (fun w6 H6 => ?_))
      refine WL.op rfl rfl (op_assign rfl ?_)
      refine WL.nil ?_
      refine WQ.next ?_
      refine WC.ret ?_
      refine WQ.thenRet ?_
      refine WQ.out (.cell rfl (run_loadVarS (vs := [_, _]) (H6.cells (i := 5) rfl rfl) Tryz.underlying97 rfl Fa.I97 rfl) (.tmp rfl .nil)) ?_
      exact ⟨by rw [(cur1 hb4 (.inl hn5)).1, (cur1 hb4 (.inl hn5)).2]; rfl, H6.fr⟩
    ·
      have hn5 := (Bool.not_eq_false' _).mp hb5
      refine WL.yes rfl rfl rfl hb5 rfl (op_move rfl ?_)
      refine WL.yes rfl rfl rfl hb5 rfl (op_move rfl ?_)
      refine WL.yes rfl rfl rfl hb5 rfl (op_gtrU32 rfl rfl ?_)
      refine WL.yes rfl rfl rfl hb4 rfl (op_pickF rfl hb5 rfl ?_)
      refine WL.op rfl rfl (op_pickT rfl hb4 rfl ?_)
      refine WL.nil ?_
      refine WQ.next ?_
      refine WC.cond rfl (fun (hb7 : (decide ((slotN B each key 1).v > (slotN B each key 0).v)) = true) => ?_) (fun (hb7 : (decide ((slotN B each key 1).v > (slotN B each key 0).v)) = false) => ?_)
      ·
        have hc7 := of_decide_eq_true hb7
        refine WC.seq ?_
        refine WC.region ?_
        refine WL.op rfl rfl (op_move rfl ?_)
        refine WL.op rfl rfl (op_build (cs := [_, _]) Fa.I97 Fa.PL97 rfl rfl ?_)
        refine WL.op rfl rfl (op_storeBW (i := 5) H3 rfl rfl rfl rfl rfl Fa.I97 (fun w8 H8 => ?_))
        refine WL.op rfl rfl (op_assign rfl ?_)
        refine WL.nil ?_
        refine WQ.next ?_
        refine WC.ret ?_
        refine WQ.thenRet ?_
        refine WQ.out (.cell rfl (run_loadVarS (vs := [_, _]) (H8.cells (i := 5) rfl rfl) Tryz.underlying97 rfl Fa.I97 rfl) (.tmp rfl .nil)) ?_
        exact ⟨by rw [(cur1 hb4 (.inr (of_decide_eq_true hb7))).1, (cur1 hb4 (.inr (of_decide_eq_true hb7))).2]; rfl, H8.fr⟩
      ·
        have hc7 := of_decide_eq_false hb7
        refine WC.skip ?_
        refine WQ.next ?_
        refine WC.seq ?_
        refine WC.region ?_
        refine WL.op rfl rfl (op_move rfl ?_)
        refine WL.op rfl rfl (op_build (cs := [_, _]) Fa.I97 Fa.PL97 rfl rfl ?_)
        refine WL.op rfl rfl (op_move rfl ?_)
        refine WL.op rfl rfl (op_storeBW (i := 5) H3 rfl rfl rfl rfl rfl Fa.I97 (fun w9 H9 => ?_))
        refine WL.op rfl rfl (op_assign rfl ?_)
        refine WL.nil ?_
        refine WQ.next ?_
        refine WC.ret ?_
        refine WQ.out (.cell rfl (run_loadVarS (vs := [_, _]) (H9.cells (i := 5) rfl rfl) Tryz.underlying97 rfl Fa.I97 rfl) (.tmp rfl .nil)) ?_
        exact ⟨by rw [(cur0 (.inr ⟨hn5, of_decide_eq_false hb7⟩)).1, (cur0 (.inr ⟨hn5, of_decide_eq_false hb7⟩)).2]; rfl, H9.fr⟩
  ·
    refine WL.no rfl rfl rfl hb4 rfl ?_
    refine WL.no rfl rfl rfl hb4 rfl ?_
    refine WL.no rfl rfl rfl hb4 rfl ?_
    refine WL.non rfl rfl rfl rfl ?_
    refine WL.non rfl rfl rfl rfl ?_
    refine WL.non rfl rfl rfl rfl ?_
    refine WL.no rfl rfl rfl hb4 rfl ?_
    refine WL.op rfl rfl (op_pickF rfl hb4 rfl ?_)
    refine WL.nil ?_
    refine WQ.next ?_
    refine WC.no rfl rfl ?_
    refine WC.skip ?_
    refine WQ.next ?_
    refine WC.seq ?_
    refine WC.region ?_
    refine WL.op rfl rfl (op_move rfl ?_)
    refine WL.op rfl rfl (op_build (cs := [_, _]) Fa.I97 Fa.PL97 rfl rfl ?_)
    refine WL.op rfl rfl (op_move rfl ?_)
    refine WL.op rfl rfl (op_storeBW (i := 5) H3 rfl rfl rfl rfl rfl Fa.I97 (fun w10 H10 => ?_))
    refine WL.op rfl rfl (op_assign rfl ?_)
    refine WL.nil ?_
    refine WQ.next ?_
    refine WC.ret ?_
    refine WQ.out (.cell rfl (run_loadVarS (vs := [_, _]) (H10.cells (i := 5) rfl rfl) Tryz.underlying97 rfl Fa.I97 rfl) (.tmp rfl .nil)) ?_
    exact ⟨by rw [(cur0 (.inl hb4)).1, (cur0 (.inl hb4)).2]; rfl, H10.fr⟩
set_option maxRecDepth 100000 in
theorem current_ok (s : Nat) (id : UInt32) (key : List UInt8) (each : Nat) (left : Int) (x : Nat) (k : Nat) (bv ev xv cv nv : Value) (pg : UInt32) (m n : Nat) (es : List Value) (B : List (List UInt8)) (w : World) (hS : cellsAt w s [(ptr x 0), (vU32 id), (str key), (vN each), (vI left)]) (hX : cellsAt w x [(ptr k 0)]) (hK : cellsAt w k [(vU32 pg), xv, cv, nv, bv]) (hV : Arr w bv 1 m es) (hE : Arr w ev 1 n (List.map str B)) (hid : id.toNat < m) (hev : es[id.toNat]? = some ev) (hn : B.length = n) (hB : ∀ b ∈ B, b.length = 64) (hc : 2 + each + each ≤ n) (hm : n < 2 ^ 20) (hk : key.length < 2 ^ 40) :
    Calls Tryz.prog 13 #[(ptr s 0)] w (fun e w' => e = .returned (.tuple #[vU32 (curS B each key).v, str (curS B each key).t, .bool (curS B each key).is]) ∧ Fr [] w w') := by
  refine enter (args := [(ptr s 0)]) Tryz.func13 rfl rfl ?_
  have H0 : Own [] w w [Ent.bo s [(ptr x 0), (vU32 id), (str key), (vN each), (vI left)], Ent.bo x [(ptr k 0)], Ent.bo k [(vU32 pg), xv, cv, nv, bv], Ent.ar bv 1 m es, Ent.ar ev 1 n (List.map str B)] := ((((((Own.start w []).oldB hS).oldB hX).oldB hK).oldA hV).oldA hE)
  refine WC.seq ?_
  refine WC.region ?_
  refine WL.op rfl rfl (op_assign rfl ?_)
  refine WL.op rfl rfl (op_assign rfl ?_)
  refine WL.op rfl rfl (op_assign rfl ?_)
  refine WL.nil ?_
  refine WQ.next ?_
  refine WC.seq ?_
  refine WC.region ?_
  refine WL.op rfl rfl (op_move rfl ?_)
  refine WL.op rfl rfl (op_callF Fa.C48 rfl ((cur_ok s id key each left x k bv ev xv cv nv pg m n es B _ (H0.cellsAtO (i := 0) rfl) (H0.cellsAtO (i := 1) rfl) (H0.cellsAtO (i := 2) rfl) (H0.arrO (i := 3) rfl) (H0.arrO (i := 4) rfl) hid hev hn hB hc hm hk).mono (fun e w1 hq => ?_)))
  obtain ⟨rfl, hf1⟩ := hq
  refine ⟨_, rfl, ?_⟩
  have H1 := H0.fr' hf1
  refine WL.op rfl rfl (op_move rfl ?_)
  refine WL.op rfl rfl (op_extract rfl rfl ?_)
  refine WL.op rfl rfl (op_extract rfl rfl ?_)
  refine WL.op rfl rfl (op_alloc H1 Fa.I97 (fun b2 w2 H2 => ?_))
  refine WL.op rfl rfl (op_storeBW (i := 5) H2 rfl rfl rfl rfl rfl Fa.I97 (fun w3 H3 => ?_))
  refine WL.op rfl rfl (op_assign rfl ?_)
  refine WL.nil ?_
  refine WQ.next ?_
  refine WC.seq ?_
  refine WC.seq ?_
  refine WC.region ?_
  refine WL.op rfl rfl (op_move rfl ?_)
  refine WL.op rfl rfl (op_not rfl ?_)
  refine WL.nil ?_
  refine WQ.next ?_
  refine WC.cond rfl (fun (hb4 : (!(curIs (slotN B each key 0) (slotN B each key 1))) = true) => ?_) (fun (hb4 : (!(curIs (slotN B each key 0) (slotN B each key 1))) = false) => ?_)
  ·
    have hn4 := (Bool.not_eq_true' _).mp hb4
    refine WC.seq ?_
    refine WC.region ?_
    refine WL.op rfl rfl (op_assign rfl ?_)
    refine WL.op rfl rfl (op_assign rfl ?_)
    refine WL.op rfl rfl (op_assign rfl ?_)
    refine WL.nil ?_
    refine WQ.next ?_
    refine WC.ret ?_
    refine WQ.thenRet ?_
    refine WQ.out (.tmp rfl (.tmp rfl (.tmp rfl .nil))) ?_
    exact ⟨by rw [curS_no hn4]; rfl, H3.fr⟩
  ·
    have hn4 := (Bool.not_eq_false' _).mp hb4
    refine WC.skip ?_
    refine WQ.next ?_
    refine WC.seq ?_
    refine WC.region ?_
    refine WL.op rfl rfl (op_loadS (vs := [_, _]) rfl (H3.cells (i := 5) rfl rfl) Tryz.underlying97 rfl Fa.I97 rfl ?_)
    refine WL.op rfl rfl (op_callF Fa.C47 rfl ((read_ok s id key each left x k bv ev xv cv nv pg m n es B (curN (slotN B each key 0) (slotN B each key 1)) _ (H3.cellsAtO (i := 0) rfl) (H3.cellsAtO (i := 1) rfl) (H3.cellsAtO (i := 2) rfl) (H3.arrO (i := 3) rfl) (H3.arrO (i := 4) rfl) hid hev hn hB hc hm hk (curN_lt _ _)).mono (fun e w5 hq => ?_)))
    obtain ⟨rfl, hf5⟩ := hq
    refine ⟨_, rfl, ?_⟩
    have H5 := H3.fr' hf5
    refine WL.op rfl rfl (op_extract rfl rfl ?_)
    refine WL.op rfl rfl (op_extract rfl rfl ?_)
    refine WL.op rfl rfl (op_extract rfl rfl ?_)
    refine WL.op rfl rfl (op_assign rfl ?_)
    refine WL.op rfl rfl (op_assign rfl ?_)
    refine WL.op rfl rfl (op_assign rfl ?_)
    refine WL.nil ?_
    refine WQ.next ?_
    refine WC.ret ?_
    refine WQ.out (.tmp rfl (.tmp rfl (.tmp rfl .nil))) ?_
    exact ⟨rfl, H5.fr⟩
end Go.Proofs.YtbjhccnffacbcaaGreat
/-! from WSlot3 -/
namespace Go.Proofs.YtbjhccnffacbcaaGreat
open Go.Owl Go.Spec
set_option maxRecDepth 100000 in
theorem write44_ok (s : Nat) (id : UInt32) (key : List UInt8) (each : Nat) (left : Int) (x : Nat) (k : Nat) (bv ev xv cv nv : Value) (pg : UInt32) (m n : Nat) (es : List Value) (B : List (List UInt8)) (p : Nat) (t : List UInt8) (T : List Nat) (w : World) (H : Own T w w [.blk s [(ptr x 0), (vU32 id), (str key), (vN each), (vI left)] 95, Ent.bo x [(ptr k 0)], Ent.bo k [(vU32 pg), xv, cv, nv, bv], Ent.ar bv 1 m es, .row ev 9 1 n (List.map str B)]) (hid : id.toNat < m) (hev : es[id.toNat]? = some ev) (hp : p < n) (hm : n < 2 ^ 20) (hL : left < 2 ^ 63) (ht : t.length ≤ 64) :
    Calls Tryz.prog 51 #[(ptr s 0), (vN p), (str t)] w (fun e w' => e = .returned (.bool (!decide (left = 0))) ∧ Own T w w' [.blk s [(ptr x 0), (vU32 id), (str key), (vN each), (vI (wrX (Sst.mk B left) (p, t)).left)] 95, Ent.bo x [(ptr k 0)], Ent.bo k [(vU32 pg), xv, cv, nv, bv], Ent.ar bv 1 m es, .row ev 9 1 n (List.map str (wrX (Sst.mk B left) (p, t)).B)]) := by
  refine enter (args := [(ptr s 0), (vN p), (str t)]) Tryz.func51 rfl rfl ?_
  refine WC.seq ?_
  refine WC.region ?_
  refine WL.op rfl rfl (op_assign rfl ?_)
  refine WL.nil ?_
  refine WQ.next ?_
  refine WC.seq ?_
  refine WC.seq ?_
  refine WC.region ?_
  refine WL.op rfl rfl (op_move rfl ?_)
  refine WL.op rfl rfl (op_nilCheck rfl ?_)
  refine WL.op rfl rfl (op_fieldAddr rfl Fa.F95_4 ?_)
  refine WL.op rfl rfl (op_load rfl (H.cell (i := 0) rfl rfl) Tryz.underlying3 rfl ?_)
  refine WL.op rfl rfl (op_eqlI (b := (0 : Int)) rfl rfl ?_)
  refine WL.nil ?_
  refine WQ.next ?_
  refine WC.cond rfl (fun (hb1 : (decide (left = (0 : Int))) = true) => ?_) (fun (hb1 : (decide (left = (0 : Int))) = false) => ?_)
  ·
    have hc1 := of_decide_eq_true hb1
    refine WC.seq ?_
    refine WC.region ?_
    refine WL.op rfl rfl (op_assign rfl ?_)
    refine WL.nil ?_
    refine WQ.next ?_
    refine WC.ret ?_
    refine WQ.thenRet ?_
    refine WQ.out (.tmp rfl .nil) ?_
    rw [wrX_0 (of_decide_eq_true hb1), hb1]
    exact ⟨rfl, H⟩
  ·
    have hc1 := of_decide_eq_false hb1
    refine WC.skip ?_
    refine WQ.next ?_
    refine WC.seq ?_
    refine WC.seq ?_
    refine WC.region ?_
    refine WL.op rfl rfl (op_move rfl ?_)
    refine WL.op rfl rfl (op_nilCheck rfl ?_)
    refine WL.op rfl rfl (op_fieldAddr rfl Fa.F95_4 ?_)
    refine WL.op rfl rfl (op_load rfl (H.cell (i := 0) rfl rfl) Tryz.underlying3 rfl ?_)
    refine WL.op rfl rfl (op_gtrI (b := (0 : Int)) rfl rfl ?_)
    refine WL.nil ?_
    refine WQ.next ?_
    refine WC.cond rfl (fun (hb2 : (decide (left > (0 : Int))) = true) => ?_) (fun (hb2 : (decide (left > (0 : Int))) = false) => ?_)
    ·
      have hc2 := of_decide_eq_true hb2
      refine WC.region ?_
      refine WL.op rfl rfl (op_move rfl ?_)
      refine WL.op rfl rfl (op_nilCheck rfl ?_)
      refine WL.op rfl rfl (op_fieldAddr rfl Fa.F95_4 ?_)
      refine WL.op rfl rfl (op_load rfl (H.cell (i := 0) rfl rfl) Tryz.underlying3 rfl ?_)
      refine WL.op rfl rfl (op_subI (b := (1 : Int)) rfl rfl (by omega) ?_)
      refine WL.op rfl rfl (op_nilCheck rfl ?_)
      refine WL.op rfl rfl (op_fieldAddr rfl Fa.F95_4 ?_)
      refine WL.op rfl rfl (op_storeB (i := 0) H rfl rfl rfl rfl rfl Fa.I3 (fun w3 H3 => ?_))
      refine WL.nil ?_
      refine WQ.next ?_
      refine WC.seq ?_
      refine WC.draw 12 Fa.M H3 (HW.op rfl (fun w1 H1 => op_move rfl ⟨rfl, Fr.refl _ _⟩) (HW.op rfl (fun w1 H1 => op_nilCheck rfl ⟨rfl, Fr.refl _ _⟩) (HW.op rfl (fun w1 H1 => op_fieldAddr rfl Fa.F95_0 ⟨rfl, Fr.refl _ _⟩) (HW.op rfl (fun w1 H1 => op_load rfl (H1.cell (i := 0) rfl rfl) Tryz.underlying47 rfl ⟨rfl, Fr.refl _ _⟩) (HW.op rfl (fun w1 H1 => op_move rfl ⟨rfl, Fr.refl _ _⟩) (HW.op rfl (fun w1 H1 => op_nilCheck rfl ⟨rfl, Fr.refl _ _⟩) (HW.op rfl (fun w1 H1 => op_fieldAddr rfl Fa.F95_1 ⟨rfl, Fr.refl _ _⟩) (HW.op rfl (fun w1 H1 => op_load rfl (H1.cell (i := 0) rfl rfl) Tryz.underlying22 rfl ⟨rfl, Fr.refl _ _⟩) (HW.op rfl (fun w1 H1 => op_move rfl ⟨rfl, Fr.refl _ _⟩) (HW.op rfl (fun w1 H1 => op_convNU32 (hs := Tryz.underlying3) (hd := Tryz.underlying22) rfl ⟨rfl, Fr.refl _ _⟩) (HW.op rfl (fun w1 H1 => op_move rfl ⟨rfl, Fr.refl _ _⟩) (HW.op rfl (fun w1 H1 => op_callF Fa.C111 rfl ((slfill_ok t _ (by omega)).mono (fun e w2 hq => ⟨_, hq.1, rfl, hq.2⟩)))  HW.nil)))))))))))) (by kernel_rfl) ?_
      intro β5 w5 H5
      refine WL.op rfl rfl (op_callF Fa.C27 rfl ((xset_ok x k bv ev xv cv nv pg m n es B id p (pad64 t) _ _ (H5.part [1, 2, 3, 4] rfl rfl) hid hev (by omega) (by omega) (pad64_len (by omega))).mono (fun e w6 hq => ?_)))
      obtain ⟨rfl, hq6⟩ := hq
      refine ⟨_, rfl, ?_⟩
      have H6 : Own T w w6 [.blk s [(ptr x 0), (vU32 id), (str key), (vN each), (vI (left - (1 : Int)))] 95, Ent.bo x [(ptr k 0)], Ent.bo k [(vU32 pg), xv, cv, nv, bv], Ent.ar bv 1 m es, .row ev 9 1 n (List.map str (B.set p (pad64 t)))] := H5.splice [1, 2, 3, 4] [Ent.bo x [(ptr k 0)], Ent.bo k [(vU32 pg), xv, cv, nv, bv], Ent.ar bv 1 m es, .row ev 9 1 n (List.map str (B.set p (pad64 t)))] [] rfl rfl hq6 (Fits.same (j := 0) rfl (Fits.same (j := 1) rfl (Fits.same (j := 2) rfl (Fits.solid True.intro Fits.nil))))
      refine WL.op rfl rfl (op_eqlN (b := 0) rfl rfl ?_)
      refine WL.op rfl rfl (op_assign rfl ?_)
      refine WL.nil ?_
      refine WQ.next ?_
      refine WC.ret ?_
      refine WQ.out (.tmp rfl .nil) ?_
      rw [wrX_1 (of_decide_eq_false hb1) (of_decide_eq_true hb2), hb1]
      exact ⟨rfl, H6⟩
    ·
      have hc2 := of_decide_eq_false hb2
      refine WC.skip ?_
      refine WQ.next ?_
      refine WC.seq ?_
      refine WC.draw 12 Fa.M H (HW.op rfl (fun w1 H1 => op_move rfl ⟨rfl, Fr.refl _ _⟩) (HW.op rfl (fun w1 H1 => op_nilCheck rfl ⟨rfl, Fr.refl _ _⟩) (HW.op rfl (fun w1 H1 => op_fieldAddr rfl Fa.F95_0 ⟨rfl, Fr.refl _ _⟩) (HW.op rfl (fun w1 H1 => op_load rfl (H1.cell (i := 0) rfl rfl) Tryz.underlying47 rfl ⟨rfl, Fr.refl _ _⟩) (HW.op rfl (fun w1 H1 => op_move rfl ⟨rfl, Fr.refl _ _⟩) (HW.op rfl (fun w1 H1 => op_nilCheck rfl ⟨rfl, Fr.refl _ _⟩) (HW.op rfl (fun w1 H1 => op_fieldAddr rfl Fa.F95_1 ⟨rfl, Fr.refl _ _⟩) (HW.op rfl (fun w1 H1 => op_load rfl (H1.cell (i := 0) rfl rfl) Tryz.underlying22 rfl ⟨rfl, Fr.refl _ _⟩) (HW.op rfl (fun w1 H1 => op_move rfl ⟨rfl, Fr.refl _ _⟩) (HW.op rfl (fun w1 H1 => op_convNU32 (hs := Tryz.underlying3) (hd := Tryz.underlying22) rfl ⟨rfl, Fr.refl _ _⟩) (HW.op rfl (fun w1 H1 => op_move rfl ⟨rfl, Fr.refl _ _⟩) (HW.op rfl (fun w1 H1 => op_callF Fa.C111 rfl ((slfill_ok t _ (by omega)).mono (fun e w2 hq => ⟨_, hq.1, rfl, hq.2⟩)))  HW.nil)))))))))))) (by kernel_rfl) ?_
      intro β8 w8 H8
      refine WL.op rfl rfl (op_callF Fa.C27 rfl ((xset_ok x k bv ev xv cv nv pg m n es B id p (pad64 t) _ _ (H8.part [1, 2, 3, 4] rfl rfl) hid hev (by omega) (by omega) (pad64_len (by omega))).mono (fun e w9 hq => ?_)))
      obtain ⟨rfl, hq9⟩ := hq
      refine ⟨_, rfl, ?_⟩
      have H9 : Own T w w9 [.blk s [(ptr x 0), (vU32 id), (str key), (vN each), (vI left)] 95, Ent.bo x [(ptr k 0)], Ent.bo k [(vU32 pg), xv, cv, nv, bv], Ent.ar bv 1 m es, .row ev 9 1 n (List.map str (B.set p (pad64 t)))] := H8.splice [1, 2, 3, 4] [Ent.bo x [(ptr k 0)], Ent.bo k [(vU32 pg), xv, cv, nv, bv], Ent.ar bv 1 m es, .row ev 9 1 n (List.map str (B.set p (pad64 t)))] [] rfl rfl hq9 (Fits.same (j := 0) rfl (Fits.same (j := 1) rfl (Fits.same (j := 2) rfl (Fits.solid True.intro Fits.nil))))
      refine WL.op rfl rfl (op_eqlN (b := 0) rfl rfl ?_)
      refine WL.op rfl rfl (op_assign rfl ?_)
      refine WL.nil ?_
      refine WQ.next ?_
      refine WC.ret ?_
      refine WQ.out (.tmp rfl .nil) ?_
      rw [wrX_2 (of_decide_eq_false hb1) (of_decide_eq_false hb2), hb1]
      exact ⟨rfl, H9⟩
set_option maxRecDepth 100000 in
theorem upd1_ok (s : Nat) (id : UInt32) (key : List UInt8) (each : Nat) (left : Int) (x : Nat) (k : Nat) (bv ev xv cv nv : Value) (pg : UInt32) (m n : Nat) (es : List Value) (B : List (List UInt8)) (c3 c10 at_ : Nat)  (T : List Nat) (w : World) (H : Own T w w [.blk c3 [(ptr s 0)] 24, .blk c10 [(ptr s 0), (vN at_)] 97, .blk s [(ptr x 0), (vU32 id), (str key), (vN each), (vI left)] 95, Ent.bo x [(ptr k 0)], Ent.bo k [(vU32 pg), xv, cv, nv, bv], Ent.ar bv 1 m es, .row ev 9 1 n (List.map str B)]) (hid : id.toNat < m) (hev : es[id.toNat]? = some ev) (hp : at_ < n) (hm : n < 2 ^ 20) (hL : left < 2 ^ 63) :
    Calls Tryz.prog 50 #[(ptr c3 0), (ptr c10 0)] w (fun e w' => e = .returned (.bool (!decide (left = 0))) ∧ Own T w w' [.blk c3 [(ptr s 0)] 24, .blk c10 [(ptr s 0), (vN at_)] 97, .blk s [(ptr x 0), (vU32 id), (str key), (vN each), (vI (wrX (Sst.mk B left) (at_, [])).left)] 95, Ent.bo x [(ptr k 0)], Ent.bo k [(vU32 pg), xv, cv, nv, bv], Ent.ar bv 1 m es, .row ev 9 1 n (List.map str (wrX (Sst.mk B left) (at_, [])).B)]) := by
  refine enter (args := [(ptr c3 0), (ptr c10 0)]) Tryz.func50 rfl rfl ?_
  refine WC.seq ?_
  refine WC.region ?_
  refine WL.op rfl rfl (op_assign rfl ?_)
  refine WL.nil ?_
  refine WQ.next ?_
  refine WC.seq ?_
  refine WC.region ?_
  refine WL.op rfl rfl (op_load rfl (H.cell (i := 0) rfl rfl) Tryz.underlying24 rfl ?_)
  refine WL.op rfl rfl (op_fieldAddr rfl Fa.F97_1 ?_)
  refine WL.op rfl rfl (op_load rfl (H.cell (i := 1) rfl rfl) Tryz.underlying3 rfl ?_)
  refine WL.op rfl rfl (op_callF Fa.C51 rfl ((write44_ok s id key each left x k bv ev xv cv nv pg m n es B at_ ([]) _ _ (H.part [2, 3, 4, 5, 6] rfl rfl) hid hev hp hm hL (by decide)).mono (fun e w1 hq => ?_)))
  obtain ⟨rfl, hq1⟩ := hq
  refine ⟨_, rfl, ?_⟩
  have H1 : Own T w w1 [.blk c3 [(ptr s 0)] 24, .blk c10 [(ptr s 0), (vN at_)] 97, .blk s [(ptr x 0), (vU32 id), (str key), (vN each), (vI (wrX (Sst.mk B left) (at_, [])).left)] 95, Ent.bo x [(ptr k 0)], Ent.bo k [(vU32 pg), xv, cv, nv, bv], Ent.ar bv 1 m es, .row ev 9 1 n (List.map str (wrX (Sst.mk B left) (at_, [])).B)] := H.splice [2, 3, 4, 5, 6] [.blk s [(ptr x 0), (vU32 id), (str key), (vN each), (vI (wrX (Sst.mk B left) (at_, [])).left)] 95, Ent.bo x [(ptr k 0)], Ent.bo k [(vU32 pg), xv, cv, nv, bv], Ent.ar bv 1 m es, .row ev 9 1 n (List.map str (wrX (Sst.mk B left) (at_, [])).B)] [] rfl rfl hq1 (Fits.solid True.intro (Fits.same (j := 1) rfl (Fits.same (j := 2) rfl (Fits.same (j := 3) rfl (Fits.solid True.intro Fits.nil)))))
  refine WL.op rfl rfl (op_assign rfl ?_)
  refine WL.nil ?_
  refine WQ.next ?_
  refine WC.ret ?_
  refine WQ.out (.tmp rfl .nil) ?_
  exact ⟨rfl, H1⟩
set_option maxRecDepth 100000 in
theorem upd2_ok (s : Nat) (id : UInt32) (key : List UInt8) (each : Nat) (left : Int) (x : Nat) (k : Nat) (bv ev xv cv nv : Value) (pg : UInt32) (m n : Nat) (es : List Value) (B : List (List UInt8)) (c3 c10 at_ : Nat) (ck cp i : Nat) (tx : List UInt8) (T : List Nat) (w : World) (H : Own T w w [.blk c3 [(ptr s 0)] 24, .blk c10 [(ptr s 0), (vN at_)] 97, .blk s [(ptr x 0), (vU32 id), (str key), (vN each), (vI left)] 95, Ent.bo x [(ptr k 0)], Ent.bo k [(vU32 pg), xv, cv, nv, bv], Ent.ar bv 1 m es, .row ev 9 1 n (List.map str B), Ent.bo ck [(vN i)], Ent.bo cp [(str tx)]]) (hid : id.toNat < m) (hev : es[id.toNat]? = some ev) (hp : 2 + at_ * each + i < n) (hm : n < 2 ^ 20) (hL : left < 2 ^ 63) (ht : tx.length ≤ 64) :
    Calls Tryz.prog 52 #[(ptr c3 0), (ptr c10 0), (ptr ck 0), (ptr cp 0)] w (fun e w' => e = .returned (.bool (!decide (left = 0))) ∧ Own T w w' [.blk c3 [(ptr s 0)] 24, .blk c10 [(ptr s 0), (vN at_)] 97, .blk s [(ptr x 0), (vU32 id), (str key), (vN each), (vI (wrX (Sst.mk B left) (2 + at_ * each + i, tx)).left)] 95, Ent.bo x [(ptr k 0)], Ent.bo k [(vU32 pg), xv, cv, nv, bv], Ent.ar bv 1 m es, .row ev 9 1 n (List.map str (wrX (Sst.mk B left) (2 + at_ * each + i, tx)).B), Ent.bo ck [(vN i)], Ent.bo cp [(str tx)]]) := by
  refine enter (args := [(ptr c3 0), (ptr c10 0), (ptr ck 0), (ptr cp 0)]) Tryz.func52 rfl rfl ?_
  refine WC.seq ?_
  refine WC.region ?_
  refine WL.op rfl rfl (op_assign rfl ?_)
  refine WL.nil ?_
  refine WQ.next ?_
  refine WC.seq ?_
  refine WC.draw 12 Fa.M H (HW.op rfl (fun w1 H1 => op_load rfl (H1.cell (i := 0) rfl rfl) Tryz.underlying24 rfl ⟨rfl, Fr.refl _ _⟩) (HW.op rfl (fun w1 H1 => op_fieldAddr rfl Fa.F97_1 ⟨rfl, Fr.refl _ _⟩) (HW.op rfl (fun w1 H1 => op_load rfl (H1.cell (i := 1) rfl rfl) Tryz.underlying3 rfl ⟨rfl, Fr.refl _ _⟩) (HW.op rfl (fun w1 H1 => op_load rfl (H1.cell (i := 0) rfl rfl) Tryz.underlying24 rfl ⟨rfl, Fr.refl _ _⟩) (HW.op rfl (fun w1 H1 => op_nilCheck rfl ⟨rfl, Fr.refl _ _⟩) (HW.op rfl (fun w1 H1 => op_fieldAddr rfl Fa.F95_3 ⟨rfl, Fr.refl _ _⟩) (HW.op rfl (fun w1 H1 => op_load rfl (H1.cell (i := 2) rfl rfl) Tryz.underlying3 rfl ⟨rfl, Fr.refl _ _⟩) (HW.op rfl (fun w1 H1 => op_mulN rfl rfl (by omega) ⟨rfl, Fr.refl _ _⟩) (HW.op rfl (fun w1 H1 => op_addN (a := 2) rfl rfl (by omega) ⟨rfl, Fr.refl _ _⟩) (HW.op rfl (fun w1 H1 => op_load rfl (H1.cellO (i := 7) rfl rfl) Tryz.underlying3 rfl ⟨rfl, Fr.refl _ _⟩) (HW.op rfl (fun w1 H1 => op_addN rfl rfl (by omega) ⟨rfl, Fr.refl _ _⟩) (HW.op rfl (fun w1 H1 => op_load rfl (H1.cellO (i := 8) rfl rfl) Tryz.underlying9 rfl ⟨rfl, Fr.refl _ _⟩)  HW.nil)))))))))))) (by kernel_rfl) ?_
  intro β1 w1 H1
  refine WL.op rfl rfl (op_callF Fa.C51 rfl ((write44_ok s id key each left x k bv ev xv cv nv pg m n es B ((2 + (at_ * each)) + i) tx _ _ (H1.part [2, 3, 4, 5, 6] rfl rfl) hid hev (by omega) hm hL ht).mono (fun e w2 hq => ?_)))
  obtain ⟨rfl, hq2⟩ := hq
  refine ⟨_, rfl, ?_⟩
  have H2 : Own T w w2 [.blk c3 [(ptr s 0)] 24, .blk c10 [(ptr s 0), (vN at_)] 97, .blk s [(ptr x 0), (vU32 id), (str key), (vN each), (vI (wrX (Sst.mk B left) (((2 + (at_ * each)) + i), tx)).left)] 95, Ent.bo x [(ptr k 0)], Ent.bo k [(vU32 pg), xv, cv, nv, bv], Ent.ar bv 1 m es, .row ev 9 1 n (List.map str (wrX (Sst.mk B left) (((2 + (at_ * each)) + i), tx)).B), Ent.bo ck [(vN i)], Ent.bo cp [(str tx)]] := H1.splice [2, 3, 4, 5, 6] [.blk s [(ptr x 0), (vU32 id), (str key), (vN each), (vI (wrX (Sst.mk B left) (((2 + (at_ * each)) + i), tx)).left)] 95, Ent.bo x [(ptr k 0)], Ent.bo k [(vU32 pg), xv, cv, nv, bv], Ent.ar bv 1 m es, .row ev 9 1 n (List.map str (wrX (Sst.mk B left) (((2 + (at_ * each)) + i), tx)).B)] [] rfl rfl hq2 (Fits.solid True.intro (Fits.same (j := 1) rfl (Fits.same (j := 2) rfl (Fits.same (j := 3) rfl (Fits.solid True.intro Fits.nil)))))
  refine WL.op rfl rfl (op_assign rfl ?_)
  refine WL.nil ?_
  refine WQ.next ?_
  refine WC.ret ?_
  refine WQ.out (.tmp rfl .nil) ?_
  exact ⟨rfl, H2⟩
set_option maxRecDepth 100000 in
theorem upd3_ok (s : Nat) (id : UInt32) (key : List UInt8) (each : Nat) (left : Int) (x : Nat) (k : Nat) (bv ev xv cv nv : Value) (pg : UInt32) (m n : Nat) (es : List Value) (B : List (List UInt8)) (c3 c10 at_ : Nat) (c13 : Nat) (hd : List UInt8) (T : List Nat) (w : World) (H : Own T w w [.blk c3 [(ptr s 0)] 24, .blk c10 [(ptr s 0), (vN at_)] 97, .blk s [(ptr x 0), (vU32 id), (str key), (vN each), (vI left)] 95, Ent.bo x [(ptr k 0)], Ent.bo k [(vU32 pg), xv, cv, nv, bv], Ent.ar bv 1 m es, .row ev 9 1 n (List.map str B), .blk c13 [(str hd)] 9]) (hid : id.toNat < m) (hev : es[id.toNat]? = some ev) (hp : at_ < n) (hm : n < 2 ^ 20) (hL : left < 2 ^ 63) (ht : hd.length ≤ 64) :
    Calls Tryz.prog 53 #[(ptr c3 0), (ptr c10 0), (ptr c13 0)] w (fun e w' => e = .returned (.bool (!decide (left = 0))) ∧ Own T w w' [.blk c3 [(ptr s 0)] 24, .blk c10 [(ptr s 0), (vN at_)] 97, .blk s [(ptr x 0), (vU32 id), (str key), (vN each), (vI (wrX (Sst.mk B left) (at_, hd)).left)] 95, Ent.bo x [(ptr k 0)], Ent.bo k [(vU32 pg), xv, cv, nv, bv], Ent.ar bv 1 m es, .row ev 9 1 n (List.map str (wrX (Sst.mk B left) (at_, hd)).B), .blk c13 [(str hd)] 9]) := by
  refine enter (args := [(ptr c3 0), (ptr c10 0), (ptr c13 0)]) Tryz.func53 rfl rfl ?_
  refine WC.seq ?_
  refine WC.region ?_
  refine WL.op rfl rfl (op_assign rfl ?_)
  refine WL.nil ?_
  refine WQ.next ?_
  refine WC.seq ?_
  refine WC.region ?_
  refine WL.op rfl rfl (op_load rfl (H.cell (i := 0) rfl rfl) Tryz.underlying24 rfl ?_)
  refine WL.op rfl rfl (op_fieldAddr rfl Fa.F97_1 ?_)
  refine WL.op rfl rfl (op_load rfl (H.cell (i := 1) rfl rfl) Tryz.underlying3 rfl ?_)
  refine WL.op rfl rfl (op_load rfl (H.cell (i := 7) rfl rfl) Tryz.underlying9 rfl ?_)
  refine WL.op rfl rfl (op_callF Fa.C51 rfl ((write44_ok s id key each left x k bv ev xv cv nv pg m n es B at_ hd _ _ (H.part [2, 3, 4, 5, 6] rfl rfl) hid hev hp hm hL ht).mono (fun e w1 hq => ?_)))
  obtain ⟨rfl, hq1⟩ := hq
  refine ⟨_, rfl, ?_⟩
  have H1 : Own T w w1 [.blk c3 [(ptr s 0)] 24, .blk c10 [(ptr s 0), (vN at_)] 97, .blk s [(ptr x 0), (vU32 id), (str key), (vN each), (vI (wrX (Sst.mk B left) (at_, hd)).left)] 95, Ent.bo x [(ptr k 0)], Ent.bo k [(vU32 pg), xv, cv, nv, bv], Ent.ar bv 1 m es, .row ev 9 1 n (List.map str (wrX (Sst.mk B left) (at_, hd)).B), .blk c13 [(str hd)] 9] := H.splice [2, 3, 4, 5, 6] [.blk s [(ptr x 0), (vU32 id), (str key), (vN each), (vI (wrX (Sst.mk B left) (at_, hd)).left)] 95, Ent.bo x [(ptr k 0)], Ent.bo k [(vU32 pg), xv, cv, nv, bv], Ent.ar bv 1 m es, .row ev 9 1 n (List.map str (wrX (Sst.mk B left) (at_, hd)).B)] [] rfl rfl hq1 (Fits.solid True.intro (Fits.same (j := 1) rfl (Fits.same (j := 2) rfl (Fits.same (j := 3) rfl (Fits.solid True.intro Fits.nil)))))
  refine WL.op rfl rfl (op_assign rfl ?_)
  refine WL.nil ?_
  refine WQ.next ?_
  refine WC.ret ?_
  refine WQ.out (.tmp rfl .nil) ?_
  exact ⟨rfl, H1⟩
set_option maxRecDepth 100000 in
theorem all44_ok (v : Value) (cs : List Cl) (I : Nat → World → Prop) (J : World → Prop) (w : World) (hI : ∀ k w', I k w' → Arr w' v 1 cs.length (cs.map clV)) (hcl : ∀ c ∈ cs, callB Tryz.prog c.f = true) (hc : ∀ k c w', cs[k]? = some c → I k w' → Calls Tryz.prog c.f c.cap.toArray w' (fun e w'' => ∃ b, e = .returned (.bool b) ∧ (b = true → I (k + 1) w'') ∧ (b = false → J w''))) (h0 : I 0 w) (hln : cs.length < 2 ^ 40) :
    Calls Tryz.prog 54 #[v] w (fun e w' => (e = .returned (vN 0) ∧ I cs.length w') ∨ (e = .returned (vN 441) ∧ J w')) := by
  refine enter (args := [v]) Tryz.func54 rfl rfl ?_
  have H0 : Own [] w w [] := Own.start w []
  refine WC.seq ?_
  refine WC.region ?_
  refine WL.op rfl rfl (op_assign rfl ?_)
  refine WL.nil ?_
  refine WQ.next ?_
  refine WC.seq ?_
  refine WC.seq ?_
  refine WC.region ?_
  refine WL.op rfl rfl (op_move rfl ?_)
  refine WL.op rfl rfl (op_lenA Tryz.underlying101 rfl ((hI _ _ h0)) ?_)
  refine WL.op rfl rfl (op_move rfl ?_)
  refine WL.nil ?_
  refine WQ.next ?_
  refine WC.block ?_
  refine WC.loop (α := Nat) (fun k => [(5, v), (6, (vN cs.length)), (7, (vN k))]) (fun k w' => I k w' ∧ k ≤ cs.length) (fun k => cs.length - k) 0 ⟨h0, Nat.zero_le _⟩ ⟨rfl, rfl, rfl, trivial⟩ ?_
  rintro k w1 ⟨hIk, hk1⟩
  show WC _ _ _ _ _ [(5, v), (6, (vN cs.length)), (7, (vN k))] _
  refine WC.seq ?_
  refine WC.region ?_
  refine WL.op rfl rfl (op_lssN rfl rfl ?_)
  refine WL.nil ?_
  refine WQ.next ?_
  refine WC.seq ?_
  refine WC.cond rfl (fun (hb2 : (decide (k < cs.length)) = true) => ?_) (fun (hb2 : (decide (k < cs.length)) = false) => ?_)
  ·
    have hc2 := of_decide_eq_true hb2
    have hget : cs[k]? = some (cs.getD k Cl.zero) := by rw [List.getD, List.getElem?_eq_getElem (by omega)]; rfl
    refine WC.skip ?_
    refine WQ.next ?_
    refine WC.seq ?_
    refine WC.block ?_
    refine WC.seq ?_
    refine WC.region ?_
    refine WL.op rfl rfl (op_indexAddr1 Tryz.underlying101 Fa.I23 rfl ((hI _ _ hIk)) rfl (by omega) ?_)
    refine WL.op rfl rfl (op_load rfl (((hI _ _ hIk)).at (get_map clV Cl.zero (by omega))) Tryz.underlying23 rfl ?_)
    refine WL.op rfl rfl (op_assign rfl ?_)
    refine WL.nil ?_
    refine WQ.next ?_
    refine WC.seq ?_
    refine WC.region ?_
    refine WL.op rfl rfl (op_move rfl ?_)
    refine WL.op rfl rfl (op_call (f := (cs.getD k Cl.zero).f) (fi := []) (ca := (cs.getD k Cl.zero).cap) rfl (hcl _ (List.mem_of_getElem? hget)) rfl ((hc k _ _ hget hIk).mono (fun e w3 hq => ?_)))
    obtain ⟨bq, rfl, hT, hF⟩ := hq
    refine ⟨_, rfl, ?_⟩
    refine WL.op rfl rfl (op_not rfl ?_)
    refine WL.nil ?_
    refine WQ.next ?_
    refine WC.cond rfl (fun (hb4 : (!bq) = true) => ?_) (fun (hb4 : (!bq) = false) => ?_)
    ·
      have hn4 := (Bool.not_eq_true' _).mp hb4
      refine WC.seq ?_
      refine WC.region ?_
      refine WL.op rfl rfl (op_assign rfl ?_)
      refine WL.nil ?_
      refine WQ.next ?_
      refine WC.ret ?_
      refine WQ.inRet ?_
      refine WQ.thenRet ?_
      refine WQ.thenRet ?_
      refine WQ.inRet ?_
      refine WQ.thenRet ?_
      refine WQ.out (.tmp rfl .nil) ?_
      exact .inr ⟨rfl, hF ((Bool.not_eq_true' _).mp hb4)⟩
    ·
      have hn4 := (Bool.not_eq_false' _).mp hb4
      refine WC.skip ?_
      refine WQ.inNormal ?_
      refine WQ.next ?_
      refine WC.region ?_
      refine WL.op rfl rfl (op_addN (b := 1) rfl rfl (by omega) ?_)
      refine WL.op rfl rfl (op_move rfl ?_)
      refine WL.nil ?_
      exact WQ.round (k + 1) ⟨hT ((Bool.not_eq_false' _).mp hb4), by omega⟩ ⟨rfl, rfl, rfl, trivial⟩ (by omega)
  ·
    have hc2 := of_decide_eq_false hb2
    refine WC.exit ?_
    refine WQ.thenExit ?_
    refine WQ.thenExit ?_
    refine WQ.inHere ?_
    refine WQ.next ?_
    refine WC.seq ?_
    refine WC.region ?_
    refine WL.op rfl rfl (op_assign rfl ?_)
    refine WL.nil ?_
    refine WQ.next ?_
    refine WC.ret ?_
    refine WQ.out (.tmp rfl .nil) ?_
    exact .inl ⟨rfl, (show k = cs.length by omega) ▸ hIk⟩
end Go.Proofs.YtbjhccnffacbcaaGreat
/-! from WSlot4 -/
namespace Go.Proofs.YtbjhccnffacbcaaGreat
open Go.Owl Go.Spec
theorem all_upd (s : Nat) (id : UInt32) (key : List UInt8) (each : Nat) (left : Int) (x : Nat) (k : Nat) (bv ev xv cv nv : Value) (pg : UInt32) (m n : Nat) (es : List Value) (B : List (List UInt8)) (v : Value) (c3 c10 c13 : Nat) (t : List UInt8) (vv : UInt32) (at_ : Nat) (KP : List KPt) (T : List Nat) (w : World) (H : Own T w w [.blk s [(ptr x 0), (vU32 id), (str key), (vN each), (vI left)] 95, Ent.bo x [(ptr k 0)], Ent.bo k [(vU32 pg), xv, cv, nv, bv], Ent.ar bv 1 m es, .row ev 9 1 n (List.map str B), .blk c3 [(ptr s 0)] 24, .blk c10 [(ptr s 0), (vN at_)] 97, .blk c13 [(str (hdrS key vv t))] 9, .row v 23 1 (stepsL 50 52 53 c3 c10 c13 KP).length (List.map clV (stepsL 50 52 53 c3 c10 c13 KP)), Ent.bs 3 (fun p : KPt => [vN p.1]) (fun p : KPt => p.2.1) KP, Ent.bs 9 (fun p : KPt => [str (pcT t p.1)]) (fun p : KPt => p.2.2) KP]) (hid : id.toNat < m) (hev : es[id.toNat]? = some ev) (hn : B.length = n) (hc : 2 + each + each ≤ n) (h4 : 4 ≤ n) (hm : n < 2 ^ 20) (hL0 : left < 2 ^ 63)
    (hat : at_ = 0 ∨ at_ = 1) (hcn : cntS t ≤ each) (hKP : KP.map Prod.fst = List.range (cntS t)) :
    Calls Tryz.prog 54 #[v] w (fun e w' => e = .returned (vN (if (wrA (Sst.mk B left) (wrs each key vv t at_)).2 = true then 0 else 441)) ∧ Own T w w' [.blk s [(ptr x 0), (vU32 id), (str key), (vN each), (vI (wrA (Sst.mk B left) (wrs each key vv t at_)).1.left)] 95, Ent.bo x [(ptr k 0)], Ent.bo k [(vU32 pg), xv, cv, nv, bv], Ent.ar bv 1 m es, .row ev 9 1 n (List.map str (wrA (Sst.mk B left) (wrs each key vv t at_)).1.B), .blk c3 [(ptr s 0)] 24, .blk c10 [(ptr s 0), (vN at_)] 97, .blk c13 [(str (hdrS key vv t))] 9, .row v 23 1 (stepsL 50 52 53 c3 c10 c13 KP).length (List.map clV (stepsL 50 52 53 c3 c10 c13 KP)), Ent.bs 3 (fun p : KPt => [vN p.1]) (fun p : KPt => p.2.1) KP, Ent.bs 9 (fun p : KPt => [str (pcT t p.1)]) (fun p : KPt => p.2.2) KP]) := by
  have hae : at_ * each ≤ each := by rcases hat with rfl | rfl <;> omega
  have hlen0 := steps_len (f1 := 50) (f2 := 52) (f3 := 53) (c3 := c3) (c10 := c10) (c13 := c13) (each := each) (key := key) (v := vv) (at_ := at_) hKP
  have key1 := all44_ok v (stepsL 50 52 53 c3 c10 c13 KP) (fun kk w' => ∃ st : Sst, (wrA (Sst.mk B left) (wrs each key vv t at_)) = wrA st ((wrs each key vv t at_).drop kk) ∧ st.left < 2 ^ 63 ∧ st.B.length = n ∧ Own T w w' [.blk s [(ptr x 0), (vU32 id), (str key), (vN each), (vI st.left)] 95, Ent.bo x [(ptr k 0)], Ent.bo k [(vU32 pg), xv, cv, nv, bv], Ent.ar bv 1 m es, .row ev 9 1 n (List.map str st.B), .blk c3 [(ptr s 0)] 24, .blk c10 [(ptr s 0), (vN at_)] 97, .blk c13 [(str (hdrS key vv t))] 9, .row v 23 1 (stepsL 50 52 53 c3 c10 c13 KP).length (List.map clV (stepsL 50 52 53 c3 c10 c13 KP)), Ent.bs 3 (fun p : KPt => [vN p.1]) (fun p : KPt => p.2.1) KP, Ent.bs 9 (fun p : KPt => [str (pcT t p.1)]) (fun p : KPt => p.2.2) KP]) (fun w' => ∃ st : Sst, (wrA (Sst.mk B left) (wrs each key vv t at_)) = (st, false) ∧ Own T w w' [.blk s [(ptr x 0), (vU32 id), (str key), (vN each), (vI st.left)] 95, Ent.bo x [(ptr k 0)], Ent.bo k [(vU32 pg), xv, cv, nv, bv], Ent.ar bv 1 m es, .row ev 9 1 n (List.map str st.B), .blk c3 [(ptr s 0)] 24, .blk c10 [(ptr s 0), (vN at_)] 97, .blk c13 [(str (hdrS key vv t))] 9, .row v 23 1 (stepsL 50 52 53 c3 c10 c13 KP).length (List.map clV (stepsL 50 52 53 c3 c10 c13 KP)), Ent.bs 3 (fun p : KPt => [vN p.1]) (fun p : KPt => p.2.1) KP, Ent.bs 9 (fun p : KPt => [str (pcT t p.1)]) (fun p : KPt => p.2.2) KP]) w
    (fun kk w' ⟨st, _, _, _, h⟩ => h.arrR (i := 8) rfl)
    (fun c hc => by rcases steps_mem hc with h | h | h <;> rw [h]
                    · exact Fa.C50
                    · exact Fa.C52
                    · exact Fa.C53) ?_ ⟨⟨B, left⟩, by rw [List.drop_zero], hL0, hn, H⟩ (by rw [hlen0, wrs_len]; omega)
  · refine key1.mono (fun e w' h => ?_)
    rcases h with ⟨rfl, st, h1, _, _, h2⟩ | ⟨rfl, st, h1, h2⟩
    · rw [hlen0] at h1
      rw [wrA_done h1]; exact ⟨rfl, h2⟩
    · rw [h1]; exact ⟨rfl, h2⟩
  intro kk c w1 hck ⟨st, h1, hL, hlen, hO⟩
  rcases steps_cases (each := each) (key := key) (v := vv) (at_ := at_) hKP hck with ⟨rfl, rfl, hw⟩ | ⟨p, hp, rfl, hpi, rfl, hw⟩ | ⟨rfl, rfl, hw⟩
  · have h3 := upd1_ok s id key each st.left x k bv ev xv cv nv pg m n es st.B c3 c10 at_ _ _ (hO.part [5, 6, 0, 1, 2, 3, 4] rfl rfl) hid hev (by omega) hm hL
    refine h3.mono (fun e w2 hq => ?_)
    obtain ⟨rfl, hq⟩ := hq
    have h5 : Own T w w2 [.blk s [(ptr x 0), (vU32 id), (str key), (vN each), (vI (wrX st (at_, [])).left)] 95, Ent.bo x [(ptr k 0)], Ent.bo k [(vU32 pg), xv, cv, nv, bv], Ent.ar bv 1 m es, .row ev 9 1 n (List.map str (wrX st (at_, [])).B), .blk c3 [(ptr s 0)] 24, .blk c10 [(ptr s 0), (vN at_)] 97, .blk c13 [(str (hdrS key vv t))] 9, .row v 23 1 (stepsL 50 52 53 c3 c10 c13 KP).length (List.map clV (stepsL 50 52 53 c3 c10 c13 KP)), Ent.bs 3 (fun p : KPt => [vN p.1]) (fun p : KPt => p.2.1) KP, Ent.bs 9 (fun p : KPt => [str (pcT t p.1)]) (fun p : KPt => p.2.2) KP] := hO.splice [5, 6, 0, 1, 2, 3, 4] [.blk c3 [(ptr s 0)] 24, .blk c10 [(ptr s 0), (vN at_)] 97, .blk s [(ptr x 0), (vU32 id), (str key), (vN each), (vI (wrX st (at_, [])).left)] 95, Ent.bo x [(ptr k 0)], Ent.bo k [(vU32 pg), xv, cv, nv, bv], Ent.ar bv 1 m es, .row ev 9 1 n (List.map str (wrX st (at_, [])).B)] [] rfl rfl hq (Fits.solid True.intro (Fits.solid True.intro (Fits.solid True.intro (Fits.same (j := 3) rfl (Fits.same (j := 4) rfl (Fits.same (j := 5) rfl (Fits.solid True.intro Fits.nil)))))))
    refine ⟨_, rfl, fun hb => ⟨wrX st (at_, []), ?_, wrX_left _ hL, (wrX_len _ _).trans hlen, h5⟩, fun hb => ⟨st, ?_, ?_⟩⟩
    · have hne : st.left ≠ 0 := of_decide_eq_false ((Bool.not_eq_true' _).mp hb)
      rw [wrX_step hne]; exact wrA_step h1 hw hne
    · have hz : st.left = 0 := of_decide_eq_true ((Bool.not_eq_false' _).mp hb)
      exact wrA_stop h1 (by rw [wrs_len]; omega) hz
    · have hz : st.left = 0 := of_decide_eq_true ((Bool.not_eq_false' _).mp hb)
      rw [wrX_stop hz] at h5; exact h5
  · have E2 := ((hO.part [5, 6, 0, 1, 2, 3, 4] rfl rfl).addBo ((hO.bsG (i := 9) rfl).cells hp) (hO.notOwn (I := [5, 6, 0, 1, 2, 3, 4]) (g := 9) (bl := fun p : KPt => p.2.1) rfl rfl rfl hp)).addBo ((hO.bsG (i := 10) rfl).cells hp) (notOwn_bo (hO.notOwn (I := [5, 6, 0, 1, 2, 3, 4]) (g := 10) (bl := fun p : KPt => p.2.2) rfl rfl rfl hp))
    have h3 := upd2_ok s id key each st.left x k bv ev xv cv nv pg m n es st.B c3 c10 at_ p.2.1 p.2.2 p.1 (pcT t p.1) _ _ E2 hid hev (by omega) hm hL (pcT_len _ _)
    refine h3.mono (fun e w2 hq => ?_)
    obtain ⟨rfl, hq⟩ := hq
    have h5 : Own T w w2 [.blk s [(ptr x 0), (vU32 id), (str key), (vN each), (vI (wrX st (2 + at_ * each + p.1, pcT t p.1)).left)] 95, Ent.bo x [(ptr k 0)], Ent.bo k [(vU32 pg), xv, cv, nv, bv], Ent.ar bv 1 m es, .row ev 9 1 n (List.map str (wrX st (2 + at_ * each + p.1, pcT t p.1)).B), .blk c3 [(ptr s 0)] 24, .blk c10 [(ptr s 0), (vN at_)] 97, .blk c13 [(str (hdrS key vv t))] 9, .row v 23 1 (stepsL 50 52 53 c3 c10 c13 KP).length (List.map clV (stepsL 50 52 53 c3 c10 c13 KP)), Ent.bs 3 (fun p : KPt => [vN p.1]) (fun p : KPt => p.2.1) KP, Ent.bs 9 (fun p : KPt => [str (pcT t p.1)]) (fun p : KPt => p.2.2) KP] := hO.splice [5, 6, 0, 1, 2, 3, 4] [.blk c3 [(ptr s 0)] 24, .blk c10 [(ptr s 0), (vN at_)] 97, .blk s [(ptr x 0), (vU32 id), (str key), (vN each), (vI (wrX st (2 + at_ * each + p.1, pcT t p.1)).left)] 95, Ent.bo x [(ptr k 0)], Ent.bo k [(vU32 pg), xv, cv, nv, bv], Ent.ar bv 1 m es, .row ev 9 1 n (List.map str (wrX st (2 + at_ * each + p.1, pcT t p.1)).B)] [] rfl rfl (hq.take 7) (Fits.solid True.intro (Fits.solid True.intro (Fits.solid True.intro (Fits.same (j := 3) rfl (Fits.same (j := 4) rfl (Fits.same (j := 5) rfl (Fits.solid True.intro Fits.nil)))))))
    refine ⟨_, rfl, fun hb => ⟨wrX st (2 + at_ * each + p.1, pcT t p.1), ?_, wrX_left _ hL, (wrX_len _ _).trans hlen, h5⟩, fun hb => ⟨st, ?_, ?_⟩⟩
    · have hne : st.left ≠ 0 := of_decide_eq_false ((Bool.not_eq_true' _).mp hb)
      rw [wrX_step hne]; exact wrA_step h1 hw hne
    · have hz : st.left = 0 := of_decide_eq_true ((Bool.not_eq_false' _).mp hb)
      exact wrA_stop h1 (by rw [wrs_len]; omega) hz
    · have hz : st.left = 0 := of_decide_eq_true ((Bool.not_eq_false' _).mp hb)
      rw [wrX_stop hz] at h5; exact h5
  · have h3 := upd3_ok s id key each st.left x k bv ev xv cv nv pg m n es st.B c3 c10 at_ c13 (hdrS key vv t) _ _ (hO.part [5, 6, 0, 1, 2, 3, 4, 7] rfl rfl) hid hev (by omega) hm hL (by rw [hdrS_len]; exact Nat.le_refl _)
    refine h3.mono (fun e w2 hq => ?_)
    obtain ⟨rfl, hq⟩ := hq
    have h5 : Own T w w2 [.blk s [(ptr x 0), (vU32 id), (str key), (vN each), (vI (wrX st (at_, hdrS key vv t)).left)] 95, Ent.bo x [(ptr k 0)], Ent.bo k [(vU32 pg), xv, cv, nv, bv], Ent.ar bv 1 m es, .row ev 9 1 n (List.map str (wrX st (at_, hdrS key vv t)).B), .blk c3 [(ptr s 0)] 24, .blk c10 [(ptr s 0), (vN at_)] 97, .blk c13 [(str (hdrS key vv t))] 9, .row v 23 1 (stepsL 50 52 53 c3 c10 c13 KP).length (List.map clV (stepsL 50 52 53 c3 c10 c13 KP)), Ent.bs 3 (fun p : KPt => [vN p.1]) (fun p : KPt => p.2.1) KP, Ent.bs 9 (fun p : KPt => [str (pcT t p.1)]) (fun p : KPt => p.2.2) KP] := hO.splice [5, 6, 0, 1, 2, 3, 4, 7] [.blk c3 [(ptr s 0)] 24, .blk c10 [(ptr s 0), (vN at_)] 97, .blk s [(ptr x 0), (vU32 id), (str key), (vN each), (vI (wrX st (at_, hdrS key vv t)).left)] 95, Ent.bo x [(ptr k 0)], Ent.bo k [(vU32 pg), xv, cv, nv, bv], Ent.ar bv 1 m es, .row ev 9 1 n (List.map str (wrX st (at_, hdrS key vv t)).B), .blk c13 [(str (hdrS key vv t))] 9] [] rfl rfl hq (Fits.solid True.intro (Fits.solid True.intro (Fits.solid True.intro (Fits.same (j := 3) rfl (Fits.same (j := 4) rfl (Fits.same (j := 5) rfl (Fits.solid True.intro (Fits.solid True.intro Fits.nil))))))))
    refine ⟨_, rfl, fun hb => ⟨wrX st (at_, hdrS key vv t), ?_, wrX_left _ hL, (wrX_len _ _).trans hlen, h5⟩, fun hb => ⟨st, ?_, ?_⟩⟩
    · have hne : st.left ≠ 0 := of_decide_eq_false ((Bool.not_eq_true' _).mp hb)
      rw [wrX_step hne]; exact wrA_step h1 hw hne
    · have hz : st.left = 0 := of_decide_eq_true ((Bool.not_eq_false' _).mp hb)
      exact wrA_stop h1 (by rw [wrs_len]; omega) hz
    · have hz : st.left = 0 := of_decide_eq_true ((Bool.not_eq_false' _).mp hb)
      rw [wrX_stop hz] at h5; exact h5
end Go.Proofs.YtbjhccnffacbcaaGreat
/-! from WSlot5 -/
namespace Go.Proofs.YtbjhccnffacbcaaGreat
open Go.Owl Go.Spec
set_option maxHeartbeats 4000000 in
set_option maxRecDepth 100000 in
theorem update_ok (s : Nat) (id : UInt32) (key : List UInt8) (each : Nat) (left : Int) (x : Nat) (k : Nat) (bv ev xv cv nv : Value) (pg : UInt32) (m n : Nat) (es : List Value) (B : List (List UInt8)) (v : UInt32) (t : List UInt8) (T : List Nat) (w : World) (H : Own T w w [.blk s [(ptr x 0), (vU32 id), (str key), (vN each), (vI left)] 95, Ent.bo x [(ptr k 0)], Ent.bo k [(vU32 pg), xv, cv, nv, bv], Ent.ar bv 1 m es, .row ev 9 1 n (List.map str B)]) (hid : id.toNat < m) (hev : es[id.toNat]? = some ev) (hn : B.length = n) (hB : ∀ b ∈ B, b.length = 64) (hc : 2 + each + each ≤ n) (hm : n < 2 ^ 20) (hk : key.length < 2 ^ 40) (h4 : 4 ≤ n) (hL : left < 2 ^ 63) (ht : t.length < 2 ^ 31) :
    Calls Tryz.prog 17 #[(ptr s 0), (vU32 v), (str t)] w (fun e w' => e = .returned (vN (updE (Sst.mk B left) each key v t).2) ∧ Own T w w' [.blk s [(ptr x 0), (vU32 id), (str key), (vN each), (vI (updE (Sst.mk B left) each key v t).1.left)] 95, Ent.bo x [(ptr k 0)], Ent.bo k [(vU32 pg), xv, cv, nv, bv], Ent.ar bv 1 m es, .row ev 9 1 n (List.map str (updE (Sst.mk B left) each key v t).1.B)]) := by
  refine enter (args := [(ptr s 0), (vU32 v), (str t)]) Tryz.func17 rfl rfl ?_
  refine WC.seq ?_
  refine WC.region ?_
  refine WL.op rfl rfl (op_box H rfl rfl (fun b1 w1 H1 => ?_))
  refine WL.op rfl rfl (op_assign rfl ?_)
  refine WL.nil ?_
  refine WQ.next ?_
  refine WC.seq ?_
  refine WC.seq ?_
  refine WC.region ?_
  refine WL.op rfl rfl (op_load rfl (H1.cell (i := 5) rfl rfl) Tryz.underlying24 rfl ?_)
  refine WL.op rfl rfl (op_eqlPN Fa.PT24 rfl rfl ?_)
  refine WL.nil ?_
  refine WQ.next ?_
  refine WC.no rfl rfl ?_
  refine WC.skip ?_
  refine WQ.next ?_
  refine WC.seq ?_
  refine WC.region ?_
  refine WL.op rfl rfl (op_load rfl (H1.cell (i := 5) rfl rfl) Tryz.underlying24 rfl ?_)
  refine WL.op rfl rfl (op_callF Fa.C13 rfl ((current_ok s id key each left x k bv ev xv cv nv pg m n es B _ (H1.cellsAt (i := 0) rfl) (H1.cellsAtO (i := 1) rfl) (H1.cellsAtO (i := 2) rfl) (H1.arrO (i := 3) rfl) (H1.arrR (i := 4) rfl) hid hev hn hB hc hm hk).mono (fun e w2 hq => ?_)))
  obtain ⟨rfl, hf2⟩ := hq
  refine ⟨_, rfl, ?_⟩
  have H2 := H1.fr' hf2
  refine WL.op rfl rfl (op_move rfl ?_)
  refine WL.op rfl rfl (op_extract rfl rfl ?_)
  refine WL.op rfl rfl (op_extract rfl rfl ?_)
  refine WL.op rfl rfl (op_extract rfl rfl ?_)
  refine WL.op rfl rfl (op_assign rfl ?_)
  refine WL.op rfl rfl (op_assign rfl ?_)
  refine WL.op rfl rfl (op_assign rfl ?_)
  refine WL.nil ?_
  refine WQ.next ?_
  refine WC.seq ?_
  refine WC.block ?_
  refine WC.seq ?_
  refine WC.region ?_
  refine WL.op rfl rfl (op_move rfl ?_)
  refine WL.op rfl rfl (op_move rfl ?_)
  refine WL.op rfl rfl (op_leqU32 rfl rfl ?_)
  refine WL.op rfl rfl (op_assign rfl ?_)
  refine WL.nil ?_
  refine WQ.next ?_
  refine WC.cond rfl (fun (hb3 : (decide (v ≤ (curS B each key).v)) = true) => ?_) (fun (hb3 : (decide (v ≤ (curS B each key).v)) = false) => ?_)
  ·
    have hc3 := of_decide_eq_true hb3
    refine WC.seq ?_
    refine WC.region ?_
    refine WL.op rfl rfl (op_assign rfl ?_)
    refine WL.nil ?_
    refine WQ.next ?_
    refine WC.ret ?_
    refine WQ.inRet ?_
    refine WQ.thenRet ?_
    refine WQ.out (.tmp rfl .nil) ?_
    rw [updE_1 (of_decide_eq_true hb3)]
    exact ⟨rfl, H2.sel [0, 1, 2, 3, 4] rfl rfl⟩
  ·
    have hc3 := of_decide_eq_false hb3
    refine WC.seq ?_
    refine WC.region ?_
    refine WL.op rfl rfl (op_move rfl ?_)
    refine WL.op rfl rfl (op_lenStr Tryz.underlying9 rfl ?_)
    refine WL.op rfl rfl (op_load rfl (H2.cell (i := 5) rfl rfl) Tryz.underlying24 rfl ?_)
    refine WL.op rfl rfl (op_callF Fa.C15 rfl ((room_ok s (ptr x 0) id key each left _ (H2.cellsAt (i := 0) rfl) (by omega)).mono (fun e w4 hq => ?_)))
    obtain ⟨rfl, hf4⟩ := hq
    refine ⟨_, rfl, ?_⟩
    have H4 := H2.fr' hf4
    refine WL.op rfl rfl (op_gtrN rfl rfl ?_)
    refine WL.op rfl rfl (op_assign rfl ?_)
    refine WL.nil ?_
    refine WQ.next ?_
    refine WC.cond rfl (fun (hb5 : (decide (t.length > (each * 64))) = true) => ?_) (fun (hb5 : (decide (t.length > (each * 64))) = false) => ?_)
    ·
      have hc5 := of_decide_eq_true hb5
      refine WC.seq ?_
      refine WC.region ?_
      refine WL.op rfl rfl (op_assign rfl ?_)
      refine WL.nil ?_
      refine WQ.next ?_
      refine WC.ret ?_
      refine WQ.inRet ?_
      refine WQ.thenRet ?_
      refine WQ.out (.tmp rfl .nil) ?_
      rw [updE_2 (of_decide_eq_false hb3) (of_decide_eq_true hb5)]
      exact ⟨rfl, H4.sel [0, 1, 2, 3, 4] rfl rfl⟩
    ·
      have hc5 := of_decide_eq_false hb5
      refine WC.skip ?_
      refine WQ.inNormal ?_
      refine WQ.next ?_
      refine WC.seq ?_
      refine WC.region ?_
      refine WL.op rfl rfl (op_load rfl (H4.cell (i := 5) rfl rfl) Tryz.underlying24 rfl ?_)
      refine WL.op rfl rfl (op_build (cs := [_, _]) Fa.I97 Fa.PL97 rfl rfl ?_)
      refine WL.op rfl rfl (op_alloc H4 Fa.I97 (fun b6 w6 H6 => ?_))
      refine WL.op rfl rfl (op_storeBW (i := 6) H6 rfl rfl rfl rfl rfl Fa.I97 (fun w7 H7 => ?_))
      refine WL.nil ?_
      refine WQ.next ?_
      refine WC.cut (α := Nat) (fun at_ => [(1, (vU32 v)), (2, (str t)), (3, (ptr b1 0)), (10, (ptr b6 0))]) (fun at_ w' => (at_ = (atS (slotN B each key 0) (slotN B each key 1))) ∧ Own T w w' [.blk s [(ptr x 0), (vU32 id), (str key), (vN each), (vI left)] 95, Ent.bo x [(ptr k 0)], Ent.bo k [(vU32 pg), xv, cv, nv, bv], Ent.ar bv 1 m es, .row ev 9 1 n (List.map str B), .blk b1 [(ptr s 0)] 24, .blk b6 [(ptr s 0), (vN at_)] 97]) ?_ ?_
      ·
        refine WC.seq ?_
        refine WC.region ?_
        refine WL.op rfl rfl (op_load rfl (H7.cell (i := 5) rfl rfl) Tryz.underlying24 rfl ?_)
        refine WL.op rfl rfl (op_callF Fa.C48 rfl ((cur_ok s id key each left x k bv ev xv cv nv pg m n es B _ (H7.cellsAt (i := 0) rfl) (H7.cellsAtO (i := 1) rfl) (H7.cellsAtO (i := 2) rfl) (H7.arrO (i := 3) rfl) (H7.arrR (i := 4) rfl) hid hev hn hB hc hm hk).mono (fun e w8 hq => ?_)))
        obtain ⟨rfl, hf8⟩ := hq
        refine ⟨_, rfl, ?_⟩
        have H8 := H7.fr' hf8
        refine WL.op rfl rfl (op_move rfl ?_)
        refine WL.op rfl rfl (op_extract rfl rfl ?_)
        refine WL.op rfl rfl (op_extract rfl rfl ?_)
        refine WL.op rfl rfl (op_alloc H8 Fa.I97 (fun b9 w9 H9 => ?_))
        refine WL.op rfl rfl (op_storeBW (i := 7) H9 rfl rfl rfl rfl rfl Fa.I97 (fun w10 H10 => ?_))
        refine WL.op rfl rfl (op_assign rfl ?_)
        refine WL.nil ?_
        refine WQ.next ?_
        refine WC.seq ?_
        refine WC.region ?_
        refine WL.op rfl rfl (op_move rfl ?_)
        refine WL.op rfl rfl (op_move rfl ?_)
        refine WL.split (t := 43) rfl (fun (hb11 : (curIs (slotN B each key 0) (slotN B each key 1)) = true) => ?_) (fun (hb11 : (curIs (slotN B each key 0) (slotN B each key 1)) = false) => ?_)
        ·
          refine WL.yes rfl rfl rfl hb11 rfl (op_fieldAddr rfl Fa.F97_1 ?_)
          refine WL.yes rfl rfl rfl hb11 rfl (op_load rfl (H10.cell (i := 7) rfl rfl) Tryz.underlying3 rfl ?_)
          refine WL.yes rfl rfl rfl hb11 rfl (op_eqlN (b := 0) rfl rfl ?_)
          refine WL.op rfl rfl (op_pickT rfl hb11 rfl ?_)
          refine WL.nil ?_
          refine WQ.next ?_
          refine WC.cond rfl (fun (hb12 : (decide ((curN (slotN B each key 0) (slotN B each key 1)) = 0)) = true) => ?_) (fun (hb12 : (decide ((curN (slotN B each key 0) (slotN B each key 1)) = 0)) = false) => ?_)
          ·
            have hc12 := of_decide_eq_true hb12
            refine WC.region ?_
            refine WL.op rfl rfl (op_fieldAddr rfl Fa.F97_1 ?_)
            refine WL.op rfl rfl (op_storeB (i := 6) H10 rfl rfl rfl rfl rfl Fa.I3 (fun w13 H13 => ?_))
            refine WL.nil ?_
            exact WQ.here 1 ⟨(by rw [atS, if_pos ⟨hb11, of_decide_eq_true hb12⟩]), (H13.take 7)⟩ ⟨rfl, rfl, rfl, rfl, trivial⟩
          ·
            have hc12 := of_decide_eq_false hb12
            refine WC.skip ?_
            exact WQ.here 0 ⟨(by rw [atS, if_neg (fun h => of_decide_eq_false hb12 h.2)]), (H10.take 7)⟩ ⟨rfl, rfl, rfl, rfl, trivial⟩
        ·
          refine WL.no rfl rfl rfl hb11 rfl ?_
          refine WL.no rfl rfl rfl hb11 rfl ?_
          refine WL.no rfl rfl rfl hb11 rfl ?_
          refine WL.op rfl rfl (op_pickF rfl hb11 rfl ?_)
          refine WL.nil ?_
          refine WQ.next ?_
          refine WC.no rfl rfl ?_
          refine WC.skip ?_
          exact WQ.here 0 ⟨(by rw [atS, if_neg (fun h => by rw [hb11] at h; cases h.1)]), (H10.take 7)⟩ ⟨rfl, rfl, rfl, rfl, trivial⟩
      ·
        rintro at_ w14 ⟨hae, H14⟩
        show WC _ _ _ _ _ [(1, (vU32 v)), (2, (str t)), (3, (ptr b1 0)), (10, (ptr b6 0))] _
        refine WC.seq ?_
        refine WC.region ?_
        refine WL.op rfl rfl (op_load rfl (H14.cell (i := 5) rfl rfl) Tryz.underlying24 rfl ?_)
        refine WL.op rfl rfl (op_move rfl ?_)
        refine WL.op rfl rfl (op_move rfl ?_)
        refine WL.op rfl rfl (op_callF Fa.C49 rfl ((head_ok s (ptr x 0) id key each left v t _ (H14.cellsAt (i := 0) rfl) hk (by omega)).mono (fun e w15 hq => ?_)))
        obtain ⟨rfl, hf15⟩ := hq
        refine ⟨_, rfl, ?_⟩
        have H15 := H14.fr' hf15
        refine WL.op rfl rfl (op_alloc H15 Fa.I9 (fun b16 w16 H16 => ?_))
        refine WL.op rfl rfl (op_storeB (i := 7) H16 rfl rfl rfl rfl rfl Fa.I9 (fun w17 H17 => ?_))
        refine WL.nil ?_
        refine WQ.next ?_
        refine WC.seq ?_
        refine WC.region ?_
        refine WL.op rfl rfl (op_assign rfl ?_)
        refine WL.nil ?_
        refine WQ.next ?_
        refine WC.seq ?_
        refine WC.region ?_
        refine WL.op rfl rfl (op_move rfl ?_)
        refine WL.op rfl rfl (op_makeFunc rfl rfl ?_)
        refine WL.op rfl rfl (op_buildSlice (cs := [_]) H17 Tryz.underlying101 Fa.I23 rfl rfl rfl rfl (by decide) (by decide) (fun b18 w18 H18 => ?_))
        have H20 := H18.nilRow 23 1
        refine WL.op rfl rfl (op_append (i := 9) H20 Tryz.underlying101 Fa.I23 rfl rfl rfl rfl (Src.ofArr Tryz.underlying101 (H20.arrR (i := 8) rfl)) (by simp [Value.oneCell']) (by omega) (by omega) (fun v19 w19 H19 => ?_))
        refine WL.op rfl rfl (op_assign rfl ?_)
        refine WL.nil ?_
        refine WQ.next ?_
        refine WC.seq ?_
        refine WC.seq ?_
        refine WC.region ?_
        refine WL.op rfl rfl (op_alloc H19 Fa.I3 (fun b21 w21 H21 => ?_))
        refine WL.op rfl rfl (op_storeB (i := 10) H21 rfl rfl rfl rfl rfl Fa.I3 (fun w22 H22 => ?_))
        refine WL.nil ?_
        refine WQ.next ?_
        refine WC.block ?_
        have H23 : Own T w w22 [.blk s [(ptr x 0), (vU32 id), (str key), (vN each), (vI left)] 95, Ent.bo x [(ptr k 0)], Ent.bo k [(vU32 pg), xv, cv, nv, bv], Ent.ar bv 1 m es, .row ev 9 1 n (List.map str B), .blk b1 [(ptr s 0)] 24, .blk b6 [(ptr s 0), (vN at_)] 97, .blk b16 [(str (hdrS key v t))] 9, .row v19 23 1 (0 + 1) ([] ++ [(.func (.func 50) #[] #[(ptr b1 0), (ptr b6 0)])]), .blk b21 [(vN 0)] 3] := H22.sel [0, 1, 2, 3, 4, 5, 6, 7, 9, 10] rfl rfl
        have H24 : Own T w w22 [.blk s [(ptr x 0), (vU32 id), (str key), (vN each), (vI left)] 95, Ent.bo x [(ptr k 0)], Ent.bo k [(vU32 pg), xv, cv, nv, bv], Ent.ar bv 1 m es, .row ev 9 1 n (List.map str B), .blk b1 [(ptr s 0)] 24, .blk b6 [(ptr s 0), (vN at_)] 97, .blk b16 [(str (hdrS key v t))] 9, .row v19 23 1 (0 + 1) ([] ++ [(.func (.func 50) #[] #[(ptr b1 0), (ptr b6 0)])]), .blk b21 [(vN 0)] 3, Ent.bs 3 (fun p : KPt => [vN p.1]) (fun p : KPt => p.2.1) [], Ent.bs 9 (fun p : KPt => [str (pcT t p.1)]) (fun p : KPt => p.2.2) []] := (H23.bsNil 3 _ _).bsNil 9 _ _
        refine WC.loop (α := Nat × Nat × List KPt × Value) (fun (i, b15, KP, v44) => [(1, (vU32 v)), (2, (str t)), (3, (ptr b1 0)), (10, (ptr b6 0)), (13, (ptr b16 0)), (14, v44), (15, (ptr b15 0))]) (fun (i, b15, KP, v44) w' => (i ≤ cntS t ∧ KP.map Prod.fst = List.range i) ∧ Own T w w' [.blk s [(ptr x 0), (vU32 id), (str key), (vN each), (vI left)] 95, Ent.bo x [(ptr k 0)], Ent.bo k [(vU32 pg), xv, cv, nv, bv], Ent.ar bv 1 m es, .row ev 9 1 n (List.map str B), .blk b1 [(ptr s 0)] 24, .blk b6 [(ptr s 0), (vN at_)] 97, .blk b16 [(str (hdrS key v t))] 9, .row v44 23 1 (i + 1) ([(clV (Cl.mk 50 [ptr b1 0, ptr b6 0]))] ++ List.map (fun p : KPt => clV (Cl.mk 52 [ptr b1 0, ptr b6 0, ptr p.2.1 0, ptr p.2.2 0])) KP), .blk b15 [(vN i)] 3, Ent.bs 3 (fun p : KPt => [vN p.1]) (fun p : KPt => p.2.1) KP, Ent.bs 9 (fun p : KPt => [str (pcT t p.1)]) (fun p : KPt => p.2.2) KP]) (fun (i, b15, KP, v44) => cntS t - i) (0, b21, [], v19) ⟨⟨Nat.zero_le _, rfl⟩, H24⟩ ⟨rfl, rfl, rfl, rfl, rfl, rfl, rfl, trivial⟩ ?_
        rintro ⟨i, b15, KP, v44⟩ w25 ⟨⟨hi1, hkp⟩, H25⟩
        show WC _ _ _ _ _ [(1, (vU32 v)), (2, (str t)), (3, (ptr b1 0)), (10, (ptr b6 0)), (13, (ptr b16 0)), (14, v44), (15, (ptr b15 0))] _
        have hct : cntS t = (t.length + 63) / 64 := rfl
        refine WC.seq ?_
        refine WC.seq ?_
        refine WC.region ?_
        refine WL.op rfl rfl (op_load rfl (H25.cell (i := 9) rfl rfl) Tryz.underlying3 rfl ?_)
        refine WL.op rfl rfl (op_mulN (b := 64) rfl rfl (by omega) ?_)
        refine WL.op rfl rfl (op_move rfl ?_)
        refine WL.op rfl rfl (op_lenStr Tryz.underlying9 rfl ?_)
        refine WL.op rfl rfl (op_lssN rfl rfl ?_)
        refine WL.nil ?_
        refine WQ.next ?_
        refine WC.cond rfl (fun (hb26 : (decide ((i * 64) < t.length)) = true) => ?_) (fun (hb26 : (decide ((i * 64) < t.length)) = false) => ?_)
        ·
          have hc26 := of_decide_eq_true hb26
          refine WC.skip ?_
          refine WQ.next ?_
          refine WC.seq ?_
          refine WC.block ?_
          refine WC.seq ?_
          refine WC.region ?_
          refine WL.op rfl rfl (op_move rfl ?_)
          refine WL.op rfl rfl (op_load rfl (H25.cell (i := 9) rfl rfl) Tryz.underlying3 rfl ?_)
          refine WL.op rfl rfl (op_mulN (b := 64) rfl rfl (by omega) ?_)
          refine WL.op rfl rfl (op_move rfl ?_)
          refine WL.op rfl rfl (op_lenStr Tryz.underlying9 rfl ?_)
          refine WL.op rfl rfl (op_load rfl (H25.cell (i := 9) rfl rfl) Tryz.underlying3 rfl ?_)
          refine WL.op rfl rfl (op_addN (b := 1) rfl rfl (by omega) ?_)
          refine WL.op rfl rfl (op_mulN (b := 64) rfl rfl (by omega) ?_)
          refine WL.op rfl rfl (op_minN rfl rfl ?_)
          refine WL.op rfl rfl (op_sliceStr Tryz.underlying9 rfl rfl rfl (by omega) (by omega) ?_)
          refine WL.op rfl rfl (op_alloc H25 Fa.I9 (fun b27 w27 H27 => ?_))
          refine WL.op rfl rfl (op_storeB (i := 12) H27 rfl rfl rfl rfl rfl Fa.I9 (fun w28 H28 => ?_))
          refine WL.nil ?_
          refine WQ.next ?_
          refine WC.region ?_
          refine WL.op rfl rfl (op_move rfl ?_)
          refine WL.op rfl rfl (op_makeFunc rfl rfl ?_)
          refine WL.op rfl rfl (op_buildSlice (cs := [_]) H28 Tryz.underlying101 Fa.I23 rfl rfl rfl rfl (by decide) (by decide) (fun b29 w29 H29 => ?_))
          refine WL.op rfl rfl (op_append (i := 8) H29 Tryz.underlying101 Fa.I23 rfl rfl rfl rfl (Src.ofArr Tryz.underlying101 (H29.arrR (i := 13) rfl)) (by simp [Value.oneCell']) (by omega) (by omega) (fun v30 w30 H30 => ?_))
          refine WL.op rfl rfl (op_assign rfl ?_)
          refine WL.nil ?_
          refine WQ.inNormal ?_
          refine WQ.next ?_
          refine WC.seq ?_
          refine WC.seq ?_
          refine WC.region ?_
          refine WL.op rfl rfl (op_load rfl (H30.cell (i := 9) rfl rfl) Tryz.underlying3 rfl ?_)
          refine WL.nil ?_
          refine WQ.next ?_
          refine WC.region ?_
          refine WL.op rfl rfl (op_alloc H30 Fa.I3 (fun b31 w31 H31 => ?_))
          refine WL.op rfl rfl (op_storeB (i := 14) H31 rfl rfl rfl rfl rfl Fa.I3 (fun w32 H32 => ?_))
          refine WL.nil ?_
          refine WQ.next ?_
          refine WC.region ?_
          refine WL.op rfl rfl (op_load rfl (H32.cell (i := 14) rfl rfl) Tryz.underlying3 rfl ?_)
          refine WL.op rfl rfl (op_addN (b := 1) rfl rfl (by omega) ?_)
          refine WL.op rfl rfl (op_storeB (i := 14) H32 rfl rfl rfl rfl rfl Fa.I3 (fun w33 H33 => ?_))
          refine WL.nil ?_
          exact WQ.round (i + 1, b31, KP ++ [(i, b15, b27)], v30) ⟨⟨by omega, by rw [List.map_append, hkp, List.range_succ]; rfl⟩, ((((H33.foldEnd (i := 10) (j := 9) (a := (i, b15, b27)) rfl rfl rfl rfl rfl).foldEnd (i := 11) (j := 12) (a := (i, b15, b27)) rfl rfl rfl rfl (by show [str (pcT t i)] = _; rw [← pcT_min]; rfl)).rowX (i := 8) (xs' := [(clV (Cl.mk 50 [ptr b1 0, ptr b6 0]))] ++ List.map (fun p : KPt => clV (Cl.mk 52 [ptr b1 0, ptr b6 0, ptr p.2.1 0, ptr p.2.2 0])) (KP ++ [(i, b15, b27)])) rfl (by rw [List.map_append, ← List.append_assoc]; rfl) rfl).sel [0, 1, 2, 3, 4, 5, 6, 7, 8, 14, 10, 11] rfl rfl)⟩ ⟨rfl, rfl, rfl, rfl, rfl, rfl, rfl, trivial⟩ (by show cntS t - (i + 1) < cntS t - i; omega)
        ·
          have hc26 := of_decide_eq_false hb26
          refine WC.exit ?_
          refine WQ.thenExit ?_
          refine WQ.thenExit ?_
          refine WQ.inHere ?_
          refine WQ.next ?_
          refine WC.seq ?_
          refine WC.region ?_
          refine WL.op rfl rfl (op_move rfl ?_)
          refine WL.op rfl rfl (op_makeFunc rfl rfl ?_)
          refine WL.op rfl rfl (op_buildSlice (cs := [_]) H25 Tryz.underlying101 Fa.I23 rfl rfl rfl rfl (by decide) (by decide) (fun b34 w34 H34 => ?_))
          refine WL.op rfl rfl (op_append (i := 8) H34 Tryz.underlying101 Fa.I23 rfl rfl rfl rfl (Src.ofArr Tryz.underlying101 (H34.arrR (i := 12) rfl)) (by simp [Value.oneCell']) (by omega) (by omega) (fun v35 w35 H35 => ?_))
          refine WL.op rfl rfl (op_assign rfl ?_)
          refine WL.nil ?_
          refine WQ.next ?_
          refine WC.seq ?_
          refine WC.region ?_
          have hie : i = cntS t := by omega
          rw [hie] at hkp
          have hKP := hkp
          have hat : at_ = 0 ∨ at_ = 1 := by rw [hae]; exact atS_lt _ _
          have hcn : cntS t ≤ each := cntS_le (of_decide_eq_false hb5)
          have hsl : (stepsL 50 52 53 b1 b6 b16 KP).length = i + 1 + 1 := by rw [steps_len (each := each) (key := key) (v := v) (at_ := at_) hKP, wrs_len, hie]
          have H36 : Own T w w35 [.blk s [(ptr x 0), (vU32 id), (str key), (vN each), (vI left)] 95, Ent.bo x [(ptr k 0)], Ent.bo k [(vU32 pg), xv, cv, nv, bv], Ent.ar bv 1 m es, .row ev 9 1 n (List.map str B), .blk b1 [(ptr s 0)] 24, .blk b6 [(ptr s 0), (vN at_)] 97, .blk b16 [(str (hdrS key v t))] 9, .row v35 23 1 (stepsL 50 52 53 b1 b6 b16 KP).length (List.map clV (stepsL 50 52 53 b1 b6 b16 KP)), .blk b15 [(vN i)] 3, Ent.bs 3 (fun p : KPt => [vN p.1]) (fun p : KPt => p.2.1) KP, Ent.bs 9 (fun p : KPt => [str (pcT t p.1)]) (fun p : KPt => p.2.2) KP, .row (.slice (some ⟨b34, 0, none⟩) 1 1) 23 1 1 [(.func (.func 53) #[] #[(ptr b1 0), (ptr b6 0), (ptr b16 0)])]] := Own.rowX (i := 8) H35 rfl (by rw [stepsL, List.map_append, List.map_append, List.map_map]; rfl) (by rw [hsl])
          refine WL.op rfl rfl (op_move rfl ?_)
          refine WL.op rfl rfl (op_callF Fa.C54 rfl ((all_upd s id key each left x k bv ev xv cv nv pg m n es B v35 b1 b6 b16 t v at_ KP _ _ (H36.part [0, 1, 2, 3, 4, 5, 6, 7, 8, 10, 11] rfl rfl) hid hev hn hc h4 hm hL hat hcn hKP).mono (fun e w37 hq => ?_)))
          obtain ⟨rfl, hq37⟩ := hq
          refine ⟨_, rfl, ?_⟩
          have H37 : Own T w w37 [.blk s [(ptr x 0), (vU32 id), (str key), (vN each), (vI (wrA (Sst.mk B left) (wrs each key v t at_)).1.left)] 95, Ent.bo x [(ptr k 0)], Ent.bo k [(vU32 pg), xv, cv, nv, bv], Ent.ar bv 1 m es, .row ev 9 1 n (List.map str (wrA (Sst.mk B left) (wrs each key v t at_)).1.B), .blk b1 [(ptr s 0)] 24, .blk b6 [(ptr s 0), (vN at_)] 97, .blk b16 [(str (hdrS key v t))] 9, .row v35 23 1 (stepsL 50 52 53 b1 b6 b16 KP).length (List.map clV (stepsL 50 52 53 b1 b6 b16 KP)), .blk b15 [(vN i)] 3, Ent.bs 3 (fun p : KPt => [vN p.1]) (fun p : KPt => p.2.1) KP, Ent.bs 9 (fun p : KPt => [str (pcT t p.1)]) (fun p : KPt => p.2.2) KP, .row (.slice (some ⟨b34, 0, none⟩) 1 1) 23 1 1 [(.func (.func 53) #[] #[(ptr b1 0), (ptr b6 0), (ptr b16 0)])]] := H36.splice [0, 1, 2, 3, 4, 5, 6, 7, 8, 10, 11] [.blk s [(ptr x 0), (vU32 id), (str key), (vN each), (vI (wrA (Sst.mk B left) (wrs each key v t at_)).1.left)] 95, Ent.bo x [(ptr k 0)], Ent.bo k [(vU32 pg), xv, cv, nv, bv], Ent.ar bv 1 m es, .row ev 9 1 n (List.map str (wrA (Sst.mk B left) (wrs each key v t at_)).1.B), .blk b1 [(ptr s 0)] 24, .blk b6 [(ptr s 0), (vN at_)] 97, .blk b16 [(str (hdrS key v t))] 9, .row v35 23 1 (stepsL 50 52 53 b1 b6 b16 KP).length (List.map clV (stepsL 50 52 53 b1 b6 b16 KP)), Ent.bs 3 (fun p : KPt => [vN p.1]) (fun p : KPt => p.2.1) KP, Ent.bs 9 (fun p : KPt => [str (pcT t p.1)]) (fun p : KPt => p.2.2) KP] [] rfl rfl hq37 (Fits.solid True.intro (Fits.same (j := 1) rfl (Fits.same (j := 2) rfl (Fits.same (j := 3) rfl (Fits.solid True.intro (Fits.solid True.intro (Fits.solid True.intro (Fits.solid True.intro (Fits.solid True.intro (Fits.same (j := 9) rfl (Fits.same (j := 10) rfl Fits.nil)))))))))))
          refine WL.op rfl rfl (op_assign rfl ?_)
          refine WL.nil ?_
          refine WQ.next ?_
          refine WC.ret ?_
          refine WQ.out (.tmp rfl .nil) ?_
          rw [updE_3 (of_decide_eq_false hb3) (of_decide_eq_false hb5) hae]
          exact ⟨rfl, H37.sel [0, 1, 2, 3, 4] rfl rfl⟩
end Go.Proofs.YtbjhccnffacbcaaGreat
/-! from WSlot6 -/
namespace Go.Proofs.YtbjhccnffacbcaaGreat
open Go.Owl Go.Spec
theorem mul64_ok (x y : UInt64) (w : World) (h : x.toNat * y.toNat < 2 ^ 64) :
    Calls Tryz.prog 169 #[vU64 x, vU64 y] w (fun e w' => e = .returned (.tuple #[vU64 0, vU64 (x * y)]) ∧ Fr [] w w') := by
  refine (Any.bits_Mul (ρ := Tryz.lays105_ren) { Tryz.lays105 with } x.toNat y.toNat x.toNat_lt y.toNat_lt w).mono (fun e w' h2 => ⟨?_, by rw [h2.2]; exact Fr.refl _ _⟩)
  rw [h2.1]
  have e1 : x.toNat * y.toNat / 18446744073709551616 = 0 := Nat.div_eq_of_lt h
  have e2 : x.toNat * y.toNat % 18446744073709551616 = (x * y).toNat := by rw [UInt64.toNat_mul]
  rw [e1, e2]; rfl
set_option maxRecDepth 100000 in
theorem clone32_ok (lv : Value) (l : List UInt32) (w : World) (hA : Arr w lv 1 l.length (List.map vU32 l)) (hn : l.length < 2 ^ 40) :
    Calls Tryz.prog 127 #[lv] w (fun e w' => ∃ v, e = .returned v ∧ Own [] w w' [.row v 22 1 l.length (List.map vU32 l)]) := by
  refine enter (args := [lv]) Tryz.func127 rfl rfl ?_
  have H0 : Own [] w w [] := Own.start w []
  refine WC.seq ?_
  refine WC.region ?_
  refine WL.op rfl rfl (op_assign rfl ?_)
  refine WL.nil ?_
  refine WQ.next ?_
  refine WC.seq ?_
  refine WC.seq ?_
  refine WC.region ?_
  refine WL.op rfl rfl (op_move rfl ?_)
  refine WL.op rfl rfl (op_eqlSN Tryz.underlying73 rfl (H0.arr hA) rfl ?_)
  refine WL.nil ?_
  refine WQ.next ?_
  refine WC.cond rfl (fun (hb1 : (isNilS lv) = true) => ?_) (fun (hb1 : (isNilS lv) = false) => ?_)
  ·
    refine WC.seq ?_
    refine WC.region ?_
    refine WL.op rfl rfl (op_assign rfl ?_)
    refine WL.nil ?_
    refine WQ.next ?_
    refine WC.ret ?_
    refine WQ.thenRet ?_
    refine WQ.out (.tmp rfl .nil) ?_
    obtain rfl : l = [] := List.eq_nil_of_length_eq_zero (hA.isNil0 hb1).1
    exact ⟨_, rfl, (H0.sel [] rfl rfl).nilRow 22 1⟩
  ·
    refine WC.skip ?_
    refine WQ.next ?_
    refine WC.seq ?_
    refine WC.region ?_
    refine WL.op rfl rfl (op_buildSlice (cs := []) H0 Tryz.underlying73 Fa.I22 rfl rfl rfl rfl (by decide) (by decide) (fun b2 w2 H2 => ?_))
    refine WL.op rfl rfl (op_move rfl ?_)
    refine WL.op rfl rfl (op_append (i := 0) H2 Tryz.underlying73 Fa.I22 rfl rfl rfl rfl (Src.ofArr Tryz.underlying73 (H2.arr hA)) (by simp [Value.oneCell']) (by omega) (by omega) (fun v3 w3 H3 => ?_))
    refine WL.op rfl rfl (op_assign rfl ?_)
    refine WL.nil ?_
    refine WQ.next ?_
    refine WC.ret ?_
    refine WQ.out (.tmp rfl .nil) ?_
    have h := H3.sel [0] rfl rfl
    rw [Nat.zero_add, List.nil_append] at h
    exact ⟨_, rfl, h⟩
set_option maxRecDepth 100000 in
theorem hardE_ok (pg : UInt32) (lv : Value) (he : List UInt32) (w : World) (hA : Arr w lv 1 he.length (List.map vU32 he)) (hn : he.length < 2 ^ 40) :
    Calls Tryz.prog 168 #[(.agg #[(vU32 pg), lv])] w (fun e w' => e = .returned (vN (hardE pg he)) ∧ Fr [] w w') := by
  refine enter (args := [(.agg #[(vU32 pg), lv])]) Tryz.func168 rfl rfl ?_
  have H0 : Own [] w w [] := Own.start w []
  refine WC.seq ?_
  refine WC.region ?_
  refine WL.op rfl rfl (op_box H0 rfl rfl (fun b1 w1 H1 => ?_))
  refine WL.op rfl rfl (op_assign rfl ?_)
  refine WL.nil ?_
  refine WQ.next ?_
  refine WC.seq ?_
  refine WC.seq ?_
  refine WC.region ?_
  refine WL.op rfl rfl (op_fieldAddr rfl Fa.F75_0 ?_)
  refine WL.op rfl rfl (op_load rfl (H1.cell (i := 0) rfl rfl) Tryz.underlying22 rfl ?_)
  refine WL.op rfl rfl (op_gtrU32 (b := 4096) rfl rfl ?_)
  refine WL.op rfl rfl (op_move rfl ?_)
  refine WL.split (t := 8) rfl (fun (hb2 : (decide (pg > (4096 : UInt32))) = true) => ?_) (fun (hb2 : (decide (pg > (4096 : UInt32))) = false) => ?_)
  ·
    have hc2 := of_decide_eq_true hb2
    refine WL.no rfl rfl rfl hb2 rfl ?_
    refine WL.no rfl rfl rfl hb2 rfl ?_
    refine WL.no rfl rfl rfl hb2 rfl ?_
    refine WL.no rfl rfl rfl hb2 rfl ?_
    refine WL.op rfl rfl (op_pickT rfl hb2 rfl ?_)
    refine WL.nil ?_
    refine WQ.next ?_
    refine WC.yes rfl rfl ?_
    refine WC.seq ?_
    refine WC.region ?_
    refine WL.op rfl rfl (op_assign rfl ?_)
    refine WL.nil ?_
    refine WQ.next ?_
    refine WC.ret ?_
    refine WQ.thenRet ?_
    refine WQ.out (.tmp rfl .nil) ?_
    exact ⟨by rw [hardE, if_pos (.inl (of_decide_eq_true hb2))]; rfl, H1.fr⟩
  ·
    have hc2 := of_decide_eq_false hb2
    refine WL.yes rfl rfl rfl hb2 rfl (op_fieldAddr rfl Fa.F75_1 ?_)
    refine WL.yes rfl rfl rfl hb2 rfl (op_load rfl (H1.cell (i := 0) rfl rfl) Tryz.underlying73 rfl ?_)
    refine WL.yes rfl rfl rfl hb2 rfl (op_lenA Tryz.underlying73 rfl (H1.arr hA) ?_)
    refine WL.yes rfl rfl rfl hb2 rfl (op_gtrN (b := 16) rfl rfl ?_)
    refine WL.op rfl rfl (op_pickF rfl hb2 rfl ?_)
    refine WL.nil ?_
    refine WQ.next ?_
    refine WC.cond rfl (fun (hb3 : (decide (he.length > 16)) = true) => ?_) (fun (hb3 : (decide (he.length > 16)) = false) => ?_)
    ·
      have hc3 := of_decide_eq_true hb3
      refine WC.seq ?_
      refine WC.region ?_
      refine WL.op rfl rfl (op_assign rfl ?_)
      refine WL.nil ?_
      refine WQ.next ?_
      refine WC.ret ?_
      refine WQ.thenRet ?_
      refine WQ.out (.tmp rfl .nil) ?_
      exact ⟨by rw [hardE, if_pos (.inr (.inl (of_decide_eq_true hb3)))]; rfl, H1.fr⟩
    ·
      have hc3 := of_decide_eq_false hb3
      refine WC.skip ?_
      refine WQ.next ?_
      refine WC.seq ?_
      refine WC.seq ?_
      refine WC.region ?_
      refine WL.op rfl rfl (op_fieldAddr rfl Fa.F75_1 ?_)
      refine WL.op rfl rfl (op_load rfl (H1.cell (i := 0) rfl rfl) Tryz.underlying73 rfl ?_)
      refine WL.op rfl rfl (op_lenA Tryz.underlying73 rfl (H1.arr hA) ?_)
      refine WL.op rfl rfl (op_move rfl ?_)
      refine WL.nil ?_
      refine WQ.next ?_
      refine WC.block ?_
      refine WC.loop (α := Nat) (fun i => [(0, (.agg #[(vU32 pg), lv])), (1, (ptr b1 0)), (15, lv), (16, (vN he.length)), (17, (vN i))]) (fun i w' => (i ≤ he.length ∧ (∀ j, j < i → ¬ he.getD j 0 > 1024)) ∧ Own [] w w' [.blk b1 [(vU32 pg), lv] 75]) (fun i => he.length - i) 0 ⟨⟨Nat.zero_le _, fun j h => by omega⟩, H1⟩ ⟨rfl, rfl, rfl, rfl, rfl, trivial⟩ ?_
      rintro i w4 ⟨⟨hi1, hok⟩, H4⟩
      show WC _ _ _ _ _ [(0, (.agg #[(vU32 pg), lv])), (1, (ptr b1 0)), (15, lv), (16, (vN he.length)), (17, (vN i))] _
      refine WC.seq ?_
      refine WC.region ?_
      refine WL.op rfl rfl (op_lssN rfl rfl ?_)
      refine WL.nil ?_
      refine WQ.next ?_
      refine WC.seq ?_
      refine WC.cond rfl (fun (hb5 : (decide (i < he.length)) = true) => ?_) (fun (hb5 : (decide (i < he.length)) = false) => ?_)
      ·
        have hc5 := of_decide_eq_true hb5
        refine WC.skip ?_
        refine WQ.next ?_
        refine WC.seq ?_
        refine WC.block ?_
        refine WC.seq ?_
        refine WC.region ?_
        refine WL.op rfl rfl (op_indexAddr1 Tryz.underlying73 Fa.I22 rfl (H4.arr hA) rfl (by omega) ?_)
        refine WL.op rfl rfl (op_load rfl ((H4.arr hA).at (get_map vU32 0 (Arr.ltM (H4.arr hA) (by omega)))) Tryz.underlying22 rfl ?_)
        refine WL.op rfl rfl (op_assign rfl ?_)
        refine WL.nil ?_
        refine WQ.next ?_
        refine WC.seq ?_
        refine WC.region ?_
        refine WL.op rfl rfl (op_move rfl ?_)
        refine WL.op rfl rfl (op_gtrU32 (b := 1024) rfl rfl ?_)
        refine WL.nil ?_
        refine WQ.next ?_
        refine WC.cond rfl (fun (hb6 : (decide ((he.getD i 0) > (1024 : UInt32))) = true) => ?_) (fun (hb6 : (decide ((he.getD i 0) > (1024 : UInt32))) = false) => ?_)
        ·
          have hc6 := of_decide_eq_true hb6
          refine WC.seq ?_
          refine WC.region ?_
          refine WL.op rfl rfl (op_assign rfl ?_)
          refine WL.nil ?_
          refine WQ.next ?_
          refine WC.ret ?_
          refine WQ.inRet ?_
          refine WQ.thenRet ?_
          refine WQ.thenRet ?_
          refine WQ.inRet ?_
          refine WQ.thenRet ?_
          refine WQ.out (.tmp rfl .nil) ?_
          exact ⟨by rw [hardE, if_pos (.inr (.inr (any_yes (d := 0) (k := i) (by omega) hb6)))]; rfl, H4.fr⟩
        ·
          have hc6 := of_decide_eq_false hb6
          refine WC.skip ?_
          refine WQ.inNormal ?_
          refine WQ.next ?_
          refine WC.region ?_
          refine WL.op rfl rfl (op_addN (b := 1) rfl rfl (by omega) ?_)
          refine WL.op rfl rfl (op_move rfl ?_)
          refine WL.nil ?_
          exact WQ.round (i + 1) ⟨⟨by omega, fun j h => by rcases Nat.lt_or_ge j i with h9 | h9; exact hok j h9; rw [show j = i by omega]; exact of_decide_eq_false hb6⟩, H4⟩ ⟨rfl, rfl, rfl, rfl, rfl, trivial⟩ (by omega)
      ·
        have hc5 := of_decide_eq_false hb5
        refine WC.exit ?_
        refine WQ.thenExit ?_
        refine WQ.thenExit ?_
        refine WQ.inHere ?_
        refine WQ.next ?_
        refine WC.seq ?_
        refine WC.region ?_
        refine WL.op rfl rfl (op_assign rfl ?_)
        refine WL.nil ?_
        refine WQ.next ?_
        refine WC.ret ?_
        refine WQ.out (.tmp rfl .nil) ?_
        exact ⟨by rw [hardE, if_neg (fun h => h.elim (of_decide_eq_false hb2) (fun h => h.elim (of_decide_eq_false hb3) (fun h => by rw [any_no (p := fun x : UInt32 => decide (x > 1024)) (d := 0) (fun j h1 => decide_eq_false (hok j (by omega)))] at h; cases h)))]; rfl, H4.fr⟩
set_option maxRecDepth 100000 in
theorem capsNew_ok (pg : UInt32) (lv : Value) (he : List UInt32) (w : World) (hA : Arr w lv 1 he.length (List.map vU32 he)) (hn : he.length < 2 ^ 40) (hok0 : hardE pg he = 0) :
    Calls Tryz.prog 126 #[(.agg #[(vU32 pg), lv])] w (fun e w' => ∃ c v mb, e = .returned (.tuple #[ptr c 0, vN 0]) ∧ Own [] w w' [.blk c [vU32 pg, v, .map (some mb)] 196, .row v 22 1 he.length (List.map vU32 he), .obj mb (mP .i64 [] 0)]) := by
  refine enter (args := [(.agg #[(vU32 pg), lv])]) Tryz.func126 rfl rfl ?_
  have H0 : Own [] w w [] := Own.start w []
  refine WC.seq ?_
  refine WC.region ?_
  refine WL.op rfl rfl (op_box H0 rfl rfl (fun b1 w1 H1 => ?_))
  refine WL.op rfl rfl (op_assign rfl ?_)
  refine WL.op rfl rfl (op_assign rfl ?_)
  refine WL.nil ?_
  refine WQ.next ?_
  refine WC.seq ?_
  refine WC.seq ?_
  refine WC.region ?_
  refine WL.op rfl rfl (op_loadS (vs := [_, _]) rfl (H1.cells (i := 0) rfl rfl) Tryz.underlying75 rfl Fa.I75 rfl ?_)
  refine WL.op rfl rfl (op_callF Fa.C168 rfl ((hardE_ok pg _ he _ (H1.arr hA) hn).mono (fun e w2 hq => ?_)))
  obtain ⟨rfl, hf2⟩ := hq
  refine ⟨_, rfl, ?_⟩
  have H2 := H1.fr' hf2
  refine WL.op rfl rfl (op_assign rfl ?_)
  refine WL.nil ?_
  refine WQ.next ?_
  refine WC.seq ?_
  refine WC.region ?_
  refine WL.op rfl rfl (op_move rfl ?_)
  refine WL.op rfl rfl (op_neqN (b := 0) rfl rfl ?_)
  refine WL.nil ?_
  refine WQ.next ?_
  refine WC.no rfl (decide_eq_false (fun h => h hok0)) ?_
  refine WC.skip ?_
  refine WQ.next ?_
  refine WC.seq ?_
  refine WC.region ?_
  refine WL.op rfl rfl (op_fieldAddr rfl Fa.F75_1 ?_)
  refine WL.op rfl rfl (op_load rfl (H2.cell (i := 0) rfl rfl) Tryz.underlying73 rfl ?_)
  refine WL.op rfl rfl (op_callF Fa.C127 rfl ((clone32_ok _ he _ (H2.arr hA) hn).mono (fun e w3 hq => ?_)))
  obtain ⟨v3, rfl, hq3⟩ := hq
  refine ⟨_, rfl, ?_⟩
  have H3 : Own [] w w3 [.blk b1 [(vU32 pg), lv] 75, .row v3 22 1 he.length (List.map vU32 he)] := H2.splice [] [] [.row v3 22 1 he.length (List.map vU32 he)] rfl rfl hq3 (Fits.solid True.intro Fits.nil)
  refine WL.op rfl rfl (op_fieldAddr rfl Fa.F75_1 ?_)
  refine WL.op rfl rfl (op_storeB (i := 0) H3 rfl rfl rfl rfl (Arr.one (H3.arrR (i := 1) rfl)) Fa.I73 (fun w4 H4 => ?_))
  refine WL.nil ?_
  refine WQ.next ?_
  refine WC.seq ?_
  refine WC.region ?_
  refine WL.op rfl rfl (op_loadS (vs := [_, _]) rfl (H4.cells (i := 0) rfl rfl) Tryz.underlying75 rfl Fa.I75 rfl ?_)
  refine WL.op rfl rfl (op_makeMapP (kk := .i64) H4 (fun b5 w5 H5 => ?_))
  refine WL.op rfl rfl (op_build (cs := [_, _, _]) Fa.I196 Fa.PL196 rfl rfl ?_)
  refine WL.op rfl rfl (op_box H5 rfl rfl (fun b6 w6 H6 => ?_))
  refine WL.op rfl rfl (op_assign rfl ?_)
  refine WL.op rfl rfl (op_assign rfl ?_)
  refine WL.nil ?_
  refine WQ.next ?_
  refine WC.ret ?_
  refine WQ.out (.tmp rfl (.tmp rfl .nil)) ?_
  exact ⟨_, _, _, rfl, H6.sel [3, 1, 2] rfl rfl⟩
set_option maxRecDepth 100000 in
theorem nicNew_ok  (w : World) :
    Calls Tryz.prog 128 #[] w (fun e w' => ∃ q mb, e = .returned (ptr q 0) ∧ Own [] w w' [.blk q [.map (some mb), .slice none 0 0, vN 0] 264, .obj mb (mP .u16 [] 0)]) := by
  refine enter (args := []) Tryz.func128 rfl rfl ?_
  have H0 : Own [] w w [] := Own.start w []
  refine WC.seq ?_
  refine WC.region ?_
  refine WL.op rfl rfl (op_assign rfl ?_)
  refine WL.nil ?_
  refine WQ.next ?_
  refine WC.seq ?_
  refine WC.region ?_
  refine WL.op rfl rfl (op_makeMapP (kk := .u16) H0 (fun b1 w1 H1 => ?_))
  refine WL.op rfl rfl (op_build (cs := [_, _, _]) Fa.I264 Fa.PL264 rfl rfl ?_)
  refine WL.op rfl rfl (op_box H1 rfl rfl (fun b2 w2 H2 => ?_))
  refine WL.op rfl rfl (op_assign rfl ?_)
  refine WL.nil ?_
  refine WQ.next ?_
  refine WC.ret ?_
  refine WQ.out (.tmp rfl .nil) ?_
  exact ⟨_, _, rfl, H2.sel [1, 0] rfl rfl⟩
set_option maxRecDepth 100000 in
theorem repeatS_ok (lv : Value) (z : List UInt8) (c : Nat) (w : World) (hA : Arr w lv 1 1 (List.map str [z])) (hc : c < 2 ^ 32) :
    Calls Tryz.prog 129 #[lv, (vN c)] w (fun e w' => ∃ v, e = .returned v ∧ Own [] w w' [.row v 9 1 c (List.map str (List.replicate c z))]) := by
  refine enter (args := [lv, (vN c)]) Tryz.func129 rfl rfl ?_
  have H0 : Own [] w w [] := Own.start w []
  have hc1 : (UInt64.ofNat 1).toNat = 1 := rfl
  have hc2 : (UInt64.ofNat c).toNat = c := by rw [UInt64.toNat_ofNat']; exact Nat.mod_eq_of_lt (by omega)
  have hcc : (UInt64.ofNat 1 * UInt64.ofNat c).toNat = c := by rw [UInt64.toNat_mul, hc1, hc2, Nat.one_mul]; exact Nat.mod_eq_of_lt (by omega)
  refine WC.seq ?_
  refine WC.region ?_
  refine WL.op rfl rfl (op_assign rfl ?_)
  refine WL.nil ?_
  refine WQ.next ?_
  refine WC.seq ?_
  refine WC.seq ?_
  refine WC.region ?_
  refine WL.op rfl rfl (op_move rfl ?_)
  refine WL.op rfl rfl (op_lssN (b := 0) rfl rfl ?_)
  refine WL.nil ?_
  refine WQ.next ?_
  refine WC.no rfl (decide_eq_false (by omega)) ?_
  refine WC.skip ?_
  refine WQ.next ?_
  refine WC.seq ?_
  refine WC.region ?_
  refine WL.op rfl rfl (op_move rfl ?_)
  refine WL.op rfl rfl (op_lenA Tryz.underlying59 rfl (H0.arr hA) ?_)
  refine WL.op rfl rfl (op_convNU64 (hs := Tryz.underlying3) (hd := Tryz.underlying265) rfl ?_)
  refine WL.op rfl rfl (op_move rfl ?_)
  refine WL.op rfl rfl (op_convNU64 (hs := Tryz.underlying3) (hd := Tryz.underlying265) rfl ?_)
  refine WL.op rfl rfl (op_callF Fa.C169 rfl ((mul64_ok (UInt64.ofNat 1) (UInt64.ofNat c) _ (by rw [hc1, hc2]; omega)).mono (fun e w1 hq => ?_)))
  obtain ⟨rfl, hf1⟩ := hq
  refine ⟨_, rfl, ?_⟩
  have H1 := H0.fr' hf1
  refine WL.op rfl rfl (op_move rfl ?_)
  refine WL.op rfl rfl (op_extract rfl rfl ?_)
  refine WL.op rfl rfl (op_extract rfl rfl ?_)
  refine WL.op rfl rfl (op_assign rfl ?_)
  refine WL.op rfl rfl (op_assign rfl ?_)
  refine WL.nil ?_
  refine WQ.next ?_
  refine WC.seq ?_
  refine WC.seq ?_
  refine WC.region ?_
  refine WL.op rfl rfl (op_move rfl ?_)
  refine WL.op rfl rfl (op_gtrU64 (a := 0) (b := 0) rfl rfl ?_)
  refine WL.op rfl rfl (op_move rfl ?_)
  refine WL.yes rfl rfl rfl (decide_eq_false (by decide)) rfl (op_move rfl ?_)
  refine WL.yes rfl rfl rfl (decide_eq_false (by decide)) rfl (op_gtrU64 (b := 9223372036854775807) rfl rfl ?_)
  refine WL.op rfl rfl (op_pickF rfl (decide_eq_false (by decide)) rfl ?_)
  refine WL.nil ?_
  refine WQ.next ?_
  refine WC.no rfl (decide_eq_false (by rw [gt_iff_lt, UInt64.lt_iff_toNat_lt, hcc]; show ¬ 9223372036854775807 < c; omega)) ?_
  refine WC.skip ?_
  refine WQ.next ?_
  refine WC.seq ?_
  refine WC.region ?_
  refine WL.op rfl rfl (op_move rfl ?_)
  refine WL.op rfl rfl (op_convU64N (hs := Tryz.underlying265) (hd := Tryz.underlying3) rfl (by rw [hcc]; omega) ?_)
  rw [hcc]
  refine WL.op rfl rfl (op_makeSliceM (f := str) (c := []) H1 Tryz.underlying59 Fa.I9 rfl rfl (by omega) (by omega) (fun b2 w2 H2 => ?_))
  refine WL.op rfl rfl (op_assign rfl ?_)
  refine WL.nil ?_
  refine WQ.next ?_
  refine WC.seq ?_
  refine WC.region ?_
  refine WL.op rfl rfl (op_move rfl ?_)
  refine WL.op rfl rfl (op_move rfl ?_)
  refine WL.op rfl rfl (op_copyM (i := 0) (f := str) (l := (List.replicate c [])) (r := [z]) H2 Tryz.underlying59 Fa.I9 rfl rfl (SrcC.ofArr (H2.arr hA)) rfl (Sub.self (H2.arrR (i := 0) rfl)) (by omega) rfl (fun _ => rfl) (fun w3 H3 => ?_))
  refine WL.op rfl rfl (op_assign rfl ?_)
  refine WL.nil ?_
  refine WQ.next ?_
  refine WC.seq ?_
  refine WC.block ?_
  refine WC.loop (α := Nat × List (List UInt8)) (fun (d, l1) => [(7, (.slice (some ⟨b2, 0, none⟩) c c)), (8, (vN d))]) (fun (d, l1) w' => (d ≤ c ∧ (0 < c → 0 < d) ∧ l1 = List.replicate d z ++ List.replicate (c - d) []) ∧ Own [] w w' [.row (.slice (some ⟨b2, 0, none⟩) c c) 9 1 c (List.map str l1)]) (fun (d, l1) => c - d) (min 1 c, ((List.replicate c []).take 0 ++ ([z].take (min 1 c) ++ (List.replicate c []).drop (0 + (min 1 c))))) ⟨⟨by omega, by omega, by rcases Nat.eq_zero_or_pos c with h | h; subst h; rfl; rw [show min 1 c = 1 by omega]; obtain ⟨q, rfl⟩ : ∃ q, c = q + 1 := ⟨c - 1, by omega⟩; rfl⟩, H3⟩ ⟨rfl, rfl, trivial⟩ ?_
  rintro ⟨d, l1⟩ w4 ⟨⟨hd1, hd2, hl1⟩, H4⟩
  show WC _ _ _ _ _ [(7, (.slice (some ⟨b2, 0, none⟩) c c)), (8, (vN d))] _
  refine WC.seq ?_
  refine WC.seq ?_
  refine WC.region ?_
  refine WL.op rfl rfl (op_move rfl ?_)
  refine WL.op rfl rfl (op_move rfl ?_)
  refine WL.op rfl rfl (op_lenA Tryz.underlying59 rfl (H4.arrR (i := 0) rfl) ?_)
  refine WL.op rfl rfl (op_lssN rfl rfl ?_)
  refine WL.nil ?_
  refine WQ.next ?_
  refine WC.cond rfl (fun (hb5 : (decide (d < c)) = true) => ?_) (fun (hb5 : (decide (d < c)) = false) => ?_)
  ·
    have hc5 := of_decide_eq_true hb5
    refine WC.skip ?_
    refine WQ.next ?_
    refine WC.block ?_
    refine WC.held 10 rfl Fa.M H4 (fun w' => ∃ L', Own [] w w' ([] ++ L')) ?_
    intro w6 H6
    refine WH.take (i := 0) (v := (vN d)) rfl rfl (.inl rfl) rfl (by kernel_rfl) ⟨[.row (.slice (some ⟨b2, 0, none⟩) c c) 9 1 c (List.map str l1)], H6⟩ (fun wX hSX => hSX.elim fun LX HX => op_move rfl ⟨rfl, rfl⟩) ?_
    refine WH.take (i := 1) (v := (.slice (some ⟨b2, 0, none⟩) c c)) rfl rfl (.inl rfl) rfl (by kernel_rfl) ⟨[.row (.slice (some ⟨b2, 0, none⟩) c c) 9 1 c (List.map str l1)], H6⟩ (fun wX hSX => hSX.elim fun LX HX => op_move rfl ⟨rfl, rfl⟩) ?_
    refine WH.take (i := 2) (v := (vN d)) rfl rfl (.inl rfl) rfl (by kernel_rfl) ⟨[.row (.slice (some ⟨b2, 0, none⟩) c c) 9 1 c (List.map str l1)], H6⟩ (fun wX hSX => hSX.elim fun LX HX => op_move rfl ⟨rfl, rfl⟩) ?_
    refine WH.take (i := 4) (v := (.slice (some ⟨b2, 0, none⟩) c c)) rfl rfl (.inl rfl) rfl (by kernel_rfl) ⟨[.row (.slice (some ⟨b2, 0, none⟩) c c) 9 1 c (List.map str l1)], H6⟩ (fun wX hSX => hSX.elim fun LX HX => op_move rfl ⟨rfl, rfl⟩) ?_
    refine WH.take (i := 5) (v := (vN d)) rfl rfl (.inl rfl) rfl (by kernel_rfl) ⟨[.row (.slice (some ⟨b2, 0, none⟩) c c) 9 1 c (List.map str l1)], H6⟩ (fun wX hSX => hSX.elim fun LX HX => op_move rfl ⟨rfl, rfl⟩) ?_
    refine WH.named (fun W hW => ?_)
    have st9_4 : ∀ (wS : World), Own [] w wS [.row (.slice (some ⟨b2, 0, none⟩) c c) 9 1 c (List.map str (l1.take d ++ ((l1.take d).take (min d (c - d)) ++ l1.drop (d + (min d (c - d))))))] → W 0 #[true, true, true, true, true, true, true, true, true, true] [(7, (.slice (some ⟨b2, 0, none⟩) c c)), (8, (vN (d + (min d (c - d))))), (34, (vN d)), (35, (.slice (some ⟨b2, 0, none⟩) c c)), (36, (vN c)), (37, (.bool (decide (d < c)))), (38, (vN d)), (39, (.slice (some ⟨b2, 0, none⟩) c c)), (40, (vN d)), (41, (cutV (.slice (some ⟨b2, 0, none⟩) c c) d c 1)), (42, (.slice (some ⟨b2, 0, none⟩) c c)), (43, (vN d)), (44, (cutV (.slice (some ⟨b2, 0, none⟩) c c) 0 d 1)), (45, (vN (min d (c - d)))), (46, (vN (d + (min d (c - d)))))] wS := by
      intro wS HS
      rw [hW]
      refine WH.done (by kernel_rfl) ?_
      refine WQ.inNormal ?_
      exact WQ.round ((d + (min d (c - d))), (l1.take d ++ ((l1.take d).take (min d (c - d)) ++ l1.drop (d + (min d (c - d)))))) ⟨⟨by omega, by omega, by rw [hl1]; exact repl_copy hd1 (by omega)⟩, HS⟩ ⟨rfl, rfl, trivial⟩ (by show c - (d + (min d (c - d))) < c - d; omega)
    have st9_3 : ∀ (wS : World), Own [] w wS [.row (.slice (some ⟨b2, 0, none⟩) c c) 9 1 c (List.map str l1)] → W 3 #[true, true, true, true, true, true, true, false, false, false] [(7, (.slice (some ⟨b2, 0, none⟩) c c)), (8, (vN d)), (34, (vN d)), (35, (.slice (some ⟨b2, 0, none⟩) c c)), (36, (vN c)), (37, (.bool (decide (d < c)))), (38, (vN d)), (39, (.slice (some ⟨b2, 0, none⟩) c c)), (40, (vN d)), (41, (cutV (.slice (some ⟨b2, 0, none⟩) c c) d c 1)), (42, (.slice (some ⟨b2, 0, none⟩) c c)), (43, (vN d)), (44, (cutV (.slice (some ⟨b2, 0, none⟩) c c) 0 d 1))] wS := by
      intro wS HS
      rw [hW]
      refine WH.all1 (i := 7) (by kernel_rfl) ?_
      ·
        refine WHS.op (i := 7) rfl (.inl rfl) rfl (op_copyM (i := 0) (f := str) (l := l1) (r := (l1.take d)) HS Tryz.underlying59 Fa.I9 rfl rfl (SrcC.ofArr (((HS.arrR (i := 0) rfl)).cutHiM (f := str) (l := l1) (b := d) (by omega))) rfl (Sub.cut (a := d) (b := c) (HS.arrR (i := 0) rfl) (by omega) (by omega)) (by omega) rfl (fun _ => rfl) (fun w17141 H17141 => ?_))
        refine ⟨⟨[.row (.slice (some ⟨b2, 0, none⟩) c c) 9 1 c (List.map str (l1.take d ++ ((l1.take d).take (min d (c - d)) ++ l1.drop (d + (min d (c - d))))))], H17141⟩, ?_⟩
        refine WH.take (i := 8) (v := (vN (d + (min d (c - d))))) rfl rfl (.inl rfl) rfl (by kernel_rfl) ⟨[.row (.slice (some ⟨b2, 0, none⟩) c c) 9 1 c (List.map str (l1.take d ++ ((l1.take d).take (min d (c - d)) ++ l1.drop (d + (min d (c - d))))))], H17141⟩ (fun wX hSX => hSX.elim fun LX HX => op_addN rfl rfl (by omega) ⟨rfl, rfl⟩) ?_
        refine WH.take (i := 9) (v := (vN (d + (min d (c - d))))) rfl rfl (.inl rfl) rfl (by kernel_rfl) ⟨[.row (.slice (some ⟨b2, 0, none⟩) c c) 9 1 c (List.map str (l1.take d ++ ((l1.take d).take (min d (c - d)) ++ l1.drop (d + (min d (c - d))))))], H17141⟩ (fun wX hSX => hSX.elim fun LX HX => op_assign rfl ⟨rfl, rfl⟩) ?_
        have hq := st9_4 w17141 H17141
        rw [hW] at hq
        refine WH.cov ?_ hq
        exact by repeat (first | exact trivial | refine ⟨rfl, ?_⟩)
    have st9_1 : ∀ (wS : World), Own [] w wS [.row (.slice (some ⟨b2, 0, none⟩) c c) 9 1 c (List.map str l1)] → W 4 #[true, true, true, true, true, true, false, false, false, false] [(7, (.slice (some ⟨b2, 0, none⟩) c c)), (8, (vN d)), (34, (vN d)), (35, (.slice (some ⟨b2, 0, none⟩) c c)), (36, (vN c)), (37, (.bool (decide (d < c)))), (38, (vN d)), (39, (.slice (some ⟨b2, 0, none⟩) c c)), (40, (vN d)), (41, (cutV (.slice (some ⟨b2, 0, none⟩) c c) d c 1)), (42, (.slice (some ⟨b2, 0, none⟩) c c)), (43, (vN d))] wS := by
      intro wS HS
      rw [hW]
      refine WH.all1 (i := 6) (by kernel_rfl) ?_
      ·
        refine WHS.op (i := 6) rfl (.inl rfl) rfl (op_cutHi Tryz.underlying59 Fa.I9 rfl (HS.arrR (i := 0) rfl) rfl (by omega) ?_)
        refine ⟨⟨[.row (.slice (some ⟨b2, 0, none⟩) c c) 9 1 c (List.map str l1)], HS⟩, ?_⟩
        have hq := st9_3 wS HS
        rw [hW] at hq
        refine WH.cov ?_ hq
        exact by repeat (first | exact trivial | refine ⟨rfl, ?_⟩)
    have st9_2 : ∀ (wS : World), Own [] w wS [.row (.slice (some ⟨b2, 0, none⟩) c c) 9 1 c (List.map str l1)] → W 4 #[true, true, true, false, true, true, true, false, false, false] [(7, (.slice (some ⟨b2, 0, none⟩) c c)), (8, (vN d)), (34, (vN d)), (35, (.slice (some ⟨b2, 0, none⟩) c c)), (36, (vN c)), (37, (.bool (decide (d < c)))), (38, (vN d)), (39, (.slice (some ⟨b2, 0, none⟩) c c)), (40, (vN d)), (42, (.slice (some ⟨b2, 0, none⟩) c c)), (43, (vN d)), (44, (cutV (.slice (some ⟨b2, 0, none⟩) c c) 0 d 1))] wS := by
      intro wS HS
      rw [hW]
      refine WH.all1 (i := 3) (by kernel_rfl) ?_
      ·
        refine WHS.op (i := 3) rfl (.inl rfl) rfl (op_cutLo Tryz.underlying59 Fa.I9 rfl (HS.arrR (i := 0) rfl) rfl (by omega) ?_)
        refine ⟨⟨[.row (.slice (some ⟨b2, 0, none⟩) c c) 9 1 c (List.map str l1)], HS⟩, ?_⟩
        have hq := st9_3 wS HS
        rw [hW] at hq
        refine WH.cov ?_ hq
        exact by repeat (first | exact trivial | refine ⟨rfl, ?_⟩)
    have st9_0 : ∀ (wS : World), Own [] w wS [.row (.slice (some ⟨b2, 0, none⟩) c c) 9 1 c (List.map str l1)] → W 5 #[true, true, true, false, true, true, false, false, false, false] [(7, (.slice (some ⟨b2, 0, none⟩) c c)), (8, (vN d)), (34, (vN d)), (35, (.slice (some ⟨b2, 0, none⟩) c c)), (36, (vN c)), (37, (.bool (decide (d < c)))), (38, (vN d)), (39, (.slice (some ⟨b2, 0, none⟩) c c)), (40, (vN d)), (42, (.slice (some ⟨b2, 0, none⟩) c c)), (43, (vN d))] wS := by
      intro wS HS
      rw [hW]
      refine WH.all2 (i := 3) (j := 6) (by kernel_rfl) ?_ ?_
      ·
        refine WHS.op (i := 3) rfl (.inl rfl) rfl (op_cutLo Tryz.underlying59 Fa.I9 rfl (HS.arrR (i := 0) rfl) rfl (by omega) ?_)
        refine ⟨⟨[.row (.slice (some ⟨b2, 0, none⟩) c c) 9 1 c (List.map str l1)], HS⟩, ?_⟩
        have hq := st9_1 wS HS
        rw [hW] at hq
        refine WH.cov ?_ hq
        exact by repeat (first | exact trivial | refine ⟨rfl, ?_⟩)
      ·
        refine WHS.op (i := 6) rfl (.inl rfl) rfl (op_cutHi Tryz.underlying59 Fa.I9 rfl (HS.arrR (i := 0) rfl) rfl (by omega) ?_)
        refine ⟨⟨[.row (.slice (some ⟨b2, 0, none⟩) c c) 9 1 c (List.map str l1)], HS⟩, ?_⟩
        have hq := st9_2 wS HS
        rw [hW] at hq
        refine WH.cov ?_ hq
        exact by repeat (first | exact trivial | refine ⟨rfl, ?_⟩)
    have hq := st9_0 w6 H6
    rw [hW] at hq ⊢
    refine WH.cov ?_ hq
    exact by repeat (first | exact trivial | refine ⟨rfl, ?_⟩)
  ·
    have hc5 := of_decide_eq_false hb5
    refine WC.exit ?_
    refine WQ.thenExit ?_
    refine WQ.thenExit ?_
    refine WQ.inHere ?_
    refine WQ.next ?_
    refine WC.seq ?_
    refine WC.region ?_
    refine WL.op rfl rfl (op_move rfl ?_)
    refine WL.op rfl rfl (op_assign rfl ?_)
    refine WL.nil ?_
    refine WQ.next ?_
    refine WC.ret ?_
    refine WQ.out (.tmp rfl .nil) ?_
    obtain rfl : d = c := by omega
    exact ⟨_, rfl, Own.rowEq (i := 0) (f := str) (H4.sel [0] rfl rfl) rfl (by rw [hl1, Nat.sub_self, List.replicate_zero, List.append_nil])⟩
end Go.Proofs.YtbjhccnffacbcaaGreat
