import Derived.Test.YtfdlkkhhakjgeaaFacts
import Derived.Test.YtfdlkkhhakjgeaaOwl18
namespace Go.Proofs.Ytfdlkkhhakjgeaa
open Go.Owl Go.Spec
set_option maxRecDepth 100000 in
theorem cc_new (b : Nat) (v : Value) (T0 : TypeId) (T : List Nat) (w : World) (H : Own T w w [.blk b [(.pointer none), v] T0]) (hc : Try.prog.cellsOf T0 = 2) (hl : liesAt Try.prog Try.prog.depth T0 1 0 81 1 = true) :
    Calls Try.prog 64 #[(ptr b 0)] w (fun e w' => e = .returned undef ∧ Own T w w' [.blk b [ptr b 0, v] T0]) := by
  refine enter (args := [(ptr b 0)]) Try.func64 rfl rfl ?_
  refine WC.seq ?_
  refine WC.region ?_
  refine WL.op rfl rfl (op_move rfl ?_)
  refine WL.op rfl rfl (op_nilCheck rfl ?_)
  refine WL.op rfl rfl (op_fieldAddr rfl Fa.F81_0 ?_)
  refine WL.op rfl rfl (op_load rfl (H.cell (i := 0) rfl rfl) Try.underlying79 rfl ?_)
  refine WL.op rfl rfl (op_eqlPN Fa.PT79 rfl rfl ?_)
  refine WL.nil ?_
  refine WQ.next ?_
  refine WC.yes rfl rfl ?_
  refine WC.region ?_
  refine WL.op rfl rfl (op_move rfl ?_)
  refine WL.op rfl rfl (op_move rfl ?_)
  refine WL.op rfl rfl (op_toUnsafe (i := 0) H Try.underlying79 Try.underlying101 Fa.CO81 rfl rfl rfl ?_)
  refine WL.op rfl rfl (op_noEscape Try.func67 (by kernel_rfl) (by kernel_rfl) (by kernel_rfl) (by kernel_rfl) rfl ?_)
  refine WL.op rfl rfl (op_fromUnsafe (i := 0) H Try.underlying101 Try.underlying79 Fa.CO81 rfl rfl rfl hc hl ?_)
  refine WL.op rfl rfl (op_nilCheck rfl ?_)
  refine WL.op rfl rfl (op_fieldAddr rfl Fa.F81_0 ?_)
  refine WL.op rfl rfl (op_storeB (i := 0) H rfl rfl rfl rfl rfl Fa.I79 (fun w1 H1 => ?_))
  refine WL.nil ?_
  refine WQ.outEnd .nil ?_
  exact ⟨rfl, H1⟩
set_option maxRecDepth 100000 in
theorem cc_old (b : Nat) (v : Value) (T0 : TypeId) (T : List Nat) (w : World) (H : Own T w w [.blk b [(ptr b 0), v] T0]) (hc : Try.prog.cellsOf T0 = 2) (hl : liesAt Try.prog Try.prog.depth T0 1 0 81 1 = true) :
    Calls Try.prog 64 #[(ptr b 0)] w (fun e w' => e = .returned undef ∧ Own T w w' [.blk b [ptr b 0, v] T0]) := by
  refine enter (args := [(ptr b 0)]) Try.func64 rfl rfl ?_
  refine WC.seq ?_
  refine WC.region ?_
  refine WL.op rfl rfl (op_move rfl ?_)
  refine WL.op rfl rfl (op_nilCheck rfl ?_)
  refine WL.op rfl rfl (op_fieldAddr rfl Fa.F81_0 ?_)
  refine WL.op rfl rfl (op_load rfl (H.cell (i := 0) rfl rfl) Try.underlying79 rfl ?_)
  refine WL.op rfl rfl (op_eqlPN Fa.PT79 rfl rfl ?_)
  refine WL.nil ?_
  refine WQ.next ?_
  refine WC.no rfl rfl ?_
  refine WC.seq ?_
  refine WC.region ?_
  refine WL.op rfl rfl (op_move rfl ?_)
  refine WL.op rfl rfl (op_nilCheck rfl ?_)
  refine WL.op rfl rfl (op_fieldAddr rfl Fa.F81_0 ?_)
  refine WL.op rfl rfl (op_load rfl (H.cell (i := 0) rfl rfl) Try.underlying79 rfl ?_)
  refine WL.op rfl rfl (op_move rfl ?_)
  refine WL.op rfl rfl (op_neqPP Try.underlying79 Fa.CO81 rfl rfl ?_)
  refine WL.nil ?_
  refine WQ.next ?_
  refine WC.no rfl rfl ?_
  refine WC.skip ?_
  refine WQ.outEnd .nil ?_
  exact ⟨rfl, H⟩
theorem cc_ok (b : Nat) (A v : Value) (T0 : TypeId) (T : List Nat) (w : World) (H : Own T w w [.blk b [A, v] T0]) (hA : A = .pointer none ∨ A = ptr b 0) (hc : Try.prog.cellsOf T0 = 2) (hl : liesAt Try.prog Try.prog.depth T0 1 0 81 1 = true) :
    Calls Try.prog 64 #[ptr b 0] w (fun e w' => e = .returned undef ∧ Own T w w' [.blk b [ptr b 0, v] T0]) := by
  rcases hA with rfl | rfl
  · exact cc_new b v T0 T w H hc hl
  · exact cc_old b v T0 T w H hc hl
set_option maxRecDepth 100000 in
theorem ws_ok (b : Nat) (A v : Value) (n : Nat) (bs s : List UInt8) (T0 : TypeId) (T : List Nat) (w : World) (H : Own T w w [.blk b [A, v] T0, .row v 5 1 n (List.map vU8 bs)]) (hA : A = .pointer none ∨ A = ptr b 0) (hc : Try.prog.cellsOf T0 = 2) (hl : liesAt Try.prog Try.prog.depth T0 1 0 81 1 = true) (hs : n + s.length < 2 ^ 46) :
    Calls Try.prog 49 #[(ptr b 0), (str s)] w (fun e w' => ∃ v, e = .returned (.tuple #[vN s.length, .nilIface]) ∧ Own T w w' [.blk b [ptr b 0, v] T0, .row v 5 1 (n + s.length) (List.map vU8 (bs ++ s))]) := by
  refine enter (args := [(ptr b 0), (str s)]) Try.func49 rfl rfl ?_
  refine WC.seq ?_
  refine WC.region ?_
  refine WL.op rfl rfl (op_assign rfl ?_)
  refine WL.op rfl rfl (op_assign rfl ?_)
  refine WL.nil ?_
  refine WQ.next ?_
  refine WC.seq ?_
  refine WC.region ?_
  refine WL.op rfl rfl (op_move rfl ?_)
  refine WL.op rfl rfl (op_callF Fa.C64 rfl ((cc_ok b A v T0 _ _ (H.part [0] rfl rfl) hA hc hl).mono (fun e w1 hq => ?_)))
  obtain ⟨rfl, hq1⟩ := hq
  refine ⟨_, rfl, ?_⟩
  have H1 : Own T w w1 [.blk b [(ptr b 0), v] T0, .row v 5 1 n (List.map vU8 bs)] := H.splice [0] [.blk b [(ptr b 0), v] T0] [] rfl rfl hq1 (Fits.solid True.intro Fits.nil)
  refine WL.nil ?_
  refine WQ.next ?_
  refine WC.seq ?_
  refine WC.region ?_
  refine WL.op rfl rfl (op_move rfl ?_)
  refine WL.op rfl rfl (op_move rfl ?_)
  refine WL.op rfl rfl (op_nilCheck rfl ?_)
  refine WL.op rfl rfl (op_fieldAddr rfl Fa.F81_1 ?_)
  refine WL.op rfl rfl (op_load rfl (H1.cell (i := 0) rfl rfl) Try.underlying31 rfl ?_)
  refine WL.op rfl rfl (op_move rfl ?_)
  refine WL.op rfl rfl (op_appendM (f := vU8) (l := bs) (l' := s) (i := 1) H1 Try.underlying31 Fa.I5 rfl rfl rfl rfl (Src.ofStr Try.underlying9) (one_mapM (fun _ => rfl)) (by omega) (by omega) (fun v2 w2 H2 => ?_))
  refine WL.op rfl rfl (op_nilCheck rfl ?_)
  refine WL.op rfl rfl (op_fieldAddr rfl Fa.F81_1 ?_)
  refine WL.op rfl rfl (op_storeB (i := 0) H2 rfl rfl rfl rfl (Arr.one (H2.arrR (i := 1) rfl)) Fa.I31 (fun w3 H3 => ?_))
  refine WL.nil ?_
  refine WQ.next ?_
  refine WC.seq ?_
  refine WC.region ?_
  refine WL.op rfl rfl (op_move rfl ?_)
  refine WL.op rfl rfl (op_lenStr Try.underlying9 rfl ?_)
  refine WL.op rfl rfl (op_assign rfl ?_)
  refine WL.op rfl rfl (op_assign rfl ?_)
  refine WL.nil ?_
  refine WQ.next ?_
  refine WC.ret ?_
  refine WQ.out (.tmp rfl (.tmp rfl .nil)) ?_
  exact ⟨_, rfl, H3⟩
set_option maxRecDepth 100000 in
theorem bstr_1 (b : Nat) (A : Value) (n : Nat) (bs : List UInt8) (T0 : TypeId) (a0 : Option Addr) (cap : Nat) (T : List Nat) (w : World) (H : Own T w w [.blk b [A, (.slice a0 n cap)] T0, .row (.slice a0 n cap) 5 1 n (List.map vU8 bs)]) (hz : a0 = none ∨ cap ≠ 0) :
    Calls Try.prog 50 #[(ptr b 0)] w (fun e w' => e = .returned (str bs) ∧ Fr T w w') := by
  refine enter (args := [(ptr b 0)]) Try.func50 rfl rfl ?_
  refine WC.seq ?_
  refine WC.region ?_
  refine WL.op rfl rfl (op_assign rfl ?_)
  refine WL.nil ?_
  refine WQ.next ?_
  refine WC.seq ?_
  refine WC.draw 10 Fa.M H (HW.op rfl (fun w1 H1 => op_move rfl ⟨rfl, Fr.refl _ _⟩) (HW.op rfl (fun w1 H1 => op_nilCheck rfl ⟨rfl, Fr.refl _ _⟩) (HW.op rfl (fun w1 H1 => op_fieldAddr rfl Fa.F81_1 ⟨rfl, Fr.refl _ _⟩) (HW.op rfl (fun w1 H1 => op_load rfl (H1.cell (i := 0) rfl rfl) Try.underlying31 rfl ⟨rfl, Fr.refl _ _⟩) (HW.op rfl (fun w1 H1 => op_sliceData rfl hz ⟨rfl, Fr.refl _ _⟩) (HW.op rfl (fun w1 H1 => op_move rfl ⟨rfl, Fr.refl _ _⟩) (HW.op rfl (fun w1 H1 => op_nilCheck rfl ⟨rfl, Fr.refl _ _⟩) (HW.op rfl (fun w1 H1 => op_fieldAddr rfl Fa.F81_1 ⟨rfl, Fr.refl _ _⟩) (HW.op rfl (fun w1 H1 => op_load rfl (H1.cell (i := 0) rfl rfl) Try.underlying31 rfl ⟨rfl, Fr.refl _ _⟩) (HW.op rfl (fun w1 H1 => op_lenA Try.underlying31 rfl (H1.arrR (i := 1) rfl) ⟨rfl, Fr.refl _ _⟩)  HW.nil)))))))))) (by kernel_rfl) ?_
  intro β1 w1 H1
  refine WL.op rfl rfl (op_unsafeString (i := 1) H1 rfl Try.underlying98 Fa.CO5 rfl rfl (fun w2 H2 => ?_))
  refine WL.op rfl rfl (op_assign rfl ?_)
  refine WL.nil ?_
  refine WQ.next ?_
  refine WC.ret ?_
  refine WQ.out (.tmp rfl .nil) ?_
  exact ⟨rfl, H1.frPart (I := [1]) rfl H2⟩
theorem bstr_ok (b : Nat) (A v : Value) (n : Nat) (bs : List UInt8) (T0 : TypeId) (T : List Nat) (w : World) (H : Own T w w [.blk b [A, v] T0, .row v 5 1 n (List.map vU8 bs)]) (hz : v = .slice none 0 0 ∨ n ≠ 0) :
    Calls Try.prog 50 #[ptr b 0] w (fun e w' => e = .returned (str bs) ∧ Fr T w w') := by
  obtain ⟨a0, cap, rfl, h⟩ := H.rowForm (i := 1) rfl hz
  exact bstr_1 b A n bs T0 a0 cap T w H h
end Go.Proofs.Ytfdlkkhhakjgeaa
