/- General lemmas and walks: NSort3. No condition but what each theorem names. -/
import Derived.Test.YtbjhccnffacbcaaQ87ceff81
import Derived.Test.YtbjhccnffacbcaaQc5b6e7a5
import Derived.Test.YtbjhccnffacbcaaQ02f141bf
/-! from NSort3 -/
namespace Go.Proofs.Ytbjhccnffacbcaa
open Go.Owl Go.Spec
set_option maxRecDepth 100000 in
theorem next_ok (q : Nat) (x : UInt64) (T : List Nat) (w : World) (H : Owl.Own T w w [.blk q [(vU64 x)] 237]) :
  Calls Try.prog 165 #[(ptr q 0)] w (fun e w' => ∃ y : UInt64, e = .returned (vU64 y) ∧ Owl.Own T w w' [.blk q [vU64 y] 237]) := by
 refine enter (args := [(ptr q 0)]) Try.func165 rfl rfl ?_
 refine ws ?_
 refine wo (op_assign rfl ?_)
 refine wn ?_
 refine WC.seq ?_
 refine WC.draw 9 Fa.M H (HW.op rfl (fun w1 H1 => op_move rfl ⟨rfl, Fr.refl _ _⟩) (HW.op rfl (fun w1 H1 => op_nilCheck rfl ⟨rfl, Fr.refl _ _⟩) (HW.op rfl (fun w1 H1 => op_load rfl (H1.cell (i := 0) rfl rfl) Try.underlying237 rfl ⟨rfl, Fr.refl _ _⟩) (HW.op rfl (fun w1 H1 => op_move rfl ⟨rfl, Fr.refl _ _⟩) (HW.op rfl (fun w1 H1 => op_nilCheck rfl ⟨rfl, Fr.refl _ _⟩) (HW.op rfl (fun w1 H1 => op_load rfl (H1.cell (i := 0) rfl rfl) Try.underlying237 rfl ⟨rfl, Fr.refl _ _⟩) (HW.op rfl (fun w1 H1 => op_shlU64 (s := 13) rfl rfl ⟨rfl, Fr.refl _ _⟩) (HW.op rfl (fun w1 H1 => op_xorU64 rfl rfl ⟨rfl, Fr.refl _ _⟩) (HW.op rfl (fun w1 H1 => op_nilCheck rfl ⟨rfl, Fr.refl _ _⟩)  HW.nil))))))))) (by kernel_rfl) ?_
 intro β1 w1 H1
 refine wo (op_storeB (i := 0) H1 rfl rfl rfl rfl rfl Fa.I237 (fun w2 H2 => ?_))
 refine wn ?_
 refine WC.seq ?_
 refine WC.draw 9 Fa.M H2 (HW.op rfl (fun w1 H1 => op_move rfl ⟨rfl, Fr.refl _ _⟩) (HW.op rfl (fun w1 H1 => op_nilCheck rfl ⟨rfl, Fr.refl _ _⟩) (HW.op rfl (fun w1 H1 => op_load rfl (H1.cell (i := 0) rfl rfl) Try.underlying237 rfl ⟨rfl, Fr.refl _ _⟩) (HW.op rfl (fun w1 H1 => op_move rfl ⟨rfl, Fr.refl _ _⟩) (HW.op rfl (fun w1 H1 => op_nilCheck rfl ⟨rfl, Fr.refl _ _⟩) (HW.op rfl (fun w1 H1 => op_load rfl (H1.cell (i := 0) rfl rfl) Try.underlying237 rfl ⟨rfl, Fr.refl _ _⟩) (HW.op rfl (fun w1 H1 => op_shrU64 (s := 7) rfl rfl ⟨rfl, Fr.refl _ _⟩) (HW.op rfl (fun w1 H1 => op_xorU64 rfl rfl ⟨rfl, Fr.refl _ _⟩) (HW.op rfl (fun w1 H1 => op_nilCheck rfl ⟨rfl, Fr.refl _ _⟩)  HW.nil))))))))) (by kernel_rfl) ?_
 intro β3 w3 H3
 refine wo (op_storeB (i := 0) H3 rfl rfl rfl rfl rfl Fa.I237 (fun w4 H4 => ?_))
 refine wn ?_
 refine WC.seq ?_
 refine WC.draw 9 Fa.M H4 (HW.op rfl (fun w1 H1 => op_move rfl ⟨rfl, Fr.refl _ _⟩) (HW.op rfl (fun w1 H1 => op_nilCheck rfl ⟨rfl, Fr.refl _ _⟩) (HW.op rfl (fun w1 H1 => op_load rfl (H1.cell (i := 0) rfl rfl) Try.underlying237 rfl ⟨rfl, Fr.refl _ _⟩) (HW.op rfl (fun w1 H1 => op_move rfl ⟨rfl, Fr.refl _ _⟩) (HW.op rfl (fun w1 H1 => op_nilCheck rfl ⟨rfl, Fr.refl _ _⟩) (HW.op rfl (fun w1 H1 => op_load rfl (H1.cell (i := 0) rfl rfl) Try.underlying237 rfl ⟨rfl, Fr.refl _ _⟩) (HW.op rfl (fun w1 H1 => op_shlU64 (s := 17) rfl rfl ⟨rfl, Fr.refl _ _⟩) (HW.op rfl (fun w1 H1 => op_xorU64 rfl rfl ⟨rfl, Fr.refl _ _⟩) (HW.op rfl (fun w1 H1 => op_nilCheck rfl ⟨rfl, Fr.refl _ _⟩)  HW.nil))))))))) (by kernel_rfl) ?_
 intro β5 w5 H5
 refine wo (op_storeB (i := 0) H5 rfl rfl rfl rfl rfl Fa.I237 (fun w6 H6 => ?_))
 refine wn ?_
 refine ws ?_
 refine wo (op_move rfl ?_)
 refine wo (op_nilCheck rfl ?_)
 refine wo (op_load rfl (H6.cell (i := 0) rfl rfl) Try.underlying237 rfl ?_)
 refine wo (op_assign rfl ?_)
 refine wn ?_
 refine WC.ret ?_
 refine WQ.out (.tmp rfl .nil) ?_
 exact ⟨_, rfl, H6⟩
set_option maxRecDepth 100000 in
theorem blen64_ok (x : UInt64) (w : World) :
  Calls Try.prog 153 #[(vU64 x)] w (fun e w' => e = .returned (vN (lenN x.toNat)) ∧ Fr [] w w') := by
 refine enter (args := [(vU64 x)]) Try.func153 rfl rfl ?_
 have H0 : Owl.Own [] w w [] := Own.start w []
 refine ws ?_
 refine wo (op_assign rfl ?_)
 refine wn ?_
 refine WC.seq ?_
 refine ws ?_
 refine wo (op_move rfl ?_)
 refine wo (op_geqU64 (b := 4294967296) rfl rfl ?_)
 refine wn ?_
 refine WC.cond rfl (fun (hb1 : (decide (x ≥ (4294967296 : UInt64))) = true) => ?_) (fun (hb1 : (decide (x ≥ (4294967296 : UInt64))) = false) => ?_)
 ·
  have hc1 := of_decide_eq_true hb1
  refine ws ?_
  refine wo (op_move rfl ?_)
  refine wo (op_shrU64 (s := 32) rfl rfl ?_)
  refine wo (op_assign rfl ?_)
  refine wn ?_
  refine WC.region ?_
  refine wo (op_assign rfl ?_)
  refine wn ?_
  refine WC.seq ?_
  refine ws ?_
  refine wo (op_move rfl ?_)
  refine wo (op_geqU64 (b := 65536) rfl rfl ?_)
  refine wn ?_
  refine WC.cond rfl (fun (hb2 : (decide ((shrU64 x 32) ≥ (65536 : UInt64))) = true) => ?_) (fun (hb2 : (decide ((shrU64 x 32) ≥ (65536 : UInt64))) = false) => ?_)
  ·
   have hc2 := of_decide_eq_true hb2
   refine ws ?_
   refine wo (op_move rfl ?_)
   refine wo (op_shrU64 (s := 16) rfl rfl ?_)
   refine wo (op_assign rfl ?_)
   refine wn ?_
   refine WC.region ?_
   refine wo (op_move rfl ?_)
   refine wo (op_addN (b := 16) rfl rfl (by decide) ?_)
   refine wo (op_assign rfl ?_)
   refine wn ?_
   refine WC.seq ?_
   refine ws ?_
   refine wo (op_move rfl ?_)
   refine wo (op_geqU64 (b := 256) rfl rfl ?_)
   refine wn ?_
   refine WC.cond rfl (fun (hb3 : (decide ((shrU64 (shrU64 x 32) 16) ≥ (256 : UInt64))) = true) => ?_) (fun (hb3 : (decide ((shrU64 (shrU64 x 32) 16) ≥ (256 : UInt64))) = false) => ?_)
   ·
    have hc3 := of_decide_eq_true hb3
    refine ws ?_
    refine wo (op_move rfl ?_)
    refine wo (op_shrU64 (s := 8) rfl rfl ?_)
    refine wo (op_assign rfl ?_)
    refine wn ?_
    refine WC.region ?_
    refine wo (op_move rfl ?_)
    refine wo (op_addN (b := 8) rfl rfl (by decide) ?_)
    refine wo (op_assign rfl ?_)
    refine wn ?_
    refine ws ?_
    refine wo (op_move rfl ?_)
    refine wo (op_move rfl ?_)
    refine wo (op_convU64U8 (hs := Try.underlying210) (hd := Try.underlying5) rfl ?_)
    refine wo (op_indexStrD (l := tab8) Try.underlying9 (by kernel_rfl) rfl (tab8_in _) ?_)
    refine wo (op_convU8N (hs := Try.underlying5) (hd := Try.underlying3) rfl ?_)
    refine wo (op_addN rfl rfl (tab8_add _ (by decide)) ?_)
    refine wo (op_assign rfl ?_)
    refine wn ?_
    refine WC.ret ?_
    refine WQ.out (.tmp rfl .nil) ?_
    exact ⟨by have h := blen_all (x := x) (.inl ⟨UInt64.le_iff_toNat_le.1 (of_decide_eq_true hb1), rfl, rfl⟩) (.inl ⟨UInt64.le_iff_toNat_le.1 (of_decide_eq_true hb2), rfl, rfl⟩) (.inl ⟨UInt64.le_iff_toNat_le.1 (of_decide_eq_true hb3), rfl, rfl⟩); rw [← h]; rfl, H0.fr⟩
   ·
    have hc3 := of_decide_eq_false hb3
    refine WC.skip ?_
    refine WQ.next ?_
    refine ws ?_
    refine wo (op_move rfl ?_)
    refine wo (op_move rfl ?_)
    refine wo (op_convU64U8 (hs := Try.underlying210) (hd := Try.underlying5) rfl ?_)
    refine wo (op_indexStrD (l := tab8) Try.underlying9 (by kernel_rfl) rfl (tab8_in _) ?_)
    refine wo (op_convU8N (hs := Try.underlying5) (hd := Try.underlying3) rfl ?_)
    refine wo (op_addN rfl rfl (tab8_add _ (by decide)) ?_)
    refine wo (op_assign rfl ?_)
    refine wn ?_
    refine WC.ret ?_
    refine WQ.out (.tmp rfl .nil) ?_
    exact ⟨by have h := blen_all (x := x) (.inl ⟨UInt64.le_iff_toNat_le.1 (of_decide_eq_true hb1), rfl, rfl⟩) (.inl ⟨UInt64.le_iff_toNat_le.1 (of_decide_eq_true hb2), rfl, rfl⟩) (.inr ⟨Nat.lt_of_not_le (fun q => of_decide_eq_false hb3 (UInt64.le_iff_toNat_le.2 q)), rfl, rfl⟩); rw [← h]; rfl, H0.fr⟩
  ·
   have hc2 := of_decide_eq_false hb2
   refine WC.skip ?_
   refine WQ.next ?_
   refine WC.seq ?_
   refine ws ?_
   refine wo (op_move rfl ?_)
   refine wo (op_geqU64 (b := 256) rfl rfl ?_)
   refine wn ?_
   refine WC.cond rfl (fun (hb4 : (decide ((shrU64 x 32) ≥ (256 : UInt64))) = true) => ?_) (fun (hb4 : (decide ((shrU64 x 32) ≥ (256 : UInt64))) = false) => ?_)
   ·
    have hc4 := of_decide_eq_true hb4
    refine ws ?_
    refine wo (op_move rfl ?_)
    refine wo (op_shrU64 (s := 8) rfl rfl ?_)
    refine wo (op_assign rfl ?_)
    refine wn ?_
    refine WC.region ?_
    refine wo (op_move rfl ?_)
    refine wo (op_addN (b := 8) rfl rfl (by decide) ?_)
    refine wo (op_assign rfl ?_)
    refine wn ?_
    refine ws ?_
    refine wo (op_move rfl ?_)
    refine wo (op_move rfl ?_)
    refine wo (op_convU64U8 (hs := Try.underlying210) (hd := Try.underlying5) rfl ?_)
    refine wo (op_indexStrD (l := tab8) Try.underlying9 (by kernel_rfl) rfl (tab8_in _) ?_)
    refine wo (op_convU8N (hs := Try.underlying5) (hd := Try.underlying3) rfl ?_)
    refine wo (op_addN rfl rfl (tab8_add _ (by decide)) ?_)
    refine wo (op_assign rfl ?_)
    refine wn ?_
    refine WC.ret ?_
    refine WQ.out (.tmp rfl .nil) ?_
    exact ⟨by have h := blen_all (x := x) (.inl ⟨UInt64.le_iff_toNat_le.1 (of_decide_eq_true hb1), rfl, rfl⟩) (.inr ⟨Nat.lt_of_not_le (fun q => of_decide_eq_false hb2 (UInt64.le_iff_toNat_le.2 q)), rfl, rfl⟩) (.inl ⟨UInt64.le_iff_toNat_le.1 (of_decide_eq_true hb4), rfl, rfl⟩); rw [← h]; rfl, H0.fr⟩
   ·
    have hc4 := of_decide_eq_false hb4
    refine WC.skip ?_
    refine WQ.next ?_
    refine ws ?_
    refine wo (op_move rfl ?_)
    refine wo (op_move rfl ?_)
    refine wo (op_convU64U8 (hs := Try.underlying210) (hd := Try.underlying5) rfl ?_)
    refine wo (op_indexStrD (l := tab8) Try.underlying9 (by kernel_rfl) rfl (tab8_in _) ?_)
    refine wo (op_convU8N (hs := Try.underlying5) (hd := Try.underlying3) rfl ?_)
    refine wo (op_addN rfl rfl (tab8_add _ (by decide)) ?_)
    refine wo (op_assign rfl ?_)
    refine wn ?_
    refine WC.ret ?_
    refine WQ.out (.tmp rfl .nil) ?_
    exact ⟨by have h := blen_all (x := x) (.inl ⟨UInt64.le_iff_toNat_le.1 (of_decide_eq_true hb1), rfl, rfl⟩) (.inr ⟨Nat.lt_of_not_le (fun q => of_decide_eq_false hb2 (UInt64.le_iff_toNat_le.2 q)), rfl, rfl⟩) (.inr ⟨Nat.lt_of_not_le (fun q => of_decide_eq_false hb4 (UInt64.le_iff_toNat_le.2 q)), rfl, rfl⟩); rw [← h]; rfl, H0.fr⟩
 ·
  have hc1 := of_decide_eq_false hb1
  refine WC.skip ?_
  refine WQ.next ?_
  refine WC.seq ?_
  refine ws ?_
  refine wo (op_move rfl ?_)
  refine wo (op_geqU64 (b := 65536) rfl rfl ?_)
  refine wn ?_
  refine WC.cond rfl (fun (hb5 : (decide (x ≥ (65536 : UInt64))) = true) => ?_) (fun (hb5 : (decide (x ≥ (65536 : UInt64))) = false) => ?_)
  ·
   have hc5 := of_decide_eq_true hb5
   refine ws ?_
   refine wo (op_move rfl ?_)
   refine wo (op_shrU64 (s := 16) rfl rfl ?_)
   refine wo (op_assign rfl ?_)
   refine wn ?_
   refine WC.region ?_
   refine wo (op_move rfl ?_)
   refine wo (op_addN (b := 16) rfl rfl (by decide) ?_)
   refine wo (op_assign rfl ?_)
   refine wn ?_
   refine WC.seq ?_
   refine ws ?_
   refine wo (op_move rfl ?_)
   refine wo (op_geqU64 (b := 256) rfl rfl ?_)
   refine wn ?_
   refine WC.cond rfl (fun (hb6 : (decide ((shrU64 x 16) ≥ (256 : UInt64))) = true) => ?_) (fun (hb6 : (decide ((shrU64 x 16) ≥ (256 : UInt64))) = false) => ?_)
   ·
    have hc6 := of_decide_eq_true hb6
    refine ws ?_
    refine wo (op_move rfl ?_)
    refine wo (op_shrU64 (s := 8) rfl rfl ?_)
    refine wo (op_assign rfl ?_)
    refine wn ?_
    refine WC.region ?_
    refine wo (op_move rfl ?_)
    refine wo (op_addN (b := 8) rfl rfl (by decide) ?_)
    refine wo (op_assign rfl ?_)
    refine wn ?_
    refine ws ?_
    refine wo (op_move rfl ?_)
    refine wo (op_move rfl ?_)
    refine wo (op_convU64U8 (hs := Try.underlying210) (hd := Try.underlying5) rfl ?_)
    refine wo (op_indexStrD (l := tab8) Try.underlying9 (by kernel_rfl) rfl (tab8_in _) ?_)
    refine wo (op_convU8N (hs := Try.underlying5) (hd := Try.underlying3) rfl ?_)
    refine wo (op_addN rfl rfl (tab8_add _ (by decide)) ?_)
    refine wo (op_assign rfl ?_)
    refine wn ?_
    refine WC.ret ?_
    refine WQ.out (.tmp rfl .nil) ?_
    exact ⟨by have h := blen_all (x := x) (.inr ⟨Nat.lt_of_not_le (fun q => of_decide_eq_false hb1 (UInt64.le_iff_toNat_le.2 q)), rfl, rfl⟩) (.inl ⟨UInt64.le_iff_toNat_le.1 (of_decide_eq_true hb5), rfl, rfl⟩) (.inl ⟨UInt64.le_iff_toNat_le.1 (of_decide_eq_true hb6), rfl, rfl⟩); rw [← h]; rfl, H0.fr⟩
   ·
    have hc6 := of_decide_eq_false hb6
    refine WC.skip ?_
    refine WQ.next ?_
    refine ws ?_
    refine wo (op_move rfl ?_)
    refine wo (op_move rfl ?_)
    refine wo (op_convU64U8 (hs := Try.underlying210) (hd := Try.underlying5) rfl ?_)
    refine wo (op_indexStrD (l := tab8) Try.underlying9 (by kernel_rfl) rfl (tab8_in _) ?_)
    refine wo (op_convU8N (hs := Try.underlying5) (hd := Try.underlying3) rfl ?_)
    refine wo (op_addN rfl rfl (tab8_add _ (by decide)) ?_)
    refine wo (op_assign rfl ?_)
    refine wn ?_
    refine WC.ret ?_
    refine WQ.out (.tmp rfl .nil) ?_
    exact ⟨by have h := blen_all (x := x) (.inr ⟨Nat.lt_of_not_le (fun q => of_decide_eq_false hb1 (UInt64.le_iff_toNat_le.2 q)), rfl, rfl⟩) (.inl ⟨UInt64.le_iff_toNat_le.1 (of_decide_eq_true hb5), rfl, rfl⟩) (.inr ⟨Nat.lt_of_not_le (fun q => of_decide_eq_false hb6 (UInt64.le_iff_toNat_le.2 q)), rfl, rfl⟩); rw [← h]; rfl, H0.fr⟩
  ·
   have hc5 := of_decide_eq_false hb5
   refine WC.skip ?_
   refine WQ.next ?_
   refine WC.seq ?_
   refine ws ?_
   refine wo (op_move rfl ?_)
   refine wo (op_geqU64 (b := 256) rfl rfl ?_)
   refine wn ?_
   refine WC.cond rfl (fun (hb7 : (decide (x ≥ (256 : UInt64))) = true) => ?_) (fun (hb7 : (decide (x ≥ (256 : UInt64))) = false) => ?_)
   ·
    have hc7 := of_decide_eq_true hb7
    refine ws ?_
    refine wo (op_move rfl ?_)
    refine wo (op_shrU64 (s := 8) rfl rfl ?_)
    refine wo (op_assign rfl ?_)
    refine wn ?_
    refine WC.region ?_
    refine wo (op_move rfl ?_)
    refine wo (op_addN (b := 8) rfl rfl (by decide) ?_)
    refine wo (op_assign rfl ?_)
    refine wn ?_
    refine ws ?_
    refine wo (op_move rfl ?_)
    refine wo (op_move rfl ?_)
    refine wo (op_convU64U8 (hs := Try.underlying210) (hd := Try.underlying5) rfl ?_)
    refine wo (op_indexStrD (l := tab8) Try.underlying9 (by kernel_rfl) rfl (tab8_in _) ?_)
    refine wo (op_convU8N (hs := Try.underlying5) (hd := Try.underlying3) rfl ?_)
    refine wo (op_addN rfl rfl (tab8_add _ (by decide)) ?_)
    refine wo (op_assign rfl ?_)
    refine wn ?_
    refine WC.ret ?_
    refine WQ.out (.tmp rfl .nil) ?_
    exact ⟨by have h := blen_all (x := x) (.inr ⟨Nat.lt_of_not_le (fun q => of_decide_eq_false hb1 (UInt64.le_iff_toNat_le.2 q)), rfl, rfl⟩) (.inr ⟨Nat.lt_of_not_le (fun q => of_decide_eq_false hb5 (UInt64.le_iff_toNat_le.2 q)), rfl, rfl⟩) (.inl ⟨UInt64.le_iff_toNat_le.1 (of_decide_eq_true hb7), rfl, rfl⟩); rw [← h]; rfl, H0.fr⟩
   ·
    have hc7 := of_decide_eq_false hb7
    refine WC.skip ?_
    refine WQ.next ?_
    refine ws ?_
    refine wo (op_move rfl ?_)
    refine wo (op_move rfl ?_)
    refine wo (op_convU64U8 (hs := Try.underlying210) (hd := Try.underlying5) rfl ?_)
    refine wo (op_indexStrD (l := tab8) Try.underlying9 (by kernel_rfl) rfl (tab8_in _) ?_)
    refine wo (op_convU8N (hs := Try.underlying5) (hd := Try.underlying3) rfl ?_)
    refine wo (op_addN rfl rfl (tab8_add _ (by decide)) ?_)
    refine wo (op_assign rfl ?_)
    refine wn ?_
    refine WC.ret ?_
    refine WQ.out (.tmp rfl .nil) ?_
    exact ⟨by have h := blen_all (x := x) (.inr ⟨Nat.lt_of_not_le (fun q => of_decide_eq_false hb1 (UInt64.le_iff_toNat_le.2 q)), rfl, rfl⟩) (.inr ⟨Nat.lt_of_not_le (fun q => of_decide_eq_false hb5 (UInt64.le_iff_toNat_le.2 q)), rfl, rfl⟩) (.inr ⟨Nat.lt_of_not_le (fun q => of_decide_eq_false hb7 (UInt64.le_iff_toNat_le.2 q)), rfl, rfl⟩); rw [← h]; rfl, H0.fr⟩
set_option maxRecDepth 100000 in
theorem blen_ok (x : UInt64) (w : World) :
  Calls Try.prog 126 #[(vU64 x)] w (fun e w' => e = .returned (vN (lenN x.toNat)) ∧ Fr [] w w') := by
 refine enter (args := [(vU64 x)]) Try.func126 rfl rfl ?_
 have H0 : Owl.Own [] w w [] := Own.start w []
 refine ws ?_
 refine wo (op_assign rfl ?_)
 refine wn ?_
 refine WC.seq ?_
 refine WC.no rfl rfl ?_
 refine WC.skip ?_
 refine WQ.next ?_
 refine ws ?_
 refine wo (op_move rfl ?_)
 refine wo (op_callF Fa.C153 rfl ((blen64_ok x _).mono (fun e w1 hq => ?_)))
 obtain ⟨rfl, hf1⟩ := hq
 refine ⟨_, rfl, ?_⟩
 have H1 := H0.fr' hf1
 refine wo (op_assign rfl ?_)
 refine wn ?_
 refine WC.ret ?_
 refine WQ.out (.tmp rfl .nil) ?_
 exact ⟨rfl, H1.fr⟩
set_option maxRecDepth 100000 in
theorem npt_ok (n : Nat) (w : World) (hn : n < 2 ^ 62) :
  Calls Try.prog 164 #[(vN n)] w (fun e w' => e = .returned (vU64 (shlU64 1 (lenN (UInt64.ofNat n).toNat))) ∧ Fr [] w w') := by
 refine enter (args := [(vN n)]) Try.func164 rfl rfl ?_
 have H0 : Owl.Own [] w w [] := Own.start w []
 refine ws ?_
 refine wo (op_assign rfl ?_)
 refine wn ?_
 refine ws ?_
 refine wo (op_move rfl ?_)
 refine wo (op_convNU64 (hs := Try.underlying3) (hd := Try.underlying186) rfl ?_)
 refine wo (op_callF Fa.C126 rfl ((blen_ok (UInt64.ofNat n) _).mono (fun e w1 hq => ?_)))
 obtain ⟨rfl, hf1⟩ := hq
 refine ⟨_, rfl, ?_⟩
 have H1 := H0.fr' hf1
 refine wo (op_shlU64 (a := 1) rfl rfl ?_)
 refine wo (op_assign rfl ?_)
 refine wn ?_
 refine WC.ret ?_
 refine WQ.out (.tmp rfl .nil) ?_
 exact ⟨rfl, H1.fr⟩
set_option maxHeartbeats 1000000 in
set_option maxRecDepth 100000 in
theorem brk_ok (v : Value) (n : Nat) (l : List Nat) (a b : Nat) (T : List Nat) (w : World) (H : Owl.Own T w w [.row v 3 1 n (List.map vN l)]) (hn : l.length = n) (hN : n < 2 ^ 61) (hab : a < b) (hb : b ≤ n) :
  Calls Try.prog 145 #[v, (vN a), (vN b)] w (fun e w' => ∃ (l' : List Nat), e = .returned undef ∧ (Sw 0 a b l l') ∧ Owl.Own T w w' [.row v 3 1 n (List.map vN l')]) := by
 refine enter (args := [v, (vN a), (vN b)]) Try.func145 rfl rfl ?_
 refine ws ?_
 refine wo (op_move rfl ?_)
 refine wo (op_move rfl ?_)
 refine wo (op_subN rfl rfl (by omega) (by omega) ?_)
 refine wo (op_assign rfl ?_)
 refine wn ?_
 refine ws ?_
 refine wo (op_move rfl ?_)
 refine wo (op_geqN (b := 8) rfl rfl ?_)
 refine wn ?_
 refine WC.cond rfl (fun (hb1 : (decide ((b - a) ≥ 8)) = true) => ?_) (fun (hb1 : (decide ((b - a) ≥ 8)) = false) => ?_)
 ·
  have hc1 := of_decide_eq_true hb1
  refine ws ?_
  refine wo (op_move rfl ?_)
  refine wo (op_convNU64 (hs := Try.underlying3) (hd := Try.underlying237) rfl ?_)
  refine wo (op_alloc H Fa.I237 (fun b2 w2 H2 => ?_))
  refine wo (op_storeB (i := 1) H2 rfl rfl rfl rfl rfl Fa.I237 (fun w3 H3 => ?_))
  refine wn ?_
  refine ws ?_
  refine wo (op_move rfl ?_)
  refine wo (op_callF Fa.C164 rfl ((npt_ok (b - a) _ (by omega)).mono (fun e w4 hq => ?_)))
  obtain ⟨rfl, hf4⟩ := hq
  refine ⟨_, rfl, ?_⟩
  have H4 := H3.fr' hf4
  refine wo (op_assign rfl ?_)
  refine wn ?_
  refine ws ?_
  refine wo (op_move rfl ?_)
  refine wo (op_move rfl ?_)
  refine wo (op_quoN (b := 4) rfl rfl (by omega) (by omega) ?_)
  refine wo (op_mulN (b := 2) rfl rfl (by omega) ?_)
  refine wo (op_addN rfl rfl (by omega) ?_)
  refine wo (op_subN (b := 1) rfl rfl (by omega) (by omega) ?_)
  refine wo (op_assign rfl ?_)
  refine wn ?_
  refine WC.block ?_
  refine WC.loop (α := Nat × UInt64 × List Nat) (fun (x, r, l1) => [(0, v), (1, (vN a)), (2, (vN b)), (6, (vN (b - a))), (7, (ptr b2 0)), (8, (vU64 (shlU64 1 (lenN (UInt64.ofNat (b - a)).toNat)))), (9, (vN x))]) (fun (x, r, l1) w' => (a + (b - a) / 4 * 2 - 1 ≤ x ∧ x ≤ a + (b - a) / 4 * 2 + 2 ∧ Sw 0 a b l l1) ∧ Owl.Own T w w' [.row v 3 1 n (List.map vN l1), .blk b2 [(vU64 r)] 237]) (fun (x, r, l1) => a + (b - a) / 4 * 2 + 3 - x) (a + (b - a) / 4 * 2 - 1, UInt64.ofNat (b - a), l) ⟨⟨Nat.le_refl _, by omega, .refl _⟩, H4⟩ ⟨rfl, rfl, rfl, rfl, rfl, rfl, rfl, trivial⟩ ?_
  rintro ⟨x, r, l1⟩ w5 ⟨⟨hx1, hx2, hs1⟩, H5⟩
  show WC _ _ _ _ _ [(0, v), (1, (vN a)), (2, (vN b)), (6, (vN (b - a))), (7, (ptr b2 0)), (8, (vU64 (shlU64 1 (lenN (UInt64.ofNat (b - a)).toNat)))), (9, (vN x))] _
  have hL1 := hs1.len
  refine WC.seq ?_
  refine ws ?_
  refine wo (op_move rfl ?_)
  refine wo (op_move rfl ?_)
  refine wo (op_move rfl ?_)
  refine wo (op_quoN (b := 4) rfl rfl (by omega) (by omega) ?_)
  refine wo (op_mulN (b := 2) rfl rfl (by omega) ?_)
  refine wo (op_addN rfl rfl (by omega) ?_)
  refine wo (op_addN (b := 1) rfl rfl (by omega) ?_)
  refine wo (op_leqN rfl rfl ?_)
  refine wn ?_
  refine WC.cond rfl (fun (hb6 : (decide (x ≤ ((a + (((b - a) / 4) * 2)) + 1))) = true) => ?_) (fun (hb6 : (decide (x ≤ ((a + (((b - a) / 4) * 2)) + 1))) = false) => ?_)
  ·
   have hc6 := of_decide_eq_true hb6
   refine WC.skip ?_
   refine WQ.next ?_
   refine WC.seq ?_
   refine WC.block ?_
   refine ws ?_
   refine wo (op_callF Fa.C165 rfl ((next_ok b2 r _ _ (H5.part [1] rfl rfl)).mono (fun e w7 hq => ?_)))
   obtain ⟨y7, rfl, hq7⟩ := hq
   refine ⟨_, rfl, ?_⟩
   have H7 : Owl.Own T w w7 [.row v 3 1 n (List.map vN l1), .blk b2 [(vU64 y7)] 237] := H5.splice [1] [.blk b2 [(vU64 y7)] 237] [] rfl rfl hq7 (Fits.solid True.intro Fits.nil)
   have hbr := brk_lt (y := y7) (n := b - a) (by omega) (by omega)
   refine wo (op_move rfl ?_)
   refine wo (op_subU64 (b := 1) rfl rfl ?_)
   refine wo (op_andU64 rfl rfl ?_)
   refine wo (op_convU64N (hs := Try.underlying186) (hd := Try.underlying3) rfl (by omega) ?_)
   refine wo (op_assign rfl ?_)
   refine wn ?_
   refine WC.cut (α := Nat) (fun o => [(0, v), (1, (vN a)), (2, (vN b)), (6, (vN (b - a))), (7, (ptr b2 0)), (8, (vU64 (shlU64 1 (lenN (UInt64.ofNat (b - a)).toNat)))), (9, (vN x)), (10, (vN o))]) (fun o w' => (o < b - a) ∧ Owl.Own T w w' [.row v 3 1 n (List.map vN l1), .blk b2 [(vU64 y7)] 237]) ?_ ?_
   ·
    refine ws ?_
    refine wo (op_move rfl ?_)
    refine wo (op_move rfl ?_)
    refine wo (op_geqN rfl rfl ?_)
    refine wn ?_
    refine WC.cond rfl (fun (hb8 : (decide ((y7 &&& ((shlU64 1 (lenN (UInt64.ofNat (b - a)).toNat)) - (1 : UInt64))).toNat ≥ (b - a))) = true) => ?_) (fun (hb8 : (decide ((y7 &&& ((shlU64 1 (lenN (UInt64.ofNat (b - a)).toNat)) - (1 : UInt64))).toNat ≥ (b - a))) = false) => ?_)
    ·
     have hc8 := of_decide_eq_true hb8
     refine WC.region ?_
     refine wo (op_move rfl ?_)
     refine wo (op_move rfl ?_)
     refine wo (op_subN rfl rfl (by omega) (by omega) ?_)
     refine wo (op_assign rfl ?_)
     refine WL.nil ?_
     exact WQ.here ((y7 &&& ((shlU64 1 (lenN (UInt64.ofNat (b - a)).toNat)) - (1 : UInt64))).toNat - (b - a)) ⟨(by omega), H7⟩ ⟨rfl, rfl, rfl, rfl, rfl, rfl, rfl, rfl, trivial⟩
    ·
     have hc8 := of_decide_eq_false hb8
     refine WC.skip ?_
     exact WQ.here (y7 &&& ((shlU64 1 (lenN (UInt64.ofNat (b - a)).toNat)) - (1 : UInt64))).toNat ⟨(by omega), H7⟩ ⟨rfl, rfl, rfl, rfl, rfl, rfl, rfl, rfl, trivial⟩
   ·
    rintro o w9 ⟨ho, H9⟩
    show WC _ _ _ _ _ [(0, v), (1, (vN a)), (2, (vN b)), (6, (vN (b - a))), (7, (ptr b2 0)), (8, (vU64 (shlU64 1 (lenN (UInt64.ofNat (b - a)).toNat)))), (9, (vN x)), (10, (vN o))] _
    refine WC.held 20 rfl Fa.M H9 (fun w' => ∃ L', Owl.Own T w w' ([] ++ L')) ?_
    intro w10 H10
    refine WH.take (i := 0) (v := v) rfl rfl (.inl rfl) rfl (by kernel_rfl) ⟨[.row v 3 1 n (List.map vN l1), .blk b2 [(vU64 y7)] 237], H10⟩ (fun wX hSX => hSX.elim fun LX HX => op_move rfl ⟨rfl, rfl⟩) ?_
    refine WH.take (i := 1) (v := (vN x)) rfl rfl (.inl rfl) rfl (by kernel_rfl) ⟨[.row v 3 1 n (List.map vN l1), .blk b2 [(vU64 y7)] 237], H10⟩ (fun wX hSX => hSX.elim fun LX HX => op_move rfl ⟨rfl, rfl⟩) ?_
    refine WH.take (i := 2) (v := v) rfl rfl (.inl rfl) rfl (by kernel_rfl) ⟨[.row v 3 1 n (List.map vN l1), .blk b2 [(vU64 y7)] 237], H10⟩ (fun wX hSX => hSX.elim fun LX HX => op_move rfl ⟨rfl, rfl⟩) ?_
    refine WH.take (i := 3) (v := (vN a)) rfl rfl (.inl rfl) rfl (by kernel_rfl) ⟨[.row v 3 1 n (List.map vN l1), .blk b2 [(vU64 y7)] 237], H10⟩ (fun wX hSX => hSX.elim fun LX HX => op_move rfl ⟨rfl, rfl⟩) ?_
    refine WH.take (i := 4) (v := (vN o)) rfl rfl (.inl rfl) rfl (by kernel_rfl) ⟨[.row v 3 1 n (List.map vN l1), .blk b2 [(vU64 y7)] 237], H10⟩ (fun wX hSX => hSX.elim fun LX HX => op_move rfl ⟨rfl, rfl⟩) ?_
    refine WH.take (i := 5) (v := (vN (a + o))) rfl rfl (.inl rfl) rfl (by kernel_rfl) ⟨[.row v 3 1 n (List.map vN l1), .blk b2 [(vU64 y7)] 237], H10⟩ (fun wX hSX => hSX.elim fun LX HX => op_addN rfl rfl (by omega) ⟨rfl, rfl⟩) ?_
    refine WH.take (i := 6) (v := v) rfl rfl (.inl rfl) rfl (by kernel_rfl) ⟨[.row v 3 1 n (List.map vN l1), .blk b2 [(vU64 y7)] 237], H10⟩ (fun wX hSX => hSX.elim fun LX HX => op_move rfl ⟨rfl, rfl⟩) ?_
    refine WH.take (i := 7) (v := (vN a)) rfl rfl (.inl rfl) rfl (by kernel_rfl) ⟨[.row v 3 1 n (List.map vN l1), .blk b2 [(vU64 y7)] 237], H10⟩ (fun wX hSX => hSX.elim fun LX HX => op_move rfl ⟨rfl, rfl⟩) ?_
    refine WH.take (i := 8) (v := (vN o)) rfl rfl (.inl rfl) rfl (by kernel_rfl) ⟨[.row v 3 1 n (List.map vN l1), .blk b2 [(vU64 y7)] 237], H10⟩ (fun wX hSX => hSX.elim fun LX HX => op_move rfl ⟨rfl, rfl⟩) ?_
    refine WH.take (i := 9) (v := (vN (a + o))) rfl rfl (.inl rfl) rfl (by kernel_rfl) ⟨[.row v 3 1 n (List.map vN l1), .blk b2 [(vU64 y7)] 237], H10⟩ (fun wX hSX => hSX.elim fun LX HX => op_addN rfl rfl (by omega) ⟨rfl, rfl⟩) ?_
    refine WH.take (i := 10) (v := (.pointer (some (sp v (a + o))))) rfl rfl (.inl rfl) rfl (by kernel_rfl) ⟨[.row v 3 1 n (List.map vN l1), .blk b2 [(vU64 y7)] 237], H10⟩ (fun wX hSX => hSX.elim fun LX HX => op_indexAddr1W Try.underlying64 Fa.I3 rfl (H10.arrR (i := 0) rfl) rfl (by omega) ⟨rfl, rfl⟩) ?_
    refine WH.take (i := 12) (v := v) rfl rfl (.inl rfl) rfl (by kernel_rfl) ⟨[.row v 3 1 n (List.map vN l1), .blk b2 [(vU64 y7)] 237], H10⟩ (fun wX hSX => hSX.elim fun LX HX => op_move rfl ⟨rfl, rfl⟩) ?_
    refine WH.take (i := 13) (v := (vN x)) rfl rfl (.inl rfl) rfl (by kernel_rfl) ⟨[.row v 3 1 n (List.map vN l1), .blk b2 [(vU64 y7)] 237], H10⟩ (fun wX hSX => hSX.elim fun LX HX => op_move rfl ⟨rfl, rfl⟩) ?_
    refine WH.take (i := 14) (v := (.pointer (some (sp v x)))) rfl rfl (.inl rfl) rfl (by kernel_rfl) ⟨[.row v 3 1 n (List.map vN l1), .blk b2 [(vU64 y7)] 237], H10⟩ (fun wX hSX => hSX.elim fun LX HX => op_indexAddr1W Try.underlying64 Fa.I3 rfl (H10.arrR (i := 0) rfl) rfl (by omega) ⟨rfl, rfl⟩) ?_
    refine WH.named (fun W hW => ?_)
    have st10_5 : ∀ (wS : World), Owl.Own T w wS [.row v 3 1 n (List.map vN ((l1.set x (l1.getD (a + o) 0)).set (a + o) (l1.getD x 0))), .blk b2 [(vU64 y7)] 237] → W 0 #[tt, tt, tt, tt, tt, tt, tt, tt, tt, tt, tt, tt, tt, tt, tt, tt, tt, tt, tt, tt] [(0, v), (1, (vN a)), (2, (vN b)), (6, (vN (b - a))), (7, (ptr b2 0)), (8, (vU64 (shlU64 1 (lenN (UInt64.ofNat (b - a)).toNat)))), (9, (vN x)), (10, (vN o)), (47, v), (48, (vN x)), (49, v), (50, (vN a)), (51, (vN o)), (52, (vN (a + o))), (53, v), (54, (vN a)), (55, (vN o)), (56, (vN (a + o))), (57, (.pointer (some (sp v (a + o))))), (58, (vN (l1.getD (a + o) 0))), (59, v), (60, (vN x)), (61, (.pointer (some (sp v x)))), (62, (vN (l1.getD x 0))), (63, (.pointer (some (sp v x)))), (64, (.pointer (some (sp v (a + o)))))] wS := by
     intro wS HS
     rw [hW]
     refine WH.done (by kernel_rfl) ?_
     refine WQ.inNormal ?_
     refine WQ.next ?_
     refine WC.region ?_
     refine wo (op_move rfl ?_)
     refine wo (op_addN (b := 1) rfl rfl (by omega) ?_)
     refine wo (op_assign rfl ?_)
     refine WL.nil ?_
     exact WQ.round (x + 1, y7, swapL 0 l1 x (a + o)) ⟨⟨by omega, by omega, hs1.step (by omega) (by omega) (by omega) (by omega)⟩, HS⟩ ⟨rfl, rfl, rfl, rfl, rfl, rfl, rfl, trivial⟩ (by show a + (b - a) / 4 * 2 + 3 - (x + 1) < a + (b - a) / 4 * 2 + 3 - x; omega)
    have st10_4 : ∀ (wS : World), Owl.Own T w wS [.row v 3 1 n (List.map vN (l1.set x (l1.getD (a + o) 0))), .blk b2 [(vU64 y7)] 237] → W 1 #[tt, tt, tt, tt, tt, tt, tt, tt, tt, tt, tt, tt, tt, tt, tt, tt, tt, tt, tt, ff] [(0, v), (1, (vN a)), (2, (vN b)), (6, (vN (b - a))), (7, (ptr b2 0)), (8, (vU64 (shlU64 1 (lenN (UInt64.ofNat (b - a)).toNat)))), (9, (vN x)), (10, (vN o)), (47, v), (48, (vN x)), (49, v), (50, (vN a)), (51, (vN o)), (52, (vN (a + o))), (53, v), (54, (vN a)), (55, (vN o)), (56, (vN (a + o))), (57, (.pointer (some (sp v (a + o))))), (58, (vN (l1.getD (a + o) 0))), (59, v), (60, (vN x)), (61, (.pointer (some (sp v x)))), (62, (vN (l1.getD x 0))), (63, (.pointer (some (sp v x)))), (64, (.pointer (some (sp v (a + o)))))] wS := by
     intro wS HS
     rw [hW]
     refine WH.all1 (i := 19) (by kernel_rfl) ?_
     ·
      refine WHS.op (i := 19) rfl (.inl rfl) rfl (op_storeRM (i := 0) (f := vN) (l := (l1.set x (l1.getD (a + o) 0))) (c := (l1.getD x 0)) HS rfl rfl rfl (by omega) rfl Fa.I3 (fun w21381 H21381 => ?_))
      refine ⟨⟨[.row v 3 1 n (List.map vN ((l1.set x (l1.getD (a + o) 0)).set (a + o) (l1.getD x 0))), .blk b2 [(vU64 y7)] 237], H21381⟩, ?_⟩
      have hq := st10_5 w21381 H21381
      rw [hW] at hq
      exact WH.cv hq
    have st10_3 : ∀ (wS : World), Owl.Own T w wS [.row v 3 1 n (List.map vN l1), .blk b2 [(vU64 y7)] 237] → W 3 #[tt, tt, tt, tt, tt, tt, tt, tt, tt, tt, tt, tt, tt, tt, tt, tt, tt, ff, ff, ff] [(0, v), (1, (vN a)), (2, (vN b)), (6, (vN (b - a))), (7, (ptr b2 0)), (8, (vU64 (shlU64 1 (lenN (UInt64.ofNat (b - a)).toNat)))), (9, (vN x)), (10, (vN o)), (47, v), (48, (vN x)), (49, v), (50, (vN a)), (51, (vN o)), (52, (vN (a + o))), (53, v), (54, (vN a)), (55, (vN o)), (56, (vN (a + o))), (57, (.pointer (some (sp v (a + o))))), (58, (vN (l1.getD (a + o) 0))), (59, v), (60, (vN x)), (61, (.pointer (some (sp v x)))), (62, (vN (l1.getD x 0))), (63, (.pointer (some (sp v x))))] wS := by
     intro wS HS
     rw [hW]
     refine WH.all1 (i := 17) (by kernel_rfl) ?_
     ·
      refine WHS.op (i := 17) rfl (.inl rfl) rfl (op_storeRM (i := 0) (f := vN) (l := l1) (c := (l1.getD (a + o) 0)) HS rfl rfl rfl (by omega) rfl Fa.I3 (fun w21341 H21341 => ?_))
      refine ⟨⟨[.row v 3 1 n (List.map vN (l1.set x (l1.getD (a + o) 0))), .blk b2 [(vU64 y7)] 237], H21341⟩, ?_⟩
      refine WH.take (i := 18) (v := (.pointer (some (sp v (a + o))))) rfl rfl (.inl rfl) rfl (by kernel_rfl) ⟨[.row v 3 1 n (List.map vN (l1.set x (l1.getD (a + o) 0))), .blk b2 [(vU64 y7)] 237], H21341⟩ (fun wX hSX => hSX.elim fun LX HX => op_indexAddr1W Try.underlying64 Fa.I3 rfl (H21341.arrR (i := 0) rfl) rfl (by omega) ⟨rfl, rfl⟩) ?_
      have hq := st10_4 w21341 H21341
      rw [hW] at hq
      exact WH.cv hq
    have st10_1 : ∀ (wS : World), Owl.Own T w wS [.row v 3 1 n (List.map vN l1), .blk b2 [(vU64 y7)] 237] → W 5 #[tt, tt, tt, tt, tt, tt, tt, tt, tt, tt, tt, tt, tt, tt, tt, ff, ff, ff, ff, ff] [(0, v), (1, (vN a)), (2, (vN b)), (6, (vN (b - a))), (7, (ptr b2 0)), (8, (vU64 (shlU64 1 (lenN (UInt64.ofNat (b - a)).toNat)))), (9, (vN x)), (10, (vN o)), (47, v), (48, (vN x)), (49, v), (50, (vN a)), (51, (vN o)), (52, (vN (a + o))), (53, v), (54, (vN a)), (55, (vN o)), (56, (vN (a + o))), (57, (.pointer (some (sp v (a + o))))), (58, (vN (l1.getD (a + o) 0))), (59, v), (60, (vN x)), (61, (.pointer (some (sp v x))))] wS := by
     intro wS HS
     rw [hW]
     refine WH.all1 (i := 15) (by kernel_rfl) ?_
     ·
      refine WHS.op (i := 15) rfl (.inl rfl) rfl (op_load rfl ((HS.arrR (i := 0) rfl).at (get_map vN 0 (Arr.ltM (HS.arrR (i := 0) rfl) (by omega)))) Try.underlying3 rfl ?_)
      refine ⟨⟨[.row v 3 1 n (List.map vN l1), .blk b2 [(vU64 y7)] 237], HS⟩, ?_⟩
      refine WH.take (i := 16) (v := (.pointer (some (sp v x)))) rfl rfl (.inl rfl) rfl (by kernel_rfl) ⟨[.row v 3 1 n (List.map vN l1), .blk b2 [(vU64 y7)] 237], HS⟩ (fun wX hSX => hSX.elim fun LX HX => op_indexAddr1W Try.underlying64 Fa.I3 rfl (HS.arrR (i := 0) rfl) rfl (by omega) ⟨rfl, rfl⟩) ?_
      have hq := st10_3 wS HS
      rw [hW] at hq
      exact WH.cv hq
    have st10_2 : ∀ (wS : World), Owl.Own T w wS [.row v 3 1 n (List.map vN l1), .blk b2 [(vU64 y7)] 237] → W 5 #[tt, tt, tt, tt, tt, tt, tt, tt, tt, tt, tt, ff, tt, tt, tt, tt, ff, ff, ff, ff] [(0, v), (1, (vN a)), (2, (vN b)), (6, (vN (b - a))), (7, (ptr b2 0)), (8, (vU64 (shlU64 1 (lenN (UInt64.ofNat (b - a)).toNat)))), (9, (vN x)), (10, (vN o)), (47, v), (48, (vN x)), (49, v), (50, (vN a)), (51, (vN o)), (52, (vN (a + o))), (53, v), (54, (vN a)), (55, (vN o)), (56, (vN (a + o))), (57, (.pointer (some (sp v (a + o))))), (59, v), (60, (vN x)), (61, (.pointer (some (sp v x)))), (62, (vN (l1.getD x 0)))] wS := by
     intro wS HS
     rw [hW]
     refine WH.all1 (i := 11) (by kernel_rfl) ?_
     ·
      refine WHS.op (i := 11) rfl (.inl rfl) rfl (op_load rfl ((HS.arrR (i := 0) rfl).at (get_map vN 0 (Arr.ltM (HS.arrR (i := 0) rfl) (by omega)))) Try.underlying3 rfl ?_)
      refine ⟨⟨[.row v 3 1 n (List.map vN l1), .blk b2 [(vU64 y7)] 237], HS⟩, ?_⟩
      refine WH.take (i := 16) (v := (.pointer (some (sp v x)))) rfl rfl (.inl rfl) rfl (by kernel_rfl) ⟨[.row v 3 1 n (List.map vN l1), .blk b2 [(vU64 y7)] 237], HS⟩ (fun wX hSX => hSX.elim fun LX HX => op_indexAddr1W Try.underlying64 Fa.I3 rfl (HS.arrR (i := 0) rfl) rfl (by omega) ⟨rfl, rfl⟩) ?_
      have hq := st10_3 wS HS
      rw [hW] at hq
      exact WH.cv hq
    have st10_0 : ∀ (wS : World), Owl.Own T w wS [.row v 3 1 n (List.map vN l1), .blk b2 [(vU64 y7)] 237] → W 6 #[tt, tt, tt, tt, tt, tt, tt, tt, tt, tt, tt, ff, tt, tt, tt, ff, ff, ff, ff, ff] [(0, v), (1, (vN a)), (2, (vN b)), (6, (vN (b - a))), (7, (ptr b2 0)), (8, (vU64 (shlU64 1 (lenN (UInt64.ofNat (b - a)).toNat)))), (9, (vN x)), (10, (vN o)), (47, v), (48, (vN x)), (49, v), (50, (vN a)), (51, (vN o)), (52, (vN (a + o))), (53, v), (54, (vN a)), (55, (vN o)), (56, (vN (a + o))), (57, (.pointer (some (sp v (a + o))))), (59, v), (60, (vN x)), (61, (.pointer (some (sp v x))))] wS := by
     intro wS HS
     rw [hW]
     refine WH.all2 (i := 11) (j := 15) (by kernel_rfl) ?_ ?_
     ·
      refine WHS.op (i := 11) rfl (.inl rfl) rfl (op_load rfl ((HS.arrR (i := 0) rfl).at (get_map vN 0 (Arr.ltM (HS.arrR (i := 0) rfl) (by omega)))) Try.underlying3 rfl ?_)
      refine ⟨⟨[.row v 3 1 n (List.map vN l1), .blk b2 [(vU64 y7)] 237], HS⟩, ?_⟩
      have hq := st10_1 wS HS
      rw [hW] at hq
      exact WH.cv hq
     ·
      refine WHS.op (i := 15) rfl (.inl rfl) rfl (op_load rfl ((HS.arrR (i := 0) rfl).at (get_map vN 0 (Arr.ltM (HS.arrR (i := 0) rfl) (by omega)))) Try.underlying3 rfl ?_)
      refine ⟨⟨[.row v 3 1 n (List.map vN l1), .blk b2 [(vU64 y7)] 237], HS⟩, ?_⟩
      have hq := st10_2 wS HS
      rw [hW] at hq
      exact WH.cv hq
    have hq := st10_0 w10 H10
    rw [hW] at hq ⊢
    exact WH.cv hq
  ·
   have hc6 := of_decide_eq_false hb6
   refine WC.exit ?_
   refine WQ.thenExit ?_
   refine WQ.thenExit ?_
   refine WQ.inHere ?_
   refine WQ.outEnd .nil ?_
   exact ⟨_, rfl, hs1, H5.sel [0] rfl rfl⟩
 ·
  have hc1 := of_decide_eq_false hb1
  refine WC.skip ?_
  refine WQ.outEnd .nil ?_
  exact ⟨_, rfl, .refl _, H.sel [0] rfl rfl⟩
set_option maxHeartbeats 4000000 in
set_option maxRecDepth 100000 in
theorem part_ok (v : Value) (n : Nat) (l : List Nat) (a b : Nat) (p : Nat) (T : List Nat) (w : World) (H : Owl.Own T w w [.row v 3 1 n (List.map vN l)]) (hn : l.length = n) (hN : n < 2 ^ 61) (hap : a ≤ p) (hpb : p < b) (hb : b ≤ n) :
  Calls Try.prog 151 #[v, (vN a), (vN b), (vN p)] w (fun e w' => ∃ (l' : List Nat) (m : Nat) (f : Bool), e = .returned (.tuple #[vN m, .bool f]) ∧ (Sw 0 a b l l' ∧ PartP ltN 0 a b m l') ∧ Owl.Own T w w' [.row v 3 1 n (List.map vN l')]) := by
 refine enter (args := [v, (vN a), (vN b), (vN p)]) Try.func151 rfl rfl ?_
 refine ws ?_
 refine wo (op_assign rfl ?_)
 refine wo (op_assign rfl ?_)
 refine wn ?_
 refine WC.cut (α := List Nat) (fun l1 => [(0, v), (1, (vN a)), (2, (vN b))]) (fun l1 w' => (Sw 0 a b l l1 ∧ l1.getD a 0 = (l.getD p 0)) ∧ Owl.Own T w w' [.row v 3 1 n (List.map vN l1)]) ?_ ?_
 ·
  refine WC.held 16 rfl Fa.M H (fun w' => ∃ L', Owl.Own T w w' ([] ++ L')) ?_
  intro w1 H1
  refine WH.take (i := 0) (v := v) rfl rfl (.inl rfl) rfl (by kernel_rfl) ⟨[.row v 3 1 n (List.map vN l)], H1⟩ (fun wX hSX => hSX.elim fun LX HX => op_move rfl ⟨rfl, rfl⟩) ?_
  refine WH.take (i := 1) (v := (vN a)) rfl rfl (.inl rfl) rfl (by kernel_rfl) ⟨[.row v 3 1 n (List.map vN l)], H1⟩ (fun wX hSX => hSX.elim fun LX HX => op_move rfl ⟨rfl, rfl⟩) ?_
  refine WH.take (i := 2) (v := v) rfl rfl (.inl rfl) rfl (by kernel_rfl) ⟨[.row v 3 1 n (List.map vN l)], H1⟩ (fun wX hSX => hSX.elim fun LX HX => op_move rfl ⟨rfl, rfl⟩) ?_
  refine WH.take (i := 3) (v := (vN p)) rfl rfl (.inl rfl) rfl (by kernel_rfl) ⟨[.row v 3 1 n (List.map vN l)], H1⟩ (fun wX hSX => hSX.elim fun LX HX => op_move rfl ⟨rfl, rfl⟩) ?_
  refine WH.take (i := 4) (v := v) rfl rfl (.inl rfl) rfl (by kernel_rfl) ⟨[.row v 3 1 n (List.map vN l)], H1⟩ (fun wX hSX => hSX.elim fun LX HX => op_move rfl ⟨rfl, rfl⟩) ?_
  refine WH.take (i := 5) (v := (vN p)) rfl rfl (.inl rfl) rfl (by kernel_rfl) ⟨[.row v 3 1 n (List.map vN l)], H1⟩ (fun wX hSX => hSX.elim fun LX HX => op_move rfl ⟨rfl, rfl⟩) ?_
  refine WH.take (i := 6) (v := (.pointer (some (sp v p)))) rfl rfl (.inl rfl) rfl (by kernel_rfl) ⟨[.row v 3 1 n (List.map vN l)], H1⟩ (fun wX hSX => hSX.elim fun LX HX => op_indexAddr1W Try.underlying64 Fa.I3 rfl (H1.arrR (i := 0) rfl) rfl (by omega) ⟨rfl, rfl⟩) ?_
  refine WH.take (i := 8) (v := v) rfl rfl (.inl rfl) rfl (by kernel_rfl) ⟨[.row v 3 1 n (List.map vN l)], H1⟩ (fun wX hSX => hSX.elim fun LX HX => op_move rfl ⟨rfl, rfl⟩) ?_
  refine WH.take (i := 9) (v := (vN a)) rfl rfl (.inl rfl) rfl (by kernel_rfl) ⟨[.row v 3 1 n (List.map vN l)], H1⟩ (fun wX hSX => hSX.elim fun LX HX => op_move rfl ⟨rfl, rfl⟩) ?_
  refine WH.take (i := 10) (v := (.pointer (some (sp v a)))) rfl rfl (.inl rfl) rfl (by kernel_rfl) ⟨[.row v 3 1 n (List.map vN l)], H1⟩ (fun wX hSX => hSX.elim fun LX HX => op_indexAddr1W Try.underlying64 Fa.I3 rfl (H1.arrR (i := 0) rfl) rfl (by omega) ⟨rfl, rfl⟩) ?_
  refine WH.named (fun W hW => ?_)
  have st1_5 : ∀ (wS : World), Owl.Own T w wS [.row v 3 1 n (List.map vN ((l.set a (l.getD p 0)).set p (l.getD a 0)))] → W 0 #[tt, tt, tt, tt, tt, tt, tt, tt, tt, tt, tt, tt, tt, tt, tt, tt] [(0, v), (1, (vN a)), (2, (vN b)), (3, (vN p)), (8, (vN 0)), (9, (.bool false)), (12, v), (13, (vN a)), (14, v), (15, (vN p)), (16, v), (17, (vN p)), (18, (.pointer (some (sp v p)))), (19, (vN (l.getD p 0))), (20, v), (21, (vN a)), (22, (.pointer (some (sp v a)))), (23, (vN (l.getD a 0))), (24, (.pointer (some (sp v a)))), (25, (.pointer (some (sp v p))))] wS := by
   intro wS HS
   rw [hW]
   refine WH.done (by kernel_rfl) ?_
   exact WQ.here (swapL 0 l a p) ⟨⟨Sw.one (by omega) (by omega) (by omega) (by omega), swap_fst (by omega) (by omega)⟩, HS⟩ ⟨rfl, rfl, rfl, trivial⟩
  have st1_4 : ∀ (wS : World), Owl.Own T w wS [.row v 3 1 n (List.map vN (l.set a (l.getD p 0)))] → W 1 #[tt, tt, tt, tt, tt, tt, tt, tt, tt, tt, tt, tt, tt, tt, tt, ff] [(0, v), (1, (vN a)), (2, (vN b)), (3, (vN p)), (8, (vN 0)), (9, (.bool false)), (12, v), (13, (vN a)), (14, v), (15, (vN p)), (16, v), (17, (vN p)), (18, (.pointer (some (sp v p)))), (19, (vN (l.getD p 0))), (20, v), (21, (vN a)), (22, (.pointer (some (sp v a)))), (23, (vN (l.getD a 0))), (24, (.pointer (some (sp v a)))), (25, (.pointer (some (sp v p))))] wS := by
   intro wS HS
   rw [hW]
   refine WH.all1 (i := 15) (by kernel_rfl) ?_
   ·
    refine WHS.op (i := 15) rfl (.inl rfl) rfl (op_storeRM (i := 0) (f := vN) (l := (l.set a (l.getD p 0))) (c := (l.getD a 0)) HS rfl rfl rfl (by omega) rfl Fa.I3 (fun w12301 H12301 => ?_))
    refine ⟨⟨[.row v 3 1 n (List.map vN ((l.set a (l.getD p 0)).set p (l.getD a 0)))], H12301⟩, ?_⟩
    have hq := st1_5 w12301 H12301
    rw [hW] at hq
    exact WH.cv hq
  have st1_3 : ∀ (wS : World), Owl.Own T w wS [.row v 3 1 n (List.map vN l)] → W 3 #[tt, tt, tt, tt, tt, tt, tt, tt, tt, tt, tt, tt, tt, ff, ff, ff] [(0, v), (1, (vN a)), (2, (vN b)), (3, (vN p)), (8, (vN 0)), (9, (.bool false)), (12, v), (13, (vN a)), (14, v), (15, (vN p)), (16, v), (17, (vN p)), (18, (.pointer (some (sp v p)))), (19, (vN (l.getD p 0))), (20, v), (21, (vN a)), (22, (.pointer (some (sp v a)))), (23, (vN (l.getD a 0))), (24, (.pointer (some (sp v a))))] wS := by
   intro wS HS
   rw [hW]
   refine WH.all1 (i := 13) (by kernel_rfl) ?_
   ·
    refine WHS.op (i := 13) rfl (.inl rfl) rfl (op_storeRM (i := 0) (f := vN) (l := l) (c := (l.getD p 0)) HS rfl rfl rfl (by omega) rfl Fa.I3 (fun w12261 H12261 => ?_))
    refine ⟨⟨[.row v 3 1 n (List.map vN (l.set a (l.getD p 0)))], H12261⟩, ?_⟩
    refine WH.take (i := 14) (v := (.pointer (some (sp v p)))) rfl rfl (.inl rfl) rfl (by kernel_rfl) ⟨[.row v 3 1 n (List.map vN (l.set a (l.getD p 0)))], H12261⟩ (fun wX hSX => hSX.elim fun LX HX => op_indexAddr1W Try.underlying64 Fa.I3 rfl (H12261.arrR (i := 0) rfl) rfl (by omega) ⟨rfl, rfl⟩) ?_
    have hq := st1_4 w12261 H12261
    rw [hW] at hq
    exact WH.cv hq
  have st1_1 : ∀ (wS : World), Owl.Own T w wS [.row v 3 1 n (List.map vN l)] → W 5 #[tt, tt, tt, tt, tt, tt, tt, tt, tt, tt, tt, ff, ff, ff, ff, ff] [(0, v), (1, (vN a)), (2, (vN b)), (3, (vN p)), (8, (vN 0)), (9, (.bool false)), (12, v), (13, (vN a)), (14, v), (15, (vN p)), (16, v), (17, (vN p)), (18, (.pointer (some (sp v p)))), (19, (vN (l.getD p 0))), (20, v), (21, (vN a)), (22, (.pointer (some (sp v a))))] wS := by
   intro wS HS
   rw [hW]
   refine WH.all1 (i := 11) (by kernel_rfl) ?_
   ·
    refine WHS.op (i := 11) rfl (.inl rfl) rfl (op_load rfl ((HS.arrR (i := 0) rfl).at (get_map vN 0 (Arr.ltM (HS.arrR (i := 0) rfl) (by omega)))) Try.underlying3 rfl ?_)
    refine ⟨⟨[.row v 3 1 n (List.map vN l)], HS⟩, ?_⟩
    refine WH.take (i := 12) (v := (.pointer (some (sp v a)))) rfl rfl (.inl rfl) rfl (by kernel_rfl) ⟨[.row v 3 1 n (List.map vN l)], HS⟩ (fun wX hSX => hSX.elim fun LX HX => op_indexAddr1W Try.underlying64 Fa.I3 rfl (HS.arrR (i := 0) rfl) rfl (by omega) ⟨rfl, rfl⟩) ?_
    have hq := st1_3 wS HS
    rw [hW] at hq
    exact WH.cv hq
  have st1_2 : ∀ (wS : World), Owl.Own T w wS [.row v 3 1 n (List.map vN l)] → W 5 #[tt, tt, tt, tt, tt, tt, tt, ff, tt, tt, tt, tt, ff, ff, ff, ff] [(0, v), (1, (vN a)), (2, (vN b)), (3, (vN p)), (8, (vN 0)), (9, (.bool false)), (12, v), (13, (vN a)), (14, v), (15, (vN p)), (16, v), (17, (vN p)), (18, (.pointer (some (sp v p)))), (20, v), (21, (vN a)), (22, (.pointer (some (sp v a)))), (23, (vN (l.getD a 0)))] wS := by
   intro wS HS
   rw [hW]
   refine WH.all1 (i := 7) (by kernel_rfl) ?_
   ·
    refine WHS.op (i := 7) rfl (.inl rfl) rfl (op_load rfl ((HS.arrR (i := 0) rfl).at (get_map vN 0 (Arr.ltM (HS.arrR (i := 0) rfl) (by omega)))) Try.underlying3 rfl ?_)
    refine ⟨⟨[.row v 3 1 n (List.map vN l)], HS⟩, ?_⟩
    refine WH.take (i := 12) (v := (.pointer (some (sp v a)))) rfl rfl (.inl rfl) rfl (by kernel_rfl) ⟨[.row v 3 1 n (List.map vN l)], HS⟩ (fun wX hSX => hSX.elim fun LX HX => op_indexAddr1W Try.underlying64 Fa.I3 rfl (HS.arrR (i := 0) rfl) rfl (by omega) ⟨rfl, rfl⟩) ?_
    have hq := st1_3 wS HS
    rw [hW] at hq
    exact WH.cv hq
  have st1_0 : ∀ (wS : World), Owl.Own T w wS [.row v 3 1 n (List.map vN l)] → W 6 #[tt, tt, tt, tt, tt, tt, tt, ff, tt, tt, tt, ff, ff, ff, ff, ff] [(0, v), (1, (vN a)), (2, (vN b)), (3, (vN p)), (8, (vN 0)), (9, (.bool false)), (12, v), (13, (vN a)), (14, v), (15, (vN p)), (16, v), (17, (vN p)), (18, (.pointer (some (sp v p)))), (20, v), (21, (vN a)), (22, (.pointer (some (sp v a))))] wS := by
   intro wS HS
   rw [hW]
   refine WH.all2 (i := 7) (j := 11) (by kernel_rfl) ?_ ?_
   ·
    refine WHS.op (i := 7) rfl (.inl rfl) rfl (op_load rfl ((HS.arrR (i := 0) rfl).at (get_map vN 0 (Arr.ltM (HS.arrR (i := 0) rfl) (by omega)))) Try.underlying3 rfl ?_)
    refine ⟨⟨[.row v 3 1 n (List.map vN l)], HS⟩, ?_⟩
    have hq := st1_1 wS HS
    rw [hW] at hq
    exact WH.cv hq
   ·
    refine WHS.op (i := 11) rfl (.inl rfl) rfl (op_load rfl ((HS.arrR (i := 0) rfl).at (get_map vN 0 (Arr.ltM (HS.arrR (i := 0) rfl) (by omega)))) Try.underlying3 rfl ?_)
    refine ⟨⟨[.row v 3 1 n (List.map vN l)], HS⟩, ?_⟩
    have hq := st1_2 wS HS
    rw [hW] at hq
    exact WH.cv hq
  have hq := st1_0 w1 H1
  rw [hW] at hq ⊢
  exact WH.cv hq
 ·
  rintro l1 w3 ⟨⟨hs1, hv1⟩, H3⟩
  show WC _ _ _ _ _ [(0, v), (1, (vN a)), (2, (vN b))] _
  have hL1 := hs1.len
  refine ws ?_
  refine wo (op_move rfl ?_)
  refine wo (op_addN (b := 1) rfl rfl (by omega) ?_)
  refine wo (op_move rfl ?_)
  refine wo (op_subN (b := 1) rfl rfl (by omega) (by omega) ?_)
  refine wo (op_assign rfl ?_)
  refine wo (op_assign rfl ?_)
  refine wn ?_
  refine WC.cut (α := Nat) (fun i5 => [(0, v), (1, (vN a)), (2, (vN b)), (10, (vN i5)), (11, (vN (b - 1)))]) (fun i5 w' => (PartI ltN 0 a b i5 (b - 1) l1 (l.getD p 0) ∧ (b - 1 < i5 ∨ ltN (l1.getD i5 0) (l1.getD a 0) = false)) ∧ Owl.Own T w w' [.row v 3 1 n (List.map vN l1)]) ?_ ?_
  ·
   refine WC.block ?_
   refine WC.loop (α := Nat) (fun i => [(0, v), (1, (vN a)), (2, (vN b)), (10, (vN i)), (11, (vN (b - 1)))]) (fun i w' => (PartI ltN 0 a b i (b - 1) l1 (l.getD p 0)) ∧ Owl.Own T w w' [.row v 3 1 n (List.map vN l1)]) (fun i => b - i) (a + 1) ⟨(part_init (by omega) hv1), H3⟩ ⟨rfl, rfl, rfl, rfl, rfl, trivial⟩ ?_
   rintro i w4 ⟨hp3, H4⟩
   show WC _ _ _ _ _ [(0, v), (1, (vN a)), (2, (vN b)), (10, (vN i)), (11, (vN (b - 1)))] _
   have hp3a := hp3.1
   have hp3b := hp3.2.1
   have hp3c := hp3.2.2.1
   refine WC.seq ?_
   refine WC.seq ?_
   refine bsplit (fun (hb5 : (decide (i ≤ (b - 1))) = true) => ?_) (fun (hb5 : (decide (i ≤ (b - 1))) = false) => ?_)
   ·
    have hc5 := of_decide_eq_true hb5
    refine WC.draw 14 Fa.M H4 (HW.op rfl (fun w1 H1 => op_move rfl ⟨rfl, Fr.refl _ _⟩) (HW.op rfl (fun w1 H1 => op_move rfl ⟨rfl, Fr.refl _ _⟩) (HW.op rfl (fun w1 H1 => op_leqN rfl rfl ⟨rfl, Fr.refl _ _⟩) (HW.op rfl (fun w1 H1 => op_move rfl ⟨rfl, Fr.refl _ _⟩) (HW.yes rfl rfl rfl hb5 (fun w1 H1 => op_move rfl ⟨rfl, Fr.refl _ _⟩) (HW.yes rfl rfl rfl hb5 (fun w1 H1 => op_move rfl ⟨rfl, Fr.refl _ _⟩) (HW.yes rfl rfl rfl hb5 (fun w1 H1 => op_indexAddr1 Try.underlying64 Fa.I3 rfl (H1.arrR (i := 0) rfl) rfl (by omega) ⟨rfl, Fr.refl _ _⟩) (HW.yes rfl rfl rfl hb5 (fun w1 H1 => op_load rfl ((H1.arrR (i := 0) rfl).at (get_map vN 0 (Arr.ltM (H1.arrR (i := 0) rfl) (by omega)))) Try.underlying3 rfl ⟨rfl, Fr.refl _ _⟩) (HW.yes rfl rfl rfl hb5 (fun w1 H1 => op_move rfl ⟨rfl, Fr.refl _ _⟩) (HW.yes rfl rfl rfl hb5 (fun w1 H1 => op_move rfl ⟨rfl, Fr.refl _ _⟩) (HW.yes rfl rfl rfl hb5 (fun w1 H1 => op_indexAddr1 Try.underlying64 Fa.I3 rfl (H1.arrR (i := 0) rfl) rfl (by omega) ⟨rfl, Fr.refl _ _⟩) (HW.yes rfl rfl rfl hb5 (fun w1 H1 => op_load rfl ((H1.arrR (i := 0) rfl).at (get_map vN 0 (Arr.ltM (H1.arrR (i := 0) rfl) (by omega)))) Try.underlying3 rfl ⟨rfl, Fr.refl _ _⟩) (HW.yes rfl rfl rfl hb5 (fun w1 H1 => op_callF Fa.C149 rfl ((less_ok (l1.getD i 0) (l1.getD a 0) _).mono (fun e w2 hq => ⟨_, hq.1, rfl, hq.2⟩))) (HW.op rfl (fun w1 H1 => op_pickT rfl hb5 rfl ⟨rfl, Fr.refl _ _⟩)  HW.nil)))))))))))))) (by kernel_rfl) ?_
    intro β7 w7 H7
    refine wn ?_
    refine WC.cond rfl (fun (hb8 : (ltN (l1.getD i 0) (l1.getD a 0)) = true) => ?_) (fun (hb8 : (ltN (l1.getD i 0) (l1.getD a 0)) = false) => ?_)
    ·
     refine WC.skip ?_
     refine WQ.next ?_
     refine WC.block ?_
     refine WC.region ?_
     refine wo (op_move rfl ?_)
     refine wo (op_addN (b := 1) rfl rfl (by omega) ?_)
     refine wo (op_assign rfl ?_)
     refine WL.nil ?_
     refine WQ.inNormal ?_
     exact WQ.round (i + 1) ⟨(part_i hp3 (by omega) hb8), H7⟩ ⟨rfl, rfl, rfl, rfl, rfl, trivial⟩ (by omega)
    ·
     refine WC.exit ?_
     refine WQ.thenExit ?_
     refine WQ.thenExit ?_
     refine WQ.inHere ?_
     exact WQ.here i ⟨⟨hp3, .inr hb8⟩, H7⟩ ⟨rfl, rfl, rfl, rfl, rfl, trivial⟩
   ·
    have hc5 := of_decide_eq_false hb5
    refine WC.draw 14 Fa.M H4 (HW.op rfl (fun w1 H1 => op_move rfl ⟨rfl, Fr.refl _ _⟩) (HW.op rfl (fun w1 H1 => op_move rfl ⟨rfl, Fr.refl _ _⟩) (HW.op rfl (fun w1 H1 => op_leqN rfl rfl ⟨rfl, Fr.refl _ _⟩) (HW.op rfl (fun w1 H1 => op_move rfl ⟨rfl, Fr.refl _ _⟩) (HW.no rfl rfl rfl hb5 (HW.no rfl rfl rfl hb5 (HW.no rfl rfl rfl hb5 (HW.no rfl rfl rfl hb5 (HW.no rfl rfl rfl hb5 (HW.no rfl rfl rfl hb5 (HW.no rfl rfl rfl hb5 (HW.no rfl rfl rfl hb5 (HW.no rfl rfl rfl hb5 (HW.op rfl (fun w1 H1 => op_pickF rfl hb5 rfl ⟨rfl, Fr.refl _ _⟩)  HW.nil)))))))))))))) (by kernel_rfl) ?_
    intro β9 w9 H9
    refine wn ?_
    refine WC.no rfl rfl ?_
    refine WC.exit ?_
    refine WQ.thenExit ?_
    refine WQ.thenExit ?_
    refine WQ.inHere ?_
    exact WQ.here i ⟨⟨hp3, .inl (by omega)⟩, H9⟩ ⟨rfl, rfl, rfl, rfl, rfl, trivial⟩
  ·
   rintro i5 w10 ⟨⟨hp5, hx5⟩, H10⟩
   show WC _ _ _ _ _ [(0, v), (1, (vN a)), (2, (vN b)), (10, (vN i5)), (11, (vN (b - 1)))] _
   have hp5a := hp5.1
   have hp5b := hp5.2.1
   have hp5c := hp5.2.2.1
   refine WC.cut (α := Nat) (fun j7 => [(0, v), (1, (vN a)), (2, (vN b)), (10, (vN i5)), (11, (vN j7))]) (fun j7 w' => (PartI ltN 0 a b i5 j7 l1 (l.getD p 0) ∧ (j7 < i5 ∨ ltN (l1.getD i5 0) (l1.getD a 0) = false) ∧ (j7 < i5 ∨ ltN (l1.getD j7 0) (l1.getD a 0) = true)) ∧ Owl.Own T w w' [.row v 3 1 n (List.map vN l1)]) ?_ ?_
   ·
    refine WC.block ?_
    refine WC.loop (α := Nat) (fun j => [(0, v), (1, (vN a)), (2, (vN b)), (10, (vN i5)), (11, (vN j))]) (fun j w' => (PartI ltN 0 a b i5 j l1 (l.getD p 0) ∧ (j < i5 ∨ ltN (l1.getD i5 0) (l1.getD a 0) = false)) ∧ Owl.Own T w w' [.row v 3 1 n (List.map vN l1)]) (fun j => j) (b - 1) ⟨⟨hp5, hx5⟩, H10⟩ ⟨rfl, rfl, rfl, rfl, rfl, trivial⟩ ?_
    rintro j w11 ⟨⟨hp6, hx6⟩, H11⟩
    show WC _ _ _ _ _ [(0, v), (1, (vN a)), (2, (vN b)), (10, (vN i5)), (11, (vN j))] _
    have hp6a := hp6.1
    have hp6b := hp6.2.1
    have hp6c := hp6.2.2.1
    refine WC.seq ?_
    refine WC.seq ?_
    refine bsplit (fun (hb12 : (decide (i5 ≤ j)) = true) => ?_) (fun (hb12 : (decide (i5 ≤ j)) = false) => ?_)
    ·
     have hc12 := of_decide_eq_true hb12
     refine WC.draw 15 Fa.M H11 (HW.op rfl (fun w1 H1 => op_move rfl ⟨rfl, Fr.refl _ _⟩) (HW.op rfl (fun w1 H1 => op_move rfl ⟨rfl, Fr.refl _ _⟩) (HW.op rfl (fun w1 H1 => op_leqN rfl rfl ⟨rfl, Fr.refl _ _⟩) (HW.op rfl (fun w1 H1 => op_move rfl ⟨rfl, Fr.refl _ _⟩) (HW.yes rfl rfl rfl hb12 (fun w1 H1 => op_move rfl ⟨rfl, Fr.refl _ _⟩) (HW.yes rfl rfl rfl hb12 (fun w1 H1 => op_move rfl ⟨rfl, Fr.refl _ _⟩) (HW.yes rfl rfl rfl hb12 (fun w1 H1 => op_indexAddr1 Try.underlying64 Fa.I3 rfl (H1.arrR (i := 0) rfl) rfl (by omega) ⟨rfl, Fr.refl _ _⟩) (HW.yes rfl rfl rfl hb12 (fun w1 H1 => op_load rfl ((H1.arrR (i := 0) rfl).at (get_map vN 0 (Arr.ltM (H1.arrR (i := 0) rfl) (by omega)))) Try.underlying3 rfl ⟨rfl, Fr.refl _ _⟩) (HW.yes rfl rfl rfl hb12 (fun w1 H1 => op_move rfl ⟨rfl, Fr.refl _ _⟩) (HW.yes rfl rfl rfl hb12 (fun w1 H1 => op_move rfl ⟨rfl, Fr.refl _ _⟩) (HW.yes rfl rfl rfl hb12 (fun w1 H1 => op_indexAddr1 Try.underlying64 Fa.I3 rfl (H1.arrR (i := 0) rfl) rfl (by omega) ⟨rfl, Fr.refl _ _⟩) (HW.yes rfl rfl rfl hb12 (fun w1 H1 => op_load rfl ((H1.arrR (i := 0) rfl).at (get_map vN 0 (Arr.ltM (H1.arrR (i := 0) rfl) (by omega)))) Try.underlying3 rfl ⟨rfl, Fr.refl _ _⟩) (HW.yes rfl rfl rfl hb12 (fun w1 H1 => op_callF Fa.C149 rfl ((less_ok (l1.getD j 0) (l1.getD a 0) _).mono (fun e w2 hq => ⟨_, hq.1, rfl, hq.2⟩))) (HW.yes rfl rfl rfl hb12 (fun w1 H1 => op_not rfl ⟨rfl, Fr.refl _ _⟩) (HW.op rfl (fun w1 H1 => op_pickT rfl hb12 rfl ⟨rfl, Fr.refl _ _⟩)  HW.nil))))))))))))))) (by kernel_rfl) ?_
     intro β14 w14 H14
     refine wn ?_
     refine WC.cond rfl (fun (hb15 : (!(ltN (l1.getD j 0) (l1.getD a 0))) = true) => ?_) (fun (hb15 : (!(ltN (l1.getD j 0) (l1.getD a 0))) = false) => ?_)
     ·
      have hn15 := (Bool.not_eq_true' _).mp hb15
      refine WC.skip ?_
      refine WQ.next ?_
      refine WC.block ?_
      refine WC.region ?_
      refine wo (op_move rfl ?_)
      refine wo (op_subN (b := 1) rfl rfl (by omega) (by omega) ?_)
      refine wo (op_assign rfl ?_)
      refine WL.nil ?_
      refine WQ.inNormal ?_
      exact WQ.round (j - 1) ⟨⟨part_j hp6 (by omega) hn15, hx6.imp (fun h => by omega) id⟩, H14⟩ ⟨rfl, rfl, rfl, rfl, rfl, trivial⟩ (by omega)
     ·
      have hn15 := (Bool.not_eq_false' _).mp hb15
      refine WC.exit ?_
      refine WQ.thenExit ?_
      refine WQ.thenExit ?_
      refine WQ.inHere ?_
      exact WQ.here j ⟨⟨hp6, hx6, .inr hn15⟩, H14⟩ ⟨rfl, rfl, rfl, rfl, rfl, trivial⟩
    ·
     have hc12 := of_decide_eq_false hb12
     refine WC.draw 15 Fa.M H11 (HW.op rfl (fun w1 H1 => op_move rfl ⟨rfl, Fr.refl _ _⟩) (HW.op rfl (fun w1 H1 => op_move rfl ⟨rfl, Fr.refl _ _⟩) (HW.op rfl (fun w1 H1 => op_leqN rfl rfl ⟨rfl, Fr.refl _ _⟩) (HW.op rfl (fun w1 H1 => op_move rfl ⟨rfl, Fr.refl _ _⟩) (HW.no rfl rfl rfl hb12 (HW.no rfl rfl rfl hb12 (HW.no rfl rfl rfl hb12 (HW.no rfl rfl rfl hb12 (HW.no rfl rfl rfl hb12 (HW.no rfl rfl rfl hb12 (HW.no rfl rfl rfl hb12 (HW.no rfl rfl rfl hb12 (HW.no rfl rfl rfl hb12 (HW.no rfl rfl rfl hb12 (HW.op rfl (fun w1 H1 => op_pickF rfl hb12 rfl ⟨rfl, Fr.refl _ _⟩)  HW.nil))))))))))))))) (by kernel_rfl) ?_
     intro β16 w16 H16
     refine wn ?_
     refine WC.no rfl rfl ?_
     refine WC.exit ?_
     refine WQ.thenExit ?_
     refine WQ.thenExit ?_
     refine WQ.inHere ?_
     exact WQ.here j ⟨⟨hp6, hx6, .inl (by omega)⟩, H16⟩ ⟨rfl, rfl, rfl, rfl, rfl, trivial⟩
   ·
    rintro j7 w17 ⟨⟨hp7, hx7, hy7⟩, H17⟩
    show WC _ _ _ _ _ [(0, v), (1, (vN a)), (2, (vN b)), (10, (vN i5)), (11, (vN j7))] _
    have hp7a := hp7.1
    have hp7b := hp7.2.1
    have hp7c := hp7.2.2.1
    refine WC.seq ?_
    refine ws ?_
    refine wo (op_move rfl ?_)
    refine wo (op_move rfl ?_)
    refine wo (op_gtrN rfl rfl ?_)
    refine wn ?_
    refine WC.cond rfl (fun (hb18 : (decide (i5 > j7)) = true) => ?_) (fun (hb18 : (decide (i5 > j7)) = false) => ?_)
    ·
     have hc18 := of_decide_eq_true hb18
     refine WC.seq ?_
     refine WC.held 16 rfl Fa.M H17 (fun w' => ∃ L', Owl.Own T w w' ([] ++ L')) ?_
     intro w19 H19
     refine WH.take (i := 0) (v := v) rfl rfl (.inl rfl) rfl (by kernel_rfl) ⟨[.row v 3 1 n (List.map vN l1)], H19⟩ (fun wX hSX => hSX.elim fun LX HX => op_move rfl ⟨rfl, rfl⟩) ?_
     refine WH.take (i := 1) (v := (vN j7)) rfl rfl (.inl rfl) rfl (by kernel_rfl) ⟨[.row v 3 1 n (List.map vN l1)], H19⟩ (fun wX hSX => hSX.elim fun LX HX => op_move rfl ⟨rfl, rfl⟩) ?_
     refine WH.take (i := 2) (v := v) rfl rfl (.inl rfl) rfl (by kernel_rfl) ⟨[.row v 3 1 n (List.map vN l1)], H19⟩ (fun wX hSX => hSX.elim fun LX HX => op_move rfl ⟨rfl, rfl⟩) ?_
     refine WH.take (i := 3) (v := (vN a)) rfl rfl (.inl rfl) rfl (by kernel_rfl) ⟨[.row v 3 1 n (List.map vN l1)], H19⟩ (fun wX hSX => hSX.elim fun LX HX => op_move rfl ⟨rfl, rfl⟩) ?_
     refine WH.take (i := 4) (v := v) rfl rfl (.inl rfl) rfl (by kernel_rfl) ⟨[.row v 3 1 n (List.map vN l1)], H19⟩ (fun wX hSX => hSX.elim fun LX HX => op_move rfl ⟨rfl, rfl⟩) ?_
     refine WH.take (i := 5) (v := (vN a)) rfl rfl (.inl rfl) rfl (by kernel_rfl) ⟨[.row v 3 1 n (List.map vN l1)], H19⟩ (fun wX hSX => hSX.elim fun LX HX => op_move rfl ⟨rfl, rfl⟩) ?_
     refine WH.take (i := 6) (v := (.pointer (some (sp v a)))) rfl rfl (.inl rfl) rfl (by kernel_rfl) ⟨[.row v 3 1 n (List.map vN l1)], H19⟩ (fun wX hSX => hSX.elim fun LX HX => op_indexAddr1W Try.underlying64 Fa.I3 rfl (H19.arrR (i := 0) rfl) rfl (by omega) ⟨rfl, rfl⟩) ?_
     refine WH.take (i := 8) (v := v) rfl rfl (.inl rfl) rfl (by kernel_rfl) ⟨[.row v 3 1 n (List.map vN l1)], H19⟩ (fun wX hSX => hSX.elim fun LX HX => op_move rfl ⟨rfl, rfl⟩) ?_
     refine WH.take (i := 9) (v := (vN j7)) rfl rfl (.inl rfl) rfl (by kernel_rfl) ⟨[.row v 3 1 n (List.map vN l1)], H19⟩ (fun wX hSX => hSX.elim fun LX HX => op_move rfl ⟨rfl, rfl⟩) ?_
     refine WH.take (i := 10) (v := (.pointer (some (sp v j7)))) rfl rfl (.inl rfl) rfl (by kernel_rfl) ⟨[.row v 3 1 n (List.map vN l1)], H19⟩ (fun wX hSX => hSX.elim fun LX HX => op_indexAddr1W Try.underlying64 Fa.I3 rfl (H19.arrR (i := 0) rfl) rfl (by omega) ⟨rfl, rfl⟩) ?_
     refine WH.named (fun W hW => ?_)
     have st8_5 : ∀ (wS : World), Owl.Own T w wS [.row v 3 1 n (List.map vN ((l1.set j7 (l1.getD a 0)).set a (l1.getD j7 0)))] → W 0 #[tt, tt, tt, tt, tt, tt, tt, tt, tt, tt, tt, tt, tt, tt, tt, tt] [(0, v), (1, (vN a)), (2, (vN b)), (10, (vN i5)), (11, (vN j7)), (63, (vN i5)), (64, (vN j7)), (65, (.bool (decide (i5 > j7)))), (66, v), (67, (vN j7)), (68, v), (69, (vN a)), (70, v), (71, (vN a)), (72, (.pointer (some (sp v a)))), (73, (vN (l1.getD a 0))), (74, v), (75, (vN j7)), (76, (.pointer (some (sp v j7)))), (77, (vN (l1.getD j7 0))), (78, (.pointer (some (sp v j7)))), (79, (.pointer (some (sp v a))))] wS := by
      intro wS HS
      rw [hW]
      refine WH.done (by kernel_rfl) ?_
      refine WQ.next ?_
      refine ws ?_
      refine wo (op_move rfl ?_)
      refine wo (op_assign rfl ?_)
      refine wo (op_assign rfl ?_)
      refine wn ?_
      refine WC.ret ?_
      refine WQ.thenRet ?_
      refine WQ.out (.tmp rfl (.tmp rfl .nil)) ?_
      exact ⟨_, _, _, rfl, ⟨hs1.step (by omega) (by omega) (by omega) (by omega), part_done (by omega) hp7 (by omega)⟩, HS⟩
     have st8_4 : ∀ (wS : World), Owl.Own T w wS [.row v 3 1 n (List.map vN (l1.set j7 (l1.getD a 0)))] → W 1 #[tt, tt, tt, tt, tt, tt, tt, tt, tt, tt, tt, tt, tt, tt, tt, ff] [(0, v), (1, (vN a)), (2, (vN b)), (10, (vN i5)), (11, (vN j7)), (63, (vN i5)), (64, (vN j7)), (65, (.bool (decide (i5 > j7)))), (66, v), (67, (vN j7)), (68, v), (69, (vN a)), (70, v), (71, (vN a)), (72, (.pointer (some (sp v a)))), (73, (vN (l1.getD a 0))), (74, v), (75, (vN j7)), (76, (.pointer (some (sp v j7)))), (77, (vN (l1.getD j7 0))), (78, (.pointer (some (sp v j7)))), (79, (.pointer (some (sp v a))))] wS := by
      intro wS HS
      rw [hW]
      refine WH.all1 (i := 15) (by kernel_rfl) ?_
      ·
       refine WHS.op (i := 15) rfl (.inl rfl) rfl (op_storeRM (i := 0) (f := vN) (l := (l1.set j7 (l1.getD a 0))) (c := (l1.getD j7 0)) HS rfl rfl rfl (by omega) rfl Fa.I3 (fun w30301 H30301 => ?_))
       refine ⟨⟨[.row v 3 1 n (List.map vN ((l1.set j7 (l1.getD a 0)).set a (l1.getD j7 0)))], H30301⟩, ?_⟩
       have hq := st8_5 w30301 H30301
       rw [hW] at hq
       exact WH.cv hq
     have st8_3 : ∀ (wS : World), Owl.Own T w wS [.row v 3 1 n (List.map vN l1)] → W 3 #[tt, tt, tt, tt, tt, tt, tt, tt, tt, tt, tt, tt, tt, ff, ff, ff] [(0, v), (1, (vN a)), (2, (vN b)), (10, (vN i5)), (11, (vN j7)), (63, (vN i5)), (64, (vN j7)), (65, (.bool (decide (i5 > j7)))), (66, v), (67, (vN j7)), (68, v), (69, (vN a)), (70, v), (71, (vN a)), (72, (.pointer (some (sp v a)))), (73, (vN (l1.getD a 0))), (74, v), (75, (vN j7)), (76, (.pointer (some (sp v j7)))), (77, (vN (l1.getD j7 0))), (78, (.pointer (some (sp v j7))))] wS := by
      intro wS HS
      rw [hW]
      refine WH.all1 (i := 13) (by kernel_rfl) ?_
      ·
       refine WHS.op (i := 13) rfl (.inl rfl) rfl (op_storeRM (i := 0) (f := vN) (l := l1) (c := (l1.getD a 0)) HS rfl rfl rfl (by omega) rfl Fa.I3 (fun w30261 H30261 => ?_))
       refine ⟨⟨[.row v 3 1 n (List.map vN (l1.set j7 (l1.getD a 0)))], H30261⟩, ?_⟩
       refine WH.take (i := 14) (v := (.pointer (some (sp v a)))) rfl rfl (.inl rfl) rfl (by kernel_rfl) ⟨[.row v 3 1 n (List.map vN (l1.set j7 (l1.getD a 0)))], H30261⟩ (fun wX hSX => hSX.elim fun LX HX => op_indexAddr1W Try.underlying64 Fa.I3 rfl (H30261.arrR (i := 0) rfl) rfl (by omega) ⟨rfl, rfl⟩) ?_
       have hq := st8_4 w30261 H30261
       rw [hW] at hq
       exact WH.cv hq
     have st8_1 : ∀ (wS : World), Owl.Own T w wS [.row v 3 1 n (List.map vN l1)] → W 5 #[tt, tt, tt, tt, tt, tt, tt, tt, tt, tt, tt, ff, ff, ff, ff, ff] [(0, v), (1, (vN a)), (2, (vN b)), (10, (vN i5)), (11, (vN j7)), (63, (vN i5)), (64, (vN j7)), (65, (.bool (decide (i5 > j7)))), (66, v), (67, (vN j7)), (68, v), (69, (vN a)), (70, v), (71, (vN a)), (72, (.pointer (some (sp v a)))), (73, (vN (l1.getD a 0))), (74, v), (75, (vN j7)), (76, (.pointer (some (sp v j7))))] wS := by
      intro wS HS
      rw [hW]
      refine WH.all1 (i := 11) (by kernel_rfl) ?_
      ·
       refine WHS.op (i := 11) rfl (.inl rfl) rfl (op_load rfl ((HS.arrR (i := 0) rfl).at (get_map vN 0 (Arr.ltM (HS.arrR (i := 0) rfl) (by omega)))) Try.underlying3 rfl ?_)
       refine ⟨⟨[.row v 3 1 n (List.map vN l1)], HS⟩, ?_⟩
       refine WH.take (i := 12) (v := (.pointer (some (sp v j7)))) rfl rfl (.inl rfl) rfl (by kernel_rfl) ⟨[.row v 3 1 n (List.map vN l1)], HS⟩ (fun wX hSX => hSX.elim fun LX HX => op_indexAddr1W Try.underlying64 Fa.I3 rfl (HS.arrR (i := 0) rfl) rfl (by omega) ⟨rfl, rfl⟩) ?_
       have hq := st8_3 wS HS
       rw [hW] at hq
       exact WH.cv hq
     have st8_2 : ∀ (wS : World), Owl.Own T w wS [.row v 3 1 n (List.map vN l1)] → W 5 #[tt, tt, tt, tt, tt, tt, tt, ff, tt, tt, tt, tt, ff, ff, ff, ff] [(0, v), (1, (vN a)), (2, (vN b)), (10, (vN i5)), (11, (vN j7)), (63, (vN i5)), (64, (vN j7)), (65, (.bool (decide (i5 > j7)))), (66, v), (67, (vN j7)), (68, v), (69, (vN a)), (70, v), (71, (vN a)), (72, (.pointer (some (sp v a)))), (74, v), (75, (vN j7)), (76, (.pointer (some (sp v j7)))), (77, (vN (l1.getD j7 0)))] wS := by
      intro wS HS
      rw [hW]
      refine WH.all1 (i := 7) (by kernel_rfl) ?_
      ·
       refine WHS.op (i := 7) rfl (.inl rfl) rfl (op_load rfl ((HS.arrR (i := 0) rfl).at (get_map vN 0 (Arr.ltM (HS.arrR (i := 0) rfl) (by omega)))) Try.underlying3 rfl ?_)
       refine ⟨⟨[.row v 3 1 n (List.map vN l1)], HS⟩, ?_⟩
       refine WH.take (i := 12) (v := (.pointer (some (sp v j7)))) rfl rfl (.inl rfl) rfl (by kernel_rfl) ⟨[.row v 3 1 n (List.map vN l1)], HS⟩ (fun wX hSX => hSX.elim fun LX HX => op_indexAddr1W Try.underlying64 Fa.I3 rfl (HS.arrR (i := 0) rfl) rfl (by omega) ⟨rfl, rfl⟩) ?_
       have hq := st8_3 wS HS
       rw [hW] at hq
       exact WH.cv hq
     have st8_0 : ∀ (wS : World), Owl.Own T w wS [.row v 3 1 n (List.map vN l1)] → W 6 #[tt, tt, tt, tt, tt, tt, tt, ff, tt, tt, tt, ff, ff, ff, ff, ff] [(0, v), (1, (vN a)), (2, (vN b)), (10, (vN i5)), (11, (vN j7)), (63, (vN i5)), (64, (vN j7)), (65, (.bool (decide (i5 > j7)))), (66, v), (67, (vN j7)), (68, v), (69, (vN a)), (70, v), (71, (vN a)), (72, (.pointer (some (sp v a)))), (74, v), (75, (vN j7)), (76, (.pointer (some (sp v j7))))] wS := by
      intro wS HS
      rw [hW]
      refine WH.all2 (i := 7) (j := 11) (by kernel_rfl) ?_ ?_
      ·
       refine WHS.op (i := 7) rfl (.inl rfl) rfl (op_load rfl ((HS.arrR (i := 0) rfl).at (get_map vN 0 (Arr.ltM (HS.arrR (i := 0) rfl) (by omega)))) Try.underlying3 rfl ?_)
       refine ⟨⟨[.row v 3 1 n (List.map vN l1)], HS⟩, ?_⟩
       have hq := st8_1 wS HS
       rw [hW] at hq
       exact WH.cv hq
      ·
       refine WHS.op (i := 11) rfl (.inl rfl) rfl (op_load rfl ((HS.arrR (i := 0) rfl).at (get_map vN 0 (Arr.ltM (HS.arrR (i := 0) rfl) (by omega)))) Try.underlying3 rfl ?_)
       refine ⟨⟨[.row v 3 1 n (List.map vN l1)], HS⟩, ?_⟩
       have hq := st8_2 wS HS
       rw [hW] at hq
       exact WH.cv hq
     have hq := st8_0 w19 H19
     rw [hW] at hq ⊢
     exact WH.cv hq
    ·
     have hc18 := of_decide_eq_false hb18
     refine WC.skip ?_
     refine WQ.next ?_
     refine WC.seq ?_
     refine WC.held 16 rfl Fa.M H17 (fun w' => ∃ L', Owl.Own T w w' ([] ++ L')) ?_
     intro w21 H21
     refine WH.take (i := 0) (v := v) rfl rfl (.inl rfl) rfl (by kernel_rfl) ⟨[.row v 3 1 n (List.map vN l1)], H21⟩ (fun wX hSX => hSX.elim fun LX HX => op_move rfl ⟨rfl, rfl⟩) ?_
     refine WH.take (i := 1) (v := (vN i5)) rfl rfl (.inl rfl) rfl (by kernel_rfl) ⟨[.row v 3 1 n (List.map vN l1)], H21⟩ (fun wX hSX => hSX.elim fun LX HX => op_move rfl ⟨rfl, rfl⟩) ?_
     refine WH.take (i := 2) (v := v) rfl rfl (.inl rfl) rfl (by kernel_rfl) ⟨[.row v 3 1 n (List.map vN l1)], H21⟩ (fun wX hSX => hSX.elim fun LX HX => op_move rfl ⟨rfl, rfl⟩) ?_
     refine WH.take (i := 3) (v := (vN j7)) rfl rfl (.inl rfl) rfl (by kernel_rfl) ⟨[.row v 3 1 n (List.map vN l1)], H21⟩ (fun wX hSX => hSX.elim fun LX HX => op_move rfl ⟨rfl, rfl⟩) ?_
     refine WH.take (i := 4) (v := v) rfl rfl (.inl rfl) rfl (by kernel_rfl) ⟨[.row v 3 1 n (List.map vN l1)], H21⟩ (fun wX hSX => hSX.elim fun LX HX => op_move rfl ⟨rfl, rfl⟩) ?_
     refine WH.take (i := 5) (v := (vN j7)) rfl rfl (.inl rfl) rfl (by kernel_rfl) ⟨[.row v 3 1 n (List.map vN l1)], H21⟩ (fun wX hSX => hSX.elim fun LX HX => op_move rfl ⟨rfl, rfl⟩) ?_
     refine WH.take (i := 6) (v := (.pointer (some (sp v j7)))) rfl rfl (.inl rfl) rfl (by kernel_rfl) ⟨[.row v 3 1 n (List.map vN l1)], H21⟩ (fun wX hSX => hSX.elim fun LX HX => op_indexAddr1W Try.underlying64 Fa.I3 rfl (H21.arrR (i := 0) rfl) rfl (by omega) ⟨rfl, rfl⟩) ?_
     refine WH.take (i := 8) (v := v) rfl rfl (.inl rfl) rfl (by kernel_rfl) ⟨[.row v 3 1 n (List.map vN l1)], H21⟩ (fun wX hSX => hSX.elim fun LX HX => op_move rfl ⟨rfl, rfl⟩) ?_
     refine WH.take (i := 9) (v := (vN i5)) rfl rfl (.inl rfl) rfl (by kernel_rfl) ⟨[.row v 3 1 n (List.map vN l1)], H21⟩ (fun wX hSX => hSX.elim fun LX HX => op_move rfl ⟨rfl, rfl⟩) ?_
     refine WH.take (i := 10) (v := (.pointer (some (sp v i5)))) rfl rfl (.inl rfl) rfl (by kernel_rfl) ⟨[.row v 3 1 n (List.map vN l1)], H21⟩ (fun wX hSX => hSX.elim fun LX HX => op_indexAddr1W Try.underlying64 Fa.I3 rfl (H21.arrR (i := 0) rfl) rfl (by omega) ⟨rfl, rfl⟩) ?_
     refine WH.named (fun W hW => ?_)
     have st10_5 : ∀ (wS : World), Owl.Own T w wS [.row v 3 1 n (List.map vN ((l1.set i5 (l1.getD j7 0)).set j7 (l1.getD i5 0)))] → W 0 #[tt, tt, tt, tt, tt, tt, tt, tt, tt, tt, tt, tt, tt, tt, tt, tt] [(0, v), (1, (vN a)), (2, (vN b)), (10, (vN i5)), (11, (vN j7)), (63, (vN i5)), (64, (vN j7)), (65, (.bool (decide (i5 > j7)))), (81, v), (82, (vN i5)), (83, v), (84, (vN j7)), (85, v), (86, (vN j7)), (87, (.pointer (some (sp v j7)))), (88, (vN (l1.getD j7 0))), (89, v), (90, (vN i5)), (91, (.pointer (some (sp v i5)))), (92, (vN (l1.getD i5 0))), (93, (.pointer (some (sp v i5)))), (94, (.pointer (some (sp v j7))))] wS := by
      intro wS HS
      rw [hW]
      refine WH.done (by kernel_rfl) ?_
      refine WQ.next ?_
      refine ws ?_
      refine wo (op_move rfl ?_)
      refine wo (op_addN (b := 1) rfl rfl (by omega) ?_)
      refine wo (op_assign rfl ?_)
      refine wn ?_
      refine ws ?_
      refine wo (op_move rfl ?_)
      refine wo (op_subN (b := 1) rfl rfl (by omega) (by omega) ?_)
      refine wo (op_assign rfl ?_)
      refine wn ?_
      refine WC.seq ?_
      refine WC.block ?_
      refine WC.loop (α := Nat × Nat × List Nat) (fun (u, z, l2) => [(0, v), (1, (vN a)), (2, (vN b)), (10, (vN u)), (11, (vN z))]) (fun (u, z, l2) w' => (Sw 0 a b l l2 ∧ PartI ltN 0 a b u z l2 (l.getD p 0)) ∧ Owl.Own T w w' [.row v 3 1 n (List.map vN l2)]) (fun (u, z, l2) => z + 1 - u) (i5 + 1, j7 - 1, swapL 0 l1 i5 j7) ⟨⟨hs1.step (by omega) (by omega) (by omega) (by omega), part_swap (by omega) hp7 (by omega) (hx7.resolve_left (by omega)) (hy7.resolve_left (by omega))⟩, HS⟩ ⟨rfl, rfl, rfl, rfl, rfl, trivial⟩ ?_
      rintro ⟨u, z, l2⟩ w23 ⟨⟨hs2, hp8⟩, H23⟩
      show WC _ _ _ _ _ [(0, v), (1, (vN a)), (2, (vN b)), (10, (vN u)), (11, (vN z))] _
      have hL2 := hs2.len
      have hp8a := hp8.1
      have hp8b := hp8.2.1
      have hp8c := hp8.2.2.1
      refine WC.block ?_
      refine WC.cut (α := Nat) (fun u4 => [(0, v), (1, (vN a)), (2, (vN b)), (10, (vN u4)), (11, (vN z))]) (fun u4 w' => (u ≤ u4 ∧ PartI ltN 0 a b u4 z l2 (l.getD p 0) ∧ (z < u4 ∨ ltN (l2.getD u4 0) (l2.getD a 0) = false)) ∧ Owl.Own T w w' [.row v 3 1 n (List.map vN l2)]) ?_ ?_
      ·
       refine WC.block ?_
       refine WC.loop (α := Nat) (fun u3 => [(0, v), (1, (vN a)), (2, (vN b)), (10, (vN u3)), (11, (vN z))]) (fun u3 w' => (u ≤ u3 ∧ PartI ltN 0 a b u3 z l2 (l.getD p 0)) ∧ Owl.Own T w w' [.row v 3 1 n (List.map vN l2)]) (fun u3 => b - u3) u ⟨⟨Nat.le_refl _, hp8⟩, H23⟩ ⟨rfl, rfl, rfl, rfl, rfl, trivial⟩ ?_
       rintro u3 w24 ⟨⟨hu3, hp9⟩, H24⟩
       show WC _ _ _ _ _ [(0, v), (1, (vN a)), (2, (vN b)), (10, (vN u3)), (11, (vN z))] _
       have hp9a := hp9.1
       have hp9b := hp9.2.1
       have hp9c := hp9.2.2.1
       refine WC.seq ?_
       refine WC.seq ?_
       refine bsplit (fun (hb25 : (decide (u3 ≤ z)) = true) => ?_) (fun (hb25 : (decide (u3 ≤ z)) = false) => ?_)
       ·
        have hc25 := of_decide_eq_true hb25
        refine WC.draw 14 Fa.M H24 (HW.op rfl (fun w1 H1 => op_move rfl ⟨rfl, Fr.refl _ _⟩) (HW.op rfl (fun w1 H1 => op_move rfl ⟨rfl, Fr.refl _ _⟩) (HW.op rfl (fun w1 H1 => op_leqN rfl rfl ⟨rfl, Fr.refl _ _⟩) (HW.op rfl (fun w1 H1 => op_move rfl ⟨rfl, Fr.refl _ _⟩) (HW.yes rfl rfl rfl hb25 (fun w1 H1 => op_move rfl ⟨rfl, Fr.refl _ _⟩) (HW.yes rfl rfl rfl hb25 (fun w1 H1 => op_move rfl ⟨rfl, Fr.refl _ _⟩) (HW.yes rfl rfl rfl hb25 (fun w1 H1 => op_indexAddr1 Try.underlying64 Fa.I3 rfl (H1.arrR (i := 0) rfl) rfl (by omega) ⟨rfl, Fr.refl _ _⟩) (HW.yes rfl rfl rfl hb25 (fun w1 H1 => op_load rfl ((H1.arrR (i := 0) rfl).at (get_map vN 0 (Arr.ltM (H1.arrR (i := 0) rfl) (by omega)))) Try.underlying3 rfl ⟨rfl, Fr.refl _ _⟩) (HW.yes rfl rfl rfl hb25 (fun w1 H1 => op_move rfl ⟨rfl, Fr.refl _ _⟩) (HW.yes rfl rfl rfl hb25 (fun w1 H1 => op_move rfl ⟨rfl, Fr.refl _ _⟩) (HW.yes rfl rfl rfl hb25 (fun w1 H1 => op_indexAddr1 Try.underlying64 Fa.I3 rfl (H1.arrR (i := 0) rfl) rfl (by omega) ⟨rfl, Fr.refl _ _⟩) (HW.yes rfl rfl rfl hb25 (fun w1 H1 => op_load rfl ((H1.arrR (i := 0) rfl).at (get_map vN 0 (Arr.ltM (H1.arrR (i := 0) rfl) (by omega)))) Try.underlying3 rfl ⟨rfl, Fr.refl _ _⟩) (HW.yes rfl rfl rfl hb25 (fun w1 H1 => op_callF Fa.C149 rfl ((less_ok (l2.getD u3 0) (l2.getD a 0) _).mono (fun e w2 hq => ⟨_, hq.1, rfl, hq.2⟩))) (HW.op rfl (fun w1 H1 => op_pickT rfl hb25 rfl ⟨rfl, Fr.refl _ _⟩)  HW.nil)))))))))))))) (by kernel_rfl) ?_
        intro β27 w27 H27
        refine wn ?_
        refine WC.cond rfl (fun (hb28 : (ltN (l2.getD u3 0) (l2.getD a 0)) = true) => ?_) (fun (hb28 : (ltN (l2.getD u3 0) (l2.getD a 0)) = false) => ?_)
        ·
         refine WC.skip ?_
         refine WQ.next ?_
         refine WC.block ?_
         refine WC.region ?_
         refine wo (op_move rfl ?_)
         refine wo (op_addN (b := 1) rfl rfl (by omega) ?_)
         refine wo (op_assign rfl ?_)
         refine WL.nil ?_
         refine WQ.inNormal ?_
         exact WQ.round (u3 + 1) ⟨⟨by omega, part_i hp9 (by omega) hb28⟩, H27⟩ ⟨rfl, rfl, rfl, rfl, rfl, trivial⟩ (by omega)
        ·
         refine WC.exit ?_
         refine WQ.thenExit ?_
         refine WQ.thenExit ?_
         refine WQ.inHere ?_
         exact WQ.here u3 ⟨⟨hu3, hp9, .inr hb28⟩, H27⟩ ⟨rfl, rfl, rfl, rfl, rfl, trivial⟩
       ·
        have hc25 := of_decide_eq_false hb25
        refine WC.draw 14 Fa.M H24 (HW.op rfl (fun w1 H1 => op_move rfl ⟨rfl, Fr.refl _ _⟩) (HW.op rfl (fun w1 H1 => op_move rfl ⟨rfl, Fr.refl _ _⟩) (HW.op rfl (fun w1 H1 => op_leqN rfl rfl ⟨rfl, Fr.refl _ _⟩) (HW.op rfl (fun w1 H1 => op_move rfl ⟨rfl, Fr.refl _ _⟩) (HW.no rfl rfl rfl hb25 (HW.no rfl rfl rfl hb25 (HW.no rfl rfl rfl hb25 (HW.no rfl rfl rfl hb25 (HW.no rfl rfl rfl hb25 (HW.no rfl rfl rfl hb25 (HW.no rfl rfl rfl hb25 (HW.no rfl rfl rfl hb25 (HW.no rfl rfl rfl hb25 (HW.op rfl (fun w1 H1 => op_pickF rfl hb25 rfl ⟨rfl, Fr.refl _ _⟩)  HW.nil)))))))))))))) (by kernel_rfl) ?_
        intro β29 w29 H29
        refine wn ?_
        refine WC.no rfl rfl ?_
        refine WC.exit ?_
        refine WQ.thenExit ?_
        refine WQ.thenExit ?_
        refine WQ.inHere ?_
        exact WQ.here u3 ⟨⟨hu3, hp9, .inl (by omega)⟩, H29⟩ ⟨rfl, rfl, rfl, rfl, rfl, trivial⟩
      ·
       rintro u4 w30 ⟨⟨hu4, hpa, hxa⟩, H30⟩
       show WC _ _ _ _ _ [(0, v), (1, (vN a)), (2, (vN b)), (10, (vN u4)), (11, (vN z))] _
       have hpaa := hpa.1
       have hpab := hpa.2.1
       have hpac := hpa.2.2.1
       refine WC.cut (α := Nat) (fun z4 => [(0, v), (1, (vN a)), (2, (vN b)), (10, (vN u4)), (11, (vN z4))]) (fun z4 w' => (z4 ≤ z ∧ PartI ltN 0 a b u4 z4 l2 (l.getD p 0) ∧ (z4 < u4 ∨ ltN (l2.getD u4 0) (l2.getD a 0) = false) ∧ (z4 < u4 ∨ ltN (l2.getD z4 0) (l2.getD a 0) = true)) ∧ Owl.Own T w w' [.row v 3 1 n (List.map vN l2)]) ?_ ?_
       ·
        refine WC.block ?_
        refine WC.loop (α := Nat) (fun z3 => [(0, v), (1, (vN a)), (2, (vN b)), (10, (vN u4)), (11, (vN z3))]) (fun z3 w' => (z3 ≤ z ∧ PartI ltN 0 a b u4 z3 l2 (l.getD p 0) ∧ (z3 < u4 ∨ ltN (l2.getD u4 0) (l2.getD a 0) = false)) ∧ Owl.Own T w w' [.row v 3 1 n (List.map vN l2)]) (fun z3 => z3) z ⟨⟨Nat.le_refl _, hpa, hxa⟩, H30⟩ ⟨rfl, rfl, rfl, rfl, rfl, trivial⟩ ?_
        rintro z3 w31 ⟨⟨hz3, hpb, hxb⟩, H31⟩
        show WC _ _ _ _ _ [(0, v), (1, (vN a)), (2, (vN b)), (10, (vN u4)), (11, (vN z3))] _
        have hpba := hpb.1
        have hpbb := hpb.2.1
        have hpbc := hpb.2.2.1
        refine WC.seq ?_
        refine WC.seq ?_
        refine bsplit (fun (hb32 : (decide (u4 ≤ z3)) = true) => ?_) (fun (hb32 : (decide (u4 ≤ z3)) = false) => ?_)
        ·
         have hc32 := of_decide_eq_true hb32
         refine WC.draw 15 Fa.M H31 (HW.op rfl (fun w1 H1 => op_move rfl ⟨rfl, Fr.refl _ _⟩) (HW.op rfl (fun w1 H1 => op_move rfl ⟨rfl, Fr.refl _ _⟩) (HW.op rfl (fun w1 H1 => op_leqN rfl rfl ⟨rfl, Fr.refl _ _⟩) (HW.op rfl (fun w1 H1 => op_move rfl ⟨rfl, Fr.refl _ _⟩) (HW.yes rfl rfl rfl hb32 (fun w1 H1 => op_move rfl ⟨rfl, Fr.refl _ _⟩) (HW.yes rfl rfl rfl hb32 (fun w1 H1 => op_move rfl ⟨rfl, Fr.refl _ _⟩) (HW.yes rfl rfl rfl hb32 (fun w1 H1 => op_indexAddr1 Try.underlying64 Fa.I3 rfl (H1.arrR (i := 0) rfl) rfl (by omega) ⟨rfl, Fr.refl _ _⟩) (HW.yes rfl rfl rfl hb32 (fun w1 H1 => op_load rfl ((H1.arrR (i := 0) rfl).at (get_map vN 0 (Arr.ltM (H1.arrR (i := 0) rfl) (by omega)))) Try.underlying3 rfl ⟨rfl, Fr.refl _ _⟩) (HW.yes rfl rfl rfl hb32 (fun w1 H1 => op_move rfl ⟨rfl, Fr.refl _ _⟩) (HW.yes rfl rfl rfl hb32 (fun w1 H1 => op_move rfl ⟨rfl, Fr.refl _ _⟩) (HW.yes rfl rfl rfl hb32 (fun w1 H1 => op_indexAddr1 Try.underlying64 Fa.I3 rfl (H1.arrR (i := 0) rfl) rfl (by omega) ⟨rfl, Fr.refl _ _⟩) (HW.yes rfl rfl rfl hb32 (fun w1 H1 => op_load rfl ((H1.arrR (i := 0) rfl).at (get_map vN 0 (Arr.ltM (H1.arrR (i := 0) rfl) (by omega)))) Try.underlying3 rfl ⟨rfl, Fr.refl _ _⟩) (HW.yes rfl rfl rfl hb32 (fun w1 H1 => op_callF Fa.C149 rfl ((less_ok (l2.getD z3 0) (l2.getD a 0) _).mono (fun e w2 hq => ⟨_, hq.1, rfl, hq.2⟩))) (HW.yes rfl rfl rfl hb32 (fun w1 H1 => op_not rfl ⟨rfl, Fr.refl _ _⟩) (HW.op rfl (fun w1 H1 => op_pickT rfl hb32 rfl ⟨rfl, Fr.refl _ _⟩)  HW.nil))))))))))))))) (by kernel_rfl) ?_
         intro β34 w34 H34
         refine wn ?_
         refine WC.cond rfl (fun (hb35 : (!(ltN (l2.getD z3 0) (l2.getD a 0))) = true) => ?_) (fun (hb35 : (!(ltN (l2.getD z3 0) (l2.getD a 0))) = false) => ?_)
         ·
          have hn35 := (Bool.not_eq_true' _).mp hb35
          refine WC.skip ?_
          refine WQ.next ?_
          refine WC.block ?_
          refine WC.region ?_
          refine wo (op_move rfl ?_)
          refine wo (op_subN (b := 1) rfl rfl (by omega) (by omega) ?_)
          refine wo (op_assign rfl ?_)
          refine WL.nil ?_
          refine WQ.inNormal ?_
          exact WQ.round (z3 - 1) ⟨⟨by omega, part_j hpb (by omega) hn35, hxb.imp (fun h => by omega) id⟩, H34⟩ ⟨rfl, rfl, rfl, rfl, rfl, trivial⟩ (by omega)
         ·
          have hn35 := (Bool.not_eq_false' _).mp hb35
          refine WC.exit ?_
          refine WQ.thenExit ?_
          refine WQ.thenExit ?_
          refine WQ.inHere ?_
          exact WQ.here z3 ⟨⟨hz3, hpb, hxb, .inr hn35⟩, H34⟩ ⟨rfl, rfl, rfl, rfl, rfl, trivial⟩
        ·
         have hc32 := of_decide_eq_false hb32
         refine WC.draw 15 Fa.M H31 (HW.op rfl (fun w1 H1 => op_move rfl ⟨rfl, Fr.refl _ _⟩) (HW.op rfl (fun w1 H1 => op_move rfl ⟨rfl, Fr.refl _ _⟩) (HW.op rfl (fun w1 H1 => op_leqN rfl rfl ⟨rfl, Fr.refl _ _⟩) (HW.op rfl (fun w1 H1 => op_move rfl ⟨rfl, Fr.refl _ _⟩) (HW.no rfl rfl rfl hb32 (HW.no rfl rfl rfl hb32 (HW.no rfl rfl rfl hb32 (HW.no rfl rfl rfl hb32 (HW.no rfl rfl rfl hb32 (HW.no rfl rfl rfl hb32 (HW.no rfl rfl rfl hb32 (HW.no rfl rfl rfl hb32 (HW.no rfl rfl rfl hb32 (HW.no rfl rfl rfl hb32 (HW.op rfl (fun w1 H1 => op_pickF rfl hb32 rfl ⟨rfl, Fr.refl _ _⟩)  HW.nil))))))))))))))) (by kernel_rfl) ?_
         intro β36 w36 H36
         refine wn ?_
         refine WC.no rfl rfl ?_
         refine WC.exit ?_
         refine WQ.thenExit ?_
         refine WQ.thenExit ?_
         refine WQ.inHere ?_
         exact WQ.here z3 ⟨⟨hz3, hpb, hxb, .inl (by omega)⟩, H36⟩ ⟨rfl, rfl, rfl, rfl, rfl, trivial⟩
       ·
        rintro z4 w37 ⟨⟨hz4, hpb4, hxb4, hyb4⟩, H37⟩
        show WC _ _ _ _ _ [(0, v), (1, (vN a)), (2, (vN b)), (10, (vN u4)), (11, (vN z4))] _
        have hpb4a := hpb4.1
        have hpb4b := hpb4.2.1
        have hpb4c := hpb4.2.2.1
        refine WC.seq ?_
        refine ws ?_
        refine wo (op_move rfl ?_)
        refine wo (op_move rfl ?_)
        refine wo (op_gtrN rfl rfl ?_)
        refine wn ?_
        refine WC.cond rfl (fun (hb38 : (decide (u4 > z4)) = true) => ?_) (fun (hb38 : (decide (u4 > z4)) = false) => ?_)
        ·
         have hc38 := of_decide_eq_true hb38
         refine WC.exit ?_
         refine WQ.thenExit ?_
         refine WQ.inPass rfl ?_
         refine WQ.thenExit ?_
         refine WQ.inHere ?_
         refine WQ.next ?_
         refine WC.seq ?_
         refine WC.held 16 rfl Fa.M H37 (fun w' => ∃ L', Owl.Own T w w' ([] ++ L')) ?_
         intro w39 H39
         refine WH.take (i := 0) (v := v) rfl rfl (.inl rfl) rfl (by kernel_rfl) ⟨[.row v 3 1 n (List.map vN l2)], H39⟩ (fun wX hSX => hSX.elim fun LX HX => op_move rfl ⟨rfl, rfl⟩) ?_
         refine WH.take (i := 1) (v := (vN z4)) rfl rfl (.inl rfl) rfl (by kernel_rfl) ⟨[.row v 3 1 n (List.map vN l2)], H39⟩ (fun wX hSX => hSX.elim fun LX HX => op_move rfl ⟨rfl, rfl⟩) ?_
         refine WH.take (i := 2) (v := v) rfl rfl (.inl rfl) rfl (by kernel_rfl) ⟨[.row v 3 1 n (List.map vN l2)], H39⟩ (fun wX hSX => hSX.elim fun LX HX => op_move rfl ⟨rfl, rfl⟩) ?_
         refine WH.take (i := 3) (v := (vN a)) rfl rfl (.inl rfl) rfl (by kernel_rfl) ⟨[.row v 3 1 n (List.map vN l2)], H39⟩ (fun wX hSX => hSX.elim fun LX HX => op_move rfl ⟨rfl, rfl⟩) ?_
         refine WH.take (i := 4) (v := v) rfl rfl (.inl rfl) rfl (by kernel_rfl) ⟨[.row v 3 1 n (List.map vN l2)], H39⟩ (fun wX hSX => hSX.elim fun LX HX => op_move rfl ⟨rfl, rfl⟩) ?_
         refine WH.take (i := 5) (v := (vN a)) rfl rfl (.inl rfl) rfl (by kernel_rfl) ⟨[.row v 3 1 n (List.map vN l2)], H39⟩ (fun wX hSX => hSX.elim fun LX HX => op_move rfl ⟨rfl, rfl⟩) ?_
         refine WH.take (i := 6) (v := (.pointer (some (sp v a)))) rfl rfl (.inl rfl) rfl (by kernel_rfl) ⟨[.row v 3 1 n (List.map vN l2)], H39⟩ (fun wX hSX => hSX.elim fun LX HX => op_indexAddr1W Try.underlying64 Fa.I3 rfl (H39.arrR (i := 0) rfl) rfl (by omega) ⟨rfl, rfl⟩) ?_
         refine WH.take (i := 8) (v := v) rfl rfl (.inl rfl) rfl (by kernel_rfl) ⟨[.row v 3 1 n (List.map vN l2)], H39⟩ (fun wX hSX => hSX.elim fun LX HX => op_move rfl ⟨rfl, rfl⟩) ?_
         refine WH.take (i := 9) (v := (vN z4)) rfl rfl (.inl rfl) rfl (by kernel_rfl) ⟨[.row v 3 1 n (List.map vN l2)], H39⟩ (fun wX hSX => hSX.elim fun LX HX => op_move rfl ⟨rfl, rfl⟩) ?_
         refine WH.take (i := 10) (v := (.pointer (some (sp v z4)))) rfl rfl (.inl rfl) rfl (by kernel_rfl) ⟨[.row v 3 1 n (List.map vN l2)], H39⟩ (fun wX hSX => hSX.elim fun LX HX => op_indexAddr1W Try.underlying64 Fa.I3 rfl (H39.arrR (i := 0) rfl) rfl (by omega) ⟨rfl, rfl⟩) ?_
         refine WH.named (fun W hW => ?_)
         have st21_5 : ∀ (wS : World), Owl.Own T w wS [.row v 3 1 n (List.map vN ((l2.set z4 (l2.getD a 0)).set a (l2.getD z4 0)))] → W 0 #[tt, tt, tt, tt, tt, tt, tt, tt, tt, tt, tt, tt, tt, tt, tt, tt] [(0, v), (1, (vN a)), (2, (vN b)), (10, (vN u4)), (11, (vN z4)), (132, (vN u4)), (133, (vN z4)), (134, (.bool (decide (u4 > z4)))), (153, v), (154, (vN z4)), (155, v), (156, (vN a)), (157, v), (158, (vN a)), (159, (.pointer (some (sp v a)))), (160, (vN (l2.getD a 0))), (161, v), (162, (vN z4)), (163, (.pointer (some (sp v z4)))), (164, (vN (l2.getD z4 0))), (165, (.pointer (some (sp v z4)))), (166, (.pointer (some (sp v a))))] wS := by
          intro wS HS
          rw [hW]
          refine WH.done (by kernel_rfl) ?_
          refine WQ.next ?_
          refine ws ?_
          refine wo (op_move rfl ?_)
          refine wo (op_assign rfl ?_)
          refine wo (op_assign rfl ?_)
          refine wn ?_
          refine WC.ret ?_
          refine WQ.out (.tmp rfl (.tmp rfl .nil)) ?_
          exact ⟨_, _, _, rfl, ⟨hs2.step (by omega) (by omega) (by omega) (by omega), part_done (by omega) hpb4 (by omega)⟩, HS⟩
         have st21_4 : ∀ (wS : World), Owl.Own T w wS [.row v 3 1 n (List.map vN (l2.set z4 (l2.getD a 0)))] → W 1 #[tt, tt, tt, tt, tt, tt, tt, tt, tt, tt, tt, tt, tt, tt, tt, ff] [(0, v), (1, (vN a)), (2, (vN b)), (10, (vN u4)), (11, (vN z4)), (132, (vN u4)), (133, (vN z4)), (134, (.bool (decide (u4 > z4)))), (153, v), (154, (vN z4)), (155, v), (156, (vN a)), (157, v), (158, (vN a)), (159, (.pointer (some (sp v a)))), (160, (vN (l2.getD a 0))), (161, v), (162, (vN z4)), (163, (.pointer (some (sp v z4)))), (164, (vN (l2.getD z4 0))), (165, (.pointer (some (sp v z4)))), (166, (.pointer (some (sp v a))))] wS := by
          intro wS HS
          rw [hW]
          refine WH.all1 (i := 15) (by kernel_rfl) ?_
          ·
           refine WHS.op (i := 15) rfl (.inl rfl) rfl (op_storeRM (i := 0) (f := vN) (l := (l2.set z4 (l2.getD a 0))) (c := (l2.getD z4 0)) HS rfl rfl rfl (by omega) rfl Fa.I3 (fun w50301 H50301 => ?_))
           refine ⟨⟨[.row v 3 1 n (List.map vN ((l2.set z4 (l2.getD a 0)).set a (l2.getD z4 0)))], H50301⟩, ?_⟩
           have hq := st21_5 w50301 H50301
           rw [hW] at hq
           exact WH.cv hq
         have st21_3 : ∀ (wS : World), Owl.Own T w wS [.row v 3 1 n (List.map vN l2)] → W 3 #[tt, tt, tt, tt, tt, tt, tt, tt, tt, tt, tt, tt, tt, ff, ff, ff] [(0, v), (1, (vN a)), (2, (vN b)), (10, (vN u4)), (11, (vN z4)), (132, (vN u4)), (133, (vN z4)), (134, (.bool (decide (u4 > z4)))), (153, v), (154, (vN z4)), (155, v), (156, (vN a)), (157, v), (158, (vN a)), (159, (.pointer (some (sp v a)))), (160, (vN (l2.getD a 0))), (161, v), (162, (vN z4)), (163, (.pointer (some (sp v z4)))), (164, (vN (l2.getD z4 0))), (165, (.pointer (some (sp v z4))))] wS := by
          intro wS HS
          rw [hW]
          refine WH.all1 (i := 13) (by kernel_rfl) ?_
          ·
           refine WHS.op (i := 13) rfl (.inl rfl) rfl (op_storeRM (i := 0) (f := vN) (l := l2) (c := (l2.getD a 0)) HS rfl rfl rfl (by omega) rfl Fa.I3 (fun w50261 H50261 => ?_))
           refine ⟨⟨[.row v 3 1 n (List.map vN (l2.set z4 (l2.getD a 0)))], H50261⟩, ?_⟩
           refine WH.take (i := 14) (v := (.pointer (some (sp v a)))) rfl rfl (.inl rfl) rfl (by kernel_rfl) ⟨[.row v 3 1 n (List.map vN (l2.set z4 (l2.getD a 0)))], H50261⟩ (fun wX hSX => hSX.elim fun LX HX => op_indexAddr1W Try.underlying64 Fa.I3 rfl (H50261.arrR (i := 0) rfl) rfl (by omega) ⟨rfl, rfl⟩) ?_
           have hq := st21_4 w50261 H50261
           rw [hW] at hq
           exact WH.cv hq
         have st21_1 : ∀ (wS : World), Owl.Own T w wS [.row v 3 1 n (List.map vN l2)] → W 5 #[tt, tt, tt, tt, tt, tt, tt, tt, tt, tt, tt, ff, ff, ff, ff, ff] [(0, v), (1, (vN a)), (2, (vN b)), (10, (vN u4)), (11, (vN z4)), (132, (vN u4)), (133, (vN z4)), (134, (.bool (decide (u4 > z4)))), (153, v), (154, (vN z4)), (155, v), (156, (vN a)), (157, v), (158, (vN a)), (159, (.pointer (some (sp v a)))), (160, (vN (l2.getD a 0))), (161, v), (162, (vN z4)), (163, (.pointer (some (sp v z4))))] wS := by
          intro wS HS
          rw [hW]
          refine WH.all1 (i := 11) (by kernel_rfl) ?_
          ·
           refine WHS.op (i := 11) rfl (.inl rfl) rfl (op_load rfl ((HS.arrR (i := 0) rfl).at (get_map vN 0 (Arr.ltM (HS.arrR (i := 0) rfl) (by omega)))) Try.underlying3 rfl ?_)
           refine ⟨⟨[.row v 3 1 n (List.map vN l2)], HS⟩, ?_⟩
           refine WH.take (i := 12) (v := (.pointer (some (sp v z4)))) rfl rfl (.inl rfl) rfl (by kernel_rfl) ⟨[.row v 3 1 n (List.map vN l2)], HS⟩ (fun wX hSX => hSX.elim fun LX HX => op_indexAddr1W Try.underlying64 Fa.I3 rfl (HS.arrR (i := 0) rfl) rfl (by omega) ⟨rfl, rfl⟩) ?_
           have hq := st21_3 wS HS
           rw [hW] at hq
           exact WH.cv hq
         have st21_2 : ∀ (wS : World), Owl.Own T w wS [.row v 3 1 n (List.map vN l2)] → W 5 #[tt, tt, tt, tt, tt, tt, tt, ff, tt, tt, tt, tt, ff, ff, ff, ff] [(0, v), (1, (vN a)), (2, (vN b)), (10, (vN u4)), (11, (vN z4)), (132, (vN u4)), (133, (vN z4)), (134, (.bool (decide (u4 > z4)))), (153, v), (154, (vN z4)), (155, v), (156, (vN a)), (157, v), (158, (vN a)), (159, (.pointer (some (sp v a)))), (161, v), (162, (vN z4)), (163, (.pointer (some (sp v z4)))), (164, (vN (l2.getD z4 0)))] wS := by
          intro wS HS
          rw [hW]
          refine WH.all1 (i := 7) (by kernel_rfl) ?_
          ·
           refine WHS.op (i := 7) rfl (.inl rfl) rfl (op_load rfl ((HS.arrR (i := 0) rfl).at (get_map vN 0 (Arr.ltM (HS.arrR (i := 0) rfl) (by omega)))) Try.underlying3 rfl ?_)
           refine ⟨⟨[.row v 3 1 n (List.map vN l2)], HS⟩, ?_⟩
           refine WH.take (i := 12) (v := (.pointer (some (sp v z4)))) rfl rfl (.inl rfl) rfl (by kernel_rfl) ⟨[.row v 3 1 n (List.map vN l2)], HS⟩ (fun wX hSX => hSX.elim fun LX HX => op_indexAddr1W Try.underlying64 Fa.I3 rfl (HS.arrR (i := 0) rfl) rfl (by omega) ⟨rfl, rfl⟩) ?_
           have hq := st21_3 wS HS
           rw [hW] at hq
           exact WH.cv hq
         have st21_0 : ∀ (wS : World), Owl.Own T w wS [.row v 3 1 n (List.map vN l2)] → W 6 #[tt, tt, tt, tt, tt, tt, tt, ff, tt, tt, tt, ff, ff, ff, ff, ff] [(0, v), (1, (vN a)), (2, (vN b)), (10, (vN u4)), (11, (vN z4)), (132, (vN u4)), (133, (vN z4)), (134, (.bool (decide (u4 > z4)))), (153, v), (154, (vN z4)), (155, v), (156, (vN a)), (157, v), (158, (vN a)), (159, (.pointer (some (sp v a)))), (161, v), (162, (vN z4)), (163, (.pointer (some (sp v z4))))] wS := by
          intro wS HS
          rw [hW]
          refine WH.all2 (i := 7) (j := 11) (by kernel_rfl) ?_ ?_
          ·
           refine WHS.op (i := 7) rfl (.inl rfl) rfl (op_load rfl ((HS.arrR (i := 0) rfl).at (get_map vN 0 (Arr.ltM (HS.arrR (i := 0) rfl) (by omega)))) Try.underlying3 rfl ?_)
           refine ⟨⟨[.row v 3 1 n (List.map vN l2)], HS⟩, ?_⟩
           have hq := st21_1 wS HS
           rw [hW] at hq
           exact WH.cv hq
          ·
           refine WHS.op (i := 11) rfl (.inl rfl) rfl (op_load rfl ((HS.arrR (i := 0) rfl).at (get_map vN 0 (Arr.ltM (HS.arrR (i := 0) rfl) (by omega)))) Try.underlying3 rfl ?_)
           refine ⟨⟨[.row v 3 1 n (List.map vN l2)], HS⟩, ?_⟩
           have hq := st21_2 wS HS
           rw [hW] at hq
           exact WH.cv hq
         have hq := st21_0 w39 H39
         rw [hW] at hq ⊢
         exact WH.cv hq
        ·
         have hc38 := of_decide_eq_false hb38
         refine WC.skip ?_
         refine WQ.next ?_
         refine WC.seq ?_
         refine WC.held 16 rfl Fa.M H37 (fun w' => ∃ L', Owl.Own T w w' ([] ++ L')) ?_
         intro w41 H41
         refine WH.take (i := 0) (v := v) rfl rfl (.inl rfl) rfl (by kernel_rfl) ⟨[.row v 3 1 n (List.map vN l2)], H41⟩ (fun wX hSX => hSX.elim fun LX HX => op_move rfl ⟨rfl, rfl⟩) ?_
         refine WH.take (i := 1) (v := (vN u4)) rfl rfl (.inl rfl) rfl (by kernel_rfl) ⟨[.row v 3 1 n (List.map vN l2)], H41⟩ (fun wX hSX => hSX.elim fun LX HX => op_move rfl ⟨rfl, rfl⟩) ?_
         refine WH.take (i := 2) (v := v) rfl rfl (.inl rfl) rfl (by kernel_rfl) ⟨[.row v 3 1 n (List.map vN l2)], H41⟩ (fun wX hSX => hSX.elim fun LX HX => op_move rfl ⟨rfl, rfl⟩) ?_
         refine WH.take (i := 3) (v := (vN z4)) rfl rfl (.inl rfl) rfl (by kernel_rfl) ⟨[.row v 3 1 n (List.map vN l2)], H41⟩ (fun wX hSX => hSX.elim fun LX HX => op_move rfl ⟨rfl, rfl⟩) ?_
         refine WH.take (i := 4) (v := v) rfl rfl (.inl rfl) rfl (by kernel_rfl) ⟨[.row v 3 1 n (List.map vN l2)], H41⟩ (fun wX hSX => hSX.elim fun LX HX => op_move rfl ⟨rfl, rfl⟩) ?_
         refine WH.take (i := 5) (v := (vN z4)) rfl rfl (.inl rfl) rfl (by kernel_rfl) ⟨[.row v 3 1 n (List.map vN l2)], H41⟩ (fun wX hSX => hSX.elim fun LX HX => op_move rfl ⟨rfl, rfl⟩) ?_
         refine WH.take (i := 6) (v := (.pointer (some (sp v z4)))) rfl rfl (.inl rfl) rfl (by kernel_rfl) ⟨[.row v 3 1 n (List.map vN l2)], H41⟩ (fun wX hSX => hSX.elim fun LX HX => op_indexAddr1W Try.underlying64 Fa.I3 rfl (H41.arrR (i := 0) rfl) rfl (by omega) ⟨rfl, rfl⟩) ?_
         refine WH.take (i := 8) (v := v) rfl rfl (.inl rfl) rfl (by kernel_rfl) ⟨[.row v 3 1 n (List.map vN l2)], H41⟩ (fun wX hSX => hSX.elim fun LX HX => op_move rfl ⟨rfl, rfl⟩) ?_
         refine WH.take (i := 9) (v := (vN u4)) rfl rfl (.inl rfl) rfl (by kernel_rfl) ⟨[.row v 3 1 n (List.map vN l2)], H41⟩ (fun wX hSX => hSX.elim fun LX HX => op_move rfl ⟨rfl, rfl⟩) ?_
         refine WH.take (i := 10) (v := (.pointer (some (sp v u4)))) rfl rfl (.inl rfl) rfl (by kernel_rfl) ⟨[.row v 3 1 n (List.map vN l2)], H41⟩ (fun wX hSX => hSX.elim fun LX HX => op_indexAddr1W Try.underlying64 Fa.I3 rfl (H41.arrR (i := 0) rfl) rfl (by omega) ⟨rfl, rfl⟩) ?_
         refine WH.named (fun W hW => ?_)
         have st18_5 : ∀ (wS : World), Owl.Own T w wS [.row v 3 1 n (List.map vN ((l2.set u4 (l2.getD z4 0)).set z4 (l2.getD u4 0)))] → W 0 #[tt, tt, tt, tt, tt, tt, tt, tt, tt, tt, tt, tt, tt, tt, tt, tt] [(0, v), (1, (vN a)), (2, (vN b)), (10, (vN u4)), (11, (vN z4)), (132, (vN u4)), (133, (vN z4)), (134, (.bool (decide (u4 > z4)))), (135, v), (136, (vN u4)), (137, v), (138, (vN z4)), (139, v), (140, (vN z4)), (141, (.pointer (some (sp v z4)))), (142, (vN (l2.getD z4 0))), (143, v), (144, (vN u4)), (145, (.pointer (some (sp v u4)))), (146, (vN (l2.getD u4 0))), (147, (.pointer (some (sp v u4)))), (148, (.pointer (some (sp v z4))))] wS := by
          intro wS HS
          rw [hW]
          refine WH.done (by kernel_rfl) ?_
          refine WQ.next ?_
          refine ws ?_
          refine wo (op_move rfl ?_)
          refine wo (op_addN (b := 1) rfl rfl (by omega) ?_)
          refine wo (op_assign rfl ?_)
          refine wn ?_
          refine WC.region ?_
          refine wo (op_move rfl ?_)
          refine wo (op_subN (b := 1) rfl rfl (by omega) (by omega) ?_)
          refine wo (op_assign rfl ?_)
          refine WL.nil ?_
          refine WQ.inNormal ?_
          exact WQ.round (u4 + 1, z4 - 1, swapL 0 l2 u4 z4) ⟨⟨hs2.step (by omega) (by omega) (by omega) (by omega), part_swap (by omega) hpb4 (by omega) (hxb4.resolve_left (by omega)) (hyb4.resolve_left (by omega))⟩, HS⟩ ⟨rfl, rfl, rfl, rfl, rfl, trivial⟩ (by show z4 - 1 + 1 - (u4 + 1) < z + 1 - u; omega)
         have st18_4 : ∀ (wS : World), Owl.Own T w wS [.row v 3 1 n (List.map vN (l2.set u4 (l2.getD z4 0)))] → W 1 #[tt, tt, tt, tt, tt, tt, tt, tt, tt, tt, tt, tt, tt, tt, tt, ff] [(0, v), (1, (vN a)), (2, (vN b)), (10, (vN u4)), (11, (vN z4)), (132, (vN u4)), (133, (vN z4)), (134, (.bool (decide (u4 > z4)))), (135, v), (136, (vN u4)), (137, v), (138, (vN z4)), (139, v), (140, (vN z4)), (141, (.pointer (some (sp v z4)))), (142, (vN (l2.getD z4 0))), (143, v), (144, (vN u4)), (145, (.pointer (some (sp v u4)))), (146, (vN (l2.getD u4 0))), (147, (.pointer (some (sp v u4)))), (148, (.pointer (some (sp v z4))))] wS := by
          intro wS HS
          rw [hW]
          refine WH.all1 (i := 15) (by kernel_rfl) ?_
          ·
           refine WHS.op (i := 15) rfl (.inl rfl) rfl (op_storeRM (i := 0) (f := vN) (l := (l2.set u4 (l2.getD z4 0))) (c := (l2.getD u4 0)) HS rfl rfl rfl (by omega) rfl Fa.I3 (fun w52301 H52301 => ?_))
           refine ⟨⟨[.row v 3 1 n (List.map vN ((l2.set u4 (l2.getD z4 0)).set z4 (l2.getD u4 0)))], H52301⟩, ?_⟩
           have hq := st18_5 w52301 H52301
           rw [hW] at hq
           exact WH.cv hq
         have st18_3 : ∀ (wS : World), Owl.Own T w wS [.row v 3 1 n (List.map vN l2)] → W 3 #[tt, tt, tt, tt, tt, tt, tt, tt, tt, tt, tt, tt, tt, ff, ff, ff] [(0, v), (1, (vN a)), (2, (vN b)), (10, (vN u4)), (11, (vN z4)), (132, (vN u4)), (133, (vN z4)), (134, (.bool (decide (u4 > z4)))), (135, v), (136, (vN u4)), (137, v), (138, (vN z4)), (139, v), (140, (vN z4)), (141, (.pointer (some (sp v z4)))), (142, (vN (l2.getD z4 0))), (143, v), (144, (vN u4)), (145, (.pointer (some (sp v u4)))), (146, (vN (l2.getD u4 0))), (147, (.pointer (some (sp v u4))))] wS := by
          intro wS HS
          rw [hW]
          refine WH.all1 (i := 13) (by kernel_rfl) ?_
          ·
           refine WHS.op (i := 13) rfl (.inl rfl) rfl (op_storeRM (i := 0) (f := vN) (l := l2) (c := (l2.getD z4 0)) HS rfl rfl rfl (by omega) rfl Fa.I3 (fun w52261 H52261 => ?_))
           refine ⟨⟨[.row v 3 1 n (List.map vN (l2.set u4 (l2.getD z4 0)))], H52261⟩, ?_⟩
           refine WH.take (i := 14) (v := (.pointer (some (sp v z4)))) rfl rfl (.inl rfl) rfl (by kernel_rfl) ⟨[.row v 3 1 n (List.map vN (l2.set u4 (l2.getD z4 0)))], H52261⟩ (fun wX hSX => hSX.elim fun LX HX => op_indexAddr1W Try.underlying64 Fa.I3 rfl (H52261.arrR (i := 0) rfl) rfl (by omega) ⟨rfl, rfl⟩) ?_
           have hq := st18_4 w52261 H52261
           rw [hW] at hq
           exact WH.cv hq
         have st18_1 : ∀ (wS : World), Owl.Own T w wS [.row v 3 1 n (List.map vN l2)] → W 5 #[tt, tt, tt, tt, tt, tt, tt, tt, tt, tt, tt, ff, ff, ff, ff, ff] [(0, v), (1, (vN a)), (2, (vN b)), (10, (vN u4)), (11, (vN z4)), (132, (vN u4)), (133, (vN z4)), (134, (.bool (decide (u4 > z4)))), (135, v), (136, (vN u4)), (137, v), (138, (vN z4)), (139, v), (140, (vN z4)), (141, (.pointer (some (sp v z4)))), (142, (vN (l2.getD z4 0))), (143, v), (144, (vN u4)), (145, (.pointer (some (sp v u4))))] wS := by
          intro wS HS
          rw [hW]
          refine WH.all1 (i := 11) (by kernel_rfl) ?_
          ·
           refine WHS.op (i := 11) rfl (.inl rfl) rfl (op_load rfl ((HS.arrR (i := 0) rfl).at (get_map vN 0 (Arr.ltM (HS.arrR (i := 0) rfl) (by omega)))) Try.underlying3 rfl ?_)
           refine ⟨⟨[.row v 3 1 n (List.map vN l2)], HS⟩, ?_⟩
           refine WH.take (i := 12) (v := (.pointer (some (sp v u4)))) rfl rfl (.inl rfl) rfl (by kernel_rfl) ⟨[.row v 3 1 n (List.map vN l2)], HS⟩ (fun wX hSX => hSX.elim fun LX HX => op_indexAddr1W Try.underlying64 Fa.I3 rfl (HS.arrR (i := 0) rfl) rfl (by omega) ⟨rfl, rfl⟩) ?_
           have hq := st18_3 wS HS
           rw [hW] at hq
           exact WH.cv hq
         have st18_2 : ∀ (wS : World), Owl.Own T w wS [.row v 3 1 n (List.map vN l2)] → W 5 #[tt, tt, tt, tt, tt, tt, tt, ff, tt, tt, tt, tt, ff, ff, ff, ff] [(0, v), (1, (vN a)), (2, (vN b)), (10, (vN u4)), (11, (vN z4)), (132, (vN u4)), (133, (vN z4)), (134, (.bool (decide (u4 > z4)))), (135, v), (136, (vN u4)), (137, v), (138, (vN z4)), (139, v), (140, (vN z4)), (141, (.pointer (some (sp v z4)))), (143, v), (144, (vN u4)), (145, (.pointer (some (sp v u4)))), (146, (vN (l2.getD u4 0)))] wS := by
          intro wS HS
          rw [hW]
          refine WH.all1 (i := 7) (by kernel_rfl) ?_
          ·
           refine WHS.op (i := 7) rfl (.inl rfl) rfl (op_load rfl ((HS.arrR (i := 0) rfl).at (get_map vN 0 (Arr.ltM (HS.arrR (i := 0) rfl) (by omega)))) Try.underlying3 rfl ?_)
           refine ⟨⟨[.row v 3 1 n (List.map vN l2)], HS⟩, ?_⟩
           refine WH.take (i := 12) (v := (.pointer (some (sp v u4)))) rfl rfl (.inl rfl) rfl (by kernel_rfl) ⟨[.row v 3 1 n (List.map vN l2)], HS⟩ (fun wX hSX => hSX.elim fun LX HX => op_indexAddr1W Try.underlying64 Fa.I3 rfl (HS.arrR (i := 0) rfl) rfl (by omega) ⟨rfl, rfl⟩) ?_
           have hq := st18_3 wS HS
           rw [hW] at hq
           exact WH.cv hq
         have st18_0 : ∀ (wS : World), Owl.Own T w wS [.row v 3 1 n (List.map vN l2)] → W 6 #[tt, tt, tt, tt, tt, tt, tt, ff, tt, tt, tt, ff, ff, ff, ff, ff] [(0, v), (1, (vN a)), (2, (vN b)), (10, (vN u4)), (11, (vN z4)), (132, (vN u4)), (133, (vN z4)), (134, (.bool (decide (u4 > z4)))), (135, v), (136, (vN u4)), (137, v), (138, (vN z4)), (139, v), (140, (vN z4)), (141, (.pointer (some (sp v z4)))), (143, v), (144, (vN u4)), (145, (.pointer (some (sp v u4))))] wS := by
          intro wS HS
          rw [hW]
          refine WH.all2 (i := 7) (j := 11) (by kernel_rfl) ?_ ?_
          ·
           refine WHS.op (i := 7) rfl (.inl rfl) rfl (op_load rfl ((HS.arrR (i := 0) rfl).at (get_map vN 0 (Arr.ltM (HS.arrR (i := 0) rfl) (by omega)))) Try.underlying3 rfl ?_)
           refine ⟨⟨[.row v 3 1 n (List.map vN l2)], HS⟩, ?_⟩
           have hq := st18_1 wS HS
           rw [hW] at hq
           exact WH.cv hq
          ·
           refine WHS.op (i := 11) rfl (.inl rfl) rfl (op_load rfl ((HS.arrR (i := 0) rfl).at (get_map vN 0 (Arr.ltM (HS.arrR (i := 0) rfl) (by omega)))) Try.underlying3 rfl ?_)
           refine ⟨⟨[.row v 3 1 n (List.map vN l2)], HS⟩, ?_⟩
           have hq := st18_2 wS HS
           rw [hW] at hq
           exact WH.cv hq
         have hq := st18_0 w41 H41
         rw [hW] at hq ⊢
         exact WH.cv hq
     have st10_4 : ∀ (wS : World), Owl.Own T w wS [.row v 3 1 n (List.map vN (l1.set i5 (l1.getD j7 0)))] → W 1 #[tt, tt, tt, tt, tt, tt, tt, tt, tt, tt, tt, tt, tt, tt, tt, ff] [(0, v), (1, (vN a)), (2, (vN b)), (10, (vN i5)), (11, (vN j7)), (63, (vN i5)), (64, (vN j7)), (65, (.bool (decide (i5 > j7)))), (81, v), (82, (vN i5)), (83, v), (84, (vN j7)), (85, v), (86, (vN j7)), (87, (.pointer (some (sp v j7)))), (88, (vN (l1.getD j7 0))), (89, v), (90, (vN i5)), (91, (.pointer (some (sp v i5)))), (92, (vN (l1.getD i5 0))), (93, (.pointer (some (sp v i5)))), (94, (.pointer (some (sp v j7))))] wS := by
      intro wS HS
      rw [hW]
      refine WH.all1 (i := 15) (by kernel_rfl) ?_
      ·
       refine WHS.op (i := 15) rfl (.inl rfl) rfl (op_storeRM (i := 0) (f := vN) (l := (l1.set i5 (l1.getD j7 0))) (c := (l1.getD i5 0)) HS rfl rfl rfl (by omega) rfl Fa.I3 (fun w32301 H32301 => ?_))
       refine ⟨⟨[.row v 3 1 n (List.map vN ((l1.set i5 (l1.getD j7 0)).set j7 (l1.getD i5 0)))], H32301⟩, ?_⟩
       have hq := st10_5 w32301 H32301
       rw [hW] at hq
       exact WH.cv hq
     have st10_3 : ∀ (wS : World), Owl.Own T w wS [.row v 3 1 n (List.map vN l1)] → W 3 #[tt, tt, tt, tt, tt, tt, tt, tt, tt, tt, tt, tt, tt, ff, ff, ff] [(0, v), (1, (vN a)), (2, (vN b)), (10, (vN i5)), (11, (vN j7)), (63, (vN i5)), (64, (vN j7)), (65, (.bool (decide (i5 > j7)))), (81, v), (82, (vN i5)), (83, v), (84, (vN j7)), (85, v), (86, (vN j7)), (87, (.pointer (some (sp v j7)))), (88, (vN (l1.getD j7 0))), (89, v), (90, (vN i5)), (91, (.pointer (some (sp v i5)))), (92, (vN (l1.getD i5 0))), (93, (.pointer (some (sp v i5))))] wS := by
      intro wS HS
      rw [hW]
      refine WH.all1 (i := 13) (by kernel_rfl) ?_
      ·
       refine WHS.op (i := 13) rfl (.inl rfl) rfl (op_storeRM (i := 0) (f := vN) (l := l1) (c := (l1.getD j7 0)) HS rfl rfl rfl (by omega) rfl Fa.I3 (fun w32261 H32261 => ?_))
       refine ⟨⟨[.row v 3 1 n (List.map vN (l1.set i5 (l1.getD j7 0)))], H32261⟩, ?_⟩
       refine WH.take (i := 14) (v := (.pointer (some (sp v j7)))) rfl rfl (.inl rfl) rfl (by kernel_rfl) ⟨[.row v 3 1 n (List.map vN (l1.set i5 (l1.getD j7 0)))], H32261⟩ (fun wX hSX => hSX.elim fun LX HX => op_indexAddr1W Try.underlying64 Fa.I3 rfl (H32261.arrR (i := 0) rfl) rfl (by omega) ⟨rfl, rfl⟩) ?_
       have hq := st10_4 w32261 H32261
       rw [hW] at hq
       exact WH.cv hq
     have st10_1 : ∀ (wS : World), Owl.Own T w wS [.row v 3 1 n (List.map vN l1)] → W 5 #[tt, tt, tt, tt, tt, tt, tt, tt, tt, tt, tt, ff, ff, ff, ff, ff] [(0, v), (1, (vN a)), (2, (vN b)), (10, (vN i5)), (11, (vN j7)), (63, (vN i5)), (64, (vN j7)), (65, (.bool (decide (i5 > j7)))), (81, v), (82, (vN i5)), (83, v), (84, (vN j7)), (85, v), (86, (vN j7)), (87, (.pointer (some (sp v j7)))), (88, (vN (l1.getD j7 0))), (89, v), (90, (vN i5)), (91, (.pointer (some (sp v i5))))] wS := by
      intro wS HS
      rw [hW]
      refine WH.all1 (i := 11) (by kernel_rfl) ?_
      ·
       refine WHS.op (i := 11) rfl (.inl rfl) rfl (op_load rfl ((HS.arrR (i := 0) rfl).at (get_map vN 0 (Arr.ltM (HS.arrR (i := 0) rfl) (by omega)))) Try.underlying3 rfl ?_)
       refine ⟨⟨[.row v 3 1 n (List.map vN l1)], HS⟩, ?_⟩
       refine WH.take (i := 12) (v := (.pointer (some (sp v i5)))) rfl rfl (.inl rfl) rfl (by kernel_rfl) ⟨[.row v 3 1 n (List.map vN l1)], HS⟩ (fun wX hSX => hSX.elim fun LX HX => op_indexAddr1W Try.underlying64 Fa.I3 rfl (HS.arrR (i := 0) rfl) rfl (by omega) ⟨rfl, rfl⟩) ?_
       have hq := st10_3 wS HS
       rw [hW] at hq
       exact WH.cv hq
     have st10_2 : ∀ (wS : World), Owl.Own T w wS [.row v 3 1 n (List.map vN l1)] → W 5 #[tt, tt, tt, tt, tt, tt, tt, ff, tt, tt, tt, tt, ff, ff, ff, ff] [(0, v), (1, (vN a)), (2, (vN b)), (10, (vN i5)), (11, (vN j7)), (63, (vN i5)), (64, (vN j7)), (65, (.bool (decide (i5 > j7)))), (81, v), (82, (vN i5)), (83, v), (84, (vN j7)), (85, v), (86, (vN j7)), (87, (.pointer (some (sp v j7)))), (89, v), (90, (vN i5)), (91, (.pointer (some (sp v i5)))), (92, (vN (l1.getD i5 0)))] wS := by
      intro wS HS
      rw [hW]
      refine WH.all1 (i := 7) (by kernel_rfl) ?_
      ·
       refine WHS.op (i := 7) rfl (.inl rfl) rfl (op_load rfl ((HS.arrR (i := 0) rfl).at (get_map vN 0 (Arr.ltM (HS.arrR (i := 0) rfl) (by omega)))) Try.underlying3 rfl ?_)
       refine ⟨⟨[.row v 3 1 n (List.map vN l1)], HS⟩, ?_⟩
       refine WH.take (i := 12) (v := (.pointer (some (sp v i5)))) rfl rfl (.inl rfl) rfl (by kernel_rfl) ⟨[.row v 3 1 n (List.map vN l1)], HS⟩ (fun wX hSX => hSX.elim fun LX HX => op_indexAddr1W Try.underlying64 Fa.I3 rfl (HS.arrR (i := 0) rfl) rfl (by omega) ⟨rfl, rfl⟩) ?_
       have hq := st10_3 wS HS
       rw [hW] at hq
       exact WH.cv hq
     have st10_0 : ∀ (wS : World), Owl.Own T w wS [.row v 3 1 n (List.map vN l1)] → W 6 #[tt, tt, tt, tt, tt, tt, tt, ff, tt, tt, tt, ff, ff, ff, ff, ff] [(0, v), (1, (vN a)), (2, (vN b)), (10, (vN i5)), (11, (vN j7)), (63, (vN i5)), (64, (vN j7)), (65, (.bool (decide (i5 > j7)))), (81, v), (82, (vN i5)), (83, v), (84, (vN j7)), (85, v), (86, (vN j7)), (87, (.pointer (some (sp v j7)))), (89, v), (90, (vN i5)), (91, (.pointer (some (sp v i5))))] wS := by
      intro wS HS
      rw [hW]
      refine WH.all2 (i := 7) (j := 11) (by kernel_rfl) ?_ ?_
      ·
       refine WHS.op (i := 7) rfl (.inl rfl) rfl (op_load rfl ((HS.arrR (i := 0) rfl).at (get_map vN 0 (Arr.ltM (HS.arrR (i := 0) rfl) (by omega)))) Try.underlying3 rfl ?_)
       refine ⟨⟨[.row v 3 1 n (List.map vN l1)], HS⟩, ?_⟩
       have hq := st10_1 wS HS
       rw [hW] at hq
       exact WH.cv hq
      ·
       refine WHS.op (i := 11) rfl (.inl rfl) rfl (op_load rfl ((HS.arrR (i := 0) rfl).at (get_map vN 0 (Arr.ltM (HS.arrR (i := 0) rfl) (by omega)))) Try.underlying3 rfl ?_)
       refine ⟨⟨[.row v 3 1 n (List.map vN l1)], HS⟩, ?_⟩
       have hq := st10_2 wS HS
       rw [hW] at hq
       exact WH.cv hq
     have hq := st10_0 w21 H21
     rw [hW] at hq ⊢
     exact WH.cv hq
set_option maxHeartbeats 4000000 in
set_option maxRecDepth 100000 in
theorem parteq_ok (v : Value) (n : Nat) (l : List Nat) (a b : Nat) (p : Nat) (T : List Nat) (w : World) (H : Owl.Own T w w [.row v 3 1 n (List.map vN l)]) (hn : l.length = n) (hN : n < 2 ^ 61) (hap : a ≤ p) (hpb : p < b) (hb : b ≤ n) :
  Calls Try.prog 150 #[v, (vN a), (vN b), (vN p)] w (fun e w' => ∃ (l' : List Nat) (m : Nat), e = .returned (vN m) ∧ (Sw 0 a b l l' ∧ EqP ltN 0 a b m l' (l.getD p 0)) ∧ Owl.Own T w w' [.row v 3 1 n (List.map vN l')]) := by
 refine enter (args := [v, (vN a), (vN b), (vN p)]) Try.func150 rfl rfl ?_
 refine ws ?_
 refine wo (op_assign rfl ?_)
 refine wn ?_
 refine WC.cut (α := List Nat) (fun l1 => [(0, v), (1, (vN a)), (2, (vN b))]) (fun l1 w' => (Sw 0 a b l l1 ∧ l1.getD a 0 = (l.getD p 0)) ∧ Owl.Own T w w' [.row v 3 1 n (List.map vN l1)]) ?_ ?_
 ·
  refine WC.held 16 rfl Fa.M H (fun w' => ∃ L', Owl.Own T w w' ([] ++ L')) ?_
  intro w1 H1
  refine WH.take (i := 0) (v := v) rfl rfl (.inl rfl) rfl (by kernel_rfl) ⟨[.row v 3 1 n (List.map vN l)], H1⟩ (fun wX hSX => hSX.elim fun LX HX => op_move rfl ⟨rfl, rfl⟩) ?_
  refine WH.take (i := 1) (v := (vN a)) rfl rfl (.inl rfl) rfl (by kernel_rfl) ⟨[.row v 3 1 n (List.map vN l)], H1⟩ (fun wX hSX => hSX.elim fun LX HX => op_move rfl ⟨rfl, rfl⟩) ?_
  refine WH.take (i := 2) (v := v) rfl rfl (.inl rfl) rfl (by kernel_rfl) ⟨[.row v 3 1 n (List.map vN l)], H1⟩ (fun wX hSX => hSX.elim fun LX HX => op_move rfl ⟨rfl, rfl⟩) ?_
  refine WH.take (i := 3) (v := (vN p)) rfl rfl (.inl rfl) rfl (by kernel_rfl) ⟨[.row v 3 1 n (List.map vN l)], H1⟩ (fun wX hSX => hSX.elim fun LX HX => op_move rfl ⟨rfl, rfl⟩) ?_
  refine WH.take (i := 4) (v := v) rfl rfl (.inl rfl) rfl (by kernel_rfl) ⟨[.row v 3 1 n (List.map vN l)], H1⟩ (fun wX hSX => hSX.elim fun LX HX => op_move rfl ⟨rfl, rfl⟩) ?_
  refine WH.take (i := 5) (v := (vN p)) rfl rfl (.inl rfl) rfl (by kernel_rfl) ⟨[.row v 3 1 n (List.map vN l)], H1⟩ (fun wX hSX => hSX.elim fun LX HX => op_move rfl ⟨rfl, rfl⟩) ?_
  refine WH.take (i := 6) (v := (.pointer (some (sp v p)))) rfl rfl (.inl rfl) rfl (by kernel_rfl) ⟨[.row v 3 1 n (List.map vN l)], H1⟩ (fun wX hSX => hSX.elim fun LX HX => op_indexAddr1W Try.underlying64 Fa.I3 rfl (H1.arrR (i := 0) rfl) rfl (by omega) ⟨rfl, rfl⟩) ?_
  refine WH.take (i := 8) (v := v) rfl rfl (.inl rfl) rfl (by kernel_rfl) ⟨[.row v 3 1 n (List.map vN l)], H1⟩ (fun wX hSX => hSX.elim fun LX HX => op_move rfl ⟨rfl, rfl⟩) ?_
  refine WH.take (i := 9) (v := (vN a)) rfl rfl (.inl rfl) rfl (by kernel_rfl) ⟨[.row v 3 1 n (List.map vN l)], H1⟩ (fun wX hSX => hSX.elim fun LX HX => op_move rfl ⟨rfl, rfl⟩) ?_
  refine WH.take (i := 10) (v := (.pointer (some (sp v a)))) rfl rfl (.inl rfl) rfl (by kernel_rfl) ⟨[.row v 3 1 n (List.map vN l)], H1⟩ (fun wX hSX => hSX.elim fun LX HX => op_indexAddr1W Try.underlying64 Fa.I3 rfl (H1.arrR (i := 0) rfl) rfl (by omega) ⟨rfl, rfl⟩) ?_
  refine WH.named (fun W hW => ?_)
  have st1_5 : ∀ (wS : World), Owl.Own T w wS [.row v 3 1 n (List.map vN ((l.set a (l.getD p 0)).set p (l.getD a 0)))] → W 0 #[tt, tt, tt, tt, tt, tt, tt, tt, tt, tt, tt, tt, tt, tt, tt, tt] [(0, v), (1, (vN a)), (2, (vN b)), (3, (vN p)), (8, (vN 0)), (11, v), (12, (vN a)), (13, v), (14, (vN p)), (15, v), (16, (vN p)), (17, (.pointer (some (sp v p)))), (18, (vN (l.getD p 0))), (19, v), (20, (vN a)), (21, (.pointer (some (sp v a)))), (22, (vN (l.getD a 0))), (23, (.pointer (some (sp v a)))), (24, (.pointer (some (sp v p))))] wS := by
   intro wS HS
   rw [hW]
   refine WH.done (by kernel_rfl) ?_
   exact WQ.here (swapL 0 l a p) ⟨⟨Sw.one (by omega) (by omega) (by omega) (by omega), swap_fst (by omega) (by omega)⟩, HS⟩ ⟨rfl, rfl, rfl, trivial⟩
  have st1_4 : ∀ (wS : World), Owl.Own T w wS [.row v 3 1 n (List.map vN (l.set a (l.getD p 0)))] → W 1 #[tt, tt, tt, tt, tt, tt, tt, tt, tt, tt, tt, tt, tt, tt, tt, ff] [(0, v), (1, (vN a)), (2, (vN b)), (3, (vN p)), (8, (vN 0)), (11, v), (12, (vN a)), (13, v), (14, (vN p)), (15, v), (16, (vN p)), (17, (.pointer (some (sp v p)))), (18, (vN (l.getD p 0))), (19, v), (20, (vN a)), (21, (.pointer (some (sp v a)))), (22, (vN (l.getD a 0))), (23, (.pointer (some (sp v a)))), (24, (.pointer (some (sp v p))))] wS := by
   intro wS HS
   rw [hW]
   refine WH.all1 (i := 15) (by kernel_rfl) ?_
   ·
    refine WHS.op (i := 15) rfl (.inl rfl) rfl (op_storeRM (i := 0) (f := vN) (l := (l.set a (l.getD p 0))) (c := (l.getD a 0)) HS rfl rfl rfl (by omega) rfl Fa.I3 (fun w12301 H12301 => ?_))
    refine ⟨⟨[.row v 3 1 n (List.map vN ((l.set a (l.getD p 0)).set p (l.getD a 0)))], H12301⟩, ?_⟩
    have hq := st1_5 w12301 H12301
    rw [hW] at hq
    exact WH.cv hq
  have st1_3 : ∀ (wS : World), Owl.Own T w wS [.row v 3 1 n (List.map vN l)] → W 3 #[tt, tt, tt, tt, tt, tt, tt, tt, tt, tt, tt, tt, tt, ff, ff, ff] [(0, v), (1, (vN a)), (2, (vN b)), (3, (vN p)), (8, (vN 0)), (11, v), (12, (vN a)), (13, v), (14, (vN p)), (15, v), (16, (vN p)), (17, (.pointer (some (sp v p)))), (18, (vN (l.getD p 0))), (19, v), (20, (vN a)), (21, (.pointer (some (sp v a)))), (22, (vN (l.getD a 0))), (23, (.pointer (some (sp v a))))] wS := by
   intro wS HS
   rw [hW]
   refine WH.all1 (i := 13) (by kernel_rfl) ?_
   ·
    refine WHS.op (i := 13) rfl (.inl rfl) rfl (op_storeRM (i := 0) (f := vN) (l := l) (c := (l.getD p 0)) HS rfl rfl rfl (by omega) rfl Fa.I3 (fun w12261 H12261 => ?_))
    refine ⟨⟨[.row v 3 1 n (List.map vN (l.set a (l.getD p 0)))], H12261⟩, ?_⟩
    refine WH.take (i := 14) (v := (.pointer (some (sp v p)))) rfl rfl (.inl rfl) rfl (by kernel_rfl) ⟨[.row v 3 1 n (List.map vN (l.set a (l.getD p 0)))], H12261⟩ (fun wX hSX => hSX.elim fun LX HX => op_indexAddr1W Try.underlying64 Fa.I3 rfl (H12261.arrR (i := 0) rfl) rfl (by omega) ⟨rfl, rfl⟩) ?_
    have hq := st1_4 w12261 H12261
    rw [hW] at hq
    exact WH.cv hq
  have st1_1 : ∀ (wS : World), Owl.Own T w wS [.row v 3 1 n (List.map vN l)] → W 5 #[tt, tt, tt, tt, tt, tt, tt, tt, tt, tt, tt, ff, ff, ff, ff, ff] [(0, v), (1, (vN a)), (2, (vN b)), (3, (vN p)), (8, (vN 0)), (11, v), (12, (vN a)), (13, v), (14, (vN p)), (15, v), (16, (vN p)), (17, (.pointer (some (sp v p)))), (18, (vN (l.getD p 0))), (19, v), (20, (vN a)), (21, (.pointer (some (sp v a))))] wS := by
   intro wS HS
   rw [hW]
   refine WH.all1 (i := 11) (by kernel_rfl) ?_
   ·
    refine WHS.op (i := 11) rfl (.inl rfl) rfl (op_load rfl ((HS.arrR (i := 0) rfl).at (get_map vN 0 (Arr.ltM (HS.arrR (i := 0) rfl) (by omega)))) Try.underlying3 rfl ?_)
    refine ⟨⟨[.row v 3 1 n (List.map vN l)], HS⟩, ?_⟩
    refine WH.take (i := 12) (v := (.pointer (some (sp v a)))) rfl rfl (.inl rfl) rfl (by kernel_rfl) ⟨[.row v 3 1 n (List.map vN l)], HS⟩ (fun wX hSX => hSX.elim fun LX HX => op_indexAddr1W Try.underlying64 Fa.I3 rfl (HS.arrR (i := 0) rfl) rfl (by omega) ⟨rfl, rfl⟩) ?_
    have hq := st1_3 wS HS
    rw [hW] at hq
    exact WH.cv hq
  have st1_2 : ∀ (wS : World), Owl.Own T w wS [.row v 3 1 n (List.map vN l)] → W 5 #[tt, tt, tt, tt, tt, tt, tt, ff, tt, tt, tt, tt, ff, ff, ff, ff] [(0, v), (1, (vN a)), (2, (vN b)), (3, (vN p)), (8, (vN 0)), (11, v), (12, (vN a)), (13, v), (14, (vN p)), (15, v), (16, (vN p)), (17, (.pointer (some (sp v p)))), (19, v), (20, (vN a)), (21, (.pointer (some (sp v a)))), (22, (vN (l.getD a 0)))] wS := by
   intro wS HS
   rw [hW]
   refine WH.all1 (i := 7) (by kernel_rfl) ?_
   ·
    refine WHS.op (i := 7) rfl (.inl rfl) rfl (op_load rfl ((HS.arrR (i := 0) rfl).at (get_map vN 0 (Arr.ltM (HS.arrR (i := 0) rfl) (by omega)))) Try.underlying3 rfl ?_)
    refine ⟨⟨[.row v 3 1 n (List.map vN l)], HS⟩, ?_⟩
    refine WH.take (i := 12) (v := (.pointer (some (sp v a)))) rfl rfl (.inl rfl) rfl (by kernel_rfl) ⟨[.row v 3 1 n (List.map vN l)], HS⟩ (fun wX hSX => hSX.elim fun LX HX => op_indexAddr1W Try.underlying64 Fa.I3 rfl (HS.arrR (i := 0) rfl) rfl (by omega) ⟨rfl, rfl⟩) ?_
    have hq := st1_3 wS HS
    rw [hW] at hq
    exact WH.cv hq
  have st1_0 : ∀ (wS : World), Owl.Own T w wS [.row v 3 1 n (List.map vN l)] → W 6 #[tt, tt, tt, tt, tt, tt, tt, ff, tt, tt, tt, ff, ff, ff, ff, ff] [(0, v), (1, (vN a)), (2, (vN b)), (3, (vN p)), (8, (vN 0)), (11, v), (12, (vN a)), (13, v), (14, (vN p)), (15, v), (16, (vN p)), (17, (.pointer (some (sp v p)))), (19, v), (20, (vN a)), (21, (.pointer (some (sp v a))))] wS := by
   intro wS HS
   rw [hW]
   refine WH.all2 (i := 7) (j := 11) (by kernel_rfl) ?_ ?_
   ·
    refine WHS.op (i := 7) rfl (.inl rfl) rfl (op_load rfl ((HS.arrR (i := 0) rfl).at (get_map vN 0 (Arr.ltM (HS.arrR (i := 0) rfl) (by omega)))) Try.underlying3 rfl ?_)
    refine ⟨⟨[.row v 3 1 n (List.map vN l)], HS⟩, ?_⟩
    have hq := st1_1 wS HS
    rw [hW] at hq
    exact WH.cv hq
   ·
    refine WHS.op (i := 11) rfl (.inl rfl) rfl (op_load rfl ((HS.arrR (i := 0) rfl).at (get_map vN 0 (Arr.ltM (HS.arrR (i := 0) rfl) (by omega)))) Try.underlying3 rfl ?_)
    refine ⟨⟨[.row v 3 1 n (List.map vN l)], HS⟩, ?_⟩
    have hq := st1_2 wS HS
    rw [hW] at hq
    exact WH.cv hq
  have hq := st1_0 w1 H1
  rw [hW] at hq ⊢
  exact WH.cv hq
 ·
  rintro l1 w3 ⟨⟨hs1, hv1⟩, H3⟩
  show WC _ _ _ _ _ [(0, v), (1, (vN a)), (2, (vN b))] _
  have hL1 := hs1.len
  refine ws ?_
  refine wo (op_move rfl ?_)
  refine wo (op_addN (b := 1) rfl rfl (by omega) ?_)
  refine wo (op_move rfl ?_)
  refine wo (op_subN (b := 1) rfl rfl (by omega) (by omega) ?_)
  refine wo (op_assign rfl ?_)
  refine wo (op_assign rfl ?_)
  refine wn ?_
  refine WC.seq ?_
  refine WC.block ?_
  refine WC.loop (α := Nat × Nat × List Nat) (fun (u, z, l2) => [(0, v), (1, (vN a)), (2, (vN b)), (9, (vN u)), (10, (vN z))]) (fun (u, z, l2) w' => (Sw 0 a b l l2 ∧ EqI ltN 0 a b u z l2 (l.getD p 0)) ∧ Owl.Own T w w' [.row v 3 1 n (List.map vN l2)]) (fun (u, z, l2) => z + 1 - u) (a + 1, b - 1, l1) ⟨⟨hs1, eq_init (by omega) hv1⟩, H3⟩ ⟨rfl, rfl, rfl, rfl, rfl, trivial⟩ ?_
  rintro ⟨u, z, l2⟩ w4 ⟨⟨hs2, hp8⟩, H4⟩
  show WC _ _ _ _ _ [(0, v), (1, (vN a)), (2, (vN b)), (9, (vN u)), (10, (vN z))] _
  have hL2 := hs2.len
  have hp8a := hp8.1
  have hp8b := hp8.2.1
  have hp8c := hp8.2.2.1
  refine WC.block ?_
  refine WC.cut (α := Nat) (fun u4 => [(0, v), (1, (vN a)), (2, (vN b)), (9, (vN u4)), (10, (vN z))]) (fun u4 w' => (u ≤ u4 ∧ EqI ltN 0 a b u4 z l2 (l.getD p 0) ∧ (z < u4 ∨ ltN (l2.getD a 0) (l2.getD u4 0) = true)) ∧ Owl.Own T w w' [.row v 3 1 n (List.map vN l2)]) ?_ ?_
  ·
   refine WC.block ?_
   refine WC.loop (α := Nat) (fun u3 => [(0, v), (1, (vN a)), (2, (vN b)), (9, (vN u3)), (10, (vN z))]) (fun u3 w' => (u ≤ u3 ∧ EqI ltN 0 a b u3 z l2 (l.getD p 0)) ∧ Owl.Own T w w' [.row v 3 1 n (List.map vN l2)]) (fun u3 => b - u3) u ⟨⟨Nat.le_refl _, hp8⟩, H4⟩ ⟨rfl, rfl, rfl, rfl, rfl, trivial⟩ ?_
   rintro u3 w5 ⟨⟨hu3, hp9⟩, H5⟩
   show WC _ _ _ _ _ [(0, v), (1, (vN a)), (2, (vN b)), (9, (vN u3)), (10, (vN z))] _
   have hp9a := hp9.1
   have hp9b := hp9.2.1
   have hp9c := hp9.2.2.1
   refine WC.seq ?_
   refine WC.seq ?_
   refine bsplit (fun (hb6 : (decide (u3 ≤ z)) = true) => ?_) (fun (hb6 : (decide (u3 ≤ z)) = false) => ?_)
   ·
    have hc6 := of_decide_eq_true hb6
    refine WC.draw 15 Fa.M H5 (HW.op rfl (fun w1 H1 => op_move rfl ⟨rfl, Fr.refl _ _⟩) (HW.op rfl (fun w1 H1 => op_move rfl ⟨rfl, Fr.refl _ _⟩) (HW.op rfl (fun w1 H1 => op_leqN rfl rfl ⟨rfl, Fr.refl _ _⟩) (HW.op rfl (fun w1 H1 => op_move rfl ⟨rfl, Fr.refl _ _⟩) (HW.yes rfl rfl rfl hb6 (fun w1 H1 => op_move rfl ⟨rfl, Fr.refl _ _⟩) (HW.yes rfl rfl rfl hb6 (fun w1 H1 => op_move rfl ⟨rfl, Fr.refl _ _⟩) (HW.yes rfl rfl rfl hb6 (fun w1 H1 => op_indexAddr1 Try.underlying64 Fa.I3 rfl (H1.arrR (i := 0) rfl) rfl (by omega) ⟨rfl, Fr.refl _ _⟩) (HW.yes rfl rfl rfl hb6 (fun w1 H1 => op_load rfl ((H1.arrR (i := 0) rfl).at (get_map vN 0 (Arr.ltM (H1.arrR (i := 0) rfl) (by omega)))) Try.underlying3 rfl ⟨rfl, Fr.refl _ _⟩) (HW.yes rfl rfl rfl hb6 (fun w1 H1 => op_move rfl ⟨rfl, Fr.refl _ _⟩) (HW.yes rfl rfl rfl hb6 (fun w1 H1 => op_move rfl ⟨rfl, Fr.refl _ _⟩) (HW.yes rfl rfl rfl hb6 (fun w1 H1 => op_indexAddr1 Try.underlying64 Fa.I3 rfl (H1.arrR (i := 0) rfl) rfl (by omega) ⟨rfl, Fr.refl _ _⟩) (HW.yes rfl rfl rfl hb6 (fun w1 H1 => op_load rfl ((H1.arrR (i := 0) rfl).at (get_map vN 0 (Arr.ltM (H1.arrR (i := 0) rfl) (by omega)))) Try.underlying3 rfl ⟨rfl, Fr.refl _ _⟩) (HW.yes rfl rfl rfl hb6 (fun w1 H1 => op_callF Fa.C149 rfl ((less_ok (l2.getD a 0) (l2.getD u3 0) _).mono (fun e w2 hq => ⟨_, hq.1, rfl, hq.2⟩))) (HW.yes rfl rfl rfl hb6 (fun w1 H1 => op_not rfl ⟨rfl, Fr.refl _ _⟩) (HW.op rfl (fun w1 H1 => op_pickT rfl hb6 rfl ⟨rfl, Fr.refl _ _⟩)  HW.nil))))))))))))))) (by kernel_rfl) ?_
    intro β8 w8 H8
    refine wn ?_
    refine WC.cond rfl (fun (hb9 : (!(ltN (l2.getD a 0) (l2.getD u3 0))) = true) => ?_) (fun (hb9 : (!(ltN (l2.getD a 0) (l2.getD u3 0))) = false) => ?_)
    ·
     have hn9 := (Bool.not_eq_true' _).mp hb9
     refine WC.skip ?_
     refine WQ.next ?_
     refine WC.block ?_
     refine WC.region ?_
     refine wo (op_move rfl ?_)
     refine wo (op_addN (b := 1) rfl rfl (by omega) ?_)
     refine wo (op_assign rfl ?_)
     refine WL.nil ?_
     refine WQ.inNormal ?_
     exact WQ.round (u3 + 1) ⟨⟨by omega, eq_i hp9 (by omega) hn9⟩, H8⟩ ⟨rfl, rfl, rfl, rfl, rfl, trivial⟩ (by omega)
    ·
     have hn9 := (Bool.not_eq_false' _).mp hb9
     refine WC.exit ?_
     refine WQ.thenExit ?_
     refine WQ.thenExit ?_
     refine WQ.inHere ?_
     exact WQ.here u3 ⟨⟨hu3, hp9, .inr hn9⟩, H8⟩ ⟨rfl, rfl, rfl, rfl, rfl, trivial⟩
   ·
    have hc6 := of_decide_eq_false hb6
    refine WC.draw 15 Fa.M H5 (HW.op rfl (fun w1 H1 => op_move rfl ⟨rfl, Fr.refl _ _⟩) (HW.op rfl (fun w1 H1 => op_move rfl ⟨rfl, Fr.refl _ _⟩) (HW.op rfl (fun w1 H1 => op_leqN rfl rfl ⟨rfl, Fr.refl _ _⟩) (HW.op rfl (fun w1 H1 => op_move rfl ⟨rfl, Fr.refl _ _⟩) (HW.no rfl rfl rfl hb6 (HW.no rfl rfl rfl hb6 (HW.no rfl rfl rfl hb6 (HW.no rfl rfl rfl hb6 (HW.no rfl rfl rfl hb6 (HW.no rfl rfl rfl hb6 (HW.no rfl rfl rfl hb6 (HW.no rfl rfl rfl hb6 (HW.no rfl rfl rfl hb6 (HW.no rfl rfl rfl hb6 (HW.op rfl (fun w1 H1 => op_pickF rfl hb6 rfl ⟨rfl, Fr.refl _ _⟩)  HW.nil))))))))))))))) (by kernel_rfl) ?_
    intro β10 w10 H10
    refine wn ?_
    refine WC.no rfl rfl ?_
    refine WC.exit ?_
    refine WQ.thenExit ?_
    refine WQ.thenExit ?_
    refine WQ.inHere ?_
    exact WQ.here u3 ⟨⟨hu3, hp9, .inl (by omega)⟩, H10⟩ ⟨rfl, rfl, rfl, rfl, rfl, trivial⟩
  ·
   rintro u4 w11 ⟨⟨hu4, hpa, hxa⟩, H11⟩
   show WC _ _ _ _ _ [(0, v), (1, (vN a)), (2, (vN b)), (9, (vN u4)), (10, (vN z))] _
   have hpaa := hpa.1
   have hpab := hpa.2.1
   have hpac := hpa.2.2.1
   refine WC.cut (α := Nat) (fun z4 => [(0, v), (1, (vN a)), (2, (vN b)), (9, (vN u4)), (10, (vN z4))]) (fun z4 w' => (z4 ≤ z ∧ EqI ltN 0 a b u4 z4 l2 (l.getD p 0) ∧ (z4 < u4 ∨ ltN (l2.getD a 0) (l2.getD u4 0) = true) ∧ (z4 < u4 ∨ ltN (l2.getD a 0) (l2.getD z4 0) = false)) ∧ Owl.Own T w w' [.row v 3 1 n (List.map vN l2)]) ?_ ?_
   ·
    refine WC.block ?_
    refine WC.loop (α := Nat) (fun z3 => [(0, v), (1, (vN a)), (2, (vN b)), (9, (vN u4)), (10, (vN z3))]) (fun z3 w' => (z3 ≤ z ∧ EqI ltN 0 a b u4 z3 l2 (l.getD p 0) ∧ (z3 < u4 ∨ ltN (l2.getD a 0) (l2.getD u4 0) = true)) ∧ Owl.Own T w w' [.row v 3 1 n (List.map vN l2)]) (fun z3 => z3) z ⟨⟨Nat.le_refl _, hpa, hxa⟩, H11⟩ ⟨rfl, rfl, rfl, rfl, rfl, trivial⟩ ?_
    rintro z3 w12 ⟨⟨hz3, hpb2, hxb⟩, H12⟩
    show WC _ _ _ _ _ [(0, v), (1, (vN a)), (2, (vN b)), (9, (vN u4)), (10, (vN z3))] _
    have hpb2a := hpb2.1
    have hpb2b := hpb2.2.1
    have hpb2c := hpb2.2.2.1
    refine WC.seq ?_
    refine WC.seq ?_
    refine bsplit (fun (hb13 : (decide (u4 ≤ z3)) = true) => ?_) (fun (hb13 : (decide (u4 ≤ z3)) = false) => ?_)
    ·
     have hc13 := of_decide_eq_true hb13
     refine WC.draw 14 Fa.M H12 (HW.op rfl (fun w1 H1 => op_move rfl ⟨rfl, Fr.refl _ _⟩) (HW.op rfl (fun w1 H1 => op_move rfl ⟨rfl, Fr.refl _ _⟩) (HW.op rfl (fun w1 H1 => op_leqN rfl rfl ⟨rfl, Fr.refl _ _⟩) (HW.op rfl (fun w1 H1 => op_move rfl ⟨rfl, Fr.refl _ _⟩) (HW.yes rfl rfl rfl hb13 (fun w1 H1 => op_move rfl ⟨rfl, Fr.refl _ _⟩) (HW.yes rfl rfl rfl hb13 (fun w1 H1 => op_move rfl ⟨rfl, Fr.refl _ _⟩) (HW.yes rfl rfl rfl hb13 (fun w1 H1 => op_indexAddr1 Try.underlying64 Fa.I3 rfl (H1.arrR (i := 0) rfl) rfl (by omega) ⟨rfl, Fr.refl _ _⟩) (HW.yes rfl rfl rfl hb13 (fun w1 H1 => op_load rfl ((H1.arrR (i := 0) rfl).at (get_map vN 0 (Arr.ltM (H1.arrR (i := 0) rfl) (by omega)))) Try.underlying3 rfl ⟨rfl, Fr.refl _ _⟩) (HW.yes rfl rfl rfl hb13 (fun w1 H1 => op_move rfl ⟨rfl, Fr.refl _ _⟩) (HW.yes rfl rfl rfl hb13 (fun w1 H1 => op_move rfl ⟨rfl, Fr.refl _ _⟩) (HW.yes rfl rfl rfl hb13 (fun w1 H1 => op_indexAddr1 Try.underlying64 Fa.I3 rfl (H1.arrR (i := 0) rfl) rfl (by omega) ⟨rfl, Fr.refl _ _⟩) (HW.yes rfl rfl rfl hb13 (fun w1 H1 => op_load rfl ((H1.arrR (i := 0) rfl).at (get_map vN 0 (Arr.ltM (H1.arrR (i := 0) rfl) (by omega)))) Try.underlying3 rfl ⟨rfl, Fr.refl _ _⟩) (HW.yes rfl rfl rfl hb13 (fun w1 H1 => op_callF Fa.C149 rfl ((less_ok (l2.getD a 0) (l2.getD z3 0) _).mono (fun e w2 hq => ⟨_, hq.1, rfl, hq.2⟩))) (HW.op rfl (fun w1 H1 => op_pickT rfl hb13 rfl ⟨rfl, Fr.refl _ _⟩)  HW.nil)))))))))))))) (by kernel_rfl) ?_
     intro β15 w15 H15
     refine wn ?_
     refine WC.cond rfl (fun (hb16 : (ltN (l2.getD a 0) (l2.getD z3 0)) = true) => ?_) (fun (hb16 : (ltN (l2.getD a 0) (l2.getD z3 0)) = false) => ?_)
     ·
      refine WC.skip ?_
      refine WQ.next ?_
      refine WC.block ?_
      refine WC.region ?_
      refine wo (op_move rfl ?_)
      refine wo (op_subN (b := 1) rfl rfl (by omega) (by omega) ?_)
      refine wo (op_assign rfl ?_)
      refine WL.nil ?_
      refine WQ.inNormal ?_
      exact WQ.round (z3 - 1) ⟨⟨by omega, eq_j hpb2 (by omega) hb16, hxb.imp (fun h => by omega) id⟩, H15⟩ ⟨rfl, rfl, rfl, rfl, rfl, trivial⟩ (by omega)
     ·
      refine WC.exit ?_
      refine WQ.thenExit ?_
      refine WQ.thenExit ?_
      refine WQ.inHere ?_
      exact WQ.here z3 ⟨⟨hz3, hpb2, hxb, .inr hb16⟩, H15⟩ ⟨rfl, rfl, rfl, rfl, rfl, trivial⟩
    ·
     have hc13 := of_decide_eq_false hb13
     refine WC.draw 14 Fa.M H12 (HW.op rfl (fun w1 H1 => op_move rfl ⟨rfl, Fr.refl _ _⟩) (HW.op rfl (fun w1 H1 => op_move rfl ⟨rfl, Fr.refl _ _⟩) (HW.op rfl (fun w1 H1 => op_leqN rfl rfl ⟨rfl, Fr.refl _ _⟩) (HW.op rfl (fun w1 H1 => op_move rfl ⟨rfl, Fr.refl _ _⟩) (HW.no rfl rfl rfl hb13 (HW.no rfl rfl rfl hb13 (HW.no rfl rfl rfl hb13 (HW.no rfl rfl rfl hb13 (HW.no rfl rfl rfl hb13 (HW.no rfl rfl rfl hb13 (HW.no rfl rfl rfl hb13 (HW.no rfl rfl rfl hb13 (HW.no rfl rfl rfl hb13 (HW.op rfl (fun w1 H1 => op_pickF rfl hb13 rfl ⟨rfl, Fr.refl _ _⟩)  HW.nil)))))))))))))) (by kernel_rfl) ?_
     intro β17 w17 H17
     refine wn ?_
     refine WC.no rfl rfl ?_
     refine WC.exit ?_
     refine WQ.thenExit ?_
     refine WQ.thenExit ?_
     refine WQ.inHere ?_
     exact WQ.here z3 ⟨⟨hz3, hpb2, hxb, .inl (by omega)⟩, H17⟩ ⟨rfl, rfl, rfl, rfl, rfl, trivial⟩
   ·
    rintro z4 w18 ⟨⟨hz4, hpb4, hxb4, hyb4⟩, H18⟩
    show WC _ _ _ _ _ [(0, v), (1, (vN a)), (2, (vN b)), (9, (vN u4)), (10, (vN z4))] _
    have hpb4a := hpb4.1
    have hpb4b := hpb4.2.1
    have hpb4c := hpb4.2.2.1
    refine WC.seq ?_
    refine ws ?_
    refine wo (op_move rfl ?_)
    refine wo (op_move rfl ?_)
    refine wo (op_gtrN rfl rfl ?_)
    refine wn ?_
    refine WC.cond rfl (fun (hb19 : (decide (u4 > z4)) = true) => ?_) (fun (hb19 : (decide (u4 > z4)) = false) => ?_)
    ·
     have hc19 := of_decide_eq_true hb19
     refine WC.exit ?_
     refine WQ.thenExit ?_
     refine WQ.inPass rfl ?_
     refine WQ.thenExit ?_
     refine WQ.inHere ?_
     refine WQ.next ?_
     refine ws ?_
     refine wo (op_move rfl ?_)
     refine wo (op_assign rfl ?_)
     refine wn ?_
     refine WC.ret ?_
     refine WQ.out (.tmp rfl .nil) ?_
     exact ⟨_, _, rfl, ⟨hs2, eq_done ltNOK hpb4 (by omega)⟩, H18⟩
    ·
     have hc19 := of_decide_eq_false hb19
     refine WC.skip ?_
     refine WQ.next ?_
     refine WC.seq ?_
     refine WC.held 16 rfl Fa.M H18 (fun w' => ∃ L', Owl.Own T w w' ([] ++ L')) ?_
     intro w20 H20
     refine WH.take (i := 0) (v := v) rfl rfl (.inl rfl) rfl (by kernel_rfl) ⟨[.row v 3 1 n (List.map vN l2)], H20⟩ (fun wX hSX => hSX.elim fun LX HX => op_move rfl ⟨rfl, rfl⟩) ?_
     refine WH.take (i := 1) (v := (vN u4)) rfl rfl (.inl rfl) rfl (by kernel_rfl) ⟨[.row v 3 1 n (List.map vN l2)], H20⟩ (fun wX hSX => hSX.elim fun LX HX => op_move rfl ⟨rfl, rfl⟩) ?_
     refine WH.take (i := 2) (v := v) rfl rfl (.inl rfl) rfl (by kernel_rfl) ⟨[.row v 3 1 n (List.map vN l2)], H20⟩ (fun wX hSX => hSX.elim fun LX HX => op_move rfl ⟨rfl, rfl⟩) ?_
     refine WH.take (i := 3) (v := (vN z4)) rfl rfl (.inl rfl) rfl (by kernel_rfl) ⟨[.row v 3 1 n (List.map vN l2)], H20⟩ (fun wX hSX => hSX.elim fun LX HX => op_move rfl ⟨rfl, rfl⟩) ?_
     refine WH.take (i := 4) (v := v) rfl rfl (.inl rfl) rfl (by kernel_rfl) ⟨[.row v 3 1 n (List.map vN l2)], H20⟩ (fun wX hSX => hSX.elim fun LX HX => op_move rfl ⟨rfl, rfl⟩) ?_
     refine WH.take (i := 5) (v := (vN z4)) rfl rfl (.inl rfl) rfl (by kernel_rfl) ⟨[.row v 3 1 n (List.map vN l2)], H20⟩ (fun wX hSX => hSX.elim fun LX HX => op_move rfl ⟨rfl, rfl⟩) ?_
     refine WH.take (i := 6) (v := (.pointer (some (sp v z4)))) rfl rfl (.inl rfl) rfl (by kernel_rfl) ⟨[.row v 3 1 n (List.map vN l2)], H20⟩ (fun wX hSX => hSX.elim fun LX HX => op_indexAddr1W Try.underlying64 Fa.I3 rfl (H20.arrR (i := 0) rfl) rfl (by omega) ⟨rfl, rfl⟩) ?_
     refine WH.take (i := 8) (v := v) rfl rfl (.inl rfl) rfl (by kernel_rfl) ⟨[.row v 3 1 n (List.map vN l2)], H20⟩ (fun wX hSX => hSX.elim fun LX HX => op_move rfl ⟨rfl, rfl⟩) ?_
     refine WH.take (i := 9) (v := (vN u4)) rfl rfl (.inl rfl) rfl (by kernel_rfl) ⟨[.row v 3 1 n (List.map vN l2)], H20⟩ (fun wX hSX => hSX.elim fun LX HX => op_move rfl ⟨rfl, rfl⟩) ?_
     refine WH.take (i := 10) (v := (.pointer (some (sp v u4)))) rfl rfl (.inl rfl) rfl (by kernel_rfl) ⟨[.row v 3 1 n (List.map vN l2)], H20⟩ (fun wX hSX => hSX.elim fun LX HX => op_indexAddr1W Try.underlying64 Fa.I3 rfl (H20.arrR (i := 0) rfl) rfl (by omega) ⟨rfl, rfl⟩) ?_
     refine WH.named (fun W hW => ?_)
     have st8_5 : ∀ (wS : World), Owl.Own T w wS [.row v 3 1 n (List.map vN ((l2.set u4 (l2.getD z4 0)).set z4 (l2.getD u4 0)))] → W 0 #[tt, tt, tt, tt, tt, tt, tt, tt, tt, tt, tt, tt, tt, tt, tt, tt] [(0, v), (1, (vN a)), (2, (vN b)), (9, (vN u4)), (10, (vN z4)), (62, (vN u4)), (63, (vN z4)), (64, (.bool (decide (u4 > z4)))), (65, v), (66, (vN u4)), (67, v), (68, (vN z4)), (69, v), (70, (vN z4)), (71, (.pointer (some (sp v z4)))), (72, (vN (l2.getD z4 0))), (73, v), (74, (vN u4)), (75, (.pointer (some (sp v u4)))), (76, (vN (l2.getD u4 0))), (77, (.pointer (some (sp v u4)))), (78, (.pointer (some (sp v z4))))] wS := by
      intro wS HS
      rw [hW]
      refine WH.done (by kernel_rfl) ?_
      refine WQ.next ?_
      refine ws ?_
      refine wo (op_move rfl ?_)
      refine wo (op_addN (b := 1) rfl rfl (by omega) ?_)
      refine wo (op_assign rfl ?_)
      refine wn ?_
      refine WC.region ?_
      refine wo (op_move rfl ?_)
      refine wo (op_subN (b := 1) rfl rfl (by omega) (by omega) ?_)
      refine wo (op_assign rfl ?_)
      refine WL.nil ?_
      refine WQ.inNormal ?_
      exact WQ.round (u4 + 1, z4 - 1, swapL 0 l2 u4 z4) ⟨⟨hs2.step (by omega) (by omega) (by omega) (by omega), eq_swap (by omega) hpb4 (by omega) (hxb4.resolve_left (by omega)) (hyb4.resolve_left (by omega))⟩, HS⟩ ⟨rfl, rfl, rfl, rfl, rfl, trivial⟩ (by show z4 - 1 + 1 - (u4 + 1) < z + 1 - u; omega)
     have st8_4 : ∀ (wS : World), Owl.Own T w wS [.row v 3 1 n (List.map vN (l2.set u4 (l2.getD z4 0)))] → W 1 #[tt, tt, tt, tt, tt, tt, tt, tt, tt, tt, tt, tt, tt, tt, tt, ff] [(0, v), (1, (vN a)), (2, (vN b)), (9, (vN u4)), (10, (vN z4)), (62, (vN u4)), (63, (vN z4)), (64, (.bool (decide (u4 > z4)))), (65, v), (66, (vN u4)), (67, v), (68, (vN z4)), (69, v), (70, (vN z4)), (71, (.pointer (some (sp v z4)))), (72, (vN (l2.getD z4 0))), (73, v), (74, (vN u4)), (75, (.pointer (some (sp v u4)))), (76, (vN (l2.getD u4 0))), (77, (.pointer (some (sp v u4)))), (78, (.pointer (some (sp v z4))))] wS := by
      intro wS HS
      rw [hW]
      refine WH.all1 (i := 15) (by kernel_rfl) ?_
      ·
       refine WHS.op (i := 15) rfl (.inl rfl) rfl (op_storeRM (i := 0) (f := vN) (l := (l2.set u4 (l2.getD z4 0))) (c := (l2.getD u4 0)) HS rfl rfl rfl (by omega) rfl Fa.I3 (fun w31301 H31301 => ?_))
       refine ⟨⟨[.row v 3 1 n (List.map vN ((l2.set u4 (l2.getD z4 0)).set z4 (l2.getD u4 0)))], H31301⟩, ?_⟩
       have hq := st8_5 w31301 H31301
       rw [hW] at hq
       exact WH.cv hq
     have st8_3 : ∀ (wS : World), Owl.Own T w wS [.row v 3 1 n (List.map vN l2)] → W 3 #[tt, tt, tt, tt, tt, tt, tt, tt, tt, tt, tt, tt, tt, ff, ff, ff] [(0, v), (1, (vN a)), (2, (vN b)), (9, (vN u4)), (10, (vN z4)), (62, (vN u4)), (63, (vN z4)), (64, (.bool (decide (u4 > z4)))), (65, v), (66, (vN u4)), (67, v), (68, (vN z4)), (69, v), (70, (vN z4)), (71, (.pointer (some (sp v z4)))), (72, (vN (l2.getD z4 0))), (73, v), (74, (vN u4)), (75, (.pointer (some (sp v u4)))), (76, (vN (l2.getD u4 0))), (77, (.pointer (some (sp v u4))))] wS := by
      intro wS HS
      rw [hW]
      refine WH.all1 (i := 13) (by kernel_rfl) ?_
      ·
       refine WHS.op (i := 13) rfl (.inl rfl) rfl (op_storeRM (i := 0) (f := vN) (l := l2) (c := (l2.getD z4 0)) HS rfl rfl rfl (by omega) rfl Fa.I3 (fun w31261 H31261 => ?_))
       refine ⟨⟨[.row v 3 1 n (List.map vN (l2.set u4 (l2.getD z4 0)))], H31261⟩, ?_⟩
       refine WH.take (i := 14) (v := (.pointer (some (sp v z4)))) rfl rfl (.inl rfl) rfl (by kernel_rfl) ⟨[.row v 3 1 n (List.map vN (l2.set u4 (l2.getD z4 0)))], H31261⟩ (fun wX hSX => hSX.elim fun LX HX => op_indexAddr1W Try.underlying64 Fa.I3 rfl (H31261.arrR (i := 0) rfl) rfl (by omega) ⟨rfl, rfl⟩) ?_
       have hq := st8_4 w31261 H31261
       rw [hW] at hq
       exact WH.cv hq
     have st8_1 : ∀ (wS : World), Owl.Own T w wS [.row v 3 1 n (List.map vN l2)] → W 5 #[tt, tt, tt, tt, tt, tt, tt, tt, tt, tt, tt, ff, ff, ff, ff, ff] [(0, v), (1, (vN a)), (2, (vN b)), (9, (vN u4)), (10, (vN z4)), (62, (vN u4)), (63, (vN z4)), (64, (.bool (decide (u4 > z4)))), (65, v), (66, (vN u4)), (67, v), (68, (vN z4)), (69, v), (70, (vN z4)), (71, (.pointer (some (sp v z4)))), (72, (vN (l2.getD z4 0))), (73, v), (74, (vN u4)), (75, (.pointer (some (sp v u4))))] wS := by
      intro wS HS
      rw [hW]
      refine WH.all1 (i := 11) (by kernel_rfl) ?_
      ·
       refine WHS.op (i := 11) rfl (.inl rfl) rfl (op_load rfl ((HS.arrR (i := 0) rfl).at (get_map vN 0 (Arr.ltM (HS.arrR (i := 0) rfl) (by omega)))) Try.underlying3 rfl ?_)
       refine ⟨⟨[.row v 3 1 n (List.map vN l2)], HS⟩, ?_⟩
       refine WH.take (i := 12) (v := (.pointer (some (sp v u4)))) rfl rfl (.inl rfl) rfl (by kernel_rfl) ⟨[.row v 3 1 n (List.map vN l2)], HS⟩ (fun wX hSX => hSX.elim fun LX HX => op_indexAddr1W Try.underlying64 Fa.I3 rfl (HS.arrR (i := 0) rfl) rfl (by omega) ⟨rfl, rfl⟩) ?_
       have hq := st8_3 wS HS
       rw [hW] at hq
       exact WH.cv hq
     have st8_2 : ∀ (wS : World), Owl.Own T w wS [.row v 3 1 n (List.map vN l2)] → W 5 #[tt, tt, tt, tt, tt, tt, tt, ff, tt, tt, tt, tt, ff, ff, ff, ff] [(0, v), (1, (vN a)), (2, (vN b)), (9, (vN u4)), (10, (vN z4)), (62, (vN u4)), (63, (vN z4)), (64, (.bool (decide (u4 > z4)))), (65, v), (66, (vN u4)), (67, v), (68, (vN z4)), (69, v), (70, (vN z4)), (71, (.pointer (some (sp v z4)))), (73, v), (74, (vN u4)), (75, (.pointer (some (sp v u4)))), (76, (vN (l2.getD u4 0)))] wS := by
      intro wS HS
      rw [hW]
      refine WH.all1 (i := 7) (by kernel_rfl) ?_
      ·
       refine WHS.op (i := 7) rfl (.inl rfl) rfl (op_load rfl ((HS.arrR (i := 0) rfl).at (get_map vN 0 (Arr.ltM (HS.arrR (i := 0) rfl) (by omega)))) Try.underlying3 rfl ?_)
       refine ⟨⟨[.row v 3 1 n (List.map vN l2)], HS⟩, ?_⟩
       refine WH.take (i := 12) (v := (.pointer (some (sp v u4)))) rfl rfl (.inl rfl) rfl (by kernel_rfl) ⟨[.row v 3 1 n (List.map vN l2)], HS⟩ (fun wX hSX => hSX.elim fun LX HX => op_indexAddr1W Try.underlying64 Fa.I3 rfl (HS.arrR (i := 0) rfl) rfl (by omega) ⟨rfl, rfl⟩) ?_
       have hq := st8_3 wS HS
       rw [hW] at hq
       exact WH.cv hq
     have st8_0 : ∀ (wS : World), Owl.Own T w wS [.row v 3 1 n (List.map vN l2)] → W 6 #[tt, tt, tt, tt, tt, tt, tt, ff, tt, tt, tt, ff, ff, ff, ff, ff] [(0, v), (1, (vN a)), (2, (vN b)), (9, (vN u4)), (10, (vN z4)), (62, (vN u4)), (63, (vN z4)), (64, (.bool (decide (u4 > z4)))), (65, v), (66, (vN u4)), (67, v), (68, (vN z4)), (69, v), (70, (vN z4)), (71, (.pointer (some (sp v z4)))), (73, v), (74, (vN u4)), (75, (.pointer (some (sp v u4))))] wS := by
      intro wS HS
      rw [hW]
      refine WH.all2 (i := 7) (j := 11) (by kernel_rfl) ?_ ?_
      ·
       refine WHS.op (i := 7) rfl (.inl rfl) rfl (op_load rfl ((HS.arrR (i := 0) rfl).at (get_map vN 0 (Arr.ltM (HS.arrR (i := 0) rfl) (by omega)))) Try.underlying3 rfl ?_)
       refine ⟨⟨[.row v 3 1 n (List.map vN l2)], HS⟩, ?_⟩
       have hq := st8_1 wS HS
       rw [hW] at hq
       exact WH.cv hq
      ·
       refine WHS.op (i := 11) rfl (.inl rfl) rfl (op_load rfl ((HS.arrR (i := 0) rfl).at (get_map vN 0 (Arr.ltM (HS.arrR (i := 0) rfl) (by omega)))) Try.underlying3 rfl ?_)
       refine ⟨⟨[.row v 3 1 n (List.map vN l2)], HS⟩, ?_⟩
       have hq := st8_2 wS HS
       rw [hW] at hq
       exact WH.cv hq
     have hq := st8_0 w20 H20
     rw [hW] at hq ⊢
     exact WH.cv hq
end Go.Proofs.Ytbjhccnffacbcaa
