import Derived.Test.YtpnghdalnghpcaaWPack2
import Derived.Test.YtpnghdalnghpcaaLawPack
namespace Go.Proofs.Ytpnghdalnghpcaa
open Go.Owl Go.Spec
set_option maxRecDepth 100000 in
theorem packBack_ok (v : UInt32) (s : List UInt8) (lv : Value) (l : List (List UInt8)) (more b : List UInt8) (w : World) (hA : Arr w lv 1 l.length (List.map str l)) (hB : ∀ x ∈ l, x.length ≤ 140737488351232) (hn : l.length < 2 ^ 50) (hs : s.length ≤ 140737488351232) (hm : more.length ≤ 140737488351232) (hb : b.length ≤ 140737488351232) :
    Calls Try.prog 4 #[(vU32 v), (str s), lv, (str more), (str b)] w (fun e w' => e = .returned (.bool true) ∧ Fr [] w w') := by
  refine enter (args := [(vU32 v), (str s), lv, (str more), (str b)]) Try.func4 rfl rfl ?_
  have H0 : Own [] w w [] := Own.start w []
  refine WC.seq ?_
  refine WC.region ?_
  refine WL.op rfl rfl (op_assign rfl ?_)
  refine WL.nil ?_
  refine WQ.next ?_
  refine WC.seq ?_
  refine WC.seq ?_
  refine WC.region ?_
  refine WL.op rfl rfl (op_move rfl ?_)
  refine WL.op rfl rfl (op_callF Fa.C15 rfl ((large07_ok _ l _ _ (H0.arr hA) hB (by omega)).mono (fun e w1 hq => ?_)))
  obtain ⟨rfl, hf1⟩ := hq
  refine ⟨_, rfl, ?_⟩
  have H1 := H0.fr' hf1
  refine WL.op rfl rfl (op_move rfl ?_)
  refine WL.split (t := 31) rfl (fun (hb2 : (large07 l) = true) => ?_) (fun (hb2 : (large07 l) = false) => ?_)
  ·
    refine WL.no rfl rfl rfl hb2 rfl ?_
    refine WL.no rfl rfl rfl hb2 rfl ?_
    refine WL.no rfl rfl rfl hb2 rfl ?_
    refine WL.no rfl rfl rfl hb2 rfl ?_
    refine WL.no rfl rfl rfl hb2 rfl ?_
    refine WL.no rfl rfl rfl hb2 rfl ?_
    refine WL.no rfl rfl rfl hb2 rfl ?_
    refine WL.no rfl rfl rfl hb2 rfl ?_
    refine WL.no rfl rfl rfl hb2 rfl ?_
    refine WL.op rfl rfl (op_pickT rfl hb2 rfl ?_)
    refine WL.nil ?_
    refine WQ.next ?_
    refine WC.yes rfl rfl ?_
    refine WC.seq ?_
    refine WC.region ?_
    refine WL.op rfl rfl (op_callF Fa.C16 rfl ((alive07_ok _).mono (fun e w3 hq => ?_)))
    obtain ⟨rfl, hf3⟩ := hq
    refine ⟨_, rfl, ?_⟩
    have H3 := H1.fr' hf3
    refine WL.op rfl rfl (op_assign rfl ?_)
    refine WL.nil ?_
    refine WQ.next ?_
    refine WC.ret ?_
    refine WQ.thenRet ?_
    refine WQ.out (.tmp rfl .nil) ?_
    exact ⟨rfl, H3.fr⟩
  ·
    have hlg := large07_no hb2
    refine WL.yes rfl rfl rfl hb2 rfl (op_move rfl ?_)
    refine WL.yes rfl rfl rfl hb2 rfl (op_lenStr Try.underlying9 rfl ?_)
    refine WL.yes rfl rfl rfl hb2 rfl (op_move rfl ?_)
    refine WL.yes rfl rfl rfl hb2 rfl (op_lenStr Try.underlying9 rfl ?_)
    refine WL.yes rfl rfl rfl hb2 rfl (op_addN rfl rfl (by omega) ?_)
    refine WL.yes rfl rfl rfl hb2 rfl (op_move rfl ?_)
    refine WL.yes rfl rfl rfl hb2 rfl (op_lenStr Try.underlying9 rfl ?_)
    refine WL.yes rfl rfl rfl hb2 rfl (op_addN rfl rfl (by omega) ?_)
    refine WL.yes rfl rfl rfl hb2 rfl (op_gtrN (b := 65536) rfl rfl ?_)
    refine WL.op rfl rfl (op_pickF rfl hb2 rfl ?_)
    refine WL.nil ?_
    refine WQ.next ?_
    refine WC.cond rfl (fun (hb4 : (decide (((s.length + more.length) + b.length) > 65536)) = true) => ?_) (fun (hb4 : (decide (((s.length + more.length) + b.length) > 65536)) = false) => ?_)
    ·
      have hc4 := of_decide_eq_true hb4
      refine WC.seq ?_
      refine WC.region ?_
      refine WL.op rfl rfl (op_callF Fa.C16 rfl ((alive07_ok _).mono (fun e w5 hq => ?_)))
      obtain ⟨rfl, hf5⟩ := hq
      refine ⟨_, rfl, ?_⟩
      have H5 := H1.fr' hf5
      refine WL.op rfl rfl (op_assign rfl ?_)
      refine WL.nil ?_
      refine WQ.next ?_
      refine WC.ret ?_
      refine WQ.thenRet ?_
      refine WQ.out (.tmp rfl .nil) ?_
      exact ⟨rfl, H5.fr⟩
    ·
      have hc4 := of_decide_eq_false hb4
      refine WC.skip ?_
      refine WQ.next ?_
      refine WC.seq ?_
      refine WC.region ?_
      refine WL.op rfl rfl (op_move rfl ?_)
      refine WL.op rfl rfl (op_callF Fa.C17 rfl ((num_ok v (4) _).mono (fun e w6 hq => ?_)))
      obtain ⟨rfl, hf6⟩ := hq
      refine ⟨_, rfl, ?_⟩
      have H6 := H1.fr' hf6
      refine WL.op rfl rfl (op_move rfl ?_)
      refine WL.op rfl rfl (op_extract rfl rfl ?_)
      refine WL.op rfl rfl (op_extract rfl rfl ?_)
      refine WL.op rfl rfl (op_assign rfl ?_)
      refine WL.op rfl rfl (op_assign rfl ?_)
      refine WL.nil ?_
      refine WQ.next ?_
      refine WC.seq ?_
      refine WC.region ?_
      refine WL.op rfl rfl (op_move rfl ?_)
      refine WL.op rfl rfl (op_callF Fa.C19 rfl ((ptext_ok s _ (by omega)).mono (fun e w7 hq => ?_)))
      obtain ⟨rfl, hf7⟩ := hq
      refine ⟨_, rfl, ?_⟩
      have H7 := H6.fr' hf7
      refine WL.op rfl rfl (op_move rfl ?_)
      refine WL.op rfl rfl (op_extract rfl rfl ?_)
      refine WL.op rfl rfl (op_extract rfl rfl ?_)
      refine WL.op rfl rfl (op_assign rfl ?_)
      refine WL.op rfl rfl (op_assign rfl ?_)
      refine WL.nil ?_
      refine WQ.next ?_
      refine WC.seq ?_
      refine WC.region ?_
      refine WL.op rfl rfl (op_move rfl ?_)
      refine WL.op rfl rfl (op_callF Fa.C21 rfl ((ptexts_ok _ l _ _ (H7.arr hA) (by first | exact ⟨by omega, fun x hx => Nat.lt_of_le_of_lt (hB x hx) (by decide)⟩ | exact ⟨textsR_len _, fun x hx => Nat.lt_of_le_of_lt ((tsS_eq (texts_inv (Decidable.not_not.mp hE)).1).2.2 x hx) (by decide)⟩)).mono (fun e w8 hq => ?_)))
      obtain ⟨rfl, hf8⟩ := hq
      refine ⟨_, rfl, ?_⟩
      have H8 := H7.fr' hf8
      refine WL.op rfl rfl (op_move rfl ?_)
      refine WL.op rfl rfl (op_extract rfl rfl ?_)
      refine WL.op rfl rfl (op_extract rfl rfl ?_)
      refine WL.op rfl rfl (op_assign rfl ?_)
      refine WL.op rfl rfl (op_assign rfl ?_)
      refine WL.nil ?_
      refine WQ.next ?_
      refine WC.seq ?_
      refine WC.seq ?_
      refine WC.region ?_
      refine WL.op rfl rfl (op_move rfl ?_)
      refine WL.op rfl rfl (op_neqN (b := 0) rfl rfl ?_)
      refine WL.op rfl rfl (op_move rfl ?_)
      refine WL.yes rfl rfl rfl (decide_eq_false (fun h => h (numE_4 v))) rfl (op_move rfl ?_)
      refine WL.yes rfl rfl rfl (decide_eq_false (fun h => h (numE_4 v))) rfl (op_eqlN (b := 0) rfl rfl ?_)
      refine WL.yes rfl rfl rfl (decide_eq_false (fun h => h (numE_4 v))) rfl (op_move rfl ?_)
      refine WL.yes rfl rfl rfl (decide_eq_false (fun h => h (numE_4 v))) rfl (op_lenStr Try.underlying9 rfl ?_)
      refine WL.yes rfl rfl rfl (decide_eq_false (fun h => h (numE_4 v))) rfl (op_leqN (b := 65535) rfl rfl ?_)
      refine WL.yes rfl rfl rfl (decide_eq_false (fun h => h (numE_4 v))) rfl (op_neqB Try.underlying4 rfl rfl ?_)
      refine WL.op rfl rfl (op_pickF rfl (decide_eq_false (fun h => h (numE_4 v))) rfl ?_)
      refine WL.nil ?_
      refine WQ.next ?_
      refine WC.no rfl (beq_no (txE_dec s)) ?_
      refine WC.skip ?_
      refine WQ.next ?_
      refine WC.cut (α := Unit) (fun _ => [(4, (str b))]) (fun _ w' => Own [] w w' []) ?_ ?_
      ·
        refine WC.seq ?_
        refine WC.region ?_
        refine WL.op rfl rfl (op_move rfl ?_)
        refine WL.op rfl rfl (op_eqlN (b := 0) rfl rfl ?_)
        refine WL.op rfl rfl (op_move rfl ?_)
        refine WL.split (t := 70) rfl (fun (hb9 : (decide ((txE s) = 0)) = true) => ?_) (fun (hb9 : (decide ((txE s) = 0)) = false) => ?_)
        ·
          have hc9 := of_decide_eq_true hb9
          refine WL.yes rfl rfl rfl hb9 rfl (op_move rfl ?_)
          refine WL.yes rfl rfl rfl hb9 rfl (op_eqlN (b := 0) rfl rfl ?_)
          refine WL.op rfl rfl (op_pickT rfl hb9 rfl ?_)
          refine WL.nil ?_
          refine WQ.next ?_
          refine WC.cond rfl (fun (hb10 : (decide ((tsE l) = 0)) = true) => ?_) (fun (hb10 : (decide ((tsE l) = 0)) = false) => ?_)
          ·
            have hc10 := of_decide_eq_true hb10
            refine WC.seq ?_
            refine WC.region ?_
            refine WL.op rfl rfl (op_move rfl ?_)
            refine WL.op rfl rfl (op_move rfl ?_)
            refine WL.op rfl rfl (op_addStr rfl rfl (by have h1 := numE_len v 4; have h2 := txS_len s; omega) ?_)
            refine WL.op rfl rfl (op_move rfl ?_)
            refine WL.op rfl rfl (op_addStr rfl rfl (by have h1 := numE_len v 4; have h2 := txS_len s; have h3 := tsS_len l; simp only [List.length_append]; omega) ?_)
            refine WL.op rfl rfl (op_move rfl ?_)
            refine WL.op rfl rfl (op_addStr rfl rfl (by have h1 := numE_len v 4; have h2 := txS_len s; have h3 := tsS_len l; simp only [List.length_append]; omega) ?_)
            refine WL.op rfl rfl (op_callF Fa.C24 rfl ((rdnew_ok ((((numS v 4) ++ (txS s)) ++ (tsS l)) ++ more) _).mono (fun e w11 hq => ?_)))
            obtain ⟨q11, rfl, hq11⟩ := hq
            refine ⟨_, rfl, ?_⟩
            have H11 : Own [] w w11 [.blk q11 [(str ((((numS v 4) ++ (txS s)) ++ (tsS l)) ++ more)), (vN 0), (vN 0)] 107] := H8.splice [] [] [.blk q11 [(str ((((numS v 4) ++ (txS s)) ++ (tsS l)) ++ more)), (vN 0), (vN 0)] 107] rfl rfl hq11 (Fits.solid True.intro Fits.nil)
            refine WL.op rfl rfl (op_assign rfl ?_)
            refine WL.nil ?_
            refine WQ.next ?_
            refine WC.seq ?_
            refine WC.region ?_
            have hba := back_all (v := v) (s := s) (more := more) (l := l) hc9 hc10
            have hOn := hba.2.2.2
            unfold On at hOn
            have hb11 : (numR (Rd.mk (((numS v 4 ++ txS s) ++ tsS l) ++ more) 0 0 (Nat.zero_le _)) 4).1.1 = v := by rw [hba.1]
            have hb12 : (numR (Rd.mk (((numS v 4 ++ txS s) ++ tsS l) ++ more) 0 0 (Nat.zero_le _)) 4).1.2 = 0 := by rw [hba.1]
            have hb21 : (textR (numR (Rd.mk (((numS v 4 ++ txS s) ++ tsS l) ++ more) 0 0 (Nat.zero_le _)) 4).2).1.1 = s := by rw [hba.2.1]
            have hb22 : (textR (numR (Rd.mk (((numS v 4 ++ txS s) ++ tsS l) ++ more) 0 0 (Nat.zero_le _)) 4).2).1.2 = 0 := by rw [hba.2.1]
            have hb31 : (textsR (textR (numR (Rd.mk (((numS v 4 ++ txS s) ++ tsS l) ++ more) 0 0 (Nat.zero_le _)) 4).2).2).1.1 = l := by rw [hba.2.2.1]
            have hb32 : (textsR (textR (numR (Rd.mk (((numS v 4 ++ txS s) ++ tsS l) ++ more) 0 0 (Nat.zero_le _)) 4).2).2).1.2 = 0 := by rw [hba.2.2.1]
            have hb41 : (textsR (textR (numR (Rd.mk (((numS v 4 ++ txS s) ++ tsS l) ++ more) 0 0 (Nat.zero_le _)) 4).2).2).2.rest = more := by with_reducible exact hOn.1
            have hb42 : (textsR (textR (numR (Rd.mk (((numS v 4 ++ txS s) ++ tsS l) ++ more) 0 0 (Nat.zero_le _)) 4).2).2).2.f = 0 := by with_reducible exact hOn.2.1
            have hW : (((numS v 4 ++ txS s) ++ tsS l) ++ more).length < 2 ^ 47 := by have h1 := numE_len v 4; have h2 := txS_len s; have h3 := tsS_len l; simp only [List.length_append]; omega
            refine WL.op rfl rfl (op_move rfl ?_)
            refine WL.op rfl rfl (op_callF Fa.C25 rfl ((rdnum_ok q11 (Rd.mk ((((numS v 4) ++ (txS s)) ++ (tsS l)) ++ more) 0 0 (Nat.zero_le _)) (4) 107 _ _ (H11.part [0] rfl rfl) (by first | (rw [textsR_s, textR_s, numR_s]; exact hW) | (rw [textR_s, numR_s]; exact hW) | (rw [numR_s]; exact hW) | (rw [textsR_s]; show b.length < 2 ^ 47; omega) | with_reducible exact hW | (show b.length < 2 ^ 47; omega))).mono (fun e w12 hq => ?_)))
            obtain ⟨rfl, hq12⟩ := hq
            refine ⟨_, rfl, ?_⟩
            have H12 : Own [] w w12 [.blk q11 [(str ((numR (Rd.mk ((((numS v 4) ++ (txS s)) ++ (tsS l)) ++ more) 0 0 (Nat.zero_le _)) 4).2).s), (vN ((numR (Rd.mk ((((numS v 4) ++ (txS s)) ++ (tsS l)) ++ more) 0 0 (Nat.zero_le _)) 4).2).at_), (vN ((numR (Rd.mk ((((numS v 4) ++ (txS s)) ++ (tsS l)) ++ more) 0 0 (Nat.zero_le _)) 4).2).f)] 107] := H11.splice [0] [.blk q11 [(str ((numR (Rd.mk ((((numS v 4) ++ (txS s)) ++ (tsS l)) ++ more) 0 0 (Nat.zero_le _)) 4).2).s), (vN ((numR (Rd.mk ((((numS v 4) ++ (txS s)) ++ (tsS l)) ++ more) 0 0 (Nat.zero_le _)) 4).2).at_), (vN ((numR (Rd.mk ((((numS v 4) ++ (txS s)) ++ (tsS l)) ++ more) 0 0 (Nat.zero_le _)) 4).2).f)] 107] [] rfl rfl hq12 (Fits.solid True.intro Fits.nil)
            refine WL.op rfl rfl (op_move rfl ?_)
            refine WL.op rfl rfl (op_extract rfl rfl ?_)
            refine WL.op rfl rfl (op_extract rfl rfl ?_)
            refine WL.op rfl rfl (op_assign rfl ?_)
            refine WL.op rfl rfl (op_assign rfl ?_)
            refine WL.nil ?_
            refine WQ.next ?_
            refine WC.seq ?_
            refine WC.region ?_
            refine WL.op rfl rfl (op_move rfl ?_)
            refine WL.op rfl rfl (op_callF Fa.C26 rfl ((rdtext_ok q11 ((numR (Rd.mk ((((numS v 4) ++ (txS s)) ++ (tsS l)) ++ more) 0 0 (Nat.zero_le _)) 4).2)  107 _ _ (H12.part [0] rfl rfl) (by first | (rw [textsR_s, textR_s, numR_s]; exact hW) | (rw [textR_s, numR_s]; exact hW) | (rw [numR_s]; exact hW) | (rw [textsR_s]; show b.length < 2 ^ 47; omega) | with_reducible exact hW | (show b.length < 2 ^ 47; omega))).mono (fun e w13 hq => ?_)))
            obtain ⟨rfl, hq13⟩ := hq
            refine ⟨_, rfl, ?_⟩
            have H13 : Own [] w w13 [.blk q11 [(str ((textR ((numR (Rd.mk ((((numS v 4) ++ (txS s)) ++ (tsS l)) ++ more) 0 0 (Nat.zero_le _)) 4).2)).2).s), (vN ((textR ((numR (Rd.mk ((((numS v 4) ++ (txS s)) ++ (tsS l)) ++ more) 0 0 (Nat.zero_le _)) 4).2)).2).at_), (vN ((textR ((numR (Rd.mk ((((numS v 4) ++ (txS s)) ++ (tsS l)) ++ more) 0 0 (Nat.zero_le _)) 4).2)).2).f)] 107] := H12.splice [0] [.blk q11 [(str ((textR ((numR (Rd.mk ((((numS v 4) ++ (txS s)) ++ (tsS l)) ++ more) 0 0 (Nat.zero_le _)) 4).2)).2).s), (vN ((textR ((numR (Rd.mk ((((numS v 4) ++ (txS s)) ++ (tsS l)) ++ more) 0 0 (Nat.zero_le _)) 4).2)).2).at_), (vN ((textR ((numR (Rd.mk ((((numS v 4) ++ (txS s)) ++ (tsS l)) ++ more) 0 0 (Nat.zero_le _)) 4).2)).2).f)] 107] [] rfl rfl hq13 (Fits.solid True.intro Fits.nil)
            refine WL.op rfl rfl (op_move rfl ?_)
            refine WL.op rfl rfl (op_extract rfl rfl ?_)
            refine WL.op rfl rfl (op_extract rfl rfl ?_)
            refine WL.op rfl rfl (op_assign rfl ?_)
            refine WL.op rfl rfl (op_assign rfl ?_)
            refine WL.nil ?_
            refine WQ.next ?_
            refine WC.seq ?_
            refine WC.region ?_
            refine WL.op rfl rfl (op_move rfl ?_)
            refine WL.op rfl rfl (op_callF Fa.C27 rfl ((rdtexts_ok q11 ((textR ((numR (Rd.mk ((((numS v 4) ++ (txS s)) ++ (tsS l)) ++ more) 0 0 (Nat.zero_le _)) 4).2)).2) 107 _ _ (H13.part [0] rfl rfl) (by first | (rw [textsR_s, textR_s, numR_s]; exact hW) | (rw [textR_s, numR_s]; exact hW) | (rw [numR_s]; exact hW) | (rw [textsR_s]; show b.length < 2 ^ 47; omega) | with_reducible exact hW | (show b.length < 2 ^ 47; omega))).mono (fun e w14 hq => ?_)))
            obtain ⟨v14, rfl, hq14⟩ := hq
            refine ⟨_, rfl, ?_⟩
            have H14 : Own [] w w14 [.blk q11 [(str ((textsR ((textR ((numR (Rd.mk ((((numS v 4) ++ (txS s)) ++ (tsS l)) ++ more) 0 0 (Nat.zero_le _)) 4).2)).2)).2).s), (vN ((textsR ((textR ((numR (Rd.mk ((((numS v 4) ++ (txS s)) ++ (tsS l)) ++ more) 0 0 (Nat.zero_le _)) 4).2)).2)).2).at_), (vN ((textsR ((textR ((numR (Rd.mk ((((numS v 4) ++ (txS s)) ++ (tsS l)) ++ more) 0 0 (Nat.zero_le _)) 4).2)).2)).2).f)] 107, .row v14 9 1 (textsR ((textR ((numR (Rd.mk ((((numS v 4) ++ (txS s)) ++ (tsS l)) ++ more) 0 0 (Nat.zero_le _)) 4).2)).2)).1.1.length (List.map str (textsR ((textR ((numR (Rd.mk ((((numS v 4) ++ (txS s)) ++ (tsS l)) ++ more) 0 0 (Nat.zero_le _)) 4).2)).2)).1.1)] := H13.splice [0] [.blk q11 [(str ((textsR ((textR ((numR (Rd.mk ((((numS v 4) ++ (txS s)) ++ (tsS l)) ++ more) 0 0 (Nat.zero_le _)) 4).2)).2)).2).s), (vN ((textsR ((textR ((numR (Rd.mk ((((numS v 4) ++ (txS s)) ++ (tsS l)) ++ more) 0 0 (Nat.zero_le _)) 4).2)).2)).2).at_), (vN ((textsR ((textR ((numR (Rd.mk ((((numS v 4) ++ (txS s)) ++ (tsS l)) ++ more) 0 0 (Nat.zero_le _)) 4).2)).2)).2).f)] 107] [.row v14 9 1 (textsR ((textR ((numR (Rd.mk ((((numS v 4) ++ (txS s)) ++ (tsS l)) ++ more) 0 0 (Nat.zero_le _)) 4).2)).2)).1.1.length (List.map str (textsR ((textR ((numR (Rd.mk ((((numS v 4) ++ (txS s)) ++ (tsS l)) ++ more) 0 0 (Nat.zero_le _)) 4).2)).2)).1.1)] rfl rfl hq14 (Fits.solid True.intro (Fits.solid True.intro Fits.nil))
            refine WL.op rfl rfl (op_move rfl ?_)
            refine WL.op rfl rfl (op_extract rfl rfl ?_)
            refine WL.op rfl rfl (op_extract rfl rfl ?_)
            refine WL.op rfl rfl (op_assign rfl ?_)
            refine WL.op rfl rfl (op_assign rfl ?_)
            refine WL.nil ?_
            refine WQ.next ?_
            refine WC.seq ?_
            refine WC.region ?_
            refine WL.op rfl rfl (op_move rfl ?_)
            refine WL.op rfl rfl (op_move rfl ?_)
            refine WL.op rfl rfl (op_neqU32 rfl rfl ?_)
            refine WL.op rfl rfl (op_move rfl ?_)
            refine WL.yes rfl rfl rfl (by rw [hb11]; exact decide_eq_false (fun h => h rfl)) rfl (op_move rfl ?_)
            refine WL.yes rfl rfl rfl (by rw [hb11]; exact decide_eq_false (fun h => h rfl)) rfl (op_neqN (b := 0) rfl rfl ?_)
            refine WL.op rfl rfl (op_pickF rfl (by rw [hb11]; exact decide_eq_false (fun h => h rfl)) rfl ?_)
            refine WL.op rfl rfl (op_move rfl ?_)
            refine WL.yes rfl rfl rfl (by rw [hb12]; exact decide_eq_false (fun h => h rfl)) rfl (op_move rfl ?_)
            refine WL.yes rfl rfl rfl (by rw [hb12]; exact decide_eq_false (fun h => h rfl)) rfl (op_move rfl ?_)
            refine WL.yes rfl rfl rfl (by rw [hb12]; exact decide_eq_false (fun h => h rfl)) rfl (op_neqStr rfl rfl ?_)
            refine WL.op rfl rfl (op_pickF rfl (by rw [hb12]; exact decide_eq_false (fun h => h rfl)) rfl ?_)
            refine WL.op rfl rfl (op_move rfl ?_)
            refine WL.yes rfl rfl rfl (by rw [hb21]; exact decide_eq_false (fun h => h rfl)) rfl (op_move rfl ?_)
            refine WL.yes rfl rfl rfl (by rw [hb21]; exact decide_eq_false (fun h => h rfl)) rfl (op_neqN (b := 0) rfl rfl ?_)
            refine WL.op rfl rfl (op_pickF rfl (by rw [hb21]; exact decide_eq_false (fun h => h rfl)) rfl ?_)
            refine WL.op rfl rfl (op_move rfl ?_)
            refine WL.yes rfl rfl rfl (by rw [hb22]; exact decide_eq_false (fun h => h rfl)) rfl (op_move rfl ?_)
            refine WL.yes rfl rfl rfl (by rw [hb22]; exact decide_eq_false (fun h => h rfl)) rfl (op_move rfl ?_)
            refine WL.yes rfl rfl rfl (by rw [hb22]; exact decide_eq_false (fun h => h rfl)) rfl (op_callF Fa.C23 rfl ((same07_ok _ _ ((textsR ((textR ((numR (Rd.mk ((((numS v 4) ++ (txS s)) ++ (tsS l)) ++ more) 0 0 (Nat.zero_le _)) 4).2)).2)).1.1) l _ _ _ (H14.arrR (i := 1) rfl) (H14.arr hA) (textsR_len _)).mono (fun e w15 hq => ?_)))
            obtain ⟨rfl, hf15⟩ := hq
            refine ⟨_, rfl, ?_⟩
            have H15 := H14.fr' hf15
            refine WL.yes rfl rfl rfl (by rw [hb22]; exact decide_eq_false (fun h => h rfl)) rfl (op_not rfl ?_)
            refine WL.op rfl rfl (op_pickF rfl (by rw [hb22]; exact decide_eq_false (fun h => h rfl)) rfl ?_)
            refine WL.op rfl rfl (op_move rfl ?_)
            refine WL.yes rfl rfl rfl (congrArg Bool.not (show decide ((textsR (textR (numR (Rd.mk (((numS v 4 ++ txS s) ++ tsS l) ++ more) 0 0 (Nat.zero_le _)) 4).2).2).1.1 = l) = true from by rw [hb31]; exact decide_eq_true rfl)) rfl (op_move rfl ?_)
            refine WL.yes rfl rfl rfl (congrArg Bool.not (show decide ((textsR (textR (numR (Rd.mk (((numS v 4 ++ txS s) ++ tsS l) ++ more) 0 0 (Nat.zero_le _)) 4).2).2).1.1 = l) = true from by rw [hb31]; exact decide_eq_true rfl)) rfl (op_neqN (b := 0) rfl rfl ?_)
            refine WL.op rfl rfl (op_pickF rfl (congrArg Bool.not (show decide ((textsR (textR (numR (Rd.mk (((numS v 4 ++ txS s) ++ tsS l) ++ more) 0 0 (Nat.zero_le _)) 4).2).2).1.1 = l) = true from by rw [hb31]; exact decide_eq_true rfl)) rfl ?_)
            refine WL.op rfl rfl (op_move rfl ?_)
            refine WL.yes rfl rfl rfl (by rw [hb32]; exact decide_eq_false (fun h => h rfl)) rfl (op_move rfl ?_)
            refine WL.yes rfl rfl rfl (by rw [hb32]; exact decide_eq_false (fun h => h rfl)) rfl (op_callF Fa.C28 rfl ((rleft_ok q11 ((textsR ((textR ((numR (Rd.mk ((((numS v 4) ++ (txS s)) ++ (tsS l)) ++ more) 0 0 (Nat.zero_le _)) 4).2)).2)).2) _ (H15.cellsAt (i := 0) rfl) (by first | (rw [textsR_s, textR_s, numR_s]; exact hW) | (rw [textR_s, numR_s]; exact hW) | (rw [numR_s]; exact hW) | (rw [textsR_s]; show b.length < 2 ^ 47; omega) | with_reducible exact hW | (show b.length < 2 ^ 47; omega))).mono (fun e w16 hq => ?_)))
            obtain ⟨rfl, hf16⟩ := hq
            refine ⟨_, rfl, ?_⟩
            have H16 := H15.fr' hf16
            refine WL.yes rfl rfl rfl (by rw [hb32]; exact decide_eq_false (fun h => h rfl)) rfl (op_move rfl ?_)
            refine WL.yes rfl rfl rfl (by rw [hb32]; exact decide_eq_false (fun h => h rfl)) rfl (op_lenStr Try.underlying9 rfl ?_)
            refine WL.yes rfl rfl rfl (by rw [hb32]; exact decide_eq_false (fun h => h rfl)) rfl (op_neqN rfl rfl ?_)
            refine WL.op rfl rfl (op_pickF rfl (by rw [hb32]; exact decide_eq_false (fun h => h rfl)) rfl ?_)
            refine WL.op rfl rfl (op_move rfl ?_)
            refine WL.yes rfl rfl rfl (decide_eq_false (fun h => h (left_of hb41))) rfl (op_move rfl ?_)
            refine WL.yes rfl rfl rfl (decide_eq_false (fun h => h (left_of hb41))) rfl (op_callF Fa.C29 rfl ((rdend_ok q11 ((textsR ((textR ((numR (Rd.mk ((((numS v 4) ++ (txS s)) ++ (tsS l)) ++ more) 0 0 (Nat.zero_le _)) 4).2)).2)).2)  107 _ _ (H16.part [0] rfl rfl) (by first | (rw [textsR_s, textR_s, numR_s]; exact hW) | (rw [textR_s, numR_s]; exact hW) | (rw [numR_s]; exact hW) | (rw [textsR_s]; show b.length < 2 ^ 47; omega) | with_reducible exact hW | (show b.length < 2 ^ 47; omega))).mono (fun e w17 hq => ?_)))
            obtain ⟨rfl, hq17⟩ := hq
            refine ⟨_, rfl, ?_⟩
            have H17 : Own [] w w17 [.blk q11 [(str ((endR ((textsR ((textR ((numR (Rd.mk ((((numS v 4) ++ (txS s)) ++ (tsS l)) ++ more) 0 0 (Nat.zero_le _)) 4).2)).2)).2)).2).s), (vN ((endR ((textsR ((textR ((numR (Rd.mk ((((numS v 4) ++ (txS s)) ++ (tsS l)) ++ more) 0 0 (Nat.zero_le _)) 4).2)).2)).2)).2).at_), (vN ((endR ((textsR ((textR ((numR (Rd.mk ((((numS v 4) ++ (txS s)) ++ (tsS l)) ++ more) 0 0 (Nat.zero_le _)) 4).2)).2)).2)).2).f)] 107, .row v14 9 1 (textsR ((textR ((numR (Rd.mk ((((numS v 4) ++ (txS s)) ++ (tsS l)) ++ more) 0 0 (Nat.zero_le _)) 4).2)).2)).1.1.length (List.map str (textsR ((textR ((numR (Rd.mk ((((numS v 4) ++ (txS s)) ++ (tsS l)) ++ more) 0 0 (Nat.zero_le _)) 4).2)).2)).1.1)] := H16.splice [0] [.blk q11 [(str ((endR ((textsR ((textR ((numR (Rd.mk ((((numS v 4) ++ (txS s)) ++ (tsS l)) ++ more) 0 0 (Nat.zero_le _)) 4).2)).2)).2)).2).s), (vN ((endR ((textsR ((textR ((numR (Rd.mk ((((numS v 4) ++ (txS s)) ++ (tsS l)) ++ more) 0 0 (Nat.zero_le _)) 4).2)).2)).2)).2).at_), (vN ((endR ((textsR ((textR ((numR (Rd.mk ((((numS v 4) ++ (txS s)) ++ (tsS l)) ++ more) 0 0 (Nat.zero_le _)) 4).2)).2)).2)).2).f)] 107] [] rfl rfl hq17 (Fits.solid True.intro Fits.nil)
            refine WL.yes rfl rfl rfl (decide_eq_false (fun h => h (left_of hb41))) rfl (op_eqlN (b := 0) rfl rfl ?_)
            refine WL.yes rfl rfl rfl (decide_eq_false (fun h => h (left_of hb41))) rfl (op_move rfl ?_)
            refine WL.yes rfl rfl rfl (decide_eq_false (fun h => h (left_of hb41))) rfl (op_eqlStr rfl rfl ?_)
            refine WL.yes rfl rfl rfl (decide_eq_false (fun h => h (left_of hb41))) rfl (op_neqB Try.underlying4 rfl rfl ?_)
            refine WL.op rfl rfl (op_pickF rfl (decide_eq_false (fun h => h (left_of hb41))) rfl ?_)
            refine WL.nil ?_
            refine WQ.next ?_
            refine WC.no rfl (beq_no (end_dec hb42 hb41)) ?_
            refine WC.skip ?_
            exact WQ.here () (H17.take 0) ⟨rfl, trivial⟩
          ·
            have hc10 := of_decide_eq_false hb10
            refine WC.skip ?_
            exact WQ.here () H8 ⟨rfl, trivial⟩
        ·
          have hc9 := of_decide_eq_false hb9
          refine WL.no rfl rfl rfl hb9 rfl ?_
          refine WL.no rfl rfl rfl hb9 rfl ?_
          refine WL.op rfl rfl (op_pickF rfl hb9 rfl ?_)
          refine WL.nil ?_
          refine WQ.next ?_
          refine WC.no rfl rfl ?_
          refine WC.skip ?_
          exact WQ.here () H8 ⟨rfl, trivial⟩
      ·
        rintro ⟨⟩ w18 H18
        show WC _ _ _ _ _ [(4, (str b))] _
        refine WC.seq ?_
        refine WC.region ?_
        refine WL.op rfl rfl (op_move rfl ?_)
        refine WL.op rfl rfl (op_callF Fa.C24 rfl ((rdnew_ok b _).mono (fun e w19 hq => ?_)))
        obtain ⟨q19, rfl, hq19⟩ := hq
        refine ⟨_, rfl, ?_⟩
        have H19 : Own [] w w19 [.blk q19 [(str b), (vN 0), (vN 0)] 107] := H18.splice [] [] [.blk q19 [(str b), (vN 0), (vN 0)] 107] rfl rfl hq19 (Fits.solid True.intro Fits.nil)
        refine WL.op rfl rfl (op_assign rfl ?_)
        refine WL.nil ?_
        refine WQ.next ?_
        refine WC.seq ?_
        refine WC.region ?_
        refine WL.op rfl rfl (op_move rfl ?_)
        refine WL.op rfl rfl (op_callF Fa.C27 rfl ((rdtexts_ok q19 (Rd.mk b 0 0 (Nat.zero_le _)) 107 _ _ (H19.part [0] rfl rfl) (by first | (rw [textsR_s, textR_s, numR_s]; exact hW) | (rw [textR_s, numR_s]; exact hW) | (rw [numR_s]; exact hW) | (rw [textsR_s]; show b.length < 2 ^ 47; omega) | with_reducible exact hW | (show b.length < 2 ^ 47; omega))).mono (fun e w20 hq => ?_)))
        obtain ⟨v20, rfl, hq20⟩ := hq
        refine ⟨_, rfl, ?_⟩
        have H20 : Own [] w w20 [.blk q19 [(str ((textsR (Rd.mk b 0 0 (Nat.zero_le _))).2).s), (vN ((textsR (Rd.mk b 0 0 (Nat.zero_le _))).2).at_), (vN ((textsR (Rd.mk b 0 0 (Nat.zero_le _))).2).f)] 107, .row v20 9 1 (textsR (Rd.mk b 0 0 (Nat.zero_le _))).1.1.length (List.map str (textsR (Rd.mk b 0 0 (Nat.zero_le _))).1.1)] := H19.splice [0] [.blk q19 [(str ((textsR (Rd.mk b 0 0 (Nat.zero_le _))).2).s), (vN ((textsR (Rd.mk b 0 0 (Nat.zero_le _))).2).at_), (vN ((textsR (Rd.mk b 0 0 (Nat.zero_le _))).2).f)] 107] [.row v20 9 1 (textsR (Rd.mk b 0 0 (Nat.zero_le _))).1.1.length (List.map str (textsR (Rd.mk b 0 0 (Nat.zero_le _))).1.1)] rfl rfl hq20 (Fits.solid True.intro (Fits.solid True.intro Fits.nil))
        refine WL.op rfl rfl (op_move rfl ?_)
        refine WL.op rfl rfl (op_extract rfl rfl ?_)
        refine WL.op rfl rfl (op_extract rfl rfl ?_)
        refine WL.op rfl rfl (op_assign rfl ?_)
        refine WL.op rfl rfl (op_assign rfl ?_)
        refine WL.nil ?_
        refine WQ.next ?_
        refine WC.seq ?_
        refine WC.seq ?_
        refine WC.region ?_
        refine WL.op rfl rfl (op_move rfl ?_)
        refine WL.op rfl rfl (op_neqN (b := 0) rfl rfl ?_)
        refine WL.nil ?_
        refine WQ.next ?_
        refine WC.cond rfl (fun (hb21 : (decide ((textsR (Rd.mk b 0 0 (Nat.zero_le _))).1.2 ≠ 0)) = true) => ?_) (fun (hb21 : (decide ((textsR (Rd.mk b 0 0 (Nat.zero_le _))).1.2 ≠ 0)) = false) => ?_)
        ·
          have hc21 := of_decide_eq_true hb21
          refine WC.seq ?_
          refine WC.region ?_
          refine WL.op rfl rfl (op_move rfl ?_)
          refine WL.op rfl rfl (op_callF Fa.C28 rfl ((rleft_ok q19 ((textsR (Rd.mk b 0 0 (Nat.zero_le _))).2) _ (H20.cellsAt (i := 0) rfl) (by first | (rw [textsR_s, textR_s, numR_s]; exact hW) | (rw [textR_s, numR_s]; exact hW) | (rw [numR_s]; exact hW) | (rw [textsR_s]; show b.length < 2 ^ 47; omega) | with_reducible exact hW | (show b.length < 2 ^ 47; omega))).mono (fun e w22 hq => ?_)))
          obtain ⟨rfl, hf22⟩ := hq
          refine ⟨_, rfl, ?_⟩
          have H22 := H20.fr' hf22
          refine WL.op rfl rfl (op_move rfl ?_)
          refine WL.op rfl rfl (op_lenStr Try.underlying9 rfl ?_)
          refine WL.op rfl rfl (op_eqlN rfl rfl ?_)
          refine WL.op rfl rfl (op_move rfl ?_)
          refine WL.yes rfl rfl rfl (decide_eq_true (by rw [textsR_s, (texts_fail hc21).1]; rfl)) rfl (op_move rfl ?_)
          refine WL.yes rfl rfl rfl (decide_eq_true (by rw [textsR_s, (texts_fail hc21).1]; rfl)) rfl (op_lenA Try.underlying23 rfl (H22.arrR (i := 1) rfl) ?_)
          refine WL.yes rfl rfl rfl (decide_eq_true (by rw [textsR_s, (texts_fail hc21).1]; rfl)) rfl (op_eqlN (b := 0) rfl rfl ?_)
          refine WL.op rfl rfl (op_pickT rfl (decide_eq_true (by rw [textsR_s, (texts_fail hc21).1]; rfl)) rfl ?_)
          refine WL.op rfl rfl (op_move rfl ?_)
          refine WL.yes rfl rfl rfl (decide_eq_true (by rw [(texts_fail hc21).2]; rfl)) rfl (op_callF Fa.C16 rfl ((alive07_ok _).mono (fun e w23 hq => ?_)))
          obtain ⟨rfl, hf23⟩ := hq
          refine ⟨_, rfl, ?_⟩
          have H23 := H22.fr' hf23
          refine WL.op rfl rfl (op_pickT rfl (decide_eq_true (by rw [(texts_fail hc21).2]; rfl)) rfl ?_)
          refine WL.op rfl rfl (op_assign rfl ?_)
          refine WL.nil ?_
          refine WQ.next ?_
          refine WC.ret ?_
          refine WQ.thenRet ?_
          refine WQ.out (.tmp rfl .nil) ?_
          exact ⟨rfl, H23.fr⟩
        ·
          have hc21 := of_decide_eq_false hb21
          have hE := hc21
          refine WC.skip ?_
          refine WQ.next ?_
          refine WC.seq ?_
          refine WC.seq ?_
          refine WC.region ?_
          refine WL.op rfl rfl (op_move rfl ?_)
          refine WL.op rfl rfl (op_callF Fa.C28 rfl ((rleft_ok q19 ((textsR (Rd.mk b 0 0 (Nat.zero_le _))).2) _ (H20.cellsAt (i := 0) rfl) (by first | (rw [textsR_s, textR_s, numR_s]; exact hW) | (rw [textR_s, numR_s]; exact hW) | (rw [numR_s]; exact hW) | (rw [textsR_s]; show b.length < 2 ^ 47; omega) | with_reducible exact hW | (show b.length < 2 ^ 47; omega))).mono (fun e w24 hq => ?_)))
          obtain ⟨rfl, hf24⟩ := hq
          refine ⟨_, rfl, ?_⟩
          have H24 := H20.fr' hf24
          refine WL.op rfl rfl (op_move rfl ?_)
          refine WL.op rfl rfl (op_lenStr Try.underlying9 rfl ?_)
          refine WL.op rfl rfl (op_gtrN rfl rfl ?_)
          refine WL.op rfl rfl (op_move rfl ?_)
          refine WL.yes rfl rfl rfl (decide_eq_false (by rw [textsR_s]; exact Nat.not_lt.2 (Nat.sub_le _ _))) rfl (op_move rfl ?_)
          refine WL.yes rfl rfl rfl (decide_eq_false (by rw [textsR_s]; exact Nat.not_lt.2 (Nat.sub_le _ _))) rfl (op_callF Fa.C28 rfl ((rleft_ok q19 ((textsR (Rd.mk b 0 0 (Nat.zero_le _))).2) _ (H24.cellsAt (i := 0) rfl) (by first | (rw [textsR_s, textR_s, numR_s]; exact hW) | (rw [textR_s, numR_s]; exact hW) | (rw [numR_s]; exact hW) | (rw [textsR_s]; show b.length < 2 ^ 47; omega) | with_reducible exact hW | (show b.length < 2 ^ 47; omega))).mono (fun e w25 hq => ?_)))
          obtain ⟨rfl, hf25⟩ := hq
          refine ⟨_, rfl, ?_⟩
          have H25 := H24.fr' hf25
          refine WL.yes rfl rfl rfl (decide_eq_false (by rw [textsR_s]; exact Nat.not_lt.2 (Nat.sub_le _ _))) rfl (op_lssN (b := 0) rfl rfl ?_)
          refine WL.op rfl rfl (op_pickF rfl (decide_eq_false (by rw [textsR_s]; exact Nat.not_lt.2 (Nat.sub_le _ _))) rfl ?_)
          refine WL.nil ?_
          refine WQ.next ?_
          refine WC.no rfl (decide_eq_false (Nat.not_lt_zero _)) ?_
          refine WC.skip ?_
          refine WQ.next ?_
          refine WC.seq ?_
          refine WC.region ?_
          refine WL.op rfl rfl (op_move rfl ?_)
          refine WL.op rfl rfl (op_callF Fa.C21 rfl ((ptexts_ok _ ((textsR (Rd.mk b 0 0 (Nat.zero_le _))).1.1) _ _ (H25.arrR (i := 1) rfl) (by first | exact ⟨by omega, fun x hx => Nat.lt_of_le_of_lt (hB x hx) (by decide)⟩ | exact ⟨textsR_len _, fun x hx => Nat.lt_of_le_of_lt ((tsS_eq (texts_inv (Decidable.not_not.mp hE)).1).2.2 x hx) (by decide)⟩)).mono (fun e w26 hq => ?_)))
          obtain ⟨rfl, hf26⟩ := hq
          refine ⟨_, rfl, ?_⟩
          have H26 := H25.fr' hf26
          refine WL.op rfl rfl (op_move rfl ?_)
          refine WL.op rfl rfl (op_extract rfl rfl ?_)
          refine WL.op rfl rfl (op_extract rfl rfl ?_)
          refine WL.op rfl rfl (op_assign rfl ?_)
          refine WL.op rfl rfl (op_assign rfl ?_)
          refine WL.nil ?_
          refine WQ.next ?_
          refine WC.seq ?_
          refine WC.region ?_
          refine WL.op rfl rfl (op_move rfl ?_)
          refine WL.op rfl rfl (op_eqlN (b := 0) rfl rfl ?_)
          refine WL.op rfl rfl (op_move rfl ?_)
          refine WL.yes rfl rfl rfl (decide_eq_true ((texts_inv (Decidable.not_not.mp hc21)).1)) rfl (op_move rfl ?_)
          refine WL.yes rfl rfl rfl (decide_eq_true ((texts_inv (Decidable.not_not.mp hc21)).1)) rfl (op_move rfl ?_)
          refine WL.yes rfl rfl rfl (decide_eq_true ((texts_inv (Decidable.not_not.mp hc21)).1)) rfl (op_move rfl ?_)
          refine WL.yes rfl rfl rfl (decide_eq_true ((texts_inv (Decidable.not_not.mp hc21)).1)) rfl (op_lenStr Try.underlying9 rfl ?_)
          refine WL.yes rfl rfl rfl (decide_eq_true ((texts_inv (Decidable.not_not.mp hc21)).1)) rfl (op_move rfl ?_)
          refine WL.yes rfl rfl rfl (decide_eq_true ((texts_inv (Decidable.not_not.mp hc21)).1)) rfl (op_callF Fa.C28 rfl ((rleft_ok q19 ((textsR (Rd.mk b 0 0 (Nat.zero_le _))).2) _ (H26.cellsAt (i := 0) rfl) (by first | (rw [textsR_s, textR_s, numR_s]; exact hW) | (rw [textR_s, numR_s]; exact hW) | (rw [numR_s]; exact hW) | (rw [textsR_s]; show b.length < 2 ^ 47; omega) | with_reducible exact hW | (show b.length < 2 ^ 47; omega))).mono (fun e w27 hq => ?_)))
          obtain ⟨rfl, hf27⟩ := hq
          refine ⟨_, rfl, ?_⟩
          have H27 := H26.fr' hf27
          refine WL.yes rfl rfl rfl (decide_eq_true ((texts_inv (Decidable.not_not.mp hc21)).1)) rfl (op_subN rfl rfl (by rw [textsR_s]; exact Nat.sub_le _ _) (by omega) ?_)
          refine WL.yes rfl rfl rfl (decide_eq_true ((texts_inv (Decidable.not_not.mp hc21)).1)) rfl (op_sliceStrHi Try.underlying9 rfl rfl (Nat.sub_le _ _) ?_)
          refine WL.yes rfl rfl rfl (decide_eq_true ((texts_inv (Decidable.not_not.mp hc21)).1)) rfl (op_eqlStr rfl rfl ?_)
          refine WL.op rfl rfl (op_pickT rfl (decide_eq_true ((texts_inv (Decidable.not_not.mp hc21)).1)) rfl ?_)
          refine WL.op rfl rfl (op_move rfl ?_)
          refine WL.yes rfl rfl rfl (decide_eq_true (cut_dec (Decidable.not_not.mp hc21))) rfl (op_callF Fa.C16 rfl ((alive07_ok _).mono (fun e w28 hq => ?_)))
          obtain ⟨rfl, hf28⟩ := hq
          refine ⟨_, rfl, ?_⟩
          have H28 := H27.fr' hf28
          refine WL.op rfl rfl (op_pickT rfl (decide_eq_true (cut_dec (Decidable.not_not.mp hc21))) rfl ?_)
          refine WL.op rfl rfl (op_assign rfl ?_)
          refine WL.nil ?_
          refine WQ.next ?_
          refine WC.ret ?_
          refine WQ.out (.tmp rfl .nil) ?_
          exact ⟨rfl, H28.fr⟩
end Go.Proofs.Ytpnghdalnghpcaa
