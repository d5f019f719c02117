/- The claim's row and what it hangs on: RObjMay. No condition but what each theorem names. -/
import Derived.Test.YtnngbnenekjffaaDoorQc7c352c2
import Derived.Test.YtnngbnenekjffaaDoorQ2ad7965d
import Derived.Lay
import Derived.Test.YtnngbnenekjffaaDoorTie
import Derived.Test.YtnngbnenekjffaaDoorCards
import Derived.LaidMore
import Derived.SevenTiedAt
import Derived.Stop.Joined
/-! from RObjMay -/
/- The second form's row of ObjMay: whatever the input of bounded bulk, true; the input reads as it did. No condition but the form's own. -/
namespace Go.Proofs.YtnngbnenekjffaaDoor
open Go.Owl Go.Spec Go.ChangeShapes Go.WideShapes Go.RowKit Go.ChangeAt
theorem objMay_own : ownKnob Tryd.prog.godebug = none := by kernel_rfl
theorem objMay_laidOut : laidOutB Tryd.prog = true := by kernel_rfl
theorem objMay_reads (os : Os) {H : Type} (enc : TypeId × Value → H) : ∃ places, DataW.whole enc Tryd.prog ((World.laidAll Tryd.prog os Rows.objMayUptoRow.laid).forCall (fun _ _ => 0) ⟨#[], #[.agg #[.string ⟨#[]⟩, .slice none 0 0], .agg #[.int .u8 0, .int .u32 0, .int .u32 0], .string ⟨#[]⟩], []⟩).memory Tryd.f8.params.toList (Rows.OpenSpec.upto Rows.objMaySpec).vars false (#[.agg #[.string ⟨#[]⟩, .slice none 0 0], .agg #[.int .u8 0, .int .u32 0, .int .u32 0], .string ⟨#[]⟩] : Array Value).toList 8 = some ([.agg [.lit (.string []), .nil], .agg [.lit (.int .u8 0), .lit (.int .u32 0), .lit (.int .u32 0)], .lit (.string [])], [], places) :=
  ⟨[], by kernel_rfl⟩
set_option maxHeartbeats 1000000 in
set_option maxRecDepth 100000 in
theorem objMay_lifted (os : Os) (started : os.Started) (H : Type) (enc : TypeId × Value → H) (F : Stop.Interp) :
    ReturnsInHanded {} Tryd.checked os 8 .any ((Rows.OpenSpec.upto Rows.objMaySpec).preRow enc Tryd.prog Tryd.f8 Rows.objMayUptoRow.domain false Rows.objMayUptoRow.laid) (((Rows.OpenSpec.upto Rows.objMaySpec).at F).post enc Tryd.prog Tryd.f8 false true false false) := by
  obtain ⟨places, hx⟩ := objMay_reads os enc
  refine row_upto (C := Tryd.checked) (s := Rows.objMaySpec) (tb := 4) objMay_own started (by kernel_rfl) Tryd.func8
    (witness_upto (enc := enc) (C := Tryd.checked) (os := os) false (World.laidAll Tryd.prog os Rows.objMayUptoRow.laid) #[.agg #[.string ⟨#[]⟩, .slice none 0 0], .agg #[.int .u8 0, .int .u32 0, .int .u32 0], .string ⟨#[]⟩] 8 (World.laidAll_os _ _ _)
      (World.shaped_of_ZipB (by kernel_rfl) (by kernel_rfl)) (by kernel_rfl) hx (by kernel_rfl) (by kernel_rfl) (by kernel_rfl)
      (by rw [MakeChecks.laidMetH_plain _ _ _ (by kernel_rfl)]; exact laidMet_laidAll _ (by kernel_rfl) (by kernel_rfl)))
    objMay_laidOut rfl rfl ?_ rfl Tryd.underlying4 (by kernel_rfl) ?_
  · intro ds h
    match ds, h with
    | [_, _, _], _ => exact ⟨rfl, rfl, rfl⟩
  · intro W base args ds ps hval0 hA0 hwt0 hbk0
    have hval : ∀ (j : Nat) t v, Tryd.f8.params[j]? = some t → args[j]? = some v → Value.okWide Tryd.prog W .any base t v := hval0
    have hA : DataW.TrodAll enc Tryd.prog W 0 (fun _ => true) true Tryd.f8.params.toList args.toList ds ps := hA0
    have hwt : ∀ k ∈ DataW.weightsEach Tryd.prog Tryd.f8.params.toList ds, k ≤ reachBytes := hwt0
    clear hA0 hval0 hwt0
    have hbk := hbk0
    rw [Tryd.params8] at hA hval hwt
    obtain ⟨al⟩ := args
    obtain ⟨v0, r0, d0, e0, p0, q0, hal, rfl, rfl, h0, hA0⟩ := trodAll_cons hA
    have hal : al = v0 :: r0 := hal
    subst hal
    obtain ⟨v1, r1, d1, e1, p1, q1, rfl, rfl, rfl, h1, hA1⟩ := trodAll_cons hA0
    obtain ⟨v2, r2, d2, e2, p2, q2, rfl, rfl, rfl, h2, hA2⟩ := trodAll_cons hA1
    obtain ⟨rfl, rfl, rfl⟩ := trodAll_nil hA2
    simp only [bulkAll_cons] at hbk
    obtain ⟨⟨nm, ⟨lv, l⟩, ⟨⟩⟩, rfl, ⟨hnm, ⟨hAl, hI, -, hl⟩, -⟩⟩ := argU_struct Tryd.underlying32 (opensU_struct (fs := [_, _]) Tryd.underlying32 (by kernel_rfl) (opensFU_cons (k := 1) (by rfl) (by kernel_rfl) (opensU_str Tryd.underlying9) (opensFU_cons (k := 1) (by rfl) (by kernel_rfl) (opensU_slice (by_ := 88) (sz := 7) Tryd.underlying30 (OpensU.map (opensU_struct (fs := [_, _, _, _, _, _, _]) Tryd.underlying26 (by kernel_rfl) (opensFU_cons (k := 1) (by rfl) (by kernel_rfl) (opensU_str Tryd.underlying9) (opensFU_cons (k := 1) (by rfl) (by kernel_rfl) (opens_u8 Tryd.underlying5).up (opensFU_cons (k := 1) (by rfl) (by kernel_rfl) (opens_u8 Tryd.underlying5).up (opensFU_cons (k := 1) (by rfl) (by kernel_rfl) (opens_u32 Tryd.underlying22).up (opensFU_cons (k := 1) (by rfl) (by kernel_rfl) (opensU_str Tryd.underlying9) (opensFU_cons (k := 1) (by rfl) (by kernel_rfl) (opensU_slice (by_ := 32) (sz := 4) Tryd.underlying23 (OpensU.map (opensU_struct (fs := [_, _, _, _]) Tryd.underlying44 (by kernel_rfl) (opensFU_cons (k := 1) (by rfl) (by kernel_rfl) (opens_u32 Tryd.underlying22).up (opensFU_cons (k := 1) (by rfl) (by kernel_rfl) (opens_u8 Tryd.underlying5).up (opensFU_cons (k := 1) (by rfl) (by kernel_rfl) (opensU_str Tryd.underlying9) (opensFU_cons (k := 1) (by rfl) (by kernel_rfl) (opens_u32 Tryd.underlying22).up opensFU_nil))))) (f' := rlc) (ok' := fun _ a => a.nm.length ≤ 1048576) (fun p => Rl.mk p.1 p.2.1 p.2.2.1 p.2.2.2.1) (fun _ => rfl) (fun _ _ h => h.2.2.1)) (fun _ => rfl) (by kernel_rfl) (by decide) (by kernel_rfl)) (opensFU_cons (k := 1) (by rfl) (by kernel_rfl) (opensU_slice (by_ := 12) (sz := 3) Tryd.underlying24 (OpensU.map (opensU_struct (fs := [_, _, _]) Tryd.underlying68 (by kernel_rfl) (opensFU_cons (k := 1) (by rfl) (by kernel_rfl) (opens_u8 Tryd.underlying5).up (opensFU_cons (k := 1) (by rfl) (by kernel_rfl) (opens_u32 Tryd.underlying22).up (opensFU_cons (k := 1) (by rfl) (by kernel_rfl) (opens_u32 Tryd.underlying22).up opensFU_nil)))) (f' := ntc) (ok' := fun _ _ => True) (fun p => Nt.mk p.1 p.2.1 p.2.2.1) (fun _ => rfl) (fun _ _ _ => True.intro)) (fun _ => rfl) (by kernel_rfl) (by decide) (by kernel_rfl)) opensFU_nil)))))))) (f' := syc) (ok' := fun w a => SyD.ok w a ∧ FitY a) (fun p => Sy.mk p.1 p.2.1 p.2.2.1 p.2.2.2.1 p.2.2.2.2.1 p.2.2.2.2.2.1.1 p.2.2.2.2.2.1.2 p.2.2.2.2.2.2.1.1 p.2.2.2.2.2.2.1.2) (fun _ => rfl) (fun w p h => ⟨⟨h.2.2.2.2.2.1.1, h.2.2.2.2.2.2.1.1⟩, h.1, h.2.2.2.2.1, h.2.2.2.2.2.1.2.2.2, h.2.2.2.2.2.2.1.2.2.2, h.2.2.2.2.2.1.2.1⟩)) (fun _ => rfl) (by kernel_rfl) (by decide) (by kernel_rfl)) opensFU_nil))) (hval 0 32 v0 rfl rfl) h0 (fun k hk => hwt k (List.mem_append.2 (.inl hk))) (by omega)
    obtain ⟨⟨k, n, q, ⟨⟩⟩, rfl, -⟩ := argU_struct Tryd.underlying68 (opensU_struct (fs := [_, _, _]) Tryd.underlying68 (by kernel_rfl) (opensFU_cons (k := 1) (by rfl) (by kernel_rfl) (opens_u8 Tryd.underlying5).up (opensFU_cons (k := 1) (by rfl) (by kernel_rfl) (opens_u32 Tryd.underlying22).up (opensFU_cons (k := 1) (by rfl) (by kernel_rfl) (opens_u32 Tryd.underlying22).up opensFU_nil)))) (hval 1 68 v1 rfl rfl) h1 (fun k hk => hwt k (List.mem_append.2 (.inr (List.mem_append.2 (.inl hk))))) (by omega)
    obtain ⟨s, rfl, -⟩ := argU_scal (opensU_str Tryd.underlying9) (by rw [Tryd.underlying9]) (hval 2 9 v2 rfl rfl) h2 (fun k hk => hwt k (List.mem_append.2 (.inr (List.mem_append.2 (.inr (List.mem_append.2 (.inl hk))))))) (by omega)
    exact objMay_ok nm lv l (Nt.mk k n q) s W hAl (fun x hx => (hI x hx).1) ⟨hnm, hl, fun x hx => (hI x hx).2⟩
theorem objMay_row : Rows.ObjMayUptoSaid :=
  OpenClaim.holds_of_cond 8 Tryd.f8 rfl rfl rfl rfl rfl rfl rfl ⟨rfl, rfl, rfl, rfl, rfl⟩ rfl rfl rfl rfl rfl (by kernel_rfl) Tryd.func8 (by kernel_rfl)
    (of_decide_eq_true (by kernel_rfl)) (by unfold Func.isWrapper; first | (rw [if_pos (by decide +kernel)]; kernel_rfl) | (rw [if_neg (by decide +kernel)]; exact ⟨rfl, rfl⟩))
    (fun os started H enc _ F => by rw [OpenClaim.pre_eq_preRow]; exact objMay_lifted os started H enc F)
theorem objMay_holds : Rows.ObjMayUptoCardSaid :=
  Claim7.holds_tied_plain_at .later [] [.data, .pinned] true (true, "14443d74ca080b61ca5d50fbed322ed9a2b47a6208a4ee0c97f07433584a6a1b") false objMay_row (fun _ h => by cases h) (by kernel_rfl) (fun _ h => by cases h) objMayUpto_row_tie rfl ⟨rfl, rfl⟩ (by kernel_rfl) rfl
    (fun f fn hf hfn => by
      obtain rfl : f = 8 := Option.some.inj ((show Tryd.prog.funcNamed "aedicule/aediculelaw08.ObjMay" = some 8 by kernel_rfl).symm.trans hf) |>.symm
      obtain rfl : fn = Tryd.f8 := (Option.some.inj (Tryd.func8.symm.trans hfn)).symm
      exact ⟨by kernel_rfl, fun j t ht => by
        rw [Tryd.params8] at ht
        have hm : t ∈ [32, 68, 9] := by simpa using Array.mem_of_getElem? ht
        have hall : ([32, 68, 9].all fun u => !Tryd.prog.wantsStandIn u) = true := by kernel_rfl
        exact (show Tryd.prog.wantsStandIn t = false by simpa using List.all_eq_true.1 hall t hm)⟩)
    (by kernel_rfl)
end Go.Proofs.YtnngbnenekjffaaDoor
