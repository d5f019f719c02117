/- The claim's row and what it hangs on: RObjNames. No condition but what each theorem names. -/
import Derived.Test.YtnngbnenekjffaaDoorQ5a7b59a1
import Derived.Test.YtnngbnenekjffaaDoorQd7d0c99d
import Derived.Lay
import Derived.Test.YtnngbnenekjffaaDoorTie
import Derived.Test.YtnngbnenekjffaaDoorCards
import Derived.LaidMore
import Derived.SevenTiedAt
import Derived.Stop.Joined
/-! from RObjNames -/
/- The second form's row of ObjNames: whatever the input of bounded bulk, true; the input reads as it did. No condition but the form's own. -/
namespace Go.Proofs.YtnngbnenekjffaaDoor
open Go.Owl Go.Spec Go.ChangeShapes Go.WideShapes Go.RowKit Go.ChangeAt
theorem objNames_own : ownKnob Tryd.prog.godebug = none := by kernel_rfl
theorem objNames_laidOut : laidOutB Tryd.prog = true := by kernel_rfl
theorem objNames_reads (os : Os) {H : Type} (enc : TypeId × Value → H) : ∃ places, DataW.whole enc Tryd.prog ((World.laidAll Tryd.prog os Rows.objNamesUptoRow.laid).forCall (fun _ _ => 0) ⟨#[], #[.slice none 0 0], []⟩).memory Tryd.f9.params.toList (Rows.OpenSpec.upto Rows.objNamesSpec).vars false (#[.slice none 0 0] : Array Value).toList 8 = some ([.nil], [], places) :=
  ⟨[], by kernel_rfl⟩
set_option maxHeartbeats 1000000 in
set_option maxRecDepth 100000 in
theorem objNames_lifted (os : Os) (started : os.Started) (H : Type) (enc : TypeId × Value → H) (F : Stop.Interp) :
    ReturnsInHanded {} Tryd.checked os 9 .any ((Rows.OpenSpec.upto Rows.objNamesSpec).preRow enc Tryd.prog Tryd.f9 Rows.objNamesUptoRow.domain false Rows.objNamesUptoRow.laid) (((Rows.OpenSpec.upto Rows.objNamesSpec).at F).post enc Tryd.prog Tryd.f9 false true false false) := by
  obtain ⟨places, hx⟩ := objNames_reads os enc
  refine row_upto (C := Tryd.checked) (s := Rows.objNamesSpec) (tb := 4) objNames_own started (by kernel_rfl) Tryd.func9
    (witness_upto (enc := enc) (C := Tryd.checked) (os := os) false (World.laidAll Tryd.prog os Rows.objNamesUptoRow.laid) #[.slice none 0 0] 8 (World.laidAll_os _ _ _)
      (World.shaped_of_ZipB (by kernel_rfl) (by kernel_rfl)) (by kernel_rfl) hx (by kernel_rfl) (by kernel_rfl) (by kernel_rfl)
      (by rw [MakeChecks.laidMetH_plain _ _ _ (by kernel_rfl)]; exact laidMet_laidAll _ (by kernel_rfl) (by kernel_rfl)))
    objNames_laidOut rfl rfl ?_ rfl Tryd.underlying4 (by kernel_rfl) ?_
  · intro ds h
    match ds, h with
    | [_], _ => exact ⟨rfl, rfl, rfl⟩
  · intro W base args ds ps hval0 hA0 hwt0 hbk0
    have hval : ∀ (j : Nat) t v, Tryd.f9.params[j]? = some t → args[j]? = some v → Value.okWide Tryd.prog W .any base t v := hval0
    have hA : DataW.TrodAll enc Tryd.prog W 0 (fun _ => true) true Tryd.f9.params.toList args.toList ds ps := hA0
    have hwt : ∀ k ∈ DataW.weightsEach Tryd.prog Tryd.f9.params.toList ds, k ≤ reachBytes := hwt0
    clear hA0 hval0 hwt0
    have hbk := hbk0
    rw [Tryd.params9] at hA hval hwt
    obtain ⟨al⟩ := args
    obtain ⟨v0, r0, d0, e0, p0, q0, hal, rfl, rfl, h0, hA0⟩ := trodAll_cons hA
    have hal : al = v0 :: r0 := hal
    subst hal
    obtain ⟨rfl, rfl, rfl⟩ := trodAll_nil hA0
    simp only [bulkAll_cons] at hbk
    obtain ⟨⟨lv, l⟩, rfl, ⟨hA, hI, -, hl⟩⟩ := argU_scal (opensU_slice (by_ := 40) (sz := 2) Tryd.underlying78 (OpensU.map (opensU_struct (fs := [_, _]) Tryd.underlying32 (by kernel_rfl) (opensFU_cons (k := 1) (by rfl) (by kernel_rfl) (opensU_str Tryd.underlying9) (opensFU_cons (k := 1) (by rfl) (by kernel_rfl) (opensU_slice (by_ := 88) (sz := 7) Tryd.underlying30 (OpensU.map (opensU_struct (fs := [_, _, _, _, _, _, _]) Tryd.underlying26 (by kernel_rfl) (opensFU_cons (k := 1) (by rfl) (by kernel_rfl) (opensU_str Tryd.underlying9) (opensFU_cons (k := 1) (by rfl) (by kernel_rfl) (opens_u8 Tryd.underlying5).up (opensFU_cons (k := 1) (by rfl) (by kernel_rfl) (opens_u8 Tryd.underlying5).up (opensFU_cons (k := 1) (by rfl) (by kernel_rfl) (opens_u32 Tryd.underlying22).up (opensFU_cons (k := 1) (by rfl) (by kernel_rfl) (opensU_str Tryd.underlying9) (opensFU_cons (k := 1) (by rfl) (by kernel_rfl) (opensU_slice (by_ := 32) (sz := 4) Tryd.underlying23 (OpensU.map (opensU_struct (fs := [_, _, _, _]) Tryd.underlying44 (by kernel_rfl) (opensFU_cons (k := 1) (by rfl) (by kernel_rfl) (opens_u32 Tryd.underlying22).up (opensFU_cons (k := 1) (by rfl) (by kernel_rfl) (opens_u8 Tryd.underlying5).up (opensFU_cons (k := 1) (by rfl) (by kernel_rfl) (opensU_str Tryd.underlying9) (opensFU_cons (k := 1) (by rfl) (by kernel_rfl) (opens_u32 Tryd.underlying22).up opensFU_nil))))) (f' := rlc) (ok' := fun _ a => a.nm.length ≤ 1048576) (fun p => Rl.mk p.1 p.2.1 p.2.2.1 p.2.2.2.1) (fun _ => rfl) (fun _ _ h => h.2.2.1)) (fun _ => rfl) (by kernel_rfl) (by decide) (by kernel_rfl)) (opensFU_cons (k := 1) (by rfl) (by kernel_rfl) (opensU_slice (by_ := 12) (sz := 3) Tryd.underlying24 (OpensU.map (opensU_struct (fs := [_, _, _]) Tryd.underlying68 (by kernel_rfl) (opensFU_cons (k := 1) (by rfl) (by kernel_rfl) (opens_u8 Tryd.underlying5).up (opensFU_cons (k := 1) (by rfl) (by kernel_rfl) (opens_u32 Tryd.underlying22).up (opensFU_cons (k := 1) (by rfl) (by kernel_rfl) (opens_u32 Tryd.underlying22).up opensFU_nil)))) (f' := ntc) (ok' := fun _ _ => True) (fun p => Nt.mk p.1 p.2.1 p.2.2.1) (fun _ => rfl) (fun _ _ _ => True.intro)) (fun _ => rfl) (by kernel_rfl) (by decide) (by kernel_rfl)) opensFU_nil)))))))) (f' := syc) (ok' := fun w a => SyD.ok w a ∧ FitY a) (fun p => Sy.mk p.1 p.2.1 p.2.2.1 p.2.2.2.1 p.2.2.2.2.1 p.2.2.2.2.2.1.1 p.2.2.2.2.2.1.2 p.2.2.2.2.2.2.1.1 p.2.2.2.2.2.2.1.2) (fun _ => rfl) (fun w p h => ⟨⟨h.2.2.2.2.2.1.1, h.2.2.2.2.2.2.1.1⟩, h.1, h.2.2.2.2.1, h.2.2.2.2.2.1.2.2.2, h.2.2.2.2.2.2.1.2.2.2, h.2.2.2.2.2.1.2.1⟩)) (fun _ => rfl) (by kernel_rfl) (by decide) (by kernel_rfl)) opensFU_nil))) (f' := obc) (ok' := fun w a => ObD.ok w a ∧ FitU a) (fun p => Ob.mk p.1 p.2.1.1 p.2.1.2) (fun _ => rfl) (fun w p h => ⟨⟨h.2.1.1, fun x hx => (h.2.1.2.1 x hx).1⟩, h.1, h.2.1.2.2.2, fun x hx => (h.2.1.2.1 x hx).2⟩)) (fun _ => rfl) (by kernel_rfl) (by decide) (by kernel_rfl)) (by rw [Tryd.underlying78]) (hval 0 78 v0 rfl rfl) h0 (fun k hk => hwt k (List.mem_append.2 (.inl hk))) (by omega)
    exact objNames_ok v0 l W hA (fun o ho => (hI o ho).1) (fun o ho => (hI o ho).2) (Nat.lt_of_le_of_lt hl (by decide))
theorem objNames_row : Rows.ObjNamesUptoSaid :=
  OpenClaim.holds_of_cond 9 Tryd.f9 rfl rfl rfl rfl rfl rfl rfl ⟨rfl, rfl, rfl, rfl, rfl⟩ rfl rfl rfl rfl rfl (by kernel_rfl) Tryd.func9 (by kernel_rfl)
    (of_decide_eq_true (by kernel_rfl)) (by unfold Func.isWrapper; first | (rw [if_pos (by decide +kernel)]; kernel_rfl) | (rw [if_neg (by decide +kernel)]; exact ⟨rfl, rfl⟩))
    (fun os started H enc _ F => by rw [OpenClaim.pre_eq_preRow]; exact objNames_lifted os started H enc F)
theorem objNames_holds : Rows.ObjNamesUptoCardSaid :=
  Claim7.holds_tied_plain_at .later [] [.data, .pinned] true (true, "14443d74ca080b61ca5d50fbed322ed9a2b47a6208a4ee0c97f07433584a6a1b") false objNames_row (fun _ h => by cases h) (by kernel_rfl) (fun _ h => by cases h) objNamesUpto_row_tie rfl ⟨rfl, rfl⟩ (by kernel_rfl) rfl
    (fun f fn hf hfn => by
      obtain rfl : f = 9 := Option.some.inj ((show Tryd.prog.funcNamed "aedicule/aediculelaw08.ObjNames" = some 9 by kernel_rfl).symm.trans hf) |>.symm
      obtain rfl : fn = Tryd.f9 := (Option.some.inj (Tryd.func9.symm.trans hfn)).symm
      exact ⟨by kernel_rfl, fun j t ht => by
        rw [Tryd.params9] at ht
        have hm : t ∈ [78] := by simpa using Array.mem_of_getElem? ht
        have hall : ([78].all fun u => !Tryd.prog.wantsStandIn u) = true := by kernel_rfl
        exact (show Tryd.prog.wantsStandIn t = false by simpa using List.all_eq_true.1 hall t hm)⟩)
    (by kernel_rfl)
end Go.Proofs.YtnngbnenekjffaaDoor
