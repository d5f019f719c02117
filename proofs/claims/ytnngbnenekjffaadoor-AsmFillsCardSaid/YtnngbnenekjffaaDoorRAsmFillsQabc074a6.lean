/- The claim's row and what it hangs on: RAsmFills. No condition but what each theorem names. -/
import Derived.Test.YtnngbnenekjffaaDoorQ6ec39a5f
import Derived.Test.YtnngbnenekjffaaDoorQ2c38b889
import Derived.Test.YtnngbnenekjffaaDoorTie
import Derived.Test.YtnngbnenekjffaaDoorCards
import Derived.LaidMore
import Derived.SevenTiedAt
import Derived.Stop.Joined
/-! from RAsmFills -/
/- The row of AsmFills: whatever the input, true; the input reads as it did. No condition but the form's own. -/
namespace Go.Proofs.YtnngbnenekjffaaDoor
open Go.Owl Go.Spec Go.ChangeShapes Go.WideShapes Go.RowKit Go.ChangeAt
theorem asmFills_own : ownKnob Tryd.prog.godebug = none := by kernel_rfl
theorem asmFills_laidOut : laidOutB Tryd.prog = true := by kernel_rfl
set_option maxRecDepth 100000 in
theorem asmFills_lifted (os : Os) (started : os.Started) (H : Type) (enc : TypeId × Value → H) :
    ReturnsInHanded {} Tryd.checked os 7 .any (fun w args => (Rows.asmFillsSpec.pre enc Tryd.prog Tryd.f7 Rows.asmFillsRow.domain false w args ∧ laidMetH Tryd.prog Rows.asmFillsRow.laid w) ∧ sizedMet enc Tryd.prog Tryd.f7 (OpenSpec.ofChange Rows.asmFillsSpec) false w args) (Rows.asmFillsSpec.post enc Tryd.prog Tryd.f7 false true false false) := by
  refine row_laid (C := Tryd.checked) (X := fun w _ => laidMetH Tryd.prog Rows.asmFillsRow.laid w) (fun _ _ _ hh h => h.of_heap hh) (tb := 4) asmFills_own started (by kernel_rfl) Tryd.func7
    (ChangeSpec.witness_shaped (enc := enc) (C := Tryd.checked) (os := os) (X := fun w _ => laidMetH Tryd.prog Rows.asmFillsRow.laid w) false (World.laidAll Tryd.prog os Rows.asmFillsRow.laid) #[.slice none 0 0, .int .u32 0, .int .u32 0] 8 (World.laidAll_os _ _ _)
      (World.shaped_of_ZipB (by kernel_rfl) (by kernel_rfl)) (by kernel_rfl) (by kernel_rfl) (by kernel_rfl)
      (by rw [MakeChecks.laidMetH_plain _ _ _ (by kernel_rfl)]; exact laidMet_laidAll _ (by kernel_rfl) (by kernel_rfl)))
    asmFills_laidOut rfl rfl ?_ rfl Tryd.underlying4 (by kernel_rfl) ?_
  · intro ds h
    match ds, h with
    | [_, _, _], _ => exact ⟨rfl, rfl, rfl⟩
  · intro W base args ds ps hval0 hA0 hwt0
    have hval : ∀ (j : Nat) t v, Tryd.f7.params[j]? = some t → args[j]? = some v → Value.okWide Tryd.prog W .any base t v := hval0
    have hA : DataW.TrodAll enc Tryd.prog W 0 (fun _ => true) true Tryd.f7.params.toList args.toList ds ps := hA0
    have hwt : ∀ k ∈ DataW.weightsEach Tryd.prog Tryd.f7.params.toList ds, k ≤ reachBytes := hwt0
    clear hA0 hval0 hwt0
    rw [Tryd.params7] at hA hval hwt
    obtain ⟨al⟩ := args
    obtain ⟨v0, r0, d0, e0, p0, q0, hal, rfl, rfl, h0, hA0⟩ := trodAll_cons hA
    have hal : al = v0 :: r0 := hal
    subst hal
    obtain ⟨v1, r1, d1, e1, p1, q1, rfl, rfl, rfl, h1, hA1⟩ := trodAll_cons hA0
    obtain ⟨v2, r2, d2, e2, p2, q2, rfl, rfl, rfl, h2, hA2⟩ := trodAll_cons hA1
    obtain ⟨rfl, rfl, rfl⟩ := trodAll_nil hA2
    obtain ⟨⟨lv, l⟩, rfl, hLA, hLn, hLl⟩ := arg_scal (opens_slice (by_ := 56) (sz := 8) Tryd.underlying48 (Opens.map (opens_struct (fs := [_, _, _, _]) Tryd.underlying65 (by kernel_rfl) (opensF_cons (k := 1) (by rfl) (by kernel_rfl) (opens_str Tryd.underlying9) (opensF_cons (k := 5) (by rfl) (by kernel_rfl) (opens_struct (fs := [_, _, _, _, _]) Tryd.underlying61 (by kernel_rfl) (opensF_cons (k := 1) (by rfl) (by kernel_rfl) (opens_u8 Tryd.underlying5) (opensF_cons (k := 1) (by rfl) (by kernel_rfl) (opens_u8 Tryd.underlying5) (opensF_cons (k := 1) (by rfl) (by kernel_rfl) (opens_u8 Tryd.underlying5) (opensF_cons (k := 1) (by rfl) (by kernel_rfl) (opens_u8 Tryd.underlying5) (opensF_cons (k := 1) (by rfl) (by kernel_rfl) (opens_u32 Tryd.underlying22) opensF_nil)))))) (opensF_cons (k := 1) (by rfl) (by kernel_rfl) (opens_str Tryd.underlying9) (opensF_cons (k := 1) (by rfl) (by kernel_rfl) (opens_str Tryd.underlying9) opensF_nil))))) (f' := lnc) (ok' := fun _ a => a.lb.length ≤ 140737488351232 ∧ a.to.length ≤ 140737488351232 ∧ a.nm.length ≤ 140737488351232) (fun p => Ln.mk p.1 p.2.1.1 p.2.1.2.1 p.2.1.2.2.1 p.2.1.2.2.2.1 p.2.1.2.2.2.2.1 p.2.2.1 p.2.2.2.1) (fun _ => rfl) (fun _ _ h => ⟨h.1, h.2.2.1, h.2.2.2.1⟩)) (fun _ => rfl) (by kernel_rfl) (by decide) (by kernel_rfl)) (by rw [Tryd.underlying48]) (hval 0 48 v0 rfl rfl) h0 (fun k hk => hwt k (List.mem_append.2 (.inl hk)))
    obtain ⟨own, rfl, -⟩ := arg_scal (opens_u32 Tryd.underlying22) (by rw [Tryd.underlying22]) (hval 1 22 v1 rfl rfl) h1 (fun k hk => hwt k (List.mem_append.2 (.inr (List.mem_append.2 (.inl hk)))))
    obtain ⟨oth, rfl, -⟩ := arg_scal (opens_u32 Tryd.underlying22) (by rw [Tryd.underlying22]) (hval 2 22 v2 rfl rfl) h2 (fun k hk => hwt k (List.mem_append.2 (.inr (List.mem_append.2 (.inr (List.mem_append.2 (.inl hk)))))))
    exact asmFills_ok v0 l own oth W hLA (ln_fit hLn) (by have h : l.length * 56 ≤ 140737488351232 := hLl; omega)
theorem asmFills_row : Rows.AsmFillsSaid :=
  OpenClaim.holds_of_wide 7 Tryd.f7 rfl rfl rfl rfl rfl rfl rfl ⟨rfl, rfl, rfl, rfl, rfl⟩ rfl rfl rfl rfl rfl (by kernel_rfl) Tryd.func7 (by kernel_rfl)
    (of_decide_eq_true (by kernel_rfl)) (by unfold Func.isWrapper; first | (rw [if_pos (by decide +kernel)]; kernel_rfl) | (rw [if_neg (by decide +kernel)]; exact ⟨rfl, rfl⟩))
    (fun os started H enc _ => asmFills_lifted os started H enc)
theorem asmFills_holds : Rows.AsmFillsCardSaid :=
  Claim7.holds_tied_plain_at .later [] [.data, .pinned] true (true, "14443d74ca080b61ca5d50fbed322ed9a2b47a6208a4ee0c97f07433584a6a1b") false asmFills_row (fun _ h => by cases h) (by kernel_rfl) (fun _ h => by cases h) asmFills_row_tie rfl ⟨rfl, rfl⟩ (by kernel_rfl) rfl
    (fun f fn hf hfn => by
      obtain rfl : f = 7 := Option.some.inj ((show Tryd.prog.funcNamed "aedicule/aediculelaw10.AsmFills" = some 7 by kernel_rfl).symm.trans hf) |>.symm
      obtain rfl : fn = Tryd.f7 := (Option.some.inj (Tryd.func7.symm.trans hfn)).symm
      exact ⟨by kernel_rfl, fun j t ht => by
        rw [Tryd.params7] at ht
        have hm : t ∈ [48, 22, 22] := by simpa using Array.mem_of_getElem? ht
        have hall : ([48, 22, 22].all fun u => !Tryd.prog.wantsStandIn u) = true := by kernel_rfl
        exact (show Tryd.prog.wantsStandIn t = false by simpa using List.all_eq_true.1 hall t hm)⟩)
    (by kernel_rfl)
end Go.Proofs.YtnngbnenekjffaaDoor
