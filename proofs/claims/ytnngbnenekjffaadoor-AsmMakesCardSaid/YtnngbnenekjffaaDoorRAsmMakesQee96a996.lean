/- The claim's row and what it hangs on: RAsmMakes. No condition but what each theorem names. -/
import Derived.Test.YtnngbnenekjffaaDoorQb672e9ff
import Derived.Test.YtnngbnenekjffaaDoorQ8c8fd4d1
import Derived.Test.YtnngbnenekjffaaDoorTie
import Derived.Test.YtnngbnenekjffaaDoorCards
import Derived.LaidMore
import Derived.SevenTiedAt
import Derived.Stop.Joined
/-! from RAsmMakes -/
/- The row of AsmMakes: whatever the input, true; the input reads as it did. No condition but the form's own. -/
namespace Go.Proofs.YtnngbnenekjffaaDoor
open Go.Owl Go.Spec Go.ChangeShapes Go.WideShapes Go.RowKit Go.ChangeAt
theorem asmMakes_own : ownKnob Tryd.prog.godebug = none := by kernel_rfl
theorem asmMakes_laidOut : laidOutB Tryd.prog = true := by kernel_rfl
set_option maxRecDepth 100000 in
theorem asmMakes_lifted (os : Os) (started : os.Started) (H : Type) (enc : TypeId × Value → H) :
    ReturnsInHanded {} Tryd.checked os 5 .any (fun w args => (Rows.asmMakesSpec.pre enc Tryd.prog Tryd.f5 Rows.asmMakesRow.domain false w args ∧ laidMetH Tryd.prog Rows.asmMakesRow.laid w) ∧ sizedMet enc Tryd.prog Tryd.f5 (OpenSpec.ofChange Rows.asmMakesSpec) false w args) (Rows.asmMakesSpec.post enc Tryd.prog Tryd.f5 false true false false) := by
  refine row_laid (C := Tryd.checked) (X := fun w _ => laidMetH Tryd.prog Rows.asmMakesRow.laid w) (fun _ _ _ hh h => h.of_heap hh) (tb := 4) asmMakes_own started (by kernel_rfl) Tryd.func5
    (ChangeSpec.witness_shaped (enc := enc) (C := Tryd.checked) (os := os) (X := fun w _ => laidMetH Tryd.prog Rows.asmMakesRow.laid w) false (World.laidAll Tryd.prog os Rows.asmMakesRow.laid) #[.string ⟨#[]⟩, .int .u8 0, .slice none 0 0, .slice none 0 0] 8 (World.laidAll_os _ _ _)
      (World.shaped_of_ZipB (by kernel_rfl) (by kernel_rfl)) (by kernel_rfl) (by kernel_rfl) (by kernel_rfl)
      (by rw [MakeChecks.laidMetH_plain _ _ _ (by kernel_rfl)]; exact laidMet_laidAll _ (by kernel_rfl) (by kernel_rfl)))
    asmMakes_laidOut rfl rfl ?_ rfl Tryd.underlying4 (by kernel_rfl) ?_
  · intro ds h
    match ds, h with
    | [_, _, _, _], _ => exact ⟨rfl, rfl, rfl⟩
  · intro W base args ds ps hval0 hA0 hwt0
    have hval : ∀ (j : Nat) t v, Tryd.f5.params[j]? = some t → args[j]? = some v → Value.okWide Tryd.prog W .any base t v := hval0
    have hA : DataW.TrodAll enc Tryd.prog W 0 (fun _ => true) true Tryd.f5.params.toList args.toList ds ps := hA0
    have hwt : ∀ k ∈ DataW.weightsEach Tryd.prog Tryd.f5.params.toList ds, k ≤ reachBytes := hwt0
    clear hA0 hval0 hwt0
    rw [Tryd.params5] at hA hval hwt
    obtain ⟨al⟩ := args
    obtain ⟨v0, r0, d0, e0, p0, q0, hal, rfl, rfl, h0, hA0⟩ := trodAll_cons hA
    have hal : al = v0 :: r0 := hal
    subst hal
    obtain ⟨v1, r1, d1, e1, p1, q1, rfl, rfl, rfl, h1, hA1⟩ := trodAll_cons hA0
    obtain ⟨v2, r2, d2, e2, p2, q2, rfl, rfl, rfl, h2, hA2⟩ := trodAll_cons hA1
    obtain ⟨v3, r3, d3, e3, p3, q3, rfl, rfl, rfl, h3, hA3⟩ := trodAll_cons hA2
    obtain ⟨rfl, rfl, rfl⟩ := trodAll_nil hA3
    obtain ⟨nm, rfl, -⟩ := arg_scal (opens_str Tryd.underlying9) (by rw [Tryd.underlying9]) (hval 0 9 v0 rfl rfl) h0 (fun k hk => hwt k (List.mem_append.2 (.inl hk)))
    obtain ⟨bi, rfl, -⟩ := arg_scal (opens_u8 Tryd.underlying5) (by rw [Tryd.underlying5]) (hval 1 5 v1 rfl rfl) h1 (fun k hk => hwt k (List.mem_append.2 (.inr (List.mem_append.2 (.inl hk)))))
    obtain ⟨⟨nv, nt⟩, rfl, hNA, -, hNl⟩ := arg_scal (opens_slice (by_ := 12) (sz := 3) Tryd.underlying24 (Opens.map (opens_struct (fs := [_, _, _]) Tryd.underlying68 (by kernel_rfl) (opensF_cons (k := 1) (by rfl) (by kernel_rfl) (opens_u8 Tryd.underlying5) (opensF_cons (k := 1) (by rfl) (by kernel_rfl) (opens_u32 Tryd.underlying22) (opensF_cons (k := 1) (by rfl) (by kernel_rfl) (opens_u32 Tryd.underlying22) opensF_nil)))) (f' := ntc) (ok' := fun _ _ => True) (fun p => Nt.mk p.1 p.2.1 p.2.2.1) (fun _ => rfl) (fun _ _ _ => True.intro)) (fun _ => rfl) (by kernel_rfl) (by decide) (by kernel_rfl)) (by rw [Tryd.underlying24]) (hval 2 24 v2 rfl rfl) h2 (fun k hk => hwt k (List.mem_append.2 (.inr (List.mem_append.2 (.inr (List.mem_append.2 (.inl hk)))))))
    obtain ⟨⟨lv, l⟩, rfl, hLA, hLn, hLl⟩ := arg_scal (opens_slice (by_ := 56) (sz := 8) Tryd.underlying48 (Opens.map (opens_struct (fs := [_, _, _, _]) Tryd.underlying65 (by kernel_rfl) (opensF_cons (k := 1) (by rfl) (by kernel_rfl) (opens_str Tryd.underlying9) (opensF_cons (k := 5) (by rfl) (by kernel_rfl) (opens_struct (fs := [_, _, _, _, _]) Tryd.underlying61 (by kernel_rfl) (opensF_cons (k := 1) (by rfl) (by kernel_rfl) (opens_u8 Tryd.underlying5) (opensF_cons (k := 1) (by rfl) (by kernel_rfl) (opens_u8 Tryd.underlying5) (opensF_cons (k := 1) (by rfl) (by kernel_rfl) (opens_u8 Tryd.underlying5) (opensF_cons (k := 1) (by rfl) (by kernel_rfl) (opens_u8 Tryd.underlying5) (opensF_cons (k := 1) (by rfl) (by kernel_rfl) (opens_u32 Tryd.underlying22) opensF_nil)))))) (opensF_cons (k := 1) (by rfl) (by kernel_rfl) (opens_str Tryd.underlying9) (opensF_cons (k := 1) (by rfl) (by kernel_rfl) (opens_str Tryd.underlying9) opensF_nil))))) (f' := lnc) (ok' := fun _ a => a.lb.length ≤ 140737488351232 ∧ a.to.length ≤ 140737488351232 ∧ a.nm.length ≤ 140737488351232) (fun p => Ln.mk p.1 p.2.1.1 p.2.1.2.1 p.2.1.2.2.1 p.2.1.2.2.2.1 p.2.1.2.2.2.2.1 p.2.2.1 p.2.2.2.1) (fun _ => rfl) (fun _ _ h => ⟨h.1, h.2.2.1, h.2.2.2.1⟩)) (fun _ => rfl) (by kernel_rfl) (by decide) (by kernel_rfl)) (by rw [Tryd.underlying48]) (hval 3 48 v3 rfl rfl) h3 (fun k hk => hwt k (List.mem_append.2 (.inr (List.mem_append.2 (.inr (List.mem_append.2 (.inr (List.mem_append.2 (.inl hk)))))))))
    exact asmMakes_ok nm bi v2 nt v3 l W hLA hNA (ln_fit hLn) (by have h : l.length * 56 ≤ 140737488351232 := hLl; omega) (by have h : nt.length * 12 ≤ 140737488351232 := hNl; omega)
theorem asmMakes_row : Rows.AsmMakesSaid :=
  OpenClaim.holds_of_wide 5 Tryd.f5 rfl rfl rfl rfl rfl rfl rfl ⟨rfl, rfl, rfl, rfl, rfl⟩ rfl rfl rfl rfl rfl (by kernel_rfl) Tryd.func5 (by kernel_rfl)
    (of_decide_eq_true (by kernel_rfl)) (by unfold Func.isWrapper; first | (rw [if_pos (by decide +kernel)]; kernel_rfl) | (rw [if_neg (by decide +kernel)]; exact ⟨rfl, rfl⟩))
    (fun os started H enc _ => asmMakes_lifted os started H enc)
theorem asmMakes_holds : Rows.AsmMakesCardSaid :=
  Claim7.holds_tied_plain_at .later [] [.data, .pinned] true (true, "14443d74ca080b61ca5d50fbed322ed9a2b47a6208a4ee0c97f07433584a6a1b") false asmMakes_row (fun _ h => by cases h) (by kernel_rfl) (fun _ h => by cases h) asmMakes_row_tie rfl ⟨rfl, rfl⟩ (by kernel_rfl) rfl
    (fun f fn hf hfn => by
      obtain rfl : f = 5 := Option.some.inj ((show Tryd.prog.funcNamed "aedicule/aediculelaw10.AsmMakes" = some 5 by kernel_rfl).symm.trans hf) |>.symm
      obtain rfl : fn = Tryd.f5 := (Option.some.inj (Tryd.func5.symm.trans hfn)).symm
      exact ⟨by kernel_rfl, fun j t ht => by
        rw [Tryd.params5] at ht
        have hm : t ∈ [9, 5, 24, 48] := by simpa using Array.mem_of_getElem? ht
        have hall : ([9, 5, 24, 48].all fun u => !Tryd.prog.wantsStandIn u) = true := by kernel_rfl
        exact (show Tryd.prog.wantsStandIn t = false by simpa using List.all_eq_true.1 hall t hm)⟩)
    (by kernel_rfl)
end Go.Proofs.YtnngbnenekjffaaDoor
