/- The claim's row and what it hangs on: RLogOpens. No condition but what each theorem names. -/
import Derived.Test.YtpnghdalnghpcaaQc9965b41
import Derived.Test.YtpnghdalnghpcaaQba244e5c
import Derived.Test.YtpnghdalnghpcaaRows
/-! from RLogOpens -/
/- The row of LogOpens: whatever the input, true; the input reads as it did. No condition but the form's own. -/
namespace Go.Proofs.Ytpnghdalnghpcaa
open Go.Owl Go.Spec Go.ChangeShapes Go.WideShapes Go.RowKit
theorem logOpens_own : ownKnob Try.prog.godebug = none := by kernel_rfl
theorem logOpens_laidOut : laidOutB Try.prog = true := by kernel_rfl
set_option maxRecDepth 100000 in
theorem logOpens_lifted (os : Os) (started : os.Started) (H : Type) (enc : TypeId × Value → H) :
    ReturnsInHanded {} Try.checked os 10 .any (Rows.logOpensSpec.pre6 enc Try.prog Try.f10 Rows.logOpensRow.domain false) (Rows.logOpensSpec.post enc Try.prog Try.f10 false true false false) := by
  refine row_sized (C := Try.checked) (tb := 4) logOpens_own started (by kernel_rfl) Try.func10
    (ChangeSpec.witness6 (enc := enc) (C := Try.checked) false ⟨#[], #[.string ⟨#[]⟩, .string ⟨#[]⟩], []⟩ 8 (by kernel_rfl) (by kernel_rfl) (by kernel_rfl) (by kernel_rfl))
    logOpens_laidOut rfl rfl ?_ rfl Try.underlying4 (by kernel_rfl) ?_
  · intro ds h
    match ds, h with
    | [_, _], _ => exact ⟨rfl, rfl, rfl⟩
  · intro W base args ds ps hval0 hA0 hwt0
    have hval : ∀ (j : Nat) t v, Try.f10.params[j]? = some t → args[j]? = some v → Value.okWide Try.prog W .any base t v := hval0
    have hA : DataW.TrodAll enc Try.prog W 0 (fun _ => true) true Try.f10.params.toList args.toList ds ps := hA0
    have hwt : ∀ k ∈ DataW.weightsEach Try.prog Try.f10.params.toList ds, k ≤ reachBytes := hwt0
    clear hA0 hval0 hwt0
    rw [Try.params10] at hA hval hwt
    obtain ⟨al⟩ := args
    obtain ⟨v0, r0, d0, e0, p0, q0, hal, rfl, rfl, h0, hA0⟩ := trodAll_cons hA
    have hal : al = v0 :: r0 := hal
    subst hal
    obtain ⟨v1, r1, d1, e1, p1, q1, rfl, rfl, rfl, h1, hA1⟩ := trodAll_cons hA0
    obtain ⟨rfl, rfl, rfl⟩ := trodAll_nil hA1
    obtain ⟨key, rfl, hk⟩ := arg_scal (opens_str Try.underlying9) (by rw [Try.underlying9]) (hval 0 9 v0 rfl rfl) h0 (fun k hk => hwt k (List.mem_append.2 (.inl hk)))
    obtain ⟨s, rfl, hs⟩ := arg_scal (opens_str Try.underlying9) (by rw [Try.underlying9]) (hval 1 9 v1 rfl rfl) h1 (fun k hk => hwt k (List.mem_append.2 (.inr (List.mem_append.2 (.inl hk)))))
    exact logOpens_ok key s W hk hs
theorem logOpens_holds : Rows.LogOpensSaid :=
  OpenClaim.holds_of_wide 10 Try.f10 rfl rfl rfl rfl rfl rfl rfl ⟨rfl, rfl, rfl, rfl, rfl⟩ rfl rfl rfl rfl rfl (by kernel_rfl) Try.func10 (by kernel_rfl)
    (of_decide_eq_true (by kernel_rfl)) (by unfold Func.isWrapper; rw [if_neg (of_decide_eq_false (by kernel_rfl))]; exact ⟨rfl, rfl⟩)
    (fun os started H enc _ => logOpens_lifted os started H enc)
end Go.Proofs.Ytpnghdalnghpcaa
