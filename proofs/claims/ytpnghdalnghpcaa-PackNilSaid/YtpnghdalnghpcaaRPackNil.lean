/- The row of PackNil: whatever the input, true; the input reads as it did. No condition but the form's own. -/
import Derived.Test.YtpnghdalnghpcaaWLaw7
import Derived.Test.YtpnghdalnghpcaaOwlOpen
import Derived.Test.YtpnghdalnghpcaaRows
namespace Go.Proofs.Ytpnghdalnghpcaa
open Go.Owl Go.Spec Go.ChangeShapes Go.WideShapes Go.RowKit
theorem packNil_own : ownKnob Try.prog.godebug = none := by kernel_rfl
theorem packNil_laidOut : laidOutB Try.prog = true := by kernel_rfl
set_option maxRecDepth 100000 in
theorem packNil_lifted (os : Os) (started : os.Started) (H : Type) (enc : TypeId × Value → H) :
    ReturnsInHanded {} Try.checked os 6 .any (Rows.packNilSpec.pre6 enc Try.prog Try.f6 Rows.packNilRow.domain false) (Rows.packNilSpec.post enc Try.prog Try.f6 false true false false) := by
  refine row_sized (C := Try.checked) (tb := 4) packNil_own started (by kernel_rfl) Try.func6
    (ChangeSpec.witness6 (enc := enc) (C := Try.checked) false ⟨#[], #[.int .i64 0], []⟩ 8 (by kernel_rfl) (by kernel_rfl) (by kernel_rfl) (by kernel_rfl))
    packNil_laidOut rfl rfl ?_ rfl Try.underlying4 (by kernel_rfl) ?_
  · intro ds h
    match ds, h with
    | [_], _ => exact ⟨rfl, rfl, rfl⟩
  · intro W base args ds ps hval0 hA0 hwt0
    have hval : ∀ (j : Nat) t v, Try.f6.params[j]? = some t → args[j]? = some v → Value.okWide Try.prog W .any base t v := hval0
    have hA : DataW.TrodAll enc Try.prog W 0 (fun _ => true) true Try.f6.params.toList args.toList ds ps := hA0
    have hwt : ∀ k ∈ DataW.weightsEach Try.prog Try.f6.params.toList ds, k ≤ reachBytes := hwt0
    clear hA0 hval0 hwt0
    rw [Try.params6] at hA hval hwt
    obtain ⟨al⟩ := args
    obtain ⟨v0, r0, d0, e0, p0, q0, hal, rfl, rfl, h0, hA0⟩ := trodAll_cons hA
    have hal : al = v0 :: r0 := hal
    subst hal
    obtain ⟨rfl, rfl, rfl⟩ := trodAll_nil hA0
    obtain ⟨n, rfl, -⟩ := arg_scal (opens_i64 Try.underlying3) (by rw [Try.underlying3]) (hval 0 3 v0 rfl rfl) h0 (fun k hk => hwt k (List.mem_append.2 (.inl hk)))
    exact packNil_ok n W
theorem packNil_holds : Rows.PackNilSaid :=
  OpenClaim.holds_of_wide 6 Try.f6 rfl rfl rfl rfl rfl rfl rfl ⟨rfl, rfl, rfl, rfl, rfl⟩ rfl rfl rfl rfl rfl (by kernel_rfl) Try.func6 (by kernel_rfl)
    (of_decide_eq_true (by kernel_rfl)) (by unfold Func.isWrapper; rw [if_neg (of_decide_eq_false (by kernel_rfl))]; exact ⟨rfl, rfl⟩)
    (fun os started H enc _ => packNil_lifted os started H enc)
end Go.Proofs.Ytpnghdalnghpcaa
