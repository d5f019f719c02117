/- The row of MacNil: whatever the input, true; the input reads as it did. No condition but the form's own. -/
import Derived.Test.YtfdlkkhhakjgeaaWLaw3
import Derived.Test.YtfdlkkhhakjgeaaOwlOpen
import Derived.Test.YtfdlkkhhakjgeaaRows
namespace Go.Proofs.Ytfdlkkhhakjgeaa
open Go.Owl Go.Spec Go.ChangeShapes Go.WideShapes Go.RowKit
theorem macNil_own : ownKnob Try.prog.godebug = none := by kernel_rfl
theorem macNil_laidOut : laidOutB Try.prog = true := by kernel_rfl
set_option maxRecDepth 100000 in
theorem macNil_lifted (os : Os) (started : os.Started) (H : Type) (enc : TypeId × Value → H) :
    ReturnsInHanded {} Try.checked os 12 .any (Rows.macNilSpec.pre6 enc Try.prog Try.f12 Rows.macNilRow.domain false) (Rows.macNilSpec.post enc Try.prog Try.f12 false true false false) := by
  refine row_sized (C := Try.checked) (tb := 4) macNil_own started (by kernel_rfl) Try.func12
    (ChangeSpec.witness6 (enc := enc) (C := Try.checked) false ⟨#[], #[.string ⟨#[]⟩], []⟩ 8 (by kernel_rfl) (by kernel_rfl) (by kernel_rfl) (by kernel_rfl))
    macNil_laidOut rfl rfl ?_ rfl Try.underlying4 (by kernel_rfl) ?_
  · intro ds h
    match ds, h with
    | [_], _ => exact ⟨rfl, rfl, rfl⟩
  · intro W base args ds ps hval0 hA0 hwt0
    have hval : ∀ (j : Nat) t v, Try.f12.params[j]? = some t → args[j]? = some v → Value.okWide Try.prog W .any base t v := hval0
    have hA : DataW.TrodAll enc Try.prog W 0 (fun _ => true) true Try.f12.params.toList args.toList ds ps := hA0
    have hwt : ∀ k ∈ DataW.weightsEach Try.prog Try.f12.params.toList ds, k ≤ reachBytes := hwt0
    clear hA0 hval0 hwt0
    rw [Try.params12] at hA hval hwt
    obtain ⟨al⟩ := args
    obtain ⟨v0, r0, d0, e0, p0, q0, hal, rfl, rfl, h0, hA0⟩ := trodAll_cons hA
    have hal : al = v0 :: r0 := hal
    subst hal
    obtain ⟨rfl, rfl, rfl⟩ := trodAll_nil hA0
    obtain ⟨s0, rfl, h0_⟩ := arg_scal (opens_str Try.underlying9) (by rw [Try.underlying9]) (hval 0 9 v0 rfl rfl) h0 (fun k hk => hwt k (List.mem_append.2 (.inl hk)))
    exact macNil_ok s0 W
theorem macNil_holds : Rows.MacNilSaid :=
  OpenClaim.holds_of_wide 12 Try.f12 rfl rfl rfl rfl rfl rfl rfl ⟨rfl, rfl, rfl, rfl, rfl⟩ rfl rfl rfl rfl rfl (by kernel_rfl) Try.func12 (by kernel_rfl)
    (of_decide_eq_true (by kernel_rfl)) (by unfold Func.isWrapper; rw [if_neg (of_decide_eq_false (by kernel_rfl))]; exact ⟨rfl, rfl⟩)
    (fun os started H enc _ => macNil_lifted os started H enc)
end Go.Proofs.Ytfdlkkhhakjgeaa
