/- The row of MacKeys: whatever the input, true; the input reads as it did. No condition but the form's own. -/
import Derived.Test.YtfdlkkhhakjgeaaWLaw3
import Derived.Test.YtfdlkkhhakjgeaaOwlOpen
import Derived.Test.YtfdlkkhhakjgeaaRows
namespace Go.Proofs.Ytfdlkkhhakjgeaa
open Go.Owl Go.Spec Go.ChangeShapes Go.WideShapes Go.RowKit
theorem macKeys_own : ownKnob Try.prog.godebug = none := by kernel_rfl
theorem macKeys_laidOut : laidOutB Try.prog = true := by kernel_rfl
set_option maxRecDepth 100000 in
theorem macKeys_lifted (os : Os) (started : os.Started) (H : Type) (enc : TypeId × Value → H) :
    ReturnsInHanded {} Try.checked os 11 .any (Rows.macKeysSpec.pre6 enc Try.prog Try.f11 Rows.macKeysRow.domain false) (Rows.macKeysSpec.post enc Try.prog Try.f11 false true false false) := by
  refine row_sized (C := Try.checked) (tb := 4) macKeys_own started (by kernel_rfl) Try.func11
    (ChangeSpec.witness6 (enc := enc) (C := Try.checked) false ⟨#[], #[.string ⟨#[]⟩, .string ⟨#[]⟩, .int .u8 0], []⟩ 8 (by kernel_rfl) (by kernel_rfl) (by kernel_rfl) (by kernel_rfl))
    macKeys_laidOut rfl rfl ?_ rfl Try.underlying4 (by kernel_rfl) ?_
  · intro ds h
    match ds, h with
    | [_, _, _], _ => exact ⟨rfl, rfl, rfl⟩
  · intro W base args ds ps hval0 hA0 hwt0
    have hval : ∀ (j : Nat) t v, Try.f11.params[j]? = some t → args[j]? = some v → Value.okWide Try.prog W .any base t v := hval0
    have hA : DataW.TrodAll enc Try.prog W 0 (fun _ => true) true Try.f11.params.toList args.toList ds ps := hA0
    have hwt : ∀ k ∈ DataW.weightsEach Try.prog Try.f11.params.toList ds, k ≤ reachBytes := hwt0
    clear hA0 hval0 hwt0
    rw [Try.params11] at hA hval hwt
    obtain ⟨al⟩ := args
    obtain ⟨v0, r0, d0, e0, p0, q0, hal, rfl, rfl, h0, hA0⟩ := trodAll_cons hA
    have hal : al = v0 :: r0 := hal
    subst hal
    obtain ⟨v1, r1, d1, e1, p1, q1, rfl, rfl, rfl, h1, hA1⟩ := trodAll_cons hA0
    obtain ⟨v2, r2, d2, e2, p2, q2, rfl, rfl, rfl, h2, hA2⟩ := trodAll_cons hA1
    obtain ⟨rfl, rfl, rfl⟩ := trodAll_nil hA2
    obtain ⟨s0, rfl, h0_⟩ := arg_scal (opens_str Try.underlying9) (by rw [Try.underlying9]) (hval 0 9 v0 rfl rfl) h0 (fun k hk => hwt k (List.mem_append.2 (.inl hk)))
    obtain ⟨s1, rfl, h1_⟩ := arg_scal (opens_str Try.underlying9) (by rw [Try.underlying9]) (hval 1 9 v1 rfl rfl) h1 (fun k hk => hwt k (List.mem_append.2 (.inr (List.mem_append.2 (.inl hk)))))
    obtain ⟨x2, rfl, -⟩ := arg_scal (opens_u8 Try.underlying5) (by rw [Try.underlying5]) (hval 2 5 v2 rfl rfl) h2 (fun k hk => hwt k (List.mem_append.2 (.inr (List.mem_append.2 (.inr (List.mem_append.2 (.inl hk)))))))
    exact macKeys_ok s0 s1 x2 W h0_ h1_
theorem macKeys_holds : Rows.MacKeysSaid :=
  OpenClaim.holds_of_wide 11 Try.f11 rfl rfl rfl rfl rfl rfl rfl ⟨rfl, rfl, rfl, rfl, rfl⟩ rfl rfl rfl rfl rfl (by kernel_rfl) Try.func11 (by kernel_rfl)
    (of_decide_eq_true (by kernel_rfl)) (by unfold Func.isWrapper; rw [if_neg (of_decide_eq_false (by kernel_rfl))]; exact ⟨rfl, rfl⟩)
    (fun os started H enc _ => macKeys_lifted os started H enc)
end Go.Proofs.Ytfdlkkhhakjgeaa
