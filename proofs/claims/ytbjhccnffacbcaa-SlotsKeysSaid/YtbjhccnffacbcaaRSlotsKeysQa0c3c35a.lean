/- The claim's row and what it hangs on: RSlotsKeys. No condition but what each theorem names. -/
import Derived.Test.YtbjhccnffacbcaaQ441847c6
import Derived.Test.YtbjhccnffacbcaaQaa083b07
import Derived.Test.YtbjhccnffacbcaaRows
/-! from RSlotsKeys -/
/- The row of SlotsKeys: whatever the input, true; the input reads as it did. No condition but the form's own. -/
namespace Go.Proofs.Ytbjhccnffacbcaa
open Go.Owl Go.Spec Go.ChangeShapes Go.WideShapes Go.RowKit
theorem slotsKeys_own : ownKnob Try.prog.godebug = none := by kernel_rfl
theorem slotsKeys_laidOut : laidOutB Try.prog = true := by kernel_rfl
set_option maxRecDepth 100000 in
theorem slotsKeys_lifted (os : Os) (started : os.Started) (H : Type) (enc : TypeId × Value → H) :
    ReturnsInHanded {} Try.checked os 4 .any (Rows.slotsKeysSpec.pre6 enc Try.prog Try.f4 Rows.slotsKeysRow.domain false) (Rows.slotsKeysSpec.post enc Try.prog Try.f4 false true false false) := by
  refine row_sized (C := Try.checked) (tb := 4) slotsKeys_own started (by kernel_rfl) Try.func4
    (ChangeSpec.witness6 (enc := enc) (C := Try.checked) false ⟨#[], #[.string ⟨#[]⟩, .string ⟨#[]⟩, .string ⟨#[]⟩, .int .u32 0], []⟩ 8 (by kernel_rfl) (by kernel_rfl) (by kernel_rfl) (by kernel_rfl))
    slotsKeys_laidOut rfl rfl ?_ rfl Try.underlying4 (by kernel_rfl) ?_
  · intro ds h
    match ds, h with
    | [_, _, _, _], _ => exact ⟨rfl, rfl, rfl⟩
  · intro W base args ds ps hval0 hA0 hwt0
    have hval : ∀ (j : Nat) t v, Try.f4.params[j]? = some t → args[j]? = some v → Value.okWide Try.prog W .any base t v := hval0
    have hA : DataW.TrodAll enc Try.prog W 0 (fun _ => true) true Try.f4.params.toList args.toList ds ps := hA0
    have hwt : ∀ k ∈ DataW.weightsEach Try.prog Try.f4.params.toList ds, k ≤ reachBytes := hwt0
    clear hA0 hval0 hwt0
    rw [Try.params4] at hA hval hwt
    obtain ⟨al⟩ := args
    obtain ⟨v0, r0, d0, e0, p0, q0, hal, rfl, rfl, h0, hA0⟩ := trodAll_cons hA
    have hal : al = v0 :: r0 := hal
    subst hal
    obtain ⟨v1, r1, d1, e1, p1, q1, rfl, rfl, rfl, h1, hA1⟩ := trodAll_cons hA0
    obtain ⟨v2, r2, d2, e2, p2, q2, rfl, rfl, rfl, h2, hA2⟩ := trodAll_cons hA1
    obtain ⟨v3, r3, d3, e3, p3, q3, rfl, rfl, rfl, h3, hA3⟩ := trodAll_cons hA2
    obtain ⟨rfl, rfl, rfl⟩ := trodAll_nil hA3
    obtain ⟨one, rfl, k1⟩ := arg_scal (opens_str Try.underlying9) (by rw [Try.underlying9]) (hval 0 9 v0 rfl rfl) h0 (fun k hk => hwt k (List.mem_append.2 (.inl hk)))
    obtain ⟨two, rfl, k2⟩ := arg_scal (opens_str Try.underlying9) (by rw [Try.underlying9]) (hval 1 9 v1 rfl rfl) h1 (fun k hk => hwt k (List.mem_append.2 (.inr (List.mem_append.2 (.inl hk)))))
    obtain ⟨text, rfl, k3⟩ := arg_scal (opens_str Try.underlying9) (by rw [Try.underlying9]) (hval 2 9 v2 rfl rfl) h2 (fun k hk => hwt k (List.mem_append.2 (.inr (List.mem_append.2 (.inr (List.mem_append.2 (.inl hk)))))))
    obtain ⟨version, rfl, -⟩ := arg_scal (opens_u32 Try.underlying29) (by rw [Try.underlying29]) (hval 3 29 v3 rfl rfl) h3 (fun k hk => hwt k (List.mem_append.2 (.inr (List.mem_append.2 (.inr (List.mem_append.2 (.inr (List.mem_append.2 (.inl hk)))))))))
    exact slotsKeys_ok one two text version W k1 k2 k3
theorem slotsKeys_holds : Rows.SlotsKeysSaid :=
  OpenClaim.holds_of_wide 4 Try.f4 rfl rfl rfl rfl rfl rfl rfl ⟨rfl, rfl, rfl, rfl, rfl⟩ rfl rfl rfl rfl rfl (by kernel_rfl) Try.func4 (by kernel_rfl)
    (of_decide_eq_true (by kernel_rfl)) (by unfold Func.isWrapper; rw [if_neg (of_decide_eq_false (by kernel_rfl))]; exact ⟨rfl, rfl⟩)
    (fun os started H enc _ => slotsKeys_lifted os started H enc)
end Go.Proofs.Ytbjhccnffacbcaa
