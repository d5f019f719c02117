/- The claim's row and what it hangs on: RSlotsNil. No condition but what each theorem names. -/
import Derived.Test.YtbjhccnffacbcaaGreatQae10a7f2
import Derived.Test.YtbjhccnffacbcaaGreatQ658b5d65
import Derived.Test.YtbjhccnffacbcaaGreatRows
/-! from RSlotsNil -/
/- The row of SlotsNil: whatever the input, true; the input reads as it did. No condition but the form's own. -/
namespace Go.Proofs.YtbjhccnffacbcaaGreat
open Go.Owl Go.Spec Go.ChangeShapes Go.WideShapes Go.RowKit
theorem slotsNil_own : ownKnob Tryz.prog.godebug = none := by kernel_rfl
theorem slotsNil_laidOut : laidOutB Tryz.prog = true := by kernel_rfl
set_option maxRecDepth 100000 in
theorem slotsNil_lifted (os : Os) (started : os.Started) (H : Type) (enc : TypeId × Value → H) :
    ReturnsInHanded {} Tryz.checked os 3 .any (Rows.slotsNilSpec.pre6 enc Tryz.prog Tryz.f3 Rows.slotsNilRow.domain false) (Rows.slotsNilSpec.post enc Tryz.prog Tryz.f3 false true false false) := by
  refine row_sized (C := Tryz.checked) (tb := 4) slotsNil_own started (by kernel_rfl) Tryz.func3
    (ChangeSpec.witness6 (enc := enc) (C := Tryz.checked) false ⟨#[], #[.int .i64 0, .int .u32 0, .string ⟨#[]⟩], []⟩ 8 (by kernel_rfl) (by kernel_rfl) (by kernel_rfl) (by kernel_rfl))
    slotsNil_laidOut rfl rfl ?_ rfl Tryz.underlying4 (by kernel_rfl) ?_
  · intro ds h
    match ds, h with
    | [_, _, _], _ => exact ⟨rfl, rfl, rfl⟩
  · intro W base args ds ps hval0 hA0 hwt0
    have hval : ∀ (j : Nat) t v, Tryz.f3.params[j]? = some t → args[j]? = some v → Value.okWide Tryz.prog W .any base t v := hval0
    have hA : DataW.TrodAll enc Tryz.prog W 0 (fun _ => true) true Tryz.f3.params.toList args.toList ds ps := hA0
    have hwt : ∀ k ∈ DataW.weightsEach Tryz.prog Tryz.f3.params.toList ds, k ≤ reachBytes := hwt0
    clear hA0 hval0 hwt0
    rw [Tryz.params3] at hA hval hwt
    obtain ⟨al⟩ := args
    obtain ⟨v0, r0, d0, e0, p0, q0, hal, rfl, rfl, h0, hA0⟩ := trodAll_cons hA
    have hal : al = v0 :: r0 := hal
    subst hal
    obtain ⟨v1, r1, d1, e1, p1, q1, rfl, rfl, rfl, h1, hA1⟩ := trodAll_cons hA0
    obtain ⟨v2, r2, d2, e2, p2, q2, rfl, rfl, rfl, h2, hA2⟩ := trodAll_cons hA1
    obtain ⟨rfl, rfl, rfl⟩ := trodAll_nil hA2
    obtain ⟨n, rfl, -⟩ := arg_scal (opens_i64 Tryz.underlying3) (by rw [Tryz.underlying3]) (hval 0 3 v0 rfl rfl) h0 (fun k hk => hwt k (List.mem_append.2 (.inl hk)))
    obtain ⟨version, rfl, -⟩ := arg_scal (opens_u32 Tryz.underlying22) (by rw [Tryz.underlying22]) (hval 1 22 v1 rfl rfl) h1 (fun k hk => hwt k (List.mem_append.2 (.inr (List.mem_append.2 (.inl hk)))))
    obtain ⟨text, rfl, k3⟩ := arg_scal (opens_str Tryz.underlying9) (by rw [Tryz.underlying9]) (hval 2 9 v2 rfl rfl) h2 (fun k hk => hwt k (List.mem_append.2 (.inr (List.mem_append.2 (.inr (List.mem_append.2 (.inl hk)))))))
    exact slotsNil_ok n version text W k3
theorem slotsNil_holds : Rows.SlotsNilSaid :=
  OpenClaim.holds_of_wide 3 Tryz.f3 rfl rfl rfl rfl rfl rfl rfl ⟨rfl, rfl, rfl, rfl, rfl⟩ rfl rfl rfl rfl rfl (by kernel_rfl) Tryz.func3 (by kernel_rfl)
    (of_decide_eq_true (by kernel_rfl)) (by unfold Func.isWrapper; rw [if_neg (of_decide_eq_false (by kernel_rfl))]; exact ⟨rfl, rfl⟩)
    (fun os started H enc _ => slotsNil_lifted os started H enc)
end Go.Proofs.YtbjhccnffacbcaaGreat
