/- The claim's row and what it hangs on: RCapsNil. No condition but what each theorem names. -/
import Derived.Test.YtbjhccnffacbcaaQb0d89631
import Derived.Test.YtbjhccnffacbcaaQ355cdda6
import Derived.Test.YtbjhccnffacbcaaRows
/-! from RCapsNil -/
/- The row of CapsNil: whatever the input, true; the input reads as it did. No condition but the form's own. -/
namespace Go.Proofs.Ytbjhccnffacbcaa
open Go.Owl Go.Spec Go.ChangeShapes Go.WideShapes Go.RowKit
theorem capsNil_own : ownKnob Try.prog.godebug = none := by kernel_rfl
theorem capsNil_laidOut : laidOutB Try.prog = true := by kernel_rfl
set_option maxRecDepth 100000 in
theorem capsNil_lifted (os : Os) (started : os.Started) (H : Type) (enc : TypeId × Value → H) :
    ReturnsInHanded {} Try.checked os 7 .any (Rows.capsNilSpec.pre6 enc Try.prog Try.f7 Rows.capsNilRow.domain false) (Rows.capsNilSpec.post enc Try.prog Try.f7 false true false false) := by
  refine row_sized (C := Try.checked) (tb := 4) capsNil_own started (by kernel_rfl) Try.func7
    (ChangeSpec.witness6 (enc := enc) (C := Try.checked) false ⟨#[], #[.agg #[.int .i64 0, .int .i64 0, .int .u32 0, .slice none 0 0, .slice none 0 0, .bool false, .int .u32 0], .int .u32 0], []⟩ 8 (by kernel_rfl) (by kernel_rfl) (by kernel_rfl) (by kernel_rfl))
    capsNil_laidOut rfl rfl ?_ rfl Try.underlying4 (by kernel_rfl) ?_
  · intro ds h
    match ds, h with
    | [_, _], _ => exact ⟨rfl, rfl, rfl⟩
  · intro W base args ds ps hval0 hA0 hwt0
    have hval : ∀ (j : Nat) t v, Try.f7.params[j]? = some t → args[j]? = some v → Value.okWide Try.prog W .any base t v := hval0
    have hA : DataW.TrodAll enc Try.prog W 0 (fun _ => true) true Try.f7.params.toList args.toList ds ps := hA0
    have hwt : ∀ k ∈ DataW.weightsEach Try.prog Try.f7.params.toList ds, k ≤ reachBytes := hwt0
    clear hA0 hval0 hwt0
    rw [Try.params7] at hA hval hwt
    obtain ⟨al⟩ := args
    obtain ⟨v0, r0, d0, e0, p0, q0, hal, rfl, rfl, h0, hA0⟩ := trodAll_cons hA
    have hal : al = v0 :: r0 := hal
    subst hal
    obtain ⟨v1, r1, d1, e1, p1, q1, rfl, rfl, rfl, h1, hA1⟩ := trodAll_cons hA0
    obtain ⟨rfl, rfl, rfl⟩ := trodAll_nil hA1
    obtain ⟨⟨d, en, ⟨pg, ⟨ev, xs⟩, ⟨pv, ps⟩, con, ⟨⟩⟩, pages, ⟨⟩⟩, rfl, ⟨-, -, ⟨-, ⟨hE, -, -⟩, ⟨hP, -, -⟩, -, -⟩, -, -⟩⟩ := arg_struct Try.underlying61 (opens_struct (fs := [_, _, _, _]) Try.underlying61 (by kernel_rfl) (opensF_cons (k := 1) (by rfl) (by kernel_rfl) (opens_i64 Try.underlying3) (opensF_cons (k := 1) (by rfl) (by kernel_rfl) (opens_i64 Try.underlying3) (opensF_cons (k := 4) (by rfl) (by kernel_rfl) (opens_struct (fs := [_, _, _, _]) Try.underlying59 (by kernel_rfl) (opensF_cons (k := 1) (by rfl) (by kernel_rfl) (opens_u32 Try.underlying29) (opensF_cons (k := 1) (by rfl) (by kernel_rfl) (opens_slice (by_ := 8) (sz := 2) Try.underlying56 (Opens.map (opens_struct (fs := [_, _]) Try.underlying108 (by kernel_rfl) (opensF_cons (k := 1) (by rfl) (by kernel_rfl) (opens_u32 Try.underlying29) (opensF_cons (k := 1) (by rfl) (by kernel_rfl) (opens_u32 Try.underlying29) opensF_nil))) (f' := xtc) (ok' := fun _ _ => True) (fun p => Xt.mk p.1 p.2.1) (fun _ => rfl) (fun _ _ _ => True.intro)) (fun _ => rfl) (by kernel_rfl) (by decide) (by kernel_rfl)) (opensF_cons (k := 1) (by rfl) (by kernel_rfl) (opens_slice1 (by_ := 2) Try.underlying57 (opens_u16 Try.underlying50) (by kernel_rfl) (by kernel_rfl)) (opensF_cons (k := 1) (by rfl) (by kernel_rfl) (opens_bool Try.underlying4) opensF_nil))))) (opensF_cons (k := 1) (by rfl) (by kernel_rfl) (opens_u32 Try.underlying29) opensF_nil))))) (hval 0 61 v0 rfl rfl) h0 (fun k hk => hwt k (List.mem_append.2 (.inl hk)))
    obtain ⟨n, rfl, -⟩ := arg_scal (opens_u32 Try.underlying29) (by rw [Try.underlying29]) (hval 1 29 v1 rfl rfl) h1 (fun k hk => hwt k (List.mem_append.2 (.inr (List.mem_append.2 (.inl hk)))))
    exact capsNil_ok d en pg ev pv xs ps con pages n W hE hP
theorem capsNil_holds : Rows.CapsNilSaid :=
  OpenClaim.holds_of_wide 7 Try.f7 rfl rfl rfl rfl rfl rfl rfl ⟨rfl, rfl, rfl, rfl, rfl⟩ rfl rfl rfl rfl rfl (by kernel_rfl) Try.func7 (by kernel_rfl)
    (of_decide_eq_true (by kernel_rfl)) (by unfold Func.isWrapper; rw [if_neg (of_decide_eq_false (by kernel_rfl))]; exact ⟨rfl, rfl⟩)
    (fun os started H enc _ => capsNil_lifted os started H enc)
end Go.Proofs.Ytbjhccnffacbcaa
