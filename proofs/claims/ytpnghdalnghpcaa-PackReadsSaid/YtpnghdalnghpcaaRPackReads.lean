/- The row of PackReads: whatever the input, true; the input reads as it did. No condition but the form's own. -/
import Derived.Test.YtpnghdalnghpcaaWLaw7
import Derived.Test.YtpnghdalnghpcaaOwlOpen
import Derived.Test.YtpnghdalnghpcaaRows
namespace Go.Proofs.Ytpnghdalnghpcaa
open Go.Owl Go.Spec Go.ChangeShapes Go.WideShapes Go.RowKit
theorem packReads_own : ownKnob Try.prog.godebug = none := by kernel_rfl
theorem packReads_laidOut : laidOutB Try.prog = true := by kernel_rfl
set_option maxRecDepth 100000 in
theorem packReads_lifted (os : Os) (started : os.Started) (H : Type) (enc : TypeId × Value → H) :
    ReturnsInHanded {} Try.checked os 5 .any (Rows.packReadsSpec.pre6 enc Try.prog Try.f5 Rows.packReadsRow.domain false) (Rows.packReadsSpec.post enc Try.prog Try.f5 false true false false) := by
  refine row_sized (C := Try.checked) (tb := 4) packReads_own started (by kernel_rfl) Try.func5
    (ChangeSpec.witness6 (enc := enc) (C := Try.checked) false ⟨#[], #[.string ⟨#[]⟩, .slice none 0 0], []⟩ 8 (by kernel_rfl) (by kernel_rfl) (by kernel_rfl) (by kernel_rfl))
    packReads_laidOut rfl rfl ?_ rfl Try.underlying4 (by kernel_rfl) ?_
  · intro ds h
    match ds, h with
    | [_, _], _ => exact ⟨rfl, rfl, rfl⟩
  · intro W base args ds ps hval0 hA0 hwt0
    have hval : ∀ (j : Nat) t v, Try.f5.params[j]? = some t → args[j]? = some v → Value.okWide Try.prog W .any base t v := hval0
    have hA : DataW.TrodAll enc Try.prog W 0 (fun _ => true) true Try.f5.params.toList args.toList ds ps := hA0
    have hwt : ∀ k ∈ DataW.weightsEach Try.prog Try.f5.params.toList ds, k ≤ reachBytes := hwt0
    clear hA0 hval0 hwt0
    rw [Try.params5] at hA hval hwt
    obtain ⟨al⟩ := args
    obtain ⟨v0, r0, d0, e0, p0, q0, hal, rfl, rfl, h0, hA0⟩ := trodAll_cons hA
    have hal : al = v0 :: r0 := hal
    subst hal
    obtain ⟨v1, r1, d1, e1, p1, q1, rfl, rfl, rfl, h1, hA1⟩ := trodAll_cons hA0
    obtain ⟨rfl, rfl, rfl⟩ := trodAll_nil hA1
    obtain ⟨s, rfl, -⟩ := arg_scal (opens_str Try.underlying9) (by rw [Try.underlying9]) (hval 0 9 v0 rfl rfl) h0 (fun k hk => hwt k (List.mem_append.2 (.inl hk)))
    obtain ⟨⟨lv, l⟩, rfl, hAl, -, -⟩ := arg_scal (opens_slice (by_ := 16) (sz := 2) Try.underlying44 (Opens.map (opens_struct (fs := [_, _]) Try.underlying49 (by kernel_rfl) (opensF_cons (k := 1) (by rfl) (by kernel_rfl) (opens_i64 Try.underlying3) (opensF_cons (k := 1) (by rfl) (by kernel_rfl) (opens_i64 Try.underlying3) opensF_nil))) (f' := stp) (ok' := fun _ _ => True) (fun p => Stp.mk p.1 p.2.1) (fun _ => rfl) (fun _ _ _ => True.intro)) (fun _ => rfl) (by kernel_rfl) (by decide) (by kernel_rfl)) (by rw [Try.underlying44]) (hval 1 44 v1 rfl rfl) h1 (fun k hk => hwt k (List.mem_append.2 (.inr (List.mem_append.2 (.inl hk)))))
    exact packReads_ok s v1 l W hAl
theorem packReads_holds : Rows.PackReadsSaid :=
  OpenClaim.holds_of_wide 5 Try.f5 rfl rfl rfl rfl rfl rfl rfl ⟨rfl, rfl, rfl, rfl, rfl⟩ rfl rfl rfl rfl rfl (by kernel_rfl) Try.func5 (by kernel_rfl)
    (of_decide_eq_true (by kernel_rfl)) (by unfold Func.isWrapper; rw [if_neg (of_decide_eq_false (by kernel_rfl))]; exact ⟨rfl, rfl⟩)
    (fun os started H enc _ => packReads_lifted os started H enc)
end Go.Proofs.Ytpnghdalnghpcaa
