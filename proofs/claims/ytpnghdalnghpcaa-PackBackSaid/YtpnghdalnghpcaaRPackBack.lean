/- The row of PackBack: whatever the input, true; the input reads as it did. No condition but the form's own. -/
import Derived.Test.YtpnghdalnghpcaaWPackBack
import Derived.Test.YtpnghdalnghpcaaOwlOpen
import Derived.Test.YtpnghdalnghpcaaRows
namespace Go.Proofs.Ytpnghdalnghpcaa
open Go.Owl Go.Spec Go.ChangeShapes Go.WideShapes Go.RowKit
theorem packBack_own : ownKnob Try.prog.godebug = none := by kernel_rfl
theorem packBack_laidOut : laidOutB Try.prog = true := by kernel_rfl
set_option maxRecDepth 100000 in
theorem packBack_lifted (os : Os) (started : os.Started) (H : Type) (enc : TypeId × Value → H) :
    ReturnsInHanded {} Try.checked os 4 .any (Rows.packBackSpec.pre6 enc Try.prog Try.f4 Rows.packBackRow.domain false) (Rows.packBackSpec.post enc Try.prog Try.f4 false true false false) := by
  refine row_sized (C := Try.checked) (tb := 4) packBack_own started (by kernel_rfl) Try.func4
    (ChangeSpec.witness6 (enc := enc) (C := Try.checked) false ⟨#[], #[.int .u32 0, .string ⟨#[]⟩, .slice none 0 0, .string ⟨#[]⟩, .string ⟨#[]⟩], []⟩ 8 (by kernel_rfl) (by kernel_rfl) (by kernel_rfl) (by kernel_rfl))
    packBack_laidOut rfl rfl ?_ rfl Try.underlying4 (by kernel_rfl) ?_
  · intro ds h
    match ds, h with
    | [_, _, _, _, _], _ => exact ⟨rfl, rfl, rfl⟩
  · intro W base args ds ps hval0 hA0 hwt0
    have hval : ∀ (j : Nat) t v, Try.f4.params[j]? = some t → args[j]? = some v → Value.okWide Try.prog W .any base t v := hval0
    have hA : DataW.TrodAll enc Try.prog W 0 (fun _ => true) true Try.f4.params.toList args.toList ds ps := hA0
    have hwt : ∀ k ∈ DataW.weightsEach Try.prog Try.f4.params.toList ds, k ≤ reachBytes := hwt0
    clear hA0 hval0 hwt0
    rw [Try.params4] at hA hval hwt
    obtain ⟨al⟩ := args
    obtain ⟨v0, r0, d0, e0, p0, q0, hal, rfl, rfl, h0, hA0⟩ := trodAll_cons hA
    have hal : al = v0 :: r0 := hal
    subst hal
    obtain ⟨v1, r1, d1, e1, p1, q1, rfl, rfl, rfl, h1, hA1⟩ := trodAll_cons hA0
    obtain ⟨v2, r2, d2, e2, p2, q2, rfl, rfl, rfl, h2, hA2⟩ := trodAll_cons hA1
    obtain ⟨v3, r3, d3, e3, p3, q3, rfl, rfl, rfl, h3, hA3⟩ := trodAll_cons hA2
    obtain ⟨v4, r4, d4, e4, p4, q4, rfl, rfl, rfl, h4, hA4⟩ := trodAll_cons hA3
    obtain ⟨rfl, rfl, rfl⟩ := trodAll_nil hA4
    obtain ⟨v, rfl, -⟩ := arg_scal (opens_u32 Try.underlying22) (by rw [Try.underlying22]) (hval 0 22 v0 rfl rfl) h0 (fun k hk => hwt k (List.mem_append.2 (.inl hk)))
    obtain ⟨s, rfl, hs⟩ := arg_scal (opens_str Try.underlying9) (by rw [Try.underlying9]) (hval 1 9 v1 rfl rfl) h1 (fun k hk => hwt k (List.mem_append.2 (.inr (List.mem_append.2 (.inl hk)))))
    obtain ⟨⟨lv, l⟩, rfl, hAl, hBl, hnl⟩ := arg_scal (opens_slice1 (by_ := 16) Try.underlying23 (opens_str Try.underlying9) (by kernel_rfl) (by kernel_rfl)) (by rw [Try.underlying23]) (hval 2 23 v2 rfl rfl) h2 (fun k hk => hwt k (List.mem_append.2 (.inr (List.mem_append.2 (.inr (List.mem_append.2 (.inl hk)))))))
    obtain ⟨m, rfl, hm⟩ := arg_scal (opens_str Try.underlying9) (by rw [Try.underlying9]) (hval 3 9 v3 rfl rfl) h3 (fun k hk => hwt k (List.mem_append.2 (.inr (List.mem_append.2 (.inr (List.mem_append.2 (.inr (List.mem_append.2 (.inl hk)))))))))
    obtain ⟨b, rfl, hb⟩ := arg_scal (opens_str Try.underlying9) (by rw [Try.underlying9]) (hval 4 9 v4 rfl rfl) h4 (fun k hk => hwt k (List.mem_append.2 (.inr (List.mem_append.2 (.inr (List.mem_append.2 (.inr (List.mem_append.2 (.inr (List.mem_append.2 (.inl hk)))))))))))
    exact packBack_ok v s v2 l m b W hAl hBl (by have h : l.length * 16 ≤ 140737488351232 := hnl; omega) hs hm hb
theorem packBack_holds : Rows.PackBackSaid :=
  OpenClaim.holds_of_wide 4 Try.f4 rfl rfl rfl rfl rfl rfl rfl ⟨rfl, rfl, rfl, rfl, rfl⟩ rfl rfl rfl rfl rfl (by kernel_rfl) Try.func4 (by kernel_rfl)
    (of_decide_eq_true (by kernel_rfl)) (by unfold Func.isWrapper; rw [if_neg (of_decide_eq_false (by kernel_rfl))]; exact ⟨rfl, rfl⟩)
    (fun os started H enc _ => packBack_lifted os started H enc)
end Go.Proofs.Ytpnghdalnghpcaa
