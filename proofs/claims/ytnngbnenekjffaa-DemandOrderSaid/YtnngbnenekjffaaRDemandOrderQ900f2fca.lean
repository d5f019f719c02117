/- The claim's row and what it hangs on: RDemandOrder. No condition but what each theorem names. -/
import Derived.Test.YtnngbnenekjffaaQ0a05614d
import Derived.Test.YtnngbnenekjffaaQe6bf9a58
import Derived.Test.YtnngbnenekjffaaRows
/-! from RDemandOrder -/
/- The row of DemandOrder: whatever the input, true; the input reads as it did. No condition but the form's own. -/
namespace Go.Proofs.Ytnngbnenekjffaa
open Go.Owl Go.Spec Go.ChangeShapes Go.WideShapes Go.RowKit
theorem demandOrder_own : ownKnob Try.prog.godebug = none := by kernel_rfl
theorem demandOrder_laidOut : laidOutB Try.prog = true := by kernel_rfl
set_option maxRecDepth 100000 in
theorem demandOrder_lifted (os : Os) (started : os.Started) (H : Type) (enc : TypeId × Value → H) :
    ReturnsInHanded {} Try.checked os 6 .any (Rows.demandOrderSpec.pre6 enc Try.prog Try.f6 Rows.demandOrderRow.domain false) (Rows.demandOrderSpec.post enc Try.prog Try.f6 false true false false) := by
  refine row_sized (C := Try.checked) (tb := 4) demandOrder_own started (by kernel_rfl) Try.func6
    (ChangeSpec.witness6 (enc := enc) (C := Try.checked) false ⟨#[], #[.slice none 0 0, .int .u8 0, .int .u8 0], []⟩ 8 (by kernel_rfl) (by kernel_rfl) (by kernel_rfl) (by kernel_rfl))
    demandOrder_laidOut rfl rfl ?_ rfl Try.underlying4 (by kernel_rfl) ?_
  · intro ds h
    match ds, h with
    | [_, _, _], _ => exact ⟨rfl, rfl, rfl⟩
  · intro W base args ds ps hval0 hA0 hwt0
    have hval : ∀ (j : Nat) t v, Try.f6.params[j]? = some t → args[j]? = some v → Value.okWide Try.prog W .any base t v := hval0
    have hA : DataW.TrodAll enc Try.prog W 0 (fun _ => true) true Try.f6.params.toList args.toList ds ps := hA0
    have hwt : ∀ k ∈ DataW.weightsEach Try.prog Try.f6.params.toList ds, k ≤ reachBytes := hwt0
    clear hA0 hval0 hwt0
    rw [Try.params6] at hA hval hwt
    obtain ⟨al⟩ := args
    obtain ⟨v0, r0, d0, e0, p0, q0, hal, rfl, rfl, h0, hA0⟩ := trodAll_cons hA
    have hal : al = v0 :: r0 := hal
    subst hal
    obtain ⟨v1, r1, d1, e1, p1, q1, rfl, rfl, rfl, h1, hA1⟩ := trodAll_cons hA0
    obtain ⟨v2, r2, d2, e2, p2, q2, rfl, rfl, rfl, h2, hA2⟩ := trodAll_cons hA1
    obtain ⟨rfl, rfl, rfl⟩ := trodAll_nil hA2
    obtain ⟨⟨lv, l⟩, rfl, hAl, -, hnl⟩ := arg_scal (opens_slice (by_ := 12) (sz := 3) Try.underlying22 (Opens.map (opens_struct (fs := [_, _, _]) Try.underlying36 (by kernel_rfl) (opensF_cons (k := 1) (by rfl) (by kernel_rfl) (opens_u8 Try.underlying5) (opensF_cons (k := 1) (by rfl) (by kernel_rfl) (opens_u32 Try.underlying26) (opensF_cons (k := 1) (by rfl) (by kernel_rfl) (opens_u32 Try.underlying26) opensF_nil)))) (f' := ntc) (ok' := fun _ _ => True) (fun p => Nt.mk p.1 p.2.1 p.2.2.1) (fun _ => rfl) (fun _ _ _ => True.intro)) (fun _ => rfl) (by kernel_rfl) (by decide) (by kernel_rfl)) (by rw [Try.underlying22]) (hval 0 22 v0 rfl rfl) h0 (fun k hk => hwt k (List.mem_append.2 (.inl hk)))
    obtain ⟨a, rfl, -⟩ := arg_scal (opens_u8 Try.underlying5) (by rw [Try.underlying5]) (hval 1 5 v1 rfl rfl) h1 (fun k hk => hwt k (List.mem_append.2 (.inr (List.mem_append.2 (.inl hk)))))
    obtain ⟨t, rfl, -⟩ := arg_scal (opens_u8 Try.underlying5) (by rw [Try.underlying5]) (hval 2 5 v2 rfl rfl) h2 (fun k hk => hwt k (List.mem_append.2 (.inr (List.mem_append.2 (.inr (List.mem_append.2 (.inl hk)))))))
    exact demandOrder_ok v0 l a t W hAl (by have h : l.length * 12 ≤ 140737488351232 := hnl; show l.length ≤ _; omega)
theorem demandOrder_holds : Rows.DemandOrderSaid :=
  OpenClaim.holds_of_wide 6 Try.f6 rfl rfl rfl rfl rfl rfl rfl ⟨rfl, rfl, rfl, rfl, rfl⟩ rfl rfl rfl rfl rfl (by kernel_rfl) Try.func6 (by kernel_rfl)
    (of_decide_eq_true (by kernel_rfl)) (by unfold Func.isWrapper; rw [if_neg (of_decide_eq_false (by kernel_rfl))]; exact ⟨rfl, rfl⟩)
    (fun os started H enc _ => demandOrder_lifted os started H enc)
end Go.Proofs.Ytnngbnenekjffaa
