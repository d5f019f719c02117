/- The row of InsnAll: whatever the input, true; the input reads as it did. No condition but the form's own. -/
import Derived.Test.YtfdlkkhhakjgeaaWAll
import Derived.Test.YtfdlkkhhakjgeaaOwlOpen
import Derived.Test.YtfdlkkhhakjgeaaRows
namespace Go.Proofs.Ytfdlkkhhakjgeaa
open Go.Owl Go.Spec Go.ChangeShapes Go.WideShapes Go.RowKit
theorem insnAll_own : ownKnob Try.prog.godebug = none := by kernel_rfl
theorem insnAll_laidOut : laidOutB Try.prog = true := by kernel_rfl
set_option maxRecDepth 100000 in
theorem insnAll_lifted (os : Os) (started : os.Started) (H : Type) (enc : TypeId × Value → H) :
    ReturnsInHanded {} Try.checked os 8 .any (Rows.insnAllSpec.pre6 enc Try.prog Try.f8 Rows.insnAllRow.domain false) (Rows.insnAllSpec.post enc Try.prog Try.f8 false true false false) := by
  refine row_sized (C := Try.checked) (tb := 4) insnAll_own started (by kernel_rfl) Try.func8
    (ChangeSpec.witness6 (enc := enc) (C := Try.checked) false ⟨#[], #[.slice none 0 0], []⟩ 8 (by kernel_rfl) (by kernel_rfl) (by kernel_rfl) (by kernel_rfl))
    insnAll_laidOut rfl rfl ?_ rfl Try.underlying4 (by kernel_rfl) ?_
  · intro ds h
    match ds, h with
    | [_], _ => exact ⟨rfl, rfl, rfl⟩
  · intro W base args ds ps hval0 hA0 hwt0
    have hval : ∀ (j : Nat) t v, Try.f8.params[j]? = some t → args[j]? = some v → Value.okWide Try.prog W .any base t v := hval0
    have hA : DataW.TrodAll enc Try.prog W 0 (fun _ => true) true Try.f8.params.toList args.toList ds ps := hA0
    have hwt : ∀ k ∈ DataW.weightsEach Try.prog Try.f8.params.toList ds, k ≤ reachBytes := hwt0
    clear hA0 hval0 hwt0
    rw [Try.params8] at hA hval hwt
    obtain ⟨al⟩ := args
    obtain ⟨v0, r0, d0, e0, p0, q0, hal, rfl, rfl, h0, hA0⟩ := trodAll_cons hA
    have hal : al = v0 :: r0 := hal
    subst hal
    obtain ⟨rfl, rfl, rfl⟩ := trodAll_nil hA0
    obtain ⟨⟨lv, l⟩, rfl, hAl, -, -⟩ := arg_scal (opens_slice (by_ := 8) (sz := 5) Try.underlying51 ((opens_struct (fs := [_, _, _, _, _]) Try.underlying24 (by kernel_rfl) (opensF_cons (k := 1) (by rfl) (by kernel_rfl) (opens_u8 Try.underlying5) (opensF_cons (k := 1) (by rfl) (by kernel_rfl) (opens_u8 Try.underlying5) (opensF_cons (k := 1) (by rfl) (by kernel_rfl) (opens_u8 Try.underlying5) (opensF_cons (k := 1) (by rfl) (by kernel_rfl) (opens_u8 Try.underlying5) (opensF_cons (k := 1) (by rfl) (by kernel_rfl) (opens_u32 Try.underlying22) opensF_nil)))))).map (f' := i5) (ok' := fun _ _ => True) (fun p => I5.mk p.1 p.2.1 p.2.2.1 p.2.2.2.1 p.2.2.2.2.1) (fun _ => rfl) (fun _ _ _ => True.intro)) (fun _ => rfl) (by kernel_rfl) (by decide) (by kernel_rfl)) (by rw [Try.underlying51]) (hval 0 51 v0 rfl rfl) h0 (fun k hk => hwt k (List.mem_append.2 (.inl hk)))
    exact insnAll_ok v0 l W hAl
theorem insnAll_holds : Rows.InsnAllSaid :=
  OpenClaim.holds_of_wide 8 Try.f8 rfl rfl rfl rfl rfl rfl rfl ⟨rfl, rfl, rfl, rfl, rfl⟩ rfl rfl rfl rfl rfl (by kernel_rfl) Try.func8 (by kernel_rfl)
    (of_decide_eq_true (by kernel_rfl)) (by unfold Func.isWrapper; rw [if_neg (of_decide_eq_false (by kernel_rfl))]; exact ⟨rfl, rfl⟩)
    (fun os started H enc _ => insnAll_lifted os started H enc)
end Go.Proofs.Ytfdlkkhhakjgeaa
