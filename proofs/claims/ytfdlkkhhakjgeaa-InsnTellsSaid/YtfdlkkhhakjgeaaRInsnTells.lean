/- The row of InsnTells. -/
import Derived.Test.YtfdlkkhhakjgeaaWInsnTells
import Derived.Test.YtfdlkkhhakjgeaaOwlRow
import Derived.Test.YtfdlkkhhakjgeaaRows
namespace Go.Proofs.Ytfdlkkhhakjgeaa
open Go.Owl Go.ChangeShapes Go.WideShapes Go.RowKit
theorem insnTells_own : ownKnob Try.prog.godebug = none := by kernel_rfl
theorem insnTells_laidOut : laidOutB Try.prog = true := by kernel_rfl
set_option maxRecDepth 100000 in
theorem insnTells_lifted (os : Os) (started : os.Started) (H : Type) (enc : TypeId × Value → H) :
    ReturnsInHanded {} Try.checked os 4 .any (Rows.insnTellsSpec.pre6 enc Try.prog Try.f4 Rows.insnTellsRow.domain false) (Rows.insnTellsSpec.post enc Try.prog Try.f4 false true false false) := by
  refine row_true (C := Try.checked) (tb := 4) insnTells_own started (by kernel_rfl) Try.func4
    (ChangeSpec.witness6 (enc := enc) (C := Try.checked) false ⟨#[], #[.agg #[.int .u8 0, .int .u8 0, .int .u8 0, .int .u8 0, .int .u32 0], .string ⟨#[]⟩], []⟩ 8 (by kernel_rfl) (by kernel_rfl) (by kernel_rfl) (by kernel_rfl))
    insnTells_laidOut rfl ?_ rfl Try.underlying4 (by kernel_rfl) ?_
  · intro ds h
    match ds, h with
    | [_, _], _ => exact ⟨rfl, rfl, rfl⟩
  · intro W base args ds ps hval0 hA0 hlt
    have hval : ∀ (j : Nat) t v, Try.f4.params[j]? = some t → args[j]? = some v → Value.okWide Try.prog W .any base t v := hval0
    have hA : DataW.TrodAll enc Try.prog W 0 (fun _ => true) true Try.f4.params.toList args.toList ds ps := hA0
    clear hA0 hval0
    rw [Try.params4] at hA hval
    obtain ⟨al⟩ := args
    obtain ⟨v0, r0, d0, e0, p0, q0, hal, rfl, rfl, h0, hA0⟩ := trodAll_cons hA
    have hal : al = v0 :: r0 := hal
    subst hal
    obtain ⟨v1, r1, d1, e1, p1, q1, rfl, rfl, rfl, h1, hA1⟩ := trodAll_cons hA0
    obtain ⟨rfl, rfl, rfl⟩ := trodAll_nil hA1
    obtain ⟨op0, d0_, a0, b0, imm0, rfl⟩ := open_insn Try.underlying24 (by kernel_rfl) (by kernel_rfl) (hval 0 24 v0 rfl rfl) h0
    obtain ⟨s1, rfl, hs1⟩ := open_str Try.underlying9 (hval 1 9 v1 rfl rfl) h1
    exact tells_ok op0 d0_ a0 b0 imm0 s1 W
theorem insnTells_holds : Rows.InsnTellsSaid :=
  OpenClaim.holds_of_wide 4 Try.f4 rfl rfl rfl rfl rfl rfl rfl ⟨rfl, rfl, rfl, rfl, rfl⟩ rfl rfl rfl rfl rfl (by kernel_rfl) Try.func4 (by kernel_rfl)
    (of_decide_eq_true (by kernel_rfl)) (by unfold Func.isWrapper; rw [if_neg (of_decide_eq_false (by kernel_rfl))]; exact ⟨rfl, rfl⟩)
    (fun os started H enc _ => insnTells_lifted os started H enc)
end Go.Proofs.Ytfdlkkhhakjgeaa
