/- The row of InsnBack. -/
import Derived.Test.YtfdlkkhhakjgeaaWInsnBack
import Derived.Test.YtfdlkkhhakjgeaaOwlRow
import Derived.Test.YtfdlkkhhakjgeaaRows
namespace Go.Proofs.Ytfdlkkhhakjgeaa
open Go.Owl Go.ChangeShapes Go.WideShapes Go.RowKit
theorem insnBack_own : ownKnob Try.prog.godebug = none := by kernel_rfl
theorem insnBack_laidOut : laidOutB Try.prog = true := by kernel_rfl
set_option maxRecDepth 100000 in
theorem insnBack_lifted (os : Os) (started : os.Started) (H : Type) (enc : TypeId × Value → H) :
    ReturnsInHanded {} Try.checked os 3 .any (Rows.insnBackSpec.pre6 enc Try.prog Try.f3 Rows.insnBackRow.domain false) (Rows.insnBackSpec.post enc Try.prog Try.f3 false true false false) := by
  refine row_true (C := Try.checked) (tb := 4) insnBack_own started (by kernel_rfl) Try.func3
    (ChangeSpec.witness6 (enc := enc) (C := Try.checked) false ⟨#[], #[.agg #[.int .u8 0, .int .u8 0, .int .u8 0, .int .u8 0, .int .u32 0], .agg #[.int .u8 0, .int .u8 0, .int .u8 0, .int .u8 0, .int .u32 0], .int .u32 0, .int .u32 0], []⟩ 8 (by kernel_rfl) (by kernel_rfl) (by kernel_rfl) (by kernel_rfl))
    insnBack_laidOut rfl ?_ rfl Try.underlying4 (by kernel_rfl) ?_
  · intro ds h
    match ds, h with
    | [_, _, _, _], _ => exact ⟨rfl, rfl, rfl⟩
  · intro W base args ds ps hval0 hA0 hlt
    have hval : ∀ (j : Nat) t v, Try.f3.params[j]? = some t → args[j]? = some v → Value.okWide Try.prog W .any base t v := hval0
    have hA : DataW.TrodAll enc Try.prog W 0 (fun _ => true) true Try.f3.params.toList args.toList ds ps := hA0
    clear hA0 hval0
    rw [Try.params3] at hA hval
    obtain ⟨al⟩ := args
    obtain ⟨v0, r0, d0, e0, p0, q0, hal, rfl, rfl, h0, hA0⟩ := trodAll_cons hA
    have hal : al = v0 :: r0 := hal
    subst hal
    obtain ⟨v1, r1, d1, e1, p1, q1, rfl, rfl, rfl, h1, hA1⟩ := trodAll_cons hA0
    obtain ⟨v2, r2, d2, e2, p2, q2, rfl, rfl, rfl, h2, hA2⟩ := trodAll_cons hA1
    obtain ⟨v3, r3, d3, e3, p3, q3, rfl, rfl, rfl, h3, hA3⟩ := trodAll_cons hA2
    obtain ⟨rfl, rfl, rfl⟩ := trodAll_nil hA3
    obtain ⟨op0, d0_, a0, b0, imm0, rfl⟩ := open_insn Try.underlying24 (by kernel_rfl) (by kernel_rfl) (hval 0 24 v0 rfl rfl) h0
    obtain ⟨op1, d1_, a1, b1, imm1, rfl⟩ := open_insn Try.underlying24 (by kernel_rfl) (by kernel_rfl) (hval 1 24 v1 rfl rfl) h1
    obtain ⟨x2, rfl⟩ := open_u32 Try.underlying22 (hval 2 22 v2 rfl rfl) h2
    obtain ⟨x3, rfl⟩ := open_u32 Try.underlying22 (hval 3 22 v3 rfl rfl) h3
    exact back_ok op0 d0_ a0 b0 imm0 op1 d1_ a1 b1 imm1 x2 x3 W
theorem insnBack_holds : Rows.InsnBackSaid :=
  OpenClaim.holds_of_wide 3 Try.f3 rfl rfl rfl rfl rfl rfl rfl ⟨rfl, rfl, rfl, rfl, rfl⟩ rfl rfl rfl rfl rfl (by kernel_rfl) Try.func3 (by kernel_rfl)
    (of_decide_eq_true (by kernel_rfl)) (by unfold Func.isWrapper; rw [if_neg (of_decide_eq_false (by kernel_rfl))]; exact ⟨rfl, rfl⟩)
    (fun os started H enc _ => insnBack_lifted os started H enc)
end Go.Proofs.Ytfdlkkhhakjgeaa
