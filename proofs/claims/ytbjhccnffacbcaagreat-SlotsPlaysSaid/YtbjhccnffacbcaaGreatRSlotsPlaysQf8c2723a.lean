/- The claim's row and what it hangs on: RSlotsPlays. No condition but what each theorem names. -/
import Derived.Test.YtbjhccnffacbcaaGreatQ2fec3cdb
import Derived.Test.YtbjhccnffacbcaaGreatQ76ffd70d
import Derived.Test.YtbjhccnffacbcaaGreatRows
/-! from RSlotsPlays -/
/- The row of SlotsPlays: whatever the input, true; the input reads as it did. No condition but the form's own. -/
namespace Go.Proofs.YtbjhccnffacbcaaGreat
open Go.Owl Go.Spec Go.ChangeShapes Go.WideShapes Go.RowKit
theorem slotsPlays_own : ownKnob Tryz.prog.godebug = none := by kernel_rfl
theorem slotsPlays_laidOut : laidOutB Tryz.prog = true := by kernel_rfl
set_option maxRecDepth 100000 in
theorem slotsPlays_lifted (os : Os) (started : os.Started) (H : Type) (enc : TypeId × Value → H) :
    ReturnsInHanded {} Tryz.checked os 5 .any (Rows.slotsPlaysSpec.pre6 enc Tryz.prog Tryz.f5 Rows.slotsPlaysRow.domain false) (Rows.slotsPlaysSpec.post enc Tryz.prog Tryz.f5 false true false false) := by
  refine row_sized (C := Tryz.checked) (tb := 4) slotsPlays_own started (by kernel_rfl) Tryz.func5
    (ChangeSpec.witness6 (enc := enc) (C := Tryz.checked) false ⟨#[], #[.int .u8 0, .string ⟨#[]⟩, .slice none 0 0], []⟩ 8 (by kernel_rfl) (by kernel_rfl) (by kernel_rfl) (by kernel_rfl))
    slotsPlays_laidOut rfl rfl ?_ rfl Tryz.underlying4 (by kernel_rfl) ?_
  · intro ds h
    match ds, h with
    | [_, _, _], _ => exact ⟨rfl, rfl, rfl⟩
  · intro W base args ds ps hval0 hA0 hwt0
    have hval : ∀ (j : Nat) t v, Tryz.f5.params[j]? = some t → args[j]? = some v → Value.okWide Tryz.prog W .any base t v := hval0
    have hA : DataW.TrodAll enc Tryz.prog W 0 (fun _ => true) true Tryz.f5.params.toList args.toList ds ps := hA0
    have hwt : ∀ k ∈ DataW.weightsEach Tryz.prog Tryz.f5.params.toList ds, k ≤ reachBytes := hwt0
    clear hA0 hval0 hwt0
    rw [Tryz.params5] at hA hval hwt
    obtain ⟨al⟩ := args
    obtain ⟨v0, r0, d0, e0, p0, q0, hal, rfl, rfl, h0, hA0⟩ := trodAll_cons hA
    have hal : al = v0 :: r0 := hal
    subst hal
    obtain ⟨v1, r1, d1, e1, p1, q1, rfl, rfl, rfl, h1, hA1⟩ := trodAll_cons hA0
    obtain ⟨v2, r2, d2, e2, p2, q2, rfl, rfl, rfl, h2, hA2⟩ := trodAll_cons hA1
    obtain ⟨rfl, rfl, rfl⟩ := trodAll_nil hA2
    obtain ⟨bl, rfl, -⟩ := arg_scal (opens_u8 Tryz.underlying5) (by rw [Tryz.underlying5]) (hval 0 5 v0 rfl rfl) h0 (fun k hk => hwt k (List.mem_append.2 (.inl hk)))
    obtain ⟨key, rfl, hk⟩ := arg_scal (opens_str Tryz.underlying9) (by rw [Tryz.underlying9]) (hval 1 9 v1 rfl rfl) h1 (fun k hk => hwt k (List.mem_append.2 (.inr (List.mem_append.2 (.inl hk)))))
    obtain ⟨⟨lv, l⟩, rfl, hAl, hBl, hnl⟩ := arg_scal (opens_slice (by_ := 40) (sz := 4) Tryz.underlying53 (Opens.map (opens_struct (fs := [_, _, _, _]) Tryz.underlying58 (by kernel_rfl) (opensF_cons (k := 1) (by rfl) (by kernel_rfl) (opens_i64 Tryz.underlying3) (opensF_cons (k := 1) (by rfl) (by kernel_rfl) (opens_i64 Tryz.underlying3) (opensF_cons (k := 1) (by rfl) (by kernel_rfl) (opens_u32 Tryz.underlying22) (opensF_cons (k := 1) (by rfl) (by kernel_rfl) (opens_str Tryz.underlying9) opensF_nil))))) (f' := akc) (ok' := fun _ a => a.t.length ≤ 140737488351232 ∧ a.n < 2 ^ 63) (fun p => Ak.mk p.1 p.2.1 p.2.2.1 p.2.2.2.1) (fun _ => rfl) (fun _ _ h => ⟨h.2.2.2.1, ak_n h.2.1⟩)) (fun _ => rfl) (by kernel_rfl) (by decide) (by kernel_rfl)) (by rw [Tryz.underlying53]) (hval 2 53 v2 rfl rfl) h2 (fun k hk => hwt k (List.mem_append.2 (.inr (List.mem_append.2 (.inr (List.mem_append.2 (.inl hk)))))))
    exact slotsPlays_ok bl key v2 l W hAl (ak_fit hBl) (by have h : l.length * 40 ≤ 140737488351232 := hnl; omega) (Nat.lt_of_le_of_lt hk (by decide))
theorem slotsPlays_holds : Rows.SlotsPlaysSaid :=
  OpenClaim.holds_of_wide 5 Tryz.f5 rfl rfl rfl rfl rfl rfl rfl ⟨rfl, rfl, rfl, rfl, rfl⟩ rfl rfl rfl rfl rfl (by kernel_rfl) Tryz.func5 (by kernel_rfl)
    (of_decide_eq_true (by kernel_rfl)) (by unfold Func.isWrapper; rw [if_neg (of_decide_eq_false (by kernel_rfl))]; exact ⟨rfl, rfl⟩)
    (fun os started H enc _ => slotsPlays_lifted os started H enc)
end Go.Proofs.YtbjhccnffacbcaaGreat
