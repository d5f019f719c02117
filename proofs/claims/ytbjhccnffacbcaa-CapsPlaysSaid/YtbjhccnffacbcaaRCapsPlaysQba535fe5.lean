/- The claim's row and what it hangs on: RCapsPlays. No condition but what each theorem names. -/
import Derived.Test.YtbjhccnffacbcaaQ2ce0812e
import Derived.Test.YtbjhccnffacbcaaQ726357e9
import Derived.Test.YtbjhccnffacbcaaRows
/-! from RCapsPlays -/
/- The row of CapsPlays: whatever the input, true; the input reads as it did. No condition but the form's own. -/
namespace Go.Proofs.Ytbjhccnffacbcaa
open Go.Owl Go.Spec Go.ChangeShapes Go.WideShapes Go.RowKit
theorem capsPlays_own : ownKnob Try.prog.godebug = none := by kernel_rfl
theorem capsPlays_laidOut : laidOutB Try.prog = true := by kernel_rfl
set_option maxRecDepth 100000 in
theorem capsPlays_lifted (os : Os) (started : os.Started) (H : Type) (enc : TypeId × Value → H) :
    ReturnsInHanded {} Try.checked os 6 .any (Rows.capsPlaysSpec.pre6 enc Try.prog Try.f6 Rows.capsPlaysRow.domain false) (Rows.capsPlaysSpec.post enc Try.prog Try.f6 false true false false) := by
  refine row_sized (C := Try.checked) (tb := 4) capsPlays_own started (by kernel_rfl) Try.func6
    (ChangeSpec.witness6 (enc := enc) (C := Try.checked) false ⟨#[], #[.agg #[.int .u32 0, .slice none 0 0], .slice none 0 0, .int .u32 0, .int .u32 0, .int .u16 0], []⟩ 8 (by kernel_rfl) (by kernel_rfl) (by kernel_rfl) (by kernel_rfl))
    capsPlays_laidOut rfl rfl ?_ rfl Try.underlying4 (by kernel_rfl) ?_
  · intro ds h
    match ds, h with
    | [_, _, _, _, _], _ => exact ⟨rfl, rfl, rfl⟩
  · intro W base args ds ps hval0 hA0 hwt0
    have hval : ∀ (j : Nat) t v, Try.f6.params[j]? = some t → args[j]? = some v → Value.okWide Try.prog W .any base t v := hval0
    have hA : DataW.TrodAll enc Try.prog W 0 (fun _ => true) true Try.f6.params.toList args.toList ds ps := hA0
    have hwt : ∀ k ∈ DataW.weightsEach Try.prog Try.f6.params.toList ds, k ≤ reachBytes := hwt0
    clear hA0 hval0 hwt0
    rw [Try.params6] at hA hval hwt
    obtain ⟨al⟩ := args
    obtain ⟨v0, r0, d0, e0, p0, q0, hal, rfl, rfl, h0, hA0⟩ := trodAll_cons hA
    have hal : al = v0 :: r0 := hal
    subst hal
    obtain ⟨v1, r1, d1, e1, p1, q1, rfl, rfl, rfl, h1, hA1⟩ := trodAll_cons hA0
    obtain ⟨v2, r2, d2, e2, p2, q2, rfl, rfl, rfl, h2, hA2⟩ := trodAll_cons hA1
    obtain ⟨v3, r3, d3, e3, p3, q3, rfl, rfl, rfl, h3, hA3⟩ := trodAll_cons hA2
    obtain ⟨v4, r4, d4, e4, p4, q4, rfl, rfl, rfl, h4, hA4⟩ := trodAll_cons hA3
    obtain ⟨rfl, rfl, rfl⟩ := trodAll_nil hA4
    obtain ⟨⟨pg, ⟨hev, he⟩, ⟨⟩⟩, rfl, ⟨-, ⟨hH, -, hn⟩, -⟩⟩ := arg_struct Try.underlying48 (opens_struct (fs := [_, _]) Try.underlying48 (by kernel_rfl) (opensF_cons (k := 1) (by rfl) (by kernel_rfl) (opens_u32 Try.underlying29) (opensF_cons (k := 1) (by rfl) (by kernel_rfl) (opens_slice1 (by_ := 4) Try.underlying46 (opens_u32 Try.underlying29) (by kernel_rfl) (by kernel_rfl)) opensF_nil))) (hval 0 48 v0 rfl rfl) h0 (fun k hk => hwt k (List.mem_append.2 (.inl hk)))
    obtain ⟨⟨lv, l⟩, rfl, hAl, hIl, hl⟩ := arg_scal (opens_slice (by_ := 88) (sz := 7) Try.underlying49 (Opens.map (opens_struct (fs := [_, _, _, _]) Try.underlying61 (by kernel_rfl) (opensF_cons (k := 1) (by rfl) (by kernel_rfl) (opens_i64 Try.underlying3) (opensF_cons (k := 1) (by rfl) (by kernel_rfl) (opens_i64 Try.underlying3) (opensF_cons (k := 4) (by rfl) (by kernel_rfl) (opens_struct (fs := [_, _, _, _]) Try.underlying59 (by kernel_rfl) (opensF_cons (k := 1) (by rfl) (by kernel_rfl) (opens_u32 Try.underlying29) (opensF_cons (k := 1) (by rfl) (by kernel_rfl) (opens_slice (by_ := 8) (sz := 2) Try.underlying56 (Opens.map (opens_struct (fs := [_, _]) Try.underlying108 (by kernel_rfl) (opensF_cons (k := 1) (by rfl) (by kernel_rfl) (opens_u32 Try.underlying29) (opensF_cons (k := 1) (by rfl) (by kernel_rfl) (opens_u32 Try.underlying29) opensF_nil))) (f' := xtc) (ok' := fun _ _ => True) (fun p => Xt.mk p.1 p.2.1) (fun _ => rfl) (fun _ _ _ => True.intro)) (fun _ => rfl) (by kernel_rfl) (by decide) (by kernel_rfl)) (opensF_cons (k := 1) (by rfl) (by kernel_rfl) (opens_slice1 (by_ := 2) Try.underlying57 (opens_u16 Try.underlying50) (by kernel_rfl) (by kernel_rfl)) (opensF_cons (k := 1) (by rfl) (by kernel_rfl) (opens_bool Try.underlying4) opensF_nil))))) (opensF_cons (k := 1) (by rfl) (by kernel_rfl) (opens_u32 Try.underlying29) opensF_nil))))) (f' := stc) (ok' := fun w a => StD.ok w a) (fun p => Sts.mk p.1 p.2.1 p.2.2.1.1 p.2.2.1.2.1.1 p.2.2.1.2.1.2 p.2.2.1.2.2.1.1 p.2.2.1.2.2.1.2 p.2.2.1.2.2.2.1 p.2.2.2.1) (fun _ => rfl) (fun w p h => ⟨h.2.2.1.2.1.1, h.2.2.1.2.2.1.1⟩)) (fun _ => rfl) (by kernel_rfl) (by decide) (by kernel_rfl)) (by rw [Try.underlying49]) (hval 1 49 v1 rfl rfl) h1 (fun k hk => hwt k (List.mem_append.2 (.inr (List.mem_append.2 (.inl hk)))))
    obtain ⟨id, rfl, -⟩ := arg_scal (opens_u32 Try.underlying29) (by rw [Try.underlying29]) (hval 2 29 v2 rfl rfl) h2 (fun k hk => hwt k (List.mem_append.2 (.inr (List.mem_append.2 (.inr (List.mem_append.2 (.inl hk)))))))
    obtain ⟨bk, rfl, -⟩ := arg_scal (opens_u32 Try.underlying29) (by rw [Try.underlying29]) (hval 3 29 v3 rfl rfl) h3 (fun k hk => hwt k (List.mem_append.2 (.inr (List.mem_append.2 (.inr (List.mem_append.2 (.inr (List.mem_append.2 (.inl hk)))))))))
    obtain ⟨y, rfl, -⟩ := arg_scal (opens_u16 Try.underlying50) (by rw [Try.underlying50]) (hval 4 50 v4 rfl rfl) h4 (fun k hk => hwt k (List.mem_append.2 (.inr (List.mem_append.2 (.inr (List.mem_append.2 (.inr (List.mem_append.2 (.inr (List.mem_append.2 (.inl hk)))))))))))
    exact capsPlays_ok pg hev v1 he l id bk y W hH hAl hIl (by have h : he.length * 4 ≤ 140737488351232 := hn; omega) (by have h : l.length * 88 ≤ 140737488351232 := hl; omega)
theorem capsPlays_holds : Rows.CapsPlaysSaid :=
 OpenClaim.holds_of_wide 6 Try.f6 rfl rfl rfl rfl rfl rfl rfl ⟨rfl, rfl, rfl, rfl, rfl⟩ rfl rfl rfl rfl rfl (by kernel_rfl) Try.func6 (by kernel_rfl)
  (of_decide_eq_true (by kernel_rfl)) (by unfold Func.isWrapper; rw [if_neg (of_decide_eq_false (by kernel_rfl))]; exact ⟨rfl, rfl⟩)
  (fun os started H enc _ => capsPlays_lifted os started H enc)
end Go.Proofs.Ytbjhccnffacbcaa
