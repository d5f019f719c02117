/- The claim's row and what it hangs on: RSealTells. No condition but what each theorem names. -/
import Derived.Test.YtpnghdalnghpcaaQ57287dce
import Derived.Test.YtpnghdalnghpcaaQ3677b7f3
import Derived.Test.YtpnghdalnghpcaaRows
/-! from RSealTells -/
/- The row of SealTells: whatever the input, true; the input reads as it did. No condition but the form's own. -/
namespace Go.Proofs.Ytpnghdalnghpcaa
open Go.Owl Go.Spec Go.ChangeShapes Go.WideShapes Go.RowKit
theorem sealTells_own : ownKnob Try.prog.godebug = none := by kernel_rfl
theorem sealTells_laidOut : laidOutB Try.prog = true := by kernel_rfl
set_option maxRecDepth 100000 in
theorem sealTells_lifted (os : Os) (started : os.Started) (H : Type) (enc : TypeId × Value → H) :
    ReturnsInHanded {} Try.checked os 13 .any (Rows.sealTellsSpec.pre6 enc Try.prog Try.f13 Rows.sealTellsRow.domain false) (Rows.sealTellsSpec.post enc Try.prog Try.f13 false true false false) := by
  refine row_sized (C := Try.checked) (tb := 4) sealTells_own started (by kernel_rfl) Try.func13
    (ChangeSpec.witness6 (enc := enc) (C := Try.checked) false ⟨#[], #[.string ⟨#[]⟩, .agg #[.int .u32 0, .slice none 0 0, .slice none 0 0, .bool false, .int .u32 0, .slice none 0 0], .string ⟨#[]⟩, .slice none 0 0], []⟩ 8 (by kernel_rfl) (by kernel_rfl) (by kernel_rfl) (by kernel_rfl))
    sealTells_laidOut rfl rfl ?_ rfl Try.underlying4 (by kernel_rfl) ?_
  · intro ds h
    match ds, h with
    | [_, _, _, _], _ => exact ⟨rfl, rfl, rfl⟩
  · intro W base args ds ps hval0 hA0 hwt0
    have hval : ∀ (j : Nat) t v, Try.f13.params[j]? = some t → args[j]? = some v → Value.okWide Try.prog W .any base t v := hval0
    have hA : DataW.TrodAll enc Try.prog W 0 (fun _ => true) true Try.f13.params.toList args.toList ds ps := hA0
    have hwt : ∀ k ∈ DataW.weightsEach Try.prog Try.f13.params.toList ds, k ≤ reachBytes := hwt0
    clear hA0 hval0 hwt0
    rw [Try.params13] at hA hval hwt
    obtain ⟨al⟩ := args
    obtain ⟨v0, r0, d0, e0, p0, q0, hal, rfl, rfl, h0, hA0⟩ := trodAll_cons hA
    have hal : al = v0 :: r0 := hal
    subst hal
    obtain ⟨v1, r1, d1, e1, p1, q1, rfl, rfl, rfl, h1, hA1⟩ := trodAll_cons hA0
    obtain ⟨v2, r2, d2, e2, p2, q2, rfl, rfl, rfl, h2, hA2⟩ := trodAll_cons hA1
    obtain ⟨v3, r3, d3, e3, p3, q3, rfl, rfl, rfl, h3, hA3⟩ := trodAll_cons hA2
    obtain ⟨rfl, rfl, rfl⟩ := trodAll_nil hA3
    obtain ⟨key, rfl, hk0⟩ := arg_scal (opens_str Try.underlying9) (by rw [Try.underlying9]) (hval 0 9 v0 rfl rfl) h0 (fun k hk => hwt k (List.mem_append.2 (.inl hk)))
    obtain ⟨⟨⟨pg1, ⟨ev1, xs1⟩, ⟨pv1, ps1⟩, c1, ⟨⟩⟩, en1, ⟨sv1, sg1⟩, ⟨⟩⟩, rfl, ⟨⟨-, ⟨hE1, -, hn1⟩, ⟨hP1, -, hm1⟩, -, -⟩, -, ⟨hS1, hB1, hk1⟩, -⟩⟩ := arg_struct Try.underlying59 (opens_struct (fs := [_, _, _]) Try.underlying59 (by kernel_rfl) (opensF_cons (k := 4) (by rfl) (by kernel_rfl) (opens_struct (fs := [_, _, _, _]) Try.underlying56 (by kernel_rfl) (opensF_cons (k := 1) (by rfl) (by kernel_rfl) (opens_u32 Try.underlying22) (opensF_cons (k := 1) (by rfl) (by kernel_rfl) (opens_slice (by_ := 8) (sz := 2) Try.underlying53 (Opens.map (opens_struct (fs := [_, _]) Try.underlying130 (by kernel_rfl) (opensF_cons (k := 1) (by rfl) (by kernel_rfl) (opens_u32 Try.underlying22) (opensF_cons (k := 1) (by rfl) (by kernel_rfl) (opens_u32 Try.underlying22) opensF_nil))) (f' := xtc) (ok' := fun _ _ => True) (fun p => Xt.mk p.1 p.2.1) (fun _ => rfl) (fun _ _ _ => True.intro)) (fun _ => rfl) (by kernel_rfl) (by decide) (by kernel_rfl)) (opensF_cons (k := 1) (by rfl) (by kernel_rfl) (opens_slice1 (by_ := 2) Try.underlying54 (opens_u16 Try.underlying92) (by kernel_rfl) (by kernel_rfl)) (opensF_cons (k := 1) (by rfl) (by kernel_rfl) (opens_bool Try.underlying4) opensF_nil))))) (opensF_cons (k := 1) (by rfl) (by kernel_rfl) (opens_u32 Try.underlying22) (opensF_cons (k := 1) (by rfl) (by kernel_rfl) (opens_slice (by_ := 24) (sz := 3) Try.underlying57 (Opens.map (opens_struct (fs := [_, _, _]) Try.underlying111 (by kernel_rfl) (opensF_cons (k := 1) (by rfl) (by kernel_rfl) (opens_u32 Try.underlying22) (opensF_cons (k := 1) (by rfl) (by kernel_rfl) (opens_u8 Try.underlying5) (opensF_cons (k := 1) (by rfl) (by kernel_rfl) (opens_str Try.underlying9) opensF_nil)))) (f' := sgc) (ok' := fun _ a => a.b.length ≤ 140737488351232) (fun p => Sg.mk p.1 p.2.1 p.2.2.1) (fun _ => rfl) (fun _ _ h => h.2.2.1)) (fun _ => rfl) (by kernel_rfl) (by decide) (by kernel_rfl)) opensF_nil)))) (hval 1 59 v1 rfl rfl) h1 (fun k hk => hwt k (List.mem_append.2 (.inr (List.mem_append.2 (.inl hk)))))
    obtain ⟨s, rfl, hs⟩ := arg_scal (opens_str Try.underlying9) (by rw [Try.underlying9]) (hval 2 9 v2 rfl rfl) h2 (fun k hk => hwt k (List.mem_append.2 (.inr (List.mem_append.2 (.inr (List.mem_append.2 (.inl hk)))))))
    obtain ⟨⟨lv, ls⟩, rfl, hAl, hBl, -⟩ := arg_scal (opens_slice1 (by_ := 16) Try.underlying23 (opens_str Try.underlying9) (by kernel_rfl) (by kernel_rfl)) (by rw [Try.underlying23]) (hval 3 23 v3 rfl rfl) h3 (fun k hk => hwt k (List.mem_append.2 (.inr (List.mem_append.2 (.inr (List.mem_append.2 (.inr (List.mem_append.2 (.inl hk)))))))))
    exact sealTells_ok key pg1 ev1 pv1 sv1 xs1 ps1 c1 en1 sg1 s v3 ls W hE1 hP1 hS1 (by have h : xs1.length * 8 ≤ 140737488351232 := hn1; omega) (by have h : ps1.length * 2 ≤ 140737488351232 := hm1; omega) (by have h : sg1.length * 24 ≤ 140737488351232 := hk1; omega) hB1 hk0 hs hAl hBl
theorem sealTells_holds : Rows.SealTellsSaid :=
  OpenClaim.holds_of_wide 13 Try.f13 rfl rfl rfl rfl rfl rfl rfl ⟨rfl, rfl, rfl, rfl, rfl⟩ rfl rfl rfl rfl rfl (by kernel_rfl) Try.func13 (by kernel_rfl)
    (of_decide_eq_true (by kernel_rfl)) (by unfold Func.isWrapper; rw [if_neg (of_decide_eq_false (by kernel_rfl))]; exact ⟨rfl, rfl⟩)
    (fun os started H enc _ => sealTells_lifted os started H enc)
end Go.Proofs.Ytpnghdalnghpcaa
