/- The claim's row and what it hangs on: RDemandMay. No condition but what each theorem names. -/
import Derived.Test.YtnngbnenekjffaaQdd1be359
import Derived.Test.YtnngbnenekjffaaQ82172e39
import Derived.Test.YtnngbnenekjffaaRows
/-! from RDemandMay -/
/- The row of DemandMay: whatever the input, true; the input reads as it did. No condition but the form's own. -/
namespace Go.Proofs.Ytnngbnenekjffaa
open Go.Owl Go.Spec Go.ChangeShapes Go.WideShapes Go.RowKit
theorem demandMay_own : ownKnob Try.prog.godebug = none := by kernel_rfl
theorem demandMay_laidOut : laidOutB Try.prog = true := by kernel_rfl
set_option maxRecDepth 100000 in
theorem demandMay_lifted (os : Os) (started : os.Started) (H : Type) (enc : TypeId × Value → H) :
    ReturnsInHanded {} Try.checked os 5 .any (Rows.demandMaySpec.pre6 enc Try.prog Try.f5 Rows.demandMayRow.domain false) (Rows.demandMaySpec.post enc Try.prog Try.f5 false true false false) := by
  refine row_sized (C := Try.checked) (tb := 4) demandMay_own started (by kernel_rfl) Try.func5
    (ChangeSpec.witness6 (enc := enc) (C := Try.checked) false ⟨#[], #[.agg #[.int .u32 0, .slice none 0 0, .slice none 0 0, .bool false], .agg #[.int .u32 0, .slice none 0 0, .slice none 0 0, .bool false], .agg #[.int .u8 0, .int .u32 0, .int .u32 0]], []⟩ 8 (by kernel_rfl) (by kernel_rfl) (by kernel_rfl) (by kernel_rfl))
    demandMay_laidOut rfl rfl ?_ rfl Try.underlying4 (by kernel_rfl) ?_
  · intro ds h
    match ds, h with
    | [_, _, _], _ => exact ⟨rfl, rfl, rfl⟩
  · intro W base args ds ps hval0 hA0 hwt0
    have hval : ∀ (j : Nat) t v, Try.f5.params[j]? = some t → args[j]? = some v → Value.okWide Try.prog W .any base t v := hval0
    have hA : DataW.TrodAll enc Try.prog W 0 (fun _ => true) true Try.f5.params.toList args.toList ds ps := hA0
    have hwt : ∀ k ∈ DataW.weightsEach Try.prog Try.f5.params.toList ds, k ≤ reachBytes := hwt0
    clear hA0 hval0 hwt0
    rw [Try.params5] at hA hval hwt
    obtain ⟨al⟩ := args
    obtain ⟨v0, r0, d0, e0, p0, q0, hal, rfl, rfl, h0, hA0⟩ := trodAll_cons hA
    have hal : al = v0 :: r0 := hal
    subst hal
    obtain ⟨v1, r1, d1, e1, p1, q1, rfl, rfl, rfl, h1, hA1⟩ := trodAll_cons hA0
    obtain ⟨v2, r2, d2, e2, p2, q2, rfl, rfl, rfl, h2, hA2⟩ := trodAll_cons hA1
    obtain ⟨rfl, rfl, rfl⟩ := trodAll_nil hA2
    obtain ⟨⟨pg1, ⟨ev1, xs1⟩, ⟨pv1, ps1⟩, c1, ⟨⟩⟩, rfl, ⟨-, ⟨hE1, -, hn1⟩, ⟨hP1, -, hm1⟩, -, -⟩⟩ := arg_struct Try.underlying30 (opens_struct (fs := [_, _, _, _]) Try.underlying30 (by kernel_rfl) (opensF_cons (k := 1) (by rfl) (by kernel_rfl) (opens_u32 Try.underlying26) (opensF_cons (k := 1) (by rfl) (by kernel_rfl) (opens_slice (by_ := 8) (sz := 2) Try.underlying27 (Opens.map (opens_struct (fs := [_, _]) Try.underlying50 (by kernel_rfl) (opensF_cons (k := 1) (by rfl) (by kernel_rfl) (opens_u32 Try.underlying26) (opensF_cons (k := 1) (by rfl) (by kernel_rfl) (opens_u32 Try.underlying26) opensF_nil))) (f' := xtc) (ok' := fun _ _ => True) (fun p => Xt.mk p.1 p.2.1) (fun _ => rfl) (fun _ _ _ => True.intro)) (fun _ => rfl) (by kernel_rfl) (by decide) (by kernel_rfl)) (opensF_cons (k := 1) (by rfl) (by kernel_rfl) (opens_slice1 (by_ := 2) Try.underlying28 (opens_u16 Try.underlying51) (by kernel_rfl) (by kernel_rfl)) (opensF_cons (k := 1) (by rfl) (by kernel_rfl) (opens_bool Try.underlying4) opensF_nil))))) (hval 0 30 v0 rfl rfl) h0 (fun k hk => hwt k (List.mem_append.2 (.inl hk)))
    obtain ⟨⟨pg2, ⟨ev2, xs2⟩, ⟨pv2, ps2⟩, c2, ⟨⟩⟩, rfl, ⟨-, ⟨hE2, -, hn2⟩, ⟨hP2, -, hm2⟩, -, -⟩⟩ := arg_struct Try.underlying30 (opens_struct (fs := [_, _, _, _]) Try.underlying30 (by kernel_rfl) (opensF_cons (k := 1) (by rfl) (by kernel_rfl) (opens_u32 Try.underlying26) (opensF_cons (k := 1) (by rfl) (by kernel_rfl) (opens_slice (by_ := 8) (sz := 2) Try.underlying27 (Opens.map (opens_struct (fs := [_, _]) Try.underlying50 (by kernel_rfl) (opensF_cons (k := 1) (by rfl) (by kernel_rfl) (opens_u32 Try.underlying26) (opensF_cons (k := 1) (by rfl) (by kernel_rfl) (opens_u32 Try.underlying26) opensF_nil))) (f' := xtc) (ok' := fun _ _ => True) (fun p => Xt.mk p.1 p.2.1) (fun _ => rfl) (fun _ _ _ => True.intro)) (fun _ => rfl) (by kernel_rfl) (by decide) (by kernel_rfl)) (opensF_cons (k := 1) (by rfl) (by kernel_rfl) (opens_slice1 (by_ := 2) Try.underlying28 (opens_u16 Try.underlying51) (by kernel_rfl) (by kernel_rfl)) (opensF_cons (k := 1) (by rfl) (by kernel_rfl) (opens_bool Try.underlying4) opensF_nil))))) (hval 1 30 v1 rfl rfl) h1 (fun k hk => hwt k (List.mem_append.2 (.inr (List.mem_append.2 (.inl hk)))))
    obtain ⟨⟨k, n, q, ⟨⟩⟩, rfl, -⟩ := arg_struct Try.underlying36 (opens_struct (fs := [_, _, _]) Try.underlying36 (by kernel_rfl) (opensF_cons (k := 1) (by rfl) (by kernel_rfl) (opens_u8 Try.underlying5) (opensF_cons (k := 1) (by rfl) (by kernel_rfl) (opens_u32 Try.underlying26) (opensF_cons (k := 1) (by rfl) (by kernel_rfl) (opens_u32 Try.underlying26) opensF_nil)))) (hval 2 36 v2 rfl rfl) h2 (fun k hk => hwt k (List.mem_append.2 (.inr (List.mem_append.2 (.inr (List.mem_append.2 (.inl hk)))))))
    exact demandMay_ok (Mf.mk pg1 xs1 ps1 c1) (Mf.mk pg2 xs2 ps2 c2) ev1 pv1 ev2 pv2 (Nt.mk k n q) W hE1 hP1 hE2 hP2 (by have h : xs1.length * 8 ≤ 140737488351232 := hn1; show xs1.length ≤ _; omega) (by have h : ps1.length * 2 ≤ 140737488351232 := hm1; show ps1.length ≤ _; omega) (by have h : xs2.length * 8 ≤ 140737488351232 := hn2; show xs2.length ≤ _; omega) (by have h : ps2.length * 2 ≤ 140737488351232 := hm2; show ps2.length ≤ _; omega)
theorem demandMay_holds : Rows.DemandMaySaid :=
  OpenClaim.holds_of_wide 5 Try.f5 rfl rfl rfl rfl rfl rfl rfl ⟨rfl, rfl, rfl, rfl, rfl⟩ rfl rfl rfl rfl rfl (by kernel_rfl) Try.func5 (by kernel_rfl)
    (of_decide_eq_true (by kernel_rfl)) (by unfold Func.isWrapper; rw [if_neg (of_decide_eq_false (by kernel_rfl))]; exact ⟨rfl, rfl⟩)
    (fun os started H enc _ => demandMay_lifted os started H enc)
end Go.Proofs.Ytnngbnenekjffaa
