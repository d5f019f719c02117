/- The claim's row and what it hangs on: RDemandLeast. No condition but what each theorem names. -/
import Derived.Test.YtnngbnenekjffaaQa778a46c
import Derived.Test.YtnngbnenekjffaaQ89509eea
import Derived.Test.YtnngbnenekjffaaRows
/-! from RDemandLeast -/
/- The row of DemandLeast: whatever the input, true; the input reads as it did. No condition but the form's own. -/
namespace Go.Proofs.Ytnngbnenekjffaa
open Go.Owl Go.Spec Go.ChangeShapes Go.WideShapes Go.RowKit
theorem demandLeast_own : ownKnob Try.prog.godebug = none := by kernel_rfl
theorem demandLeast_laidOut : laidOutB Try.prog = true := by kernel_rfl
set_option maxRecDepth 100000 in
theorem demandLeast_lifted (os : Os) (started : os.Started) (H : Type) (enc : TypeId × Value → H) :
    ReturnsInHanded {} Try.checked os 4 .any (Rows.demandLeastSpec.pre6 enc Try.prog Try.f4 Rows.demandLeastRow.domain false) (Rows.demandLeastSpec.post enc Try.prog Try.f4 false true false false) := by
  refine row_sized (C := Try.checked) (tb := 4) demandLeast_own started (by kernel_rfl) Try.func4
    (ChangeSpec.witness6 (enc := enc) (C := Try.checked) false ⟨#[], #[.slice none 0 0, .agg #[.int .u32 0, .slice none 0 0, .slice none 0 0, .bool false]], []⟩ 8 (by kernel_rfl) (by kernel_rfl) (by kernel_rfl) (by kernel_rfl))
    demandLeast_laidOut rfl rfl ?_ rfl Try.underlying4 (by kernel_rfl) ?_
  · intro ds h
    match ds, h with
    | [_, _], _ => exact ⟨rfl, rfl, rfl⟩
  · intro W base args ds ps hval0 hA0 hwt0
    have hval : ∀ (j : Nat) t v, Try.f4.params[j]? = some t → args[j]? = some v → Value.okWide Try.prog W .any base t v := hval0
    have hA : DataW.TrodAll enc Try.prog W 0 (fun _ => true) true Try.f4.params.toList args.toList ds ps := hA0
    have hwt : ∀ k ∈ DataW.weightsEach Try.prog Try.f4.params.toList ds, k ≤ reachBytes := hwt0
    clear hA0 hval0 hwt0
    rw [Try.params4] at hA hval hwt
    obtain ⟨al⟩ := args
    obtain ⟨v0, r0, d0, e0, p0, q0, hal, rfl, rfl, h0, hA0⟩ := trodAll_cons hA
    have hal : al = v0 :: r0 := hal
    subst hal
    obtain ⟨v1, r1, d1, e1, p1, q1, rfl, rfl, rfl, h1, hA1⟩ := trodAll_cons hA0
    obtain ⟨rfl, rfl, rfl⟩ := trodAll_nil hA1
    obtain ⟨⟨mv, ms⟩, rfl, hM, hI, hln⟩ := arg_scal (opens_slice (by_ := 64) (sz := 4) Try.underlying23 (Opens.map (opens_struct (fs := [_, _, _, _]) Try.underlying30 (by kernel_rfl) (opensF_cons (k := 1) (by rfl) (by kernel_rfl) (opens_u32 Try.underlying26) (opensF_cons (k := 1) (by rfl) (by kernel_rfl) (opens_slice (by_ := 8) (sz := 2) Try.underlying27 (Opens.map (opens_struct (fs := [_, _]) Try.underlying50 (by kernel_rfl) (opensF_cons (k := 1) (by rfl) (by kernel_rfl) (opens_u32 Try.underlying26) (opensF_cons (k := 1) (by rfl) (by kernel_rfl) (opens_u32 Try.underlying26) opensF_nil))) (f' := xtc) (ok' := fun _ _ => True) (fun p => Xt.mk p.1 p.2.1) (fun _ => rfl) (fun _ _ _ => True.intro)) (fun _ => rfl) (by kernel_rfl) (by decide) (by kernel_rfl)) (opensF_cons (k := 1) (by rfl) (by kernel_rfl) (opens_slice1 (by_ := 2) Try.underlying28 (opens_u16 Try.underlying51) (by kernel_rfl) (by kernel_rfl)) (opensF_cons (k := 1) (by rfl) (by kernel_rfl) (opens_bool Try.underlying4) opensF_nil))))) (f' := mmc) (ok' := fun w a => MmD.ok w a ∧ a.xs.length ≤ 2 ^ 46 ∧ a.ps.length ≤ 2 ^ 46) (fun p => Mm.mk p.1 p.2.1.1 p.2.1.2 p.2.2.1.1 p.2.2.1.2 p.2.2.2.1) (fun _ => rfl) (fun w p h => ⟨⟨h.2.1.1, h.2.2.1.1⟩, (by have h : p.2.1.2.length * 8 ≤ 140737488351232 := h.2.1.2.2; show p.2.1.2.length ≤ _; omega), (by have h : p.2.2.1.2.length * 2 ≤ 140737488351232 := h.2.2.1.2.2; show p.2.2.1.2.length ≤ _; omega)⟩)) (fun _ => rfl) (by kernel_rfl) (by decide) (by kernel_rfl)) (by rw [Try.underlying23]) (hval 0 23 v0 rfl rfl) h0 (fun k hk => hwt k (List.mem_append.2 (.inl hk)))
    obtain ⟨⟨pg1, ⟨ev1, xs1⟩, ⟨pv1, ps1⟩, c1, ⟨⟩⟩, rfl, ⟨-, ⟨hE1, -, hn1⟩, ⟨hP1, -, hm1⟩, -, -⟩⟩ := arg_struct Try.underlying30 (opens_struct (fs := [_, _, _, _]) Try.underlying30 (by kernel_rfl) (opensF_cons (k := 1) (by rfl) (by kernel_rfl) (opens_u32 Try.underlying26) (opensF_cons (k := 1) (by rfl) (by kernel_rfl) (opens_slice (by_ := 8) (sz := 2) Try.underlying27 (Opens.map (opens_struct (fs := [_, _]) Try.underlying50 (by kernel_rfl) (opensF_cons (k := 1) (by rfl) (by kernel_rfl) (opens_u32 Try.underlying26) (opensF_cons (k := 1) (by rfl) (by kernel_rfl) (opens_u32 Try.underlying26) opensF_nil))) (f' := xtc) (ok' := fun _ _ => True) (fun p => Xt.mk p.1 p.2.1) (fun _ => rfl) (fun _ _ _ => True.intro)) (fun _ => rfl) (by kernel_rfl) (by decide) (by kernel_rfl)) (opensF_cons (k := 1) (by rfl) (by kernel_rfl) (opens_slice1 (by_ := 2) Try.underlying28 (opens_u16 Try.underlying51) (by kernel_rfl) (by kernel_rfl)) (opensF_cons (k := 1) (by rfl) (by kernel_rfl) (opens_bool Try.underlying4) opensF_nil))))) (hval 1 30 v1 rfl rfl) h1 (fun k hk => hwt k (List.mem_append.2 (.inr (List.mem_append.2 (.inl hk)))))
    exact demandLeast_ok v0 ev1 pv1 ms (Mf.mk pg1 xs1 ps1 c1) W hM (fun x hx => (hI x hx).1) (by have h : ms.length * 64 ≤ 140737488351232 := hln; show ms.length ≤ _; omega) (fun x hx => (hI x hx).2.1) (fun x hx => (hI x hx).2.2) hE1 hP1 (by have h : xs1.length * 8 ≤ 140737488351232 := hn1; show xs1.length ≤ _; omega) (by have h : ps1.length * 2 ≤ 140737488351232 := hm1; show ps1.length ≤ _; omega)
theorem demandLeast_holds : Rows.DemandLeastSaid :=
  OpenClaim.holds_of_wide 4 Try.f4 rfl rfl rfl rfl rfl rfl rfl ⟨rfl, rfl, rfl, rfl, rfl⟩ rfl rfl rfl rfl rfl (by kernel_rfl) Try.func4 (by kernel_rfl)
    (of_decide_eq_true (by kernel_rfl)) (by unfold Func.isWrapper; rw [if_neg (of_decide_eq_false (by kernel_rfl))]; exact ⟨rfl, rfl⟩)
    (fun os started H enc _ => demandLeast_lifted os started H enc)
end Go.Proofs.Ytnngbnenekjffaa
