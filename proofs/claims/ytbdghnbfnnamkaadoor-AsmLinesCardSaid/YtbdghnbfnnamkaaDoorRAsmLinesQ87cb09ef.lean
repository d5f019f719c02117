/- The claim's row and what it hangs on: RAsmLines. No condition but what each theorem names. -/
import Derived.Test.YtbdghnbfnnamkaaDoorQ93c1a23d
import Derived.Test.YtbdghnbfnnamkaaDoorQ94955992
import Derived.Test.YtbdghnbfnnamkaaDoorTie
import Derived.Test.YtbdghnbfnnamkaaDoorCards
import Derived.LaidMore
import Derived.SevenTiedAt
import Derived.Stop.Joined
/-! from RAsmLines -/
/- The row of AsmLines: whatever the input, true; the input reads as it did. No condition but the form's own. -/
namespace Go.Proofs.YtbdghnbfnnamkaaDoor
open Go.Owl Go.Spec Go.ChangeShapes Go.WideShapes Go.RowKit Go.ChangeAt
theorem asmLines_own : ownKnob Tryd.prog.godebug = none := by kernel_rfl
theorem asmLines_laidOut : laidOutB Tryd.prog = true := by kernel_rfl
set_option maxRecDepth 100000 in
theorem asmLines_lifted (os : Os) (started : os.Started) (H : Type) (enc : TypeId × Value → H) :
    ReturnsInHanded {} Tryd.checked os 3 .any (fun w args => (Rows.asmLinesSpec.pre enc Tryd.prog Tryd.f3 Rows.asmLinesRow.domain false w args ∧ laidMetH Tryd.prog Rows.asmLinesRow.laid w) ∧ sizedMet enc Tryd.prog Tryd.f3 (OpenSpec.ofChange Rows.asmLinesSpec) false w args) (Rows.asmLinesSpec.post enc Tryd.prog Tryd.f3 false true false false) := by
  refine row_laid (C := Tryd.checked) (X := fun w _ => laidMetH Tryd.prog Rows.asmLinesRow.laid w) (fun _ _ _ hh h => h.of_heap hh) (tb := 4) asmLines_own started (by kernel_rfl) Tryd.func3
    (ChangeSpec.witness_shaped (enc := enc) (C := Tryd.checked) (os := os) (X := fun w _ => laidMetH Tryd.prog Rows.asmLinesRow.laid w) false (World.laidAll Tryd.prog os Rows.asmLinesRow.laid) #[.agg #[.string ⟨#[]⟩, .int .u8 0, .int .u8 0, .int .u8 0, .int .u8 0, .int .u32 0, .string ⟨#[]⟩, .string ⟨#[]⟩], .slice none 0 0, .slice none 0 0] 8 (World.laidAll_os _ _ _)
      (World.shaped_of_ZipB (by kernel_rfl) (by kernel_rfl)) (by kernel_rfl) (by kernel_rfl) (by kernel_rfl)
      (by rw [MakeChecks.laidMetH_plain _ _ _ (by kernel_rfl)]; exact laidMet_laidAll _ (by kernel_rfl) (by kernel_rfl)))
    asmLines_laidOut rfl rfl ?_ rfl Tryd.underlying4 (by kernel_rfl) ?_
  · intro ds h
    match ds, h with
    | [_, _, _], _ => exact ⟨rfl, rfl, rfl⟩
  · intro W base args ds ps hval0 hA0 hwt0
    have hval : ∀ (j : Nat) t v, Tryd.f3.params[j]? = some t → args[j]? = some v → Value.okWide Tryd.prog W .any base t v := hval0
    have hA : DataW.TrodAll enc Tryd.prog W 0 (fun _ => true) true Tryd.f3.params.toList args.toList ds ps := hA0
    have hwt : ∀ k ∈ DataW.weightsEach Tryd.prog Tryd.f3.params.toList ds, k ≤ reachBytes := hwt0
    clear hA0 hval0 hwt0
    rw [Tryd.params3] at hA hval hwt
    obtain ⟨al⟩ := args
    obtain ⟨v0, r0, d0, e0, p0, q0, hal, rfl, rfl, h0, hA0⟩ := trodAll_cons hA
    have hal : al = v0 :: r0 := hal
    subst hal
    obtain ⟨v1, r1, d1, e1, p1, q1, rfl, rfl, rfl, h1, hA1⟩ := trodAll_cons hA0
    obtain ⟨v2, r2, d2, e2, p2, q2, rfl, rfl, rfl, h2, hA2⟩ := trodAll_cons hA1
    obtain ⟨rfl, rfl, rfl⟩ := trodAll_nil hA2
    obtain ⟨⟨lb, ⟨op, d, a, b, im, ⟨⟩⟩, to, nm, ⟨⟩⟩, rfl, ⟨hlb, -, hto, hnm, -⟩⟩ := arg_struct Tryd.underlying26 (opens_struct (fs := [_, _, _, _]) Tryd.underlying26 (by kernel_rfl) (opensF_cons (k := 1) (by rfl) (by kernel_rfl) (opens_str Tryd.underlying9) (opensF_cons (k := 5) (by rfl) (by kernel_rfl) (opens_struct (fs := [_, _, _, _, _]) Tryd.underlying24 (by kernel_rfl) (opensF_cons (k := 1) (by rfl) (by kernel_rfl) (opens_u8 Tryd.underlying5) (opensF_cons (k := 1) (by rfl) (by kernel_rfl) (opens_u8 Tryd.underlying5) (opensF_cons (k := 1) (by rfl) (by kernel_rfl) (opens_u8 Tryd.underlying5) (opensF_cons (k := 1) (by rfl) (by kernel_rfl) (opens_u8 Tryd.underlying5) (opensF_cons (k := 1) (by rfl) (by kernel_rfl) (opens_u32 Tryd.underlying22) opensF_nil)))))) (opensF_cons (k := 1) (by rfl) (by kernel_rfl) (opens_str Tryd.underlying9) (opensF_cons (k := 1) (by rfl) (by kernel_rfl) (opens_str Tryd.underlying9) opensF_nil))))) (hval 0 26 v0 rfl rfl) h0 (fun k hk => hwt k (List.mem_append.2 (.inl hk)))
    obtain ⟨⟨lv, l⟩, rfl, hLA, hLn, hLl⟩ := arg_scal (opens_slice (by_ := 56) (sz := 8) Tryd.underlying27 (Opens.map (opens_struct (fs := [_, _, _, _]) Tryd.underlying26 (by kernel_rfl) (opensF_cons (k := 1) (by rfl) (by kernel_rfl) (opens_str Tryd.underlying9) (opensF_cons (k := 5) (by rfl) (by kernel_rfl) (opens_struct (fs := [_, _, _, _, _]) Tryd.underlying24 (by kernel_rfl) (opensF_cons (k := 1) (by rfl) (by kernel_rfl) (opens_u8 Tryd.underlying5) (opensF_cons (k := 1) (by rfl) (by kernel_rfl) (opens_u8 Tryd.underlying5) (opensF_cons (k := 1) (by rfl) (by kernel_rfl) (opens_u8 Tryd.underlying5) (opensF_cons (k := 1) (by rfl) (by kernel_rfl) (opens_u8 Tryd.underlying5) (opensF_cons (k := 1) (by rfl) (by kernel_rfl) (opens_u32 Tryd.underlying22) opensF_nil)))))) (opensF_cons (k := 1) (by rfl) (by kernel_rfl) (opens_str Tryd.underlying9) (opensF_cons (k := 1) (by rfl) (by kernel_rfl) (opens_str Tryd.underlying9) opensF_nil))))) (f' := lnc) (ok' := fun _ a => a.lb.length ≤ 140737488351232 ∧ a.to.length ≤ 140737488351232 ∧ a.nm.length ≤ 140737488351232) (fun p => Ln.mk p.1 p.2.1.1 p.2.1.2.1 p.2.1.2.2.1 p.2.1.2.2.2.1 p.2.1.2.2.2.2.1 p.2.2.1 p.2.2.2.1) (fun _ => rfl) (fun _ _ h => ⟨h.1, h.2.2.1, h.2.2.2.1⟩)) (fun _ => rfl) (by kernel_rfl) (by decide) (by kernel_rfl)) (by rw [Tryd.underlying27]) (hval 1 27 v1 rfl rfl) h1 (fun k hk => hwt k (List.mem_append.2 (.inr (List.mem_append.2 (.inl hk)))))
    obtain ⟨⟨mv, m⟩, rfl, hMA, hMn, hMl⟩ := arg_scal (opens_slice (by_ := 56) (sz := 8) Tryd.underlying27 (Opens.map (opens_struct (fs := [_, _, _, _]) Tryd.underlying26 (by kernel_rfl) (opensF_cons (k := 1) (by rfl) (by kernel_rfl) (opens_str Tryd.underlying9) (opensF_cons (k := 5) (by rfl) (by kernel_rfl) (opens_struct (fs := [_, _, _, _, _]) Tryd.underlying24 (by kernel_rfl) (opensF_cons (k := 1) (by rfl) (by kernel_rfl) (opens_u8 Tryd.underlying5) (opensF_cons (k := 1) (by rfl) (by kernel_rfl) (opens_u8 Tryd.underlying5) (opensF_cons (k := 1) (by rfl) (by kernel_rfl) (opens_u8 Tryd.underlying5) (opensF_cons (k := 1) (by rfl) (by kernel_rfl) (opens_u8 Tryd.underlying5) (opensF_cons (k := 1) (by rfl) (by kernel_rfl) (opens_u32 Tryd.underlying22) opensF_nil)))))) (opensF_cons (k := 1) (by rfl) (by kernel_rfl) (opens_str Tryd.underlying9) (opensF_cons (k := 1) (by rfl) (by kernel_rfl) (opens_str Tryd.underlying9) opensF_nil))))) (f' := lnc) (ok' := fun _ a => a.lb.length ≤ 140737488351232 ∧ a.to.length ≤ 140737488351232 ∧ a.nm.length ≤ 140737488351232) (fun p => Ln.mk p.1 p.2.1.1 p.2.1.2.1 p.2.1.2.2.1 p.2.1.2.2.2.1 p.2.1.2.2.2.2.1 p.2.2.1 p.2.2.2.1) (fun _ => rfl) (fun _ _ h => ⟨h.1, h.2.2.1, h.2.2.2.1⟩)) (fun _ => rfl) (by kernel_rfl) (by decide) (by kernel_rfl)) (by rw [Tryd.underlying27]) (hval 2 27 v2 rfl rfl) h2 (fun k hk => hwt k (List.mem_append.2 (.inr (List.mem_append.2 (.inr (List.mem_append.2 (.inl hk)))))))
    exact asmLines_ok (Ln.mk lb op d a b im to nm) v1 v2 l m W hLA hMA ⟨Nat.lt_of_le_of_lt hlb (by decide), Nat.lt_of_le_of_lt hto (by decide), Nat.lt_of_le_of_lt hnm (by decide)⟩ (ln_fit hLn) (ln_fit hMn) (by have h : l.length * 56 ≤ 140737488351232 := hLl; omega) (by have h : m.length * 56 ≤ 140737488351232 := hMl; omega)
theorem asmLines_row : Rows.AsmLinesSaid :=
  OpenClaim.holds_of_wide 3 Tryd.f3 rfl rfl rfl rfl rfl rfl rfl ⟨rfl, rfl, rfl, rfl, rfl⟩ rfl rfl rfl rfl rfl (by kernel_rfl) Tryd.func3 (by kernel_rfl)
    (of_decide_eq_true (by kernel_rfl)) (by unfold Func.isWrapper; first | (rw [if_pos (by decide +kernel)]; kernel_rfl) | (rw [if_neg (by decide +kernel)]; exact ⟨rfl, rfl⟩))
    (fun os started H enc _ => asmLines_lifted os started H enc)
theorem asmLines_holds : Rows.AsmLinesCardSaid :=
  Claim7.holds_tied_plain_at .later [] [.data, .pinned] true (true, "8c0c9d2e4a1b57683b6b3c81d0df1113dc1f0ee3a5d24f104648b845d789c53c") false asmLines_row (fun _ h => by cases h) (by kernel_rfl) (fun _ h => by cases h) asmLines_row_tie rfl ⟨rfl, rfl⟩ (by kernel_rfl) rfl
    (fun f fn hf hfn => by
      obtain rfl : f = 3 := Option.some.inj ((show Tryd.prog.funcNamed "aedicule/aediculelaw10.AsmLines" = some 3 by kernel_rfl).symm.trans hf) |>.symm
      obtain rfl : fn = Tryd.f3 := (Option.some.inj (Tryd.func3.symm.trans hfn)).symm
      exact ⟨by kernel_rfl, fun j t ht => by
        rw [Tryd.params3] at ht
        have hm : t ∈ [26, 27, 27] := by simpa using Array.mem_of_getElem? ht
        have hall : ([26, 27, 27].all fun u => !Tryd.prog.wantsStandIn u) = true := by kernel_rfl
        exact (show Tryd.prog.wantsStandIn t = false by simpa using List.all_eq_true.1 hall t hm)⟩)
    (by kernel_rfl)
end Go.Proofs.YtbdghnbfnnamkaaDoor
