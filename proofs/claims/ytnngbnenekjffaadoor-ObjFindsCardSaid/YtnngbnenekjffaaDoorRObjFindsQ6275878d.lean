/- The claim's row and what it hangs on: RObjFinds. No condition but what each theorem names. -/
import Derived.Test.YtnngbnenekjffaaDoorQ64a7f554
import Derived.Test.YtnngbnenekjffaaDoorQ95e659c1
import Derived.Test.YtnngbnenekjffaaDoorTie
import Derived.Test.YtnngbnenekjffaaDoorCards
import Derived.LaidMore
import Derived.SevenTiedAt
import Derived.Stop.Joined
/-! from RObjFinds -/
/- The row of ObjFinds: whatever the input, true; the input reads as it did. No condition but the form's own. -/
namespace Go.Proofs.YtnngbnenekjffaaDoor
open Go.Owl Go.Spec Go.ChangeShapes Go.WideShapes Go.RowKit Go.ChangeAt
theorem objFinds_own : ownKnob Tryd.prog.godebug = none := by kernel_rfl
theorem objFinds_laidOut : laidOutB Tryd.prog = true := by kernel_rfl
set_option maxRecDepth 100000 in
theorem objFinds_lifted (os : Os) (started : os.Started) (H : Type) (enc : TypeId × Value → H) :
    ReturnsInHanded {} Tryd.checked os 10 .any (fun w args => (Rows.objFindsSpec.pre enc Tryd.prog Tryd.f10 Rows.objFindsRow.domain false w args ∧ laidMetH Tryd.prog Rows.objFindsRow.laid w) ∧ sizedMet enc Tryd.prog Tryd.f10 (OpenSpec.ofChange Rows.objFindsSpec) false w args) (Rows.objFindsSpec.post enc Tryd.prog Tryd.f10 false true false false) := by
  refine row_laid (C := Tryd.checked) (X := fun w _ => laidMetH Tryd.prog Rows.objFindsRow.laid w) (fun _ _ _ hh h => h.of_heap hh) (tb := 4) objFinds_own started (by kernel_rfl) Tryd.func10
    (ChangeSpec.witness_shaped (enc := enc) (C := Tryd.checked) (os := os) (X := fun w _ => laidMetH Tryd.prog Rows.objFindsRow.laid w) false (World.laidAll Tryd.prog os Rows.objFindsRow.laid) #[.agg #[.string ⟨#[]⟩, .slice none 0 0]] 8 (World.laidAll_os _ _ _)
      (World.shaped_of_ZipB (by kernel_rfl) (by kernel_rfl)) (by kernel_rfl) (by kernel_rfl) (by kernel_rfl)
      (by rw [MakeChecks.laidMetH_plain _ _ _ (by kernel_rfl)]; exact laidMet_laidAll _ (by kernel_rfl) (by kernel_rfl)))
    objFinds_laidOut rfl rfl ?_ rfl Tryd.underlying4 (by kernel_rfl) ?_
  · intro ds h
    match ds, h with
    | [_], _ => exact ⟨rfl, rfl, rfl⟩
  · intro W base args ds ps hval0 hA0 hwt0
    have hval : ∀ (j : Nat) t v, Tryd.f10.params[j]? = some t → args[j]? = some v → Value.okWide Tryd.prog W .any base t v := hval0
    have hA : DataW.TrodAll enc Tryd.prog W 0 (fun _ => true) true Tryd.f10.params.toList args.toList ds ps := hA0
    have hwt : ∀ k ∈ DataW.weightsEach Tryd.prog Tryd.f10.params.toList ds, k ≤ reachBytes := hwt0
    clear hA0 hval0 hwt0
    rw [Tryd.params10] at hA hval hwt
    obtain ⟨al⟩ := args
    obtain ⟨v0, r0, d0, e0, p0, q0, hal, rfl, rfl, h0, hA0⟩ := trodAll_cons hA
    have hal : al = v0 :: r0 := hal
    subst hal
    obtain ⟨rfl, rfl, rfl⟩ := trodAll_nil hA0
    obtain ⟨⟨nm, ⟨lv, l⟩, ⟨⟩⟩, rfl, ⟨hnm, ⟨hAl, hI, hl⟩, -⟩⟩ := arg_struct Tryd.underlying32 (opens_struct (fs := [_, _]) Tryd.underlying32 (by kernel_rfl) (opensF_cons (k := 1) (by rfl) (by kernel_rfl) (opens_str Tryd.underlying9) (opensF_cons (k := 1) (by rfl) (by kernel_rfl) (opens_slice (by_ := 88) (sz := 7) Tryd.underlying30 (Opens.map (opens_struct (fs := [_, _, _, _, _, _, _]) Tryd.underlying26 (by kernel_rfl) (opensF_cons (k := 1) (by rfl) (by kernel_rfl) (opens_str Tryd.underlying9) (opensF_cons (k := 1) (by rfl) (by kernel_rfl) (opens_u8 Tryd.underlying5) (opensF_cons (k := 1) (by rfl) (by kernel_rfl) (opens_u8 Tryd.underlying5) (opensF_cons (k := 1) (by rfl) (by kernel_rfl) (opens_u32 Tryd.underlying22) (opensF_cons (k := 1) (by rfl) (by kernel_rfl) (opens_str Tryd.underlying9) (opensF_cons (k := 1) (by rfl) (by kernel_rfl) (opens_slice (by_ := 32) (sz := 4) Tryd.underlying23 (Opens.map (opens_struct (fs := [_, _, _, _]) Tryd.underlying44 (by kernel_rfl) (opensF_cons (k := 1) (by rfl) (by kernel_rfl) (opens_u32 Tryd.underlying22) (opensF_cons (k := 1) (by rfl) (by kernel_rfl) (opens_u8 Tryd.underlying5) (opensF_cons (k := 1) (by rfl) (by kernel_rfl) (opens_str Tryd.underlying9) (opensF_cons (k := 1) (by rfl) (by kernel_rfl) (opens_u32 Tryd.underlying22) opensF_nil))))) (f' := rlc) (ok' := fun _ a => a.nm.length ≤ 140737488351232) (fun p => Rl.mk p.1 p.2.1 p.2.2.1 p.2.2.2.1) (fun _ => rfl) (fun _ _ h => h.2.2.1)) (fun _ => rfl) (by kernel_rfl) (by decide) (by kernel_rfl)) (opensF_cons (k := 1) (by rfl) (by kernel_rfl) (opens_slice (by_ := 12) (sz := 3) Tryd.underlying24 (Opens.map (opens_struct (fs := [_, _, _]) Tryd.underlying68 (by kernel_rfl) (opensF_cons (k := 1) (by rfl) (by kernel_rfl) (opens_u8 Tryd.underlying5) (opensF_cons (k := 1) (by rfl) (by kernel_rfl) (opens_u32 Tryd.underlying22) (opensF_cons (k := 1) (by rfl) (by kernel_rfl) (opens_u32 Tryd.underlying22) opensF_nil)))) (f' := ntc) (ok' := fun _ _ => True) (fun p => Nt.mk p.1 p.2.1 p.2.2.1) (fun _ => rfl) (fun _ _ _ => True.intro)) (fun _ => rfl) (by kernel_rfl) (by decide) (by kernel_rfl)) opensF_nil)))))))) (f' := syc) (ok' := fun w a => SyD.ok w a ∧ FitA a) (fun p => Sy.mk p.1 p.2.1 p.2.2.1 p.2.2.2.1 p.2.2.2.2.1 p.2.2.2.2.2.1.1 p.2.2.2.2.2.1.2 p.2.2.2.2.2.2.1.1 p.2.2.2.2.2.2.1.2) (fun _ => rfl) (fun w p h => ⟨⟨h.2.2.2.2.2.1.1, h.2.2.2.2.2.2.1.1⟩, Nat.lt_of_le_of_lt h.1 (by decide), Nat.lt_of_le_of_lt h.2.2.2.2.1 (by decide), fun y hy => Nat.lt_of_le_of_lt (h.2.2.2.2.2.1.2.1 y hy) (by decide), (show p.2.2.2.2.2.1.2.length < 2 ^ 43 by have q : p.2.2.2.2.2.1.2.length * 32 ≤ 140737488351232 := h.2.2.2.2.2.1.2.2; omega), (show p.2.2.2.2.2.2.1.2.length < 2 ^ 44 by have q : p.2.2.2.2.2.2.1.2.length * 12 ≤ 140737488351232 := h.2.2.2.2.2.2.1.2.2; omega)⟩)) (fun _ => rfl) (by kernel_rfl) (by decide) (by kernel_rfl)) opensF_nil))) (hval 0 32 v0 rfl rfl) h0 (fun k hk => hwt k (List.mem_append.2 (.inl hk)))
    exact objFinds_ok nm lv l W hAl (fun x hx => (hI x hx).1) (fun x hx => (hI x hx).2) (show l.length < 2 ^ 46 by have q : l.length * 88 ≤ 140737488351232 := hl; omega) (Nat.lt_of_le_of_lt hnm (by decide))
theorem objFinds_row : Rows.ObjFindsSaid :=
  OpenClaim.holds_of_wide 10 Tryd.f10 rfl rfl rfl rfl rfl rfl rfl ⟨rfl, rfl, rfl, rfl, rfl⟩ rfl rfl rfl rfl rfl (by kernel_rfl) Tryd.func10 (by kernel_rfl)
    (of_decide_eq_true (by kernel_rfl)) (by unfold Func.isWrapper; first | (rw [if_pos (by decide +kernel)]; kernel_rfl) | (rw [if_neg (by decide +kernel)]; exact ⟨rfl, rfl⟩))
    (fun os started H enc _ => objFinds_lifted os started H enc)
theorem objFinds_holds : Rows.ObjFindsCardSaid :=
  Claim7.holds_tied_plain_at .later [] [.data, .pinned] true (true, "14443d74ca080b61ca5d50fbed322ed9a2b47a6208a4ee0c97f07433584a6a1b") false objFinds_row (fun _ h => by cases h) (by kernel_rfl) (fun _ h => by cases h) objFinds_row_tie rfl ⟨rfl, rfl⟩ (by kernel_rfl) rfl
    (fun f fn hf hfn => by
      obtain rfl : f = 10 := Option.some.inj ((show Tryd.prog.funcNamed "aedicule/aediculelaw08.ObjFinds" = some 10 by kernel_rfl).symm.trans hf) |>.symm
      obtain rfl : fn = Tryd.f10 := (Option.some.inj (Tryd.func10.symm.trans hfn)).symm
      exact ⟨by kernel_rfl, fun j t ht => by
        rw [Tryd.params10] at ht
        have hm : t ∈ [32] := by simpa using Array.mem_of_getElem? ht
        have hall : ([32].all fun u => !Tryd.prog.wantsStandIn u) = true := by kernel_rfl
        exact (show Tryd.prog.wantsStandIn t = false by simpa using List.all_eq_true.1 hall t hm)⟩)
    (by kernel_rfl)
end Go.Proofs.YtnngbnenekjffaaDoor
