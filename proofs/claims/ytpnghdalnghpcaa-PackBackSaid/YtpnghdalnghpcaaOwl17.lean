/- Memory seen through unsafe.Pointer: what strings.Builder does. -/
import Derived.Test.YtpnghdalnghpcaaOwl16
import Derived.Lib.Builder
import Derived.Lib.UnsafeStr
import Derived.Laws.Externs
namespace Go.Owl
/-- What stays when a callee had some things and gives none back. -/
theorem Own.rest {S : List Nat} {w0 w w1 : World} {L E F : List Ent} {I J : List Nat} (H : Own S w0 w L) (hp : picks L I = some E) (hJ : nodupB J = true) (hq : picks L J = some F) (hd : J.all (fun j => !I.any (Nat.beq j)) = true)
    (R : Fr (blks E) w w1) : Own S w0 w1 F := by
  have P := H.sel J hJ hq
  refine ⟨H.frPart hp R, fun i e hi => ?_, P.sep, P.own⟩
  obtain ⟨j, hj, h⟩ := picks_of hq hi
  have := List.all_eq_true.1 hd j (List.mem_of_getElem? hj)
  exact H.stay hp h (by simpa using this) R
section
variable {P : Program} {n : Nat} {D : List Deferred} {ρ : Env} {w w0 : World} {R : Value → World → Prop} {dst : Option Tmp} {ty : TypeId} {pos : String} {af : Array Edge} {g : Option (Nat × Bool)}
variable {S : List Nat} {L : List Ent} {i b : Nat} {t t' u T0 : TypeId} {x y : Operand} {cs : List Value}
theorem Own.shape (H : Own S w0 w L) (hi : L[i]? = some (Ent.blk b cs T0)) : w.shape? b = some (T0, cs.length) := by
  obtain ⟨fr, _, h⟩ := H.blk hi
  simp [World.shape?, h]
theorem info_cells {k : Nat} (h : P.cellsOf t = k + 1) : ∃ j, P.info? t = some j ∧ j.size = k + 1 := by
  unfold Program.cellsOf at h
  cases hj : P.info? t with
  | none => rw [hj] at h; simp at h
  | some j => rw [hj] at h; exact ⟨j, rfl, by simpa using h⟩
/-- To unsafe.Pointer. -/
theorem op_toUnsafe {off k : Nat} (H : Own S w0 w L) (hs : P.underlying t = some (.pointer u)) (hd : P.underlying t' = some .unsafePointer) (hz : P.cellsOf u = k + 1) (hx : ev ρ x = some (ptr b off)) (hi : L[i]? = some (Ent.blk b cs T0)) (ho : Nat.blt off cs.length = true)
    (h : R (ptr b off) w) : Op1 P n D ⟨dst, .convert t t' x, ty, pos, af, g⟩ ρ w R := by
  obtain ⟨j, hj, hjs⟩ := info_cells hz
  have hr := Lib.run_to_unsafe (P := P) w ⟨b, off, none⟩ hs hd hj (by omega) (H.shape hi) (by simpa [Nat.blt_eq] using ho)
  exact Op1.val (fun a ha => by simp only [execOp, ha.ev hx, Sem.run_bind, hr, Result.andThen_ok, Sem.run_pure]) h
/-- Back from it. -/
theorem op_fromUnsafe {off k : Nat} (H : Own S w0 w L) (hs : P.underlying t = some .unsafePointer) (hd : P.underlying t' = some (.pointer u)) (hz : P.cellsOf u = k + 1) (hx : ev ρ x = some (ptr b off)) (hi : L[i]? = some (Ent.blk b cs T0)) (hp : Nat.blt 0 cs.length = true) (hc : P.cellsOf T0 = cs.length) (hl : liesAt P P.depth T0 1 off u 1 = true)
    (h : R (ptr b off) w) : Op1 P n D ⟨dst, .convert t t' x, ty, pos, af, g⟩ ρ w R := by
  obtain ⟨j, hj, hjs⟩ := info_cells hz
  have hpos : 0 < cs.length := by simpa [Nat.blt_eq] using hp
  have hr := Lib.run_from_unsafe (P := P) w ⟨b, off, none⟩ hs hd hj (H.shape hi) (by rw [hc, Nat.div_self hpos]; exact hl)
  exact Op1.val (fun a ha => by simp only [execOp, ha.ev hx, Sem.run_bind, hr, Result.andThen_ok, Sem.run_pure]) h
/-- internal/abi.NoEscape: the same. -/
theorem op_noEscape {f : FuncId} {fn : Func} {v : Value} {ats : Array TypeId} (hf : P.funcs[f]? = some fn) (hname : (fn.name == "runtime.NumGoroutine") = false) (hb : fn.body.isNone = true) (hn : Extern.findNext fn = none) (he : Extern.find fn = some Extern.AbiNoEscape.same)
    (hx : ev ρ x = some v) (h : R v w) : Op1 P n D ⟨dst, .call { callee := .value (.func f), args := #[x], argTypes := ats }, ty, pos, af, g⟩ ρ w R := by
  have hr := run_callFunc_extern hf hname hb hn he #[v] w
  rw [Lib.run_noEscape] at hr
  refine Op1.val (fun a ha => ?_) h
  have e0 : (execOp a.eval ⟨dst, .call { callee := .value (.func f), args := #[x], argTypes := ats }, ty, pos, af, g⟩).run P w = (callFunc f #[v]).run P w := by
    have h1 : (#[x] : Array Operand).map a.eval = #[v] := ha.evA (vs := [v]) (by simp [evL, hx])
    have h2 : a.eval (.func f) = .func (.func f) #[] #[] := rfl
    simp [execOp, resolve, h1, h2, Deferred.ofValue, invoke]
  rw [e0, hr]
  rfl
/-- A pointer against itself. -/
theorem op_neqPP {k : Nat} {ad : Addr} (hu : P.underlying t = some (.pointer u)) (hz : P.cellsOf u = k + 1) (hx : ev ρ x = some (.pointer (some ad))) (hy : ev ρ y = some (.pointer (some ad))) (h : R (.bool false) w) : Op1 P n D ⟨dst, .binOp .neq t x y t', ty, pos, af, g⟩ ρ w R := by
  obtain ⟨j, hj, hjs⟩ := info_cells hz
  have hr := Lib.run_neq_ptr_same (P := P) w ad hu hj
  exact Op1.val (fun c ha => by
    have hg : (eqGuard .neq t x y (.pointer (some ad)) (.pointer (some ad))).run P w = .ok () w := rfl
    simp only [execOp, ha.ev hx, ha.ev hy, Sem.run_bind, hg, Result.andThen_ok, hr, Sem.run_pure]) h

/-! The bytes of a row as a text. -/
theorem op_sliceData {a0 : Option Addr} {q cap : Nat} {ats : TypeId} (hx : ev ρ x = some (.slice a0 q cap)) (hc : a0 = none ∨ cap ≠ 0) (h : R (.pointer a0) w) :
    Op1 P n D ⟨dst, .call { callee := .builtin .unsafeSliceData, args := #[x], argTypes := #[ats] }, ty, pos, af, g⟩ ρ w R := by
  have hr : (Builtin.unsafeSliceData_ #[ats] ty #[.slice a0 q cap]).run P w = .ok (.pointer a0) w := by
    cases a0 with
    | none => exact Lib.run_unsafeSliceData_nil w _ _ _ _
    | some a => exact Lib.run_unsafeSliceData_row w _ _ _ _ _ (hc.resolve_left (by simp))
  exact Op1.val (fun c hc => by simp [execOp, resolve, invoke, builtin, hc.ev hx, hr]) h
theorem liesAt_bytes' {e : TypeId} (hc : P.cellsOf e = 1) (count o m : Nat) (hn : o + m ≤ count) : liesAt P P.depth e count o e m = true := by
  have hd : P.depth = (2 * (P.types.size + Made.depth) + 1) + 1 := rfl
  rw [hd]
  simp only [liesAt, Bool.or_eq_true]
  left
  rw [hd]
  simp [rowAt, hc, hn, sameLayout, Nat.mod_one]
theorem run_unsafeString_at (pt it ty e : TypeId) (hp : P.underlying pt = some (.pointer e)) (hc : P.cellsOf e = 1) (g o cells : Nat) (hsh : w.shape? g = some (e, cells)) (l : List UInt8) (h0 : l ≠ []) (hn : o + l.length ≤ cells) (h63 : l.length ≤ 9223372036854775807)
    (hcell : ∀ j x, l[j]? = some x → w.cell? ((⟨g, o, none⟩ : Addr).add j) = some (.int .u8 x.toNat)) :
    (Builtin.unsafeString_ #[pt, it] ty #[.pointer (some ⟨g, o, none⟩), .int .i64 l.length]).run P w = .ok (.string ⟨l.toArray⟩) (w.freeze ⟨g, o, none⟩ l.length) := by
  have hl : l.length ≠ 0 := by simpa using h0
  have hlb := Lib.run_loadBytes (P := P) w l ⟨g, o, none⟩ .empty hcell
  have hlies := liesAt_bytes' (P := P) hc (cells / P.cellsOf e) o l.length (by rw [hc]; simpa using hn)
  have h63' : ¬ (9223372036854775807 : Int) < (l.length : Int) := by omega
  have hdef : Builtin.unsafeString_ #[pt, it] ty #[.pointer (some ⟨g, o, none⟩), .int .i64 l.length] =
      (do
        let n ← asInt (.int .i64 l.length)
        if n < 0 then runtimePanic (.error "unsafe.String: len out of range")
        if n > IntKind.i64.max then unsupported (.unsafePointer "String: a length above the largest int")
        if n = 0 then pure (.string .empty)
        else if ← variablesAt ⟨g, o, none⟩ (← elemOf pt) n.toNat then do
          let s ← loadBytes ⟨g, o, none⟩ .empty n.toNat
          freeze ⟨g, o, none⟩ n.toNat
          pure (.string s)
        else unsupported (.unsafePointer "String: not so many bytes at ptr")) := rfl
  rw [hdef]
  have hmax : IntKind.i64.max = 9223372036854775807 := rfl
  have hneg : ¬ (l.length : Int) < 0 := by omega
  simp [asInt, asIntOf, hmax, h63', hneg, hl, variablesAt, hsh, elemOf, run_underlying hp, hlies, hlb]
theorem Fr.freeze (w : World) (p : Addr) (m : Nat) : Fr [p.block] w (w.freeze p m) := by
  unfold World.freeze
  split
  · exact Fr.refl _ _
  · refine ⟨rfl, rfl, rfl, by simp, fun k _ hn => ?_⟩
    simp only [Array.getElem?_modify]
    rw [if_neg (by intro e; subst e; simp at hn)]
theorem Own.rowForm {v : Value} {sz q : Nat} {xs : List Value} (H : Own S w0 w L) (hi : L[i]? = some (Ent.row v t sz q xs)) (hz : v = .slice none 0 0 ∨ q ≠ 0) : ∃ a0 cap, v = .slice a0 q cap ∧ (a0 = none ∨ cap ≠ 0) := by
  obtain ⟨hl, ⟨rfl, rfl⟩ | ⟨g, cap, pre, junk, rfl, hb, hn, hc, hj⟩⟩ := H.row hi
  · exact ⟨none, 0, rfl, .inl rfl⟩
  · refine ⟨_, cap, rfl, .inr ?_⟩
    rcases hz with h | h
    · cases h
    · omega
/-- 'unsafe.String' of a whole row: its bytes; the row is given up. -/
theorem op_unsafeString {a0 : Option Addr} {q cap : Nat} {l : List UInt8} {e pt it : TypeId} (H : Own S w0 w L) (hi : L[i]? = some (Ent.row (.slice a0 q cap) e 1 q (l.map vU8))) (hp : P.underlying pt = some (.pointer e)) (hc : P.cellsOf e = 1) (hx : ev ρ x = some (.pointer a0)) (hy : ev ρ y = some (vN q))
    (h : ∀ w', Fr (blks [Ent.row (.slice a0 q cap) e 1 q (l.map vU8)]) w w' → R (str l) w') : Op1 P n D ⟨dst, .call { callee := .builtin .unsafeString, args := #[x, y], argTypes := #[pt, it] }, ty, pos, af, g⟩ ρ w R := by
  have hr0 := H.row hi
  have hq : l.length = q := by have := hr0.1; simpa using this
  have hr : ∃ w', Fr (blks [Ent.row (.slice a0 q cap) e 1 q (l.map vU8)]) w w' ∧ (Builtin.unsafeString_ #[pt, it] ty #[.pointer a0, vN q]).run P w = .ok (str l) w' := by
    by_cases h0 : l = []
    · subst h0
      simp at hq; subst hq
      exact ⟨w, Fr.refl _ _, Lib.run_unsafeString_none w pt it ty a0⟩
    · obtain ⟨hl, ⟨hv, hq0⟩ | ⟨gb, cap', pre, junk, hv, hb, hn, hcm, hj⟩⟩ := hr0
      · exact absurd (List.eq_nil_of_length_eq_zero (by omega)) h0
      · injection hv with h1 h2 h3
        subst h1
        refine ⟨_, (Fr.freeze w ⟨gb, pre.length, none⟩ l.length).mono (fun x hx => ?_), ?_⟩
        · simp at hx; subst hx; exact mem_blks.2 ⟨0, _, rfl, rfl⟩
        · have hsh : w.shape? gb = some (e, (pre ++ (l.map vU8 ++ junk)).length) := by
            obtain ⟨fr, _, hh⟩ := hb
            simp [World.shape?, hh]
          rw [← hq]
          refine run_unsafeString_at pt it ty e hp hc gb pre.length _ hsh l h0 (by simp) (by unfold maxLen at hcm; omega) (fun j x hx => ?_)
          rw [Addr.add_at, hb.cell, List.getElem?_append_right (by omega), Nat.add_sub_cancel_left, List.getElem?_append_left (by simpa using (List.getElem?_eq_some_iff.1 hx).1), List.getElem?_map, hx]
          try rfl
  obtain ⟨w', hf, hrun⟩ := hr
  exact Op1.val (fun c hc => by simp [execOp, resolve, invoke, builtin, hc.ev hx, hc.ev hy, hrun]) (h w' hf)
end
end Go.Owl
