/- General lemmas and walks: Owl14, Owl15, Owl16, Owl17, OwlRow, OwlOpen, Owl18, Owl19, Owl20, Owl21, Owl22, Owl23, Owl24, Owl25, Owl26, Owl35, Owl36, Owl27, Owl28, Owl30, Owl33, Owl37, Owl38, Owl31, Owl32, Owl39. No condition but what each theorem names. -/
import Derived.Test.YtbjhccnffacbcaaGreatQ5ea2df34
import Derived.Lib.Builder
import Derived.Lib.UnsafeStr
import Derived.Laws.Externs
import Derived.ProofKit
import Derived.HandedShaped
import Derived.Deep.Slices
import Derived.Lib.SliceRun
import Derived.LoopN
import Derived.MapKept
import Derived.Maps.RangeRun
import Derived.OrdersHeld
/-! from Owl14 -/
/- Rows in the form of a list's image: append, store, make. -/
namespace Go.Owl
section
variable {P : Program} {n : Nat} {D : List Deferred} {ρ : Env} {w w0 : World} {R : Value → World → Prop} {dst : Option Tmp} {ty : TypeId} {pos : String} {af : Array Edge} {g : Option (Nat × Bool)}
variable {S : List Nat} {L : List Ent} {i : Nat} {t t' T T' : TypeId} {x y : Operand} {z : List Value} {sz by_ : Nat} {d : TypeDesc}

theorem op_appendM {α : Type} {f : α → Value} {l l' : List α} {v u : Value} {q m : Nat} (H : Own S w0 w L) (hu : P.underlying T = some (.slice t)) (hz : tiB P t = some (z, 1, by_)) (hzl : z.length = 1) (hx : ev ρ x = some v) (hy : ev ρ y = some u)
    (hi : L[i]? = some (Ent.row v t 1 q (l.map f))) (hs : Src P w T' 1 u m (l'.map f)) (h1 : ∀ c ∈ l'.map f, c.oneCell' = true) (h63 : q + m ≤ 9223372036854775807) (hby : (q + m) * by_ ≤ 140737488355328)
    (h : ∀ v' w', Own S w0 w' (L.set i (.row v' t 1 (q + m) ((l ++ l').map f))) → R v' w') : Op1 P n D ⟨dst, .call { callee := .builtin .append, args := #[x, y], argTypes := #[T, T'] }, ty, pos, af, g⟩ ρ w R :=
  op_append H hu hz hzl hx hy hi hs h1 h63 hby (fun v' w' H' => h v' w' (by rw [List.map_append]; exact H'))

theorem one_mapM {α : Type} {f : α → Value} (h : ∀ a, (f a).oneCell' = true) {l : List α} : ∀ c ∈ l.map f, c.oneCell' = true := fun c hc => by
  obtain ⟨a, _, rfl⟩ := List.mem_map.1 hc
  exact h a
theorem zeros_one (c : Value) : ∀ m, zeros [c] m = List.replicate m c
  | 0 => rfl
  | m + 1 => by rw [zeros, zeros_one c m, List.replicate_succ]; rfl

theorem op_makeSlice {m : Nat} {k k' : IntKind} (H : Own S w0 w L) (hu : P.underlying T = some (.slice t)) (hz : tiB P t = some (z, sz, by_)) (hzl : z.length = sz) (hx : ev ρ x = some (.int k (m : Int))) (hy : ev ρ y = some (.int k' (m : Int)))
    (hb : by_ * m ≤ 281474976710656) (h63 : m ≤ 9223372036854775807) (h : ∀ b w', Own S w0 w' (L ++ [.row (.slice (some ⟨b, 0, none⟩) m m) t sz m (zeros z m)]) → R (.slice (some ⟨b, 0, none⟩) m m) w') :
    Op1 P n D ⟨dst, .makeSlice T x y, ty, pos, af, g⟩ ρ w R := by
  obtain ⟨i, v, hi, hv, hc, hs, hby⟩ := tiB_spec hz
  have hvs : v.cells.size = sz := by rw [← hzl, ← hc]; simp
  have hr := run_make (P := P) w T t i v hu hi hv k k' m m (by omega) (Int.le_refl _) (by rw [hby]; omega) (by omega)
  simp only [Int.toNat_natCast] at hr
  have e : madeCells v.cells (m * i.size) = (zeros z m).toArray := by
    rw [← hc]; exact range_zeros v.cells m (m * i.size) (by rw [hs, hvs])
  rw [e] at hr
  refine Op1.val (w' := w.alloc (.cells (zeros z m).toArray t)) (v := .slice (some ⟨w.heap.size, 0, none⟩) m m) (fun a ha => ?_) (h _ _ ?_)
  · simp only [execOp, ha.ev hx, ha.ev hy, Sem.run_bind, hr, Result.andThen_ok, Sem.run_pure]
  · refine H.new (Fr.alloc _ _) ⟨by rw [zeros_length, hzl], .inr ⟨w.heap.size, m, [], [], rfl, ?_, Nat.le_refl _, by unfold maxLen; omega, by rw [zeros_length, hzl]; simp⟩⟩ (fun b hb => ?_)
    · simpa using Blk.alloc w (zeros z m) t
    · simp only [Ent.Owns, Value.ownBlock, Option.some.injEq] at hb; omega

theorem op_makeSliceM {α : Type} {f : α → Value} {c : α} {m : Nat} {k k' : IntKind} (H : Own S w0 w L) (hu : P.underlying T = some (.slice t)) (hz : tiB P t = some ([f c], 1, by_)) (hx : ev ρ x = some (.int k (m : Int))) (hy : ev ρ y = some (.int k' (m : Int)))
    (hb : by_ * m ≤ 281474976710656) (h63 : m ≤ 9223372036854775807) (h : ∀ b w', Own S w0 w' (L ++ [.row (.slice (some ⟨b, 0, none⟩) m m) t 1 m ((List.replicate m c).map f)]) → R (.slice (some ⟨b, 0, none⟩) m m) w') :
    Op1 P n D ⟨dst, .makeSlice T x y, ty, pos, af, g⟩ ρ w R :=
  op_makeSlice H hu hz rfl hx hy hb h63 (fun b w' H' => h b w' (by rw [zeros_one] at H'; rw [List.map_replicate]; exact H'))

theorem op_storeRM {α : Type} {f : α → Value} {l : List α} {c : α} {v : Value} {m k : Nat} (H : Own S w0 w L) (hx : ev ρ x = some (.pointer (some (sp v k)))) (hy : ev ρ y = some (f c)) (hi : L[i]? = some (Ent.row v t 1 m (l.map f))) (hk : k < m)
    (h1 : (f c).oneCell' = true) (hz : tiB P T = some (z, 1, by_)) (h : ∀ w', Own S w0 w' (L.set i (.row v t 1 m ((l.set k c).map f))) → R undef w') : Op1 P n D ⟨dst, .store T x y, ty, pos, af, g⟩ ρ w R :=
  op_storeR H hx hy hi (by have := (H.row hi).1; simp at this; simpa [this] using hk) h1 hz (fun w' H' => h w' (by rw [List.map_set]; exact H'))
theorem Own.rowEq {α : Type} {f : α → Value} {l l' : List α} {v : Value} {m : Nat} (H : Own S w0 w L) (hi : L[i]? = some (Ent.row v t 1 m (l.map f))) (e : l = l') : Own S w0 w (L.set i (.row v t 1 m (l'.map f))) := by
  subst e
  have h := List.getElem?_eq_some_iff.1 hi
  have e : L.set i (.row v t 1 m (l.map f)) = L := by rw [← h.2]; exact List.set_getElem_self h.1
  rw [e]; exact H
theorem Own.rowEqN {α : Type} {f : α → Value} {l l' : List α} {v : Value} {m m' : Nat} (H : Own S w0 w L) (hi : L[i]? = some (Ent.row v t 1 m (l.map f))) (e : l = l') (en : m = m') : Own S w0 w (L.set i (.row v t 1 m' (l'.map f))) := by
  subst en; exact H.rowEq hi e
end
theorem Arr.ltM {α : Type} {f : α → Value} {l : List α} {w : World} {v : Value} {q k : Nat} (hA : Arr w v 1 q (l.map f)) (hk : k < q) : k < l.length := by rw [hA.mapLen]; exact hk
end Go.Owl
/-! from Owl15 -/
/- min, max. -/
namespace Go.Owl
section
variable {P : Program} {n : Nat} {D : List Deferred} {ρ : Env} {w : World} {R : Value → World → Prop} {dst : Option Tmp} {ty : TypeId} {pos : String} {af : Array Edge} {g : Option (Nat × Bool)}
variable {t t' : TypeId} {x y : Operand}
theorem run_min2 {k : IntKind} {a b : Int} : (Builtin.min_ #[t, t'] ty #[.int k a, .int k b]).run P w = .ok (.int k (if b < a then b else a)) w := by
  simp [Builtin.min_, Builtin.min2]
theorem run_max2 {k : IntKind} {a b : Int} : (Builtin.max_ #[t, t'] ty #[.int k a, .int k b]).run P w = .ok (.int k (if a < b then b else a)) w := by
  simp [Builtin.max_, Builtin.max2]
theorem op_min2 {k : IntKind} {a b : Int} (hx : ev ρ x = some (.int k a)) (hy : ev ρ y = some (.int k b)) (h : R (.int k (if b < a then b else a)) w) : Op1 P n D ⟨dst, .call { callee := .builtin .min, args := #[x, y], argTypes := #[t, t'] }, ty, pos, af, g⟩ ρ w R :=
  Op1.val (fun c hc => by simp [execOp, resolve, invoke, builtin, hc.ev hx, hc.ev hy, run_min2]) h
theorem op_max2 {k : IntKind} {a b : Int} (hx : ev ρ x = some (.int k a)) (hy : ev ρ y = some (.int k b)) (h : R (.int k (if a < b then b else a)) w) : Op1 P n D ⟨dst, .call { callee := .builtin .max, args := #[x, y], argTypes := #[t, t'] }, ty, pos, af, g⟩ ρ w R :=
  Op1.val (fun c hc => by simp [execOp, resolve, invoke, builtin, hc.ev hx, hc.ev hy, run_max2]) h
theorem op_minN {a b : Nat} (hx : ev ρ x = some (vN a)) (hy : ev ρ y = some (vN b)) (h : R (vN (min a b)) w) : Op1 P n D ⟨dst, .call { callee := .builtin .min, args := #[x, y], argTypes := #[t, t'] }, ty, pos, af, g⟩ ρ w R :=
  op_min2 (a := (a : Int)) (b := (b : Int)) hx hy (by rw [show (if (b : Int) < (a : Int) then (b : Int) else (a : Int)) = ((min a b : Nat) : Int) from by split <;> omega]; exact h)
theorem op_maxI {a b : Int} (hx : ev ρ x = some (vI a)) (hy : ev ρ y = some (vI b)) (h : R (vI (max a b)) w) : Op1 P n D ⟨dst, .call { callee := .builtin .max, args := #[x, y], argTypes := #[t, t'] }, ty, pos, af, g⟩ ρ w R :=
  op_max2 hx hy (by rw [show (if a < b then b else a) = max a b from by split <;> omega]; exact h)
end
end Go.Owl
/-! from Owl16 -/
/- Blocks that are only read. -/
namespace Go.Owl
/-- From a block's head on these cells stand. -/
def cellsAt (w : World) (b : Nat) (cs : List Value) : Prop := ∀ (j : Nat) (u : Value), cs[j]? = some u → w.cell? ⟨b, j, none⟩ = some u
theorem cellsAt.lt {w : World} {b : Nat} {cs : List Value} (h : cellsAt w b cs) (hne : cs ≠ []) : b < w.heap.size := by
  cases cs with
  | nil => exact absurd rfl hne
  | cons c l => exact block_lt_of_cell (a := ⟨b, 0, none⟩) (h 0 c rfl)
theorem cellsAt.stable (b : Nat) (cs : List Value) : Stable (fun w => cellsAt w b cs) (if cs.isEmpty then [] else [b]) where
  lt := fun w h b' hb => by
    cases cs with
    | nil => simp at hb
    | cons c l => simp at hb; subst hb; exact cellsAt.lt h (by simp)
  fr := fun T w w' hf hT h j u hu => by
    cases cs with
    | nil => simp at hu
    | cons c l =>
      have hb := cellsAt.lt h (by simp)
      rw [← h j u hu]
      exact World.cell?_of_block (hf.block b hb (hT b (by simp)))
def Ent.bo (b : Nat) (cs : List Value) : Ent := .ro (fun w => cellsAt w b cs) (if cs.isEmpty then [] else [b]) (cellsAt.stable b cs)
section
variable {S : List Nat} {w0 w : World} {L : List Ent} {i b : Nat} {cs vs : List Value} {t : TypeId}
theorem Own.cellO {off : Nat} {v : Value} (H : Own S w0 w L) (hi : L[i]? = some (Ent.bo b cs)) (hc : cs[off]? = some v) : w.cell? ⟨b, off, none⟩ = some v := (H.ok i _ hi) off v hc
theorem Own.cellsO {off : Nat} (H : Own S w0 w L) (hi : L[i]? = some (Ent.bo b cs)) (hc : (cs.drop off).take vs.length = vs) : ∀ j u, vs[j]? = some u → w.cell? ⟨b, off + j, none⟩ = some u := by
  intro j u hj
  rw [← hc, List.getElem?_take] at hj
  split at hj
  · rw [List.getElem?_drop] at hj; exact (H.ok i _ hi) _ u hj
  · cases hj
theorem Own.cellsAt (H : Own S w0 w L) (hi : L[i]? = some (Ent.blk b cs t)) : cellsAt w b cs := fun j u hu => H.cell hi hu
theorem Own.cellsAtO (H : Own S w0 w L) (hi : L[i]? = some (Ent.bo b cs)) : Owl.cellsAt w b cs := H.ok i _ hi
theorem Own.oldB (H : Own [] w0 w L) (h : Owl.cellsAt w0 b cs) : Own [] w0 w (L ++ [Ent.bo b cs]) := H.old (cellsAt.stable b cs) h
theorem Own.oldA {v : Value} {sz n : Nat} {xs : List Value} (H : Own [] w0 w L) (h : Arr w0 v sz n xs) : Own [] w0 w (L ++ [Ent.ar v sz n xs]) := H.old (Arr.stable v sz n xs) h
end
end Go.Owl
/-! from Owl17 -/
/- Memory seen through unsafe.Pointer: what strings.Builder does. -/
namespace Go.Owl
/-- What stays when a callee had some things and gives none back. -/
theorem Own.rest {S : List Nat} {w0 w w1 : World} {L E F : List Ent} {I J : List Nat} (H : Own S w0 w L) (hp : picks L I = some E) (hJ : nodupB J = true) (hq : picks L J = some F) (hd : J.all (fun j => !I.any (Nat.beq j)) = true)
    (R : Fr (blks E) w w1) : Own S w0 w1 F := by
  have P := H.sel J hJ hq
  refine ⟨H.frPart hp R, fun i e hi => ?_, P.sep, P.own⟩
  obtain ⟨j, hj, h⟩ := picks_of hq hi
  have := List.all_eq_true.1 hd j (List.mem_of_getElem? hj)
  exact H.stay hp h (by simpa using this) R
section
variable {P : Program} {n : Nat} {D : List Deferred} {ρ : Env} {w w0 : World} {R : Value → World → Prop} {dst : Option Tmp} {ty : TypeId} {pos : String} {af : Array Edge} {g : Option (Nat × Bool)}
variable {S : List Nat} {L : List Ent} {i b : Nat} {t t' u T0 : TypeId} {x y : Operand} {cs : List Value}
theorem Own.shape (H : Own S w0 w L) (hi : L[i]? = some (Ent.blk b cs T0)) : w.shape? b = some (T0, cs.length) := by
  obtain ⟨fr, _, h⟩ := H.blk hi
  simp [World.shape?, h]
theorem info_cells {k : Nat} (h : P.cellsOf t = k + 1) : ∃ j, P.info? t = some j ∧ j.size = k + 1 := by
  unfold Program.cellsOf at h
  cases hj : P.info? t with
  | none => rw [hj] at h; simp at h
  | some j => rw [hj] at h; exact ⟨j, rfl, by simpa using h⟩
/-- To unsafe.Pointer. -/
theorem op_toUnsafe {off k : Nat} (H : Own S w0 w L) (hs : P.underlying t = some (.pointer u)) (hd : P.underlying t' = some .unsafePointer) (hz : P.cellsOf u = k + 1) (hx : ev ρ x = some (ptr b off)) (hi : L[i]? = some (Ent.blk b cs T0)) (ho : Nat.blt off cs.length = true)
    (h : R (ptr b off) w) : Op1 P n D ⟨dst, .convert t t' x, ty, pos, af, g⟩ ρ w R := by
  obtain ⟨j, hj, hjs⟩ := info_cells hz
  have hr := Lib.run_to_unsafe (P := P) w ⟨b, off, none⟩ hs hd hj (by omega) (H.shape hi) (by simpa [Nat.blt_eq] using ho)
  exact Op1.val (fun a ha => by simp only [execOp, ha.ev hx, Sem.run_bind, hr, Result.andThen_ok, Sem.run_pure]) h
/-- Back from it. -/
theorem op_fromUnsafe {off k : Nat} (H : Own S w0 w L) (hs : P.underlying t = some .unsafePointer) (hd : P.underlying t' = some (.pointer u)) (hz : P.cellsOf u = k + 1) (hx : ev ρ x = some (ptr b off)) (hi : L[i]? = some (Ent.blk b cs T0)) (hp : Nat.blt 0 cs.length = true) (hc : P.cellsOf T0 = cs.length) (hl : liesAt P P.depth T0 1 off u 1 = true)
    (h : R (ptr b off) w) : Op1 P n D ⟨dst, .convert t t' x, ty, pos, af, g⟩ ρ w R := by
  obtain ⟨j, hj, hjs⟩ := info_cells hz
  have hpos : 0 < cs.length := by simpa [Nat.blt_eq] using hp
  have hr := Lib.run_from_unsafe (P := P) w ⟨b, off, none⟩ hs hd hj (H.shape hi) (by rw [hc, Nat.div_self hpos]; exact hl)
  exact Op1.val (fun a ha => by simp only [execOp, ha.ev hx, Sem.run_bind, hr, Result.andThen_ok, Sem.run_pure]) h
/-- internal/abi.NoEscape: the same. -/
theorem op_noEscape {f : FuncId} {fn : Func} {v : Value} {ats : Array TypeId} (hf : P.funcs[f]? = some fn) (hname : (fn.name == "runtime.NumGoroutine") = false) (hb : fn.body.isNone = true) (hn : Extern.findNext fn = none) (he : Extern.find fn = some Extern.AbiNoEscape.same)
    (hx : ev ρ x = some v) (h : R v w) : Op1 P n D ⟨dst, .call { callee := .value (.func f), args := #[x], argTypes := ats }, ty, pos, af, g⟩ ρ w R := by
  have hr := run_callFunc_extern hf hname hb hn he #[v] w
  rw [Lib.run_noEscape] at hr
  refine Op1.val (fun a ha => ?_) h
  have e0 : (execOp a.eval ⟨dst, .call { callee := .value (.func f), args := #[x], argTypes := ats }, ty, pos, af, g⟩).run P w = (callFunc f #[v]).run P w := by
    have h1 : (#[x] : Array Operand).map a.eval = #[v] := ha.evA (vs := [v]) (by simp [evL, hx])
    have h2 : a.eval (.func f) = .func (.func f) #[] #[] := rfl
    simp [execOp, resolve, h1, h2, Deferred.ofValue, invoke]
  rw [e0, hr]
  rfl
/-- A pointer against itself. -/
theorem op_neqPP {k : Nat} {ad : Addr} (hu : P.underlying t = some (.pointer u)) (hz : P.cellsOf u = k + 1) (hx : ev ρ x = some (.pointer (some ad))) (hy : ev ρ y = some (.pointer (some ad))) (h : R (.bool false) w) : Op1 P n D ⟨dst, .binOp .neq t x y t', ty, pos, af, g⟩ ρ w R := by
  obtain ⟨j, hj, hjs⟩ := info_cells hz
  have hr := Lib.run_neq_ptr_same (P := P) w ad hu hj
  exact Op1.val (fun c ha => by
    have hg : (eqGuard .neq t x y (.pointer (some ad)) (.pointer (some ad))).run P w = .ok () w := rfl
    simp only [execOp, ha.ev hx, ha.ev hy, Sem.run_bind, hg, Result.andThen_ok, hr, Sem.run_pure]) h

theorem op_sliceData {a0 : Option Addr} {q cap : Nat} {ats : TypeId} (hx : ev ρ x = some (.slice a0 q cap)) (hc : a0 = none ∨ cap ≠ 0) (h : R (.pointer a0) w) :
    Op1 P n D ⟨dst, .call { callee := .builtin .unsafeSliceData, args := #[x], argTypes := #[ats] }, ty, pos, af, g⟩ ρ w R := by
  have hr : (Builtin.unsafeSliceData_ #[ats] ty #[.slice a0 q cap]).run P w = .ok (.pointer a0) w := by
    cases a0 with
    | none => exact Lib.run_unsafeSliceData_nil w _ _ _ _
    | some a => exact Lib.run_unsafeSliceData_row w _ _ _ _ _ (hc.resolve_left (by simp))
  exact Op1.val (fun c hc => by simp [execOp, resolve, invoke, builtin, hc.ev hx, hr]) h
theorem liesAt_bytes' {e : TypeId} (hc : P.cellsOf e = 1) (count o m : Nat) (hn : o + m ≤ count) : liesAt P P.depth e count o e m = true := by
  have hd : P.depth = (2 * (P.types.size + Made.depth) + 1) + 1 := rfl
  rw [hd]
  simp only [liesAt, Bool.or_eq_true]
  left
  rw [hd]
  simp [rowAt, hc, hn, sameLayout, Nat.mod_one]
theorem run_unsafeString_at (pt it ty e : TypeId) (hp : P.underlying pt = some (.pointer e)) (hc : P.cellsOf e = 1) (g o cells : Nat) (hsh : w.shape? g = some (e, cells)) (l : List UInt8) (h0 : l ≠ []) (hn : o + l.length ≤ cells) (h63 : l.length ≤ 9223372036854775807)
    (hcell : ∀ j x, l[j]? = some x → w.cell? ((⟨g, o, none⟩ : Addr).add j) = some (.int .u8 x.toNat)) :
    (Builtin.unsafeString_ #[pt, it] ty #[.pointer (some ⟨g, o, none⟩), .int .i64 l.length]).run P w = .ok (.string ⟨l.toArray⟩) (w.freeze ⟨g, o, none⟩ l.length) := by
  have hl : l.length ≠ 0 := by simpa using h0
  have hlb := Lib.run_loadBytes (P := P) w l ⟨g, o, none⟩ .empty hcell
  have hlies := liesAt_bytes' (P := P) hc (cells / P.cellsOf e) o l.length (by rw [hc]; simpa using hn)
  have h63' : ¬ (9223372036854775807 : Int) < (l.length : Int) := by omega
  have hdef : Builtin.unsafeString_ #[pt, it] ty #[.pointer (some ⟨g, o, none⟩), .int .i64 l.length] =
      (do
        let n ← asInt (.int .i64 l.length)
        if n < 0 then runtimePanic (.error "unsafe.String: len out of range")
        if n > IntKind.i64.max then unsupported (.unsafePointer "String: a length above the largest int")
        if n = 0 then pure (.string .empty)
        else if ← variablesAt ⟨g, o, none⟩ (← elemOf pt) n.toNat then do
          let s ← loadBytes ⟨g, o, none⟩ .empty n.toNat
          freeze ⟨g, o, none⟩ n.toNat
          pure (.string s)
        else unsupported (.unsafePointer "String: not so many bytes at ptr")) := rfl
  rw [hdef]
  have hmax : IntKind.i64.max = 9223372036854775807 := rfl
  have hneg : ¬ (l.length : Int) < 0 := by omega
  simp [asInt, asIntOf, hmax, h63', hneg, hl, variablesAt, hsh, elemOf, run_underlying hp, hlies, hlb]
theorem Fr.freeze (w : World) (p : Addr) (m : Nat) : Fr [p.block] w (w.freeze p m) := by
  unfold World.freeze
  split
  · exact Fr.refl _ _
  · refine ⟨rfl, rfl, rfl, by simp, fun k _ hn => ?_⟩
    simp only [Array.getElem?_modify]
    rw [if_neg (by intro e; subst e; simp at hn)]
theorem Own.rowForm {v : Value} {sz q : Nat} {xs : List Value} (H : Own S w0 w L) (hi : L[i]? = some (Ent.row v t sz q xs)) (hz : v = .slice none 0 0 ∨ q ≠ 0) : ∃ a0 cap, v = .slice a0 q cap ∧ (a0 = none ∨ cap ≠ 0) := by
  obtain ⟨hl, ⟨rfl, rfl⟩ | ⟨g, cap, pre, junk, rfl, hb, hn, hc, hj⟩⟩ := H.row hi
  · exact ⟨none, 0, rfl, .inl rfl⟩
  · refine ⟨_, cap, rfl, .inr ?_⟩
    rcases hz with h | h
    · cases h
    · omega
/-- 'unsafe.String' of a whole row: its bytes; the row is given up. -/
theorem op_unsafeString {a0 : Option Addr} {q cap : Nat} {l : List UInt8} {e pt it : TypeId} (H : Own S w0 w L) (hi : L[i]? = some (Ent.row (.slice a0 q cap) e 1 q (l.map vU8))) (hp : P.underlying pt = some (.pointer e)) (hc : P.cellsOf e = 1) (hx : ev ρ x = some (.pointer a0)) (hy : ev ρ y = some (vN q))
    (h : ∀ w', Fr (blks [Ent.row (.slice a0 q cap) e 1 q (l.map vU8)]) w w' → R (str l) w') : Op1 P n D ⟨dst, .call { callee := .builtin .unsafeString, args := #[x, y], argTypes := #[pt, it] }, ty, pos, af, g⟩ ρ w R := by
  have hr0 := H.row hi
  have hq : l.length = q := by have := hr0.1; simpa using this
  have hr : ∃ w', Fr (blks [Ent.row (.slice a0 q cap) e 1 q (l.map vU8)]) w w' ∧ (Builtin.unsafeString_ #[pt, it] ty #[.pointer a0, vN q]).run P w = .ok (str l) w' := by
    by_cases h0 : l = []
    · subst h0
      simp at hq; subst hq
      exact ⟨w, Fr.refl _ _, Lib.run_unsafeString_none w pt it ty a0⟩
    · obtain ⟨hl, ⟨hv, hq0⟩ | ⟨gb, cap', pre, junk, hv, hb, hn, hcm, hj⟩⟩ := hr0
      · exact absurd (List.eq_nil_of_length_eq_zero (by omega)) h0
      · injection hv with h1 h2 h3
        subst h1
        refine ⟨_, (Fr.freeze w ⟨gb, pre.length, none⟩ l.length).mono (fun x hx => ?_), ?_⟩
        · simp at hx; subst hx; exact mem_blks.2 ⟨0, _, rfl, rfl⟩
        · have hsh : w.shape? gb = some (e, (pre ++ (l.map vU8 ++ junk)).length) := by
            obtain ⟨fr, _, hh⟩ := hb
            simp [World.shape?, hh]
          rw [← hq]
          refine run_unsafeString_at pt it ty e hp hc gb pre.length _ hsh l h0 (by simp) (by unfold maxLen at hcm; omega) (fun j x hx => ?_)
          rw [Addr.add_at, hb.cell, List.getElem?_append_right (by omega), Nat.add_sub_cancel_left, List.getElem?_append_left (by simpa using (List.getElem?_eq_some_iff.1 hx).1), List.getElem?_map, hx]
          try rfl
  obtain ⟨w', hf, hrun⟩ := hr
  exact Op1.val (fun c hc => by simp [execOp, resolve, invoke, builtin, hc.ev hx, hc.ev hy, hrun]) (h w' hf)
end
end Go.Owl
/-! from OwlRow -/
/- A row that says: whatever the input, true; the input reads as it did. -/
namespace Go.Owl
open Go.ChangeShapes Go.WideShapes Go.RowKit
section
variable {H : Type} {enc : TypeId × Value → H} {P : Program}

theorem trodAll_stays (hl : laidOutB P = true) {W W' : World} (hb : Below W.heap.size W W') : ∀ {ts : List TypeId} {vs : List Value} {ds : List (DataW H)} {ps : List MemPlace},
    (ts.all fun t => P.readableRec t && decide (t < P.types.size)) = true → DataW.TrodAll enc P W 0 (fun _ => true) true ts vs ds ps → (∀ x ∈ ps, x.block < W.heap.size) →
    DataW.TrodAll enc P W' 0 (fun b => decide (b < W.heap.size)) true ts vs ds ps
  | [], vs, ds, ps, _, h, _ => by
    obtain ⟨rfl, rfl, rfl⟩ := trodAll_nil h
    exact rfl
  | t :: ts, vs, ds, ps, hr, h, hlt => by
    obtain ⟨v, vs1, d, ds1, a, b, rfl, rfl, rfl, h1, h2⟩ := trodAll_cons h
    rw [List.all_cons, Bool.and_eq_true, Bool.and_eq_true, decide_eq_true_eq] at hr
    exact ⟨a, b, Below.trod hl hr.1.1 hr.1.2 h1 hb (fun x hx => hlt x (List.mem_append.2 (.inl hx))), trodAll_stays hl hb hr.2 h2 (fun x hx => hlt x (List.mem_append.2 (.inr hx))), rfl⟩

theorem trodAll_length {w : World} {base : Nat} {spare : Nat → Bool} {held : Bool} : ∀ {ts : List TypeId} {vs : List Value} {ds : List (DataW H)} {ps : List MemPlace}, DataW.TrodAll enc P w base spare held ts vs ds ps → ds.length = ts.length ∧ vs.length = ts.length
  | [], vs, ds, ps, h => by
    obtain ⟨rfl, rfl, rfl⟩ := trodAll_nil h
    exact ⟨rfl, rfl⟩
  | t :: ts, vs, ds, ps, h => by
    obtain ⟨v, vs1, d, ds1, a, b, rfl, rfl, rfl, h1, h2⟩ := trodAll_cons h
    simp [trodAll_length h2]

end

theorem u8_of {n : Int} (h : (Lit.int .u8 n).wf = true) : ∃ a : UInt8, Value.int .u8 n = vU8 a := by
  simp [Lit.wf, IntKind.min, IntKind.max, IntKind.signed, IntKind.bits] at h
  exact ⟨UInt8.ofNat n.toNat, by unfold vU8; congr 1; simp; omega⟩
theorem u32_of {n : Int} (h : (Lit.int .u32 n).wf = true) : ∃ a : UInt32, Value.int .u32 n = vU32 a := by
  simp [Lit.wf, IntKind.min, IntKind.max, IntKind.signed, IntKind.bits] at h
  exact ⟨UInt32.ofNat n.toNat, by unfold vU32; congr 1; simp; omega⟩
section
variable {H : Type} {enc : TypeId × Value → H} {P : Program} {w : World} {base b0 : Nat} {spare : Nat → Bool} {held : Bool} {r : Reach} {t : TypeId} {v : Value} {d : DataW H} {ps : List MemPlace}
end
end Go.Owl
/-! from OwlOpen -/
/- Arguments of any depth, opened; the row's proof with the form's own reach. -/
namespace Go.Owl
open Go.ChangeShapes Go.WideShapes Go.RowKit

/-- What is read at a type has this form. -/
def Opens (P : Program) (t : TypeId) {α : Type} (f : α → List Value) (ok : World → α → Prop) : Prop :=
  ∀ (H : Type) (enc : TypeId × Value → H) (w : World) (base : Nat) (spare : Nat → Bool) (held : Bool) (fuel : Nat) (cs : List Value) (x : DataW H × List MemPlace),
    DataW.trod enc P w base spare held fuel t cs = some x → (∀ k ∈ x.1.weights P t, k ≤ reachBytes) → ∃ a, cs = f a ∧ ok w a

section
variable {P : Program} {t e : TypeId}

theorem Opens.map {α β : Type} {f : α → List Value} {ok : World → α → Prop} {f' : β → List Value} {ok' : World → β → Prop} (h : Opens P t f ok) (g : α → β) (hf : ∀ a, f a = f' (g a)) (hk : ∀ w a, ok w a → ok' w (g a)) : Opens P t f' ok' := by
  intro H enc w base spare held fuel cs x hx hw
  obtain ⟨a, h1, h2⟩ := h H enc w base spare held fuel cs x hx hw
  exact ⟨g a, h1.trans (hf a), hk w a h2⟩

theorem opens_u8 (ht : P.underlying t = some (.int .u8)) : Opens P t (fun a : UInt8 => [vU8 a]) (fun _ _ => True) := by
  intro H enc w base spare held fuel cs x hx _
  obtain ⟨n, rfl, -, hw⟩ := DataW.trod_int ht hx
  obtain ⟨a, ha⟩ := u8_of hw
  exact ⟨a, by rw [ha], trivial⟩
theorem opens_u32 (ht : P.underlying t = some (.int .u32)) : Opens P t (fun a : UInt32 => [vU32 a]) (fun _ _ => True) := by
  intro H enc w base spare held fuel cs x hx _
  obtain ⟨n, rfl, -, hw⟩ := DataW.trod_int ht hx
  obtain ⟨a, ha⟩ := u32_of hw
  exact ⟨a, by rw [ha], trivial⟩
theorem opens_i64 (ht : P.underlying t = some (.int .i64)) : Opens P t (fun a : Int => [vI a]) (fun _ a => -9223372036854775808 ≤ a ∧ a ≤ 9223372036854775807) := by
  intro H enc w base spare held fuel cs x hx _
  obtain ⟨n, rfl, -, hw⟩ := DataW.trod_int ht hx
  refine ⟨n, rfl, ?_⟩
  simp [Lit.wf, IntKind.min, IntKind.max, IntKind.signed, IntKind.bits] at hw
  omega
theorem opens_str (ht : P.underlying t = some .string) : Opens P t (fun l : List UInt8 => [str l]) (fun _ l => l.length ≤ 140737488351232) := by
  intro H enc w base spare held fuel cs x hx hw
  obtain ⟨s, rfl, rfl, -⟩ := DataW.trod_string ht hx
  refine ⟨s.data.toList, by simp [str], ?_⟩
  have := hw s.data.toList.length (by simp [DataW.weights])
  simpa [reachBytes] using this

theorem weightsAll_mem {H : Type} {d : DataW H} : ∀ {l : List (DataW H)}, d ∈ l → ∀ k ∈ d.weights P e, k ∈ DataW.weightsAll P e l
  | [], h, _, _ => by cases h
  | y :: l, h, k, hk => by
    rw [DataW.weightsAll, List.mem_append]
    rcases List.mem_cons.1 h with rfl | h
    · exact .inl hk
    · exact .inr (weightsAll_mem h k hk)

theorem cells?_get {w : World} {base : Nat} {a : Addr} {n : Nat} {cs : List Value} (h : w.cells? base a n = some cs) : cs.length = n ∧ ∀ i, i < n → w.cell? (a.add i) = cs[i]? := by
  unfold World.cells? at h
  split at h
  · refine ⟨by simpa using mapM_some_length h, fun i hi => ?_⟩
    have := mapM_some_get h i i (by simp [hi])
    exact this
  · cases h

theorem flatMap_len {β : Type} {g : β → List Value} {sz : Nat} (hg : ∀ b, (g b).length = sz) : ∀ l : List β, (l.flatMap g).length = l.length * sz
  | [] => by simp
  | b :: l => by rw [List.flatMap_cons, List.length_append, hg, flatMap_len hg l, List.length_cons, Nat.add_mul]; omega
theorem flatMap_at {β : Type} {g : β → List Value} {sz : Nat} (hg : ∀ b, (g b).length = sz) : ∀ (l : List β) (i k : Nat) (b : β), l[i]? = some b → k < sz → (l.flatMap g)[i * sz + k]? = (g b)[k]?
  | [], i, k, b, h, _ => by simp at h
  | c :: l, 0, k, b, h, hk => by
    simp at h; subst h
    rw [List.flatMap_cons, Nat.zero_mul, Nat.zero_add, List.getElem?_append_left (by rw [hg]; exact hk)]
  | c :: l, i + 1, k, b, h, hk => by
    rw [List.flatMap_cons, List.getElem?_append_right (by rw [hg, Nat.add_mul]; omega), hg, show (i + 1) * sz + k - sz = i * sz + k by rw [Nat.add_mul]; omega]
    exact flatMap_at hg l i k b (by simpa using h) hk

theorem spot_none {w : World} {a : Addr} {v : Value} (h : w.cell? a = some v) : a.spot = none := by
  unfold World.cell? at h
  split at h
  · split at h
    · cases h
    · rename_i hs; simpa using hs
  · cases h
theorem add0 (a : Addr) : a.add 0 = a := rfl

theorem opens_slice {β : Type} {g : β → List Value} {okE : World → β → Prop} {sz by_ : Nat} (ht : P.underlying t = some (.slice e)) (hE : Opens P e g okE) (hg : ∀ b, (g b).length = sz) (hsz : P.cellsOf e = sz) (hs0 : 0 < sz) (hby : P.bytesOf e = by_) :
    Opens P t (fun p : Value × List β => [p.1]) (fun w p => Arr w p.1 sz p.2.length (p.2.flatMap g) ∧ (∀ b ∈ p.2, okE w b) ∧ p.2.length * by_ ≤ 140737488351232) := by
  intro H enc w base spare held fuel cs x hx hw
  rcases Deep.open_slice ht hx with ⟨rfl, rfl⟩ | ⟨a, len, cap, m, n, D, Pl, rfl, hb, hl, hm, hmm, rfl, hel⟩
  · exact ⟨(.slice none 0 0, []), rfl, Arr.nil w sz, (fun b hb => by cases hb), (by simp)⟩
  · have hlm : len ≤ m := by rw [hmm]; split <;> omega
    simp only [DataW.weights, ht] at hw
    have hwl := hw _ (List.mem_cons_self ..)
    have each : ∀ i, i < len → ∃ b, okE w b ∧ ∀ k, k < sz → w.cell? ((a.add (i * sz)).add k) = (g b)[k]? := fun i hi => by
      obtain ⟨cs', h1, h2⟩ := hel i (by omega)
      have hwi : ∀ k ∈ (D i).weights P e, k ≤ reachBytes := fun k hk => hw k (List.mem_cons_of_mem _ (List.mem_append.2 (.inl (weightsAll_mem (List.mem_map.2 ⟨i, List.mem_range.2 hi, rfl⟩) k hk))))
      obtain ⟨b, hb1, hb2⟩ := hE H enc w base spare held n cs' _ h2 hwi
      subst hb1
      obtain ⟨hl1, h3⟩ := cells?_get h1
      rw [hsz] at h3
      exact ⟨b, hb2, fun k hk => by rw [← h3 k hk]⟩
    let F : Fin len → β := fun i => Classical.choose (each i.1 i.2)
    have hF : ∀ i : Fin len, okE w (F i) ∧ ∀ k, k < sz → w.cell? ((a.add (i.1 * sz)).add k) = (g (F i))[k]? := fun i => Classical.choose_spec (each i.1 i.2)
    have hspot : len ≠ 0 → a.spot = none := fun h0 => by
      have h1 := (hF ⟨0, by omega⟩).2 0 hs0
      simp only [Nat.zero_mul, add0] at h1
      exact spot_none (h1.trans (List.getElem?_eq_getElem (by rw [hg]; exact hs0)))
    refine ⟨(.slice (some a) len cap, List.ofFn F), rfl, ⟨⟨some a, cap, by simp, by simpa using hl, hm, (fun h => by cases h), fun h0 ad had => ?_⟩, ?_, ?_⟩, ?_, ?_⟩
    · injection had with had; subst had; exact hspot (by simpa using h0)
    · exact flatMap_len hg _
    · intro j hj
      rw [flatMap_len hg, List.length_ofFn] at hj
      have hi : j / sz < len := Nat.div_lt_of_lt_mul (by rw [Nat.mul_comm]; exact hj)
      have hk : j % sz < sz := Nat.mod_lt _ hs0
      have ej : j = j / sz * sz + j % sz := by rw [Nat.mul_comm]; exact (Nat.div_add_mod j sz).symm
      have h1 := (hF ⟨j / sz, hi⟩).2 (j % sz) hk
      have h2 := flatMap_at hg (List.ofFn F) (j / sz) (j % sz) (F ⟨j / sz, hi⟩) (by rw [List.getElem?_ofFn]; simp [hi]) hk
      rw [← ej] at h2
      rw [h2, ← h1]
      have hs := hspot (fun e0 => by rw [e0] at hi; exact absurd hi (Nat.not_lt_zero _))
      obtain ⟨b, o, s⟩ := a
      simp at hs; subst hs
      rw [Addr.add_at, Addr.add_at, Nat.add_assoc, ← ej]
      rfl
    · intro b hb
      rw [List.mem_ofFn] at hb
      obtain ⟨i, rfl⟩ := hb
      exact (hF i).1
    · have h5 : len * by_ ≤ reachBytes := by
        refine Nat.le_trans ?_ hwl
        rw [hby]; refine Nat.mul_le_mul_right _ ?_
        simp
      simpa [reachBytes] using h5

def OpensF (P : Program) (fs : List Field) (o : Nat) {α : Type} (f : α → List Value) (ok : World → α → Prop) : Prop :=
  ∀ (H : Type) (enc : TypeId × Value → H) (w : World) (base : Nat) (spare : Nat → Bool) (held : Bool) (n : Nat) (cs : List Value) (xs : List (DataW H × List MemPlace)),
    (∀ (i : Nat) (g : Field), fs[i]? = some g → DataW.trod enc P w base spare held n g.type ((cs.drop g.offset).take (P.cellsOf g.type)) = xs[i]?) → xs.length = fs.length →
    (∀ k ∈ DataW.weightsEach P (fs.map (·.type)) (xs.map (·.1)), k ≤ reachBytes) → cs.length = o + (fs.map fun g => P.cellsOf g.type).sum → ∃ a, cs.drop o = f a ∧ ok w a
theorem opensF_nil {o : Nat} : OpensF P [] o (fun _ : Unit => []) (fun _ _ => True) := by
  intro H enc w base spare held n cs xs _ _ _ hl
  exact ⟨(), List.drop_of_length_le (by simp at hl; omega), trivial⟩
theorem opensF_cons {α β : Type} {f0 : Field} {fs : List Field} {o k : Nat} {g : β → List Value} {okg : World → β → Prop} {f : α → List Value} {ok : World → α → Prop} (ho : f0.offset = o) (hk : P.cellsOf f0.type = k) (hg : Opens P f0.type g okg)
    (hf : OpensF P fs (o + k) f ok) : OpensF P (f0 :: fs) o (fun p : β × α => g p.1 ++ f p.2) (fun w p => okg w p.1 ∧ ok w p.2) := by
  intro H enc w base spare held n cs xs hx hl hw hc
  cases xs with
  | nil => simp at hl
  | cons x xs =>
    simp only [List.map_cons, DataW.weightsEach, List.mem_append] at hw
    simp only [List.map_cons, List.sum_cons, hk] at hc
    have h0 := hx 0 f0 rfl
    rw [ho, hk] at h0
    obtain ⟨b, hb1, hb2⟩ := hg H enc w base spare held n _ x (by simpa using h0) (fun k hk => hw k (.inl hk))
    obtain ⟨a, ha1, ha2⟩ := hf H enc w base spare held n cs xs (fun i q hi => by simpa using hx (i + 1) q (by simpa using hi)) (by simpa using hl) (fun k hk => hw k (.inr hk)) (by omega)
    refine ⟨(b, a), ?_, hb2, ha2⟩
    show cs.drop o = g b ++ f a
    rw [← hb1, ← ha1, ← List.drop_drop, List.take_append_drop]
theorem opens_struct {α : Type} {fs : List Field} {f : α → List Value} {ok : World → α → Prop} (ht : P.underlying t = some (.struct fs.toArray)) (hc : P.cellsOf t = (fs.map fun g => P.cellsOf g.type).sum) (hf : OpensF P fs 0 f ok) : Opens P t f ok := by
  intro H enc w base spare held fuel cs x hx hw
  obtain ⟨xs, n, rfl, rfl, hl, hlen, hfs⟩ := DataW.trod_struct ht hx
  simp only [DataW.weights, ht] at hw
  obtain ⟨a, h1, h2⟩ := hf H enc w base spare held n cs xs (fun i g hi => hfs i g (by simpa using hi)) (by simpa using hlen) (by simpa using hw) (by omega)
  exact ⟨a, by simpa using h1, h2⟩

section
variable {H : Type} {enc : TypeId × Value → H} {w : World} {base b0 : Nat} {spare : Nat → Bool} {held : Bool} {r : Reach} {v : Value} {d : DataW H} {ps : List MemPlace}
theorem arg_scal {α : Type} {g : α → Value} {ok : World → α → Prop} (h : Opens P t (fun a => [g a]) ok) (hu : (match P.underlying t with | some (.int _) | some .string | some .bool | some (.slice _) => true | _ => false) = true)
    (hval : Value.okWide P w r b0 t v) (hd : DataW.Trod enc P w base spare held t v d ps) (hw : ∀ k ∈ d.weights P t, k ≤ reachBytes) : ∃ a, v = g a ∧ ok w a := by
  have hv : v.cells.toList = [v] := by
    split at hu
    · rename_i k hk; obtain ⟨n, rfl⟩ := okWide_int hk hval; rfl
    · rename_i hk; obtain ⟨n, rfl⟩ := okWide_string hk hval; rfl
    · rename_i hk; obtain ⟨n, rfl⟩ := okWide_bool hk hval; rfl
    · rename_i k hk; obtain ⟨a, l, c, rfl⟩ := okWide_slice hk hval; rfl
    · cases hu
  obtain ⟨fuel, hf⟩ := hd
  obtain ⟨a, h1, h2⟩ := h H enc w base spare held fuel _ _ hf hw
  rw [hv] at h1
  exact ⟨a, by simpa using h1, h2⟩
end

/-- The row's proof, but for the walk; the reach is handed on. -/
theorem row_sized {H : Type} {enc : TypeId × Value → H} {C : Checked} {os : Os} {f : FuncId} {fn : Func} {s : ChangeSpec} {conds : List PathCond} {apart : Bool} {tb : TypeId} (own : ownKnob C.prog.godebug = none) (started : os.Started) (noInit : C.prog.inits.idxOf? f = none)
    (hfn : C.prog.funcs[f]? = some fn)
    (witness : ∃ (w : World) (tape : Tape) (i : Input), w.os = os ∧ (w.forCall tape i).Shaped C.prog ∧ i.vars = [] ∧ Input.okWide C.prog (w.forCall tape i) .any w.heap.size f i ∧
      s.pre6 enc C.prog fn conds apart (w.forCall tape i).memory i.args ∧ ({} : Assume).holds C.prog (lone (Frame.enter C.prog f i.args .normal) [] (w.forCall tape i)))
    (hl : laidOutB C.prog = true) (hv : s.vars = []) (hv2 : s.plain.varTypes C.prog = []) (hsp : ∀ ds : List (DataW H), ds.length = fn.params.size → (s.fn H ds).results = [.lit (.bool true)] ∧ (s.fn H ds).args = ds ∧ (s.fn H ds).vars = [])
    (hres : fn.resultTypes = #[tb]) (htb : C.prog.underlying tb = some .bool) (hread : (fn.params.toList.all fun t => C.prog.readableRec t && decide (t < C.prog.types.size)) = true)
    (walk : ∀ (W : World) (base : Nat) (args : Array Value) (ds : List (DataW H)) (ps : List MemPlace), (∀ (j : Nat) t v, fn.params[j]? = some t → args[j]? = some v → Value.okWide C.prog W .any base t v) →
      DataW.TrodAll enc C.prog W 0 (fun _ => true) true fn.params.toList args.toList ds ps → (∀ k ∈ DataW.weightsEach C.prog fn.params.toList ds, k ≤ reachBytes) → Calls C.prog f args W fun e W' => e = .returned (.bool true) ∧ Fr [] W W') :
    ReturnsInHanded {} C os f .any (s.pre6 enc C.prog fn conds apart) (s.post enc C.prog fn apart true false false) := by
  refine returnsInHanded_of_change_shaped own started noInit hfn witness ?_
  intro W base args ds gs before hval hW _ hwt _ _
  have hW' := hW
  obtain ⟨p, q, hA, hV, rfl, hfz, hnd⟩ := hW
  rw [hv] at hV
  obtain ⟨rfl, rfl⟩ := trodVars_none hV
  have hlt : ∀ x ∈ p, x.block < W.heap.size := fun x hx => by simpa using hW'.lt x (by simp [hx])
  rw [hv2, List.append_nil, List.append_nil] at hwt
  refine (walk W base args ds p hval hA (fun k hk => by simpa using List.all_eq_true.1 hwt k hk)).mono fun e W' ⟨he, hw⟩ => ⟨_, he, ?_⟩
  have hb := hw.below
  obtain ⟨s1, s2, s3⟩ := hsp ds (by rw [(trodAll_length hA).1]; simp)
  refine ⟨ds, [], _, [], p, [], hW', ?_, ?_, ?_, hb.frame _, fun h => by cases h⟩
  · rw [List.append_nil, s1, hres]; exact trodAll_mk1 (shut_bool htb true)
  · rw [List.append_nil, s2]; exact trodAll_stays hl hb hread hA hlt
  · rw [List.append_nil, s3, hv]; exact rfl
end
end Go.Owl
/-! from Owl18 -/
/- Rows of structs: a list's cells, one behind the other. -/
namespace Go.Owl
section
variable {β : Type} {g : β → List Value} {sz : Nat}
theorem flatMap_cell (hg : ∀ b, (g b).length = sz) {l : List β} {i k : Nat} {d : β} (hi : i < l.length) {u : Value} (hc : (g (l.getD i d))[k]? = some u) : (l.flatMap g)[i * sz + k]? = some u := by
  have hk : k < sz := by rw [← hg (l.getD i d)]; exact (List.getElem?_eq_some_iff.1 hc).1
  rw [flatMap_at hg l i k (l.getD i d) (by rw [List.getD, List.getElem?_eq_getElem hi]; rfl) hk]; exact hc
variable {w : World} {v : Value} {q : Nat} {l : List β}
theorem flat_len (hg : ∀ b, (g b).length = sz) (hs : 0 < sz) (h : (l.flatMap g).length = q * sz) : l.length = q := by
  rw [flatMap_len hg] at h; exact Nat.eq_of_mul_eq_mul_right hs h
theorem Arr.flatLen (hA : Arr w v sz q (l.flatMap g)) (hg : ∀ b, (g b).length = sz) (hs : 0 < sz) : l.length = q := flat_len hg hs hA.len
theorem Arr.atF {i k : Nat} {u : Value} (hA : Arr w v sz q (l.flatMap g)) (hg : ∀ b, (g b).length = sz) (hs : 0 < sz) (d : β) (hi : i < q) (hc : (g (l.getD i d))[k]? = some u) : w.cell? (sp v (i * sz + k)) = some u :=
  hA.at (flatMap_cell hg (by rw [hA.flatLen hg hs]; exact hi) hc)
end
section
variable {P : Program} {n : Nat} {D : List Deferred} {ρ : Env} {w w0 : World} {R : Value → World → Prop} {dst : Option Tmp} {ty : TypeId} {pos : String} {af : Array Edge} {gd : Option (Nat × Bool)}
variable {S : List Nat} {L : List Ent} {i : Nat} {t t' T T' : TypeId} {x y : Operand} {z : List Value} {sz by_ : Nat} {d : TypeDesc}
end
end Go.Owl
/-! from Owl19 -/
/- Conversions to and from 32 bits with a sign. -/
namespace Go.Owl
def w32 (x : Int) : Int := (x + 2147483648) % 4294967296 - 2147483648
def u32I (x : Int) : UInt32 := UInt32.ofNat (x % 4294967296).toNat
section
variable {P : Program} {n : Nat} {D : List Deferred} {ρ : Env} {w : World} {R : Value → World → Prop} {dst : Option Tmp} {ty : TypeId} {pos : String} {af : Array Edge} {g : Option (Nat × Bool)}
variable {t t' : TypeId} {x y : Operand}
theorem op_convIU32 {a : Int} (hs : P.underlying t = some (.int .i64)) (hd : P.underlying t' = some (.int .u32)) (hx : ev ρ x = some (vI a)) (h : R (vU32 (u32I a)) w) : Op1 P n D ⟨dst, .convert t t' x, ty, pos, af, g⟩ ρ w R :=
  op_conv hs hd hx (by
    have e : IntKind.u32.wrap a = ((u32I a).toNat : Int) := by
      rw [IntKind.wrap_u32, u32I, UInt32.toNat_ofNat']; omega
    rw [e]) h
end
def isNilS : Value → Bool
  | .slice a _ _ => a.isNone
  | _ => false
theorem Arr.isNil0 {w : World} {v : Value} {sz n : Nat} {xs : List Value} (h : Arr w v sz n xs) (hb : isNilS v = true) : n = 0 ∧ v = .slice none 0 0 := by
  obtain ⟨a, cap, rfl, _, _, hn, _⟩ := h.form
  cases a with
  | none => obtain ⟨rfl, rfl⟩ := hn rfl; exact ⟨rfl, rfl⟩
  | some a => cases hb
section
variable {P : Program} {n : Nat} {D : List Deferred} {ρ : Env} {w : World} {R : Value → World → Prop} {dst : Option Tmp} {ty : TypeId} {pos : String} {af : Array Edge} {g : Option (Nat × Bool)}
variable {t t' : TypeId} {x y : Operand}
theorem op_eqlSN {v : Value} {sz m : Nat} {xs : List Value} {el : TypeId} (hu : P.underlying t = some (.slice el)) (hx : ev ρ x = some v) (hA : Arr w v sz m xs) (hy : ev ρ y = some (.slice none 0 0)) (h : R (.bool (isNilS v)) w) : Op1 P n D ⟨dst, .binOp .eql t x y t', ty, pos, af, g⟩ ρ w R := by
  obtain ⟨a, cap, rfl, _⟩ := hA.form
  exact Op1.val (fun c ha => by
    have hg : (eqGuard .eql t x y (.slice a m cap) (.slice none 0 0)).run P w = .ok () w := rfl
    simp only [execOp, ha.ev hx, ha.ev hy, Sem.run_bind, hg, Result.andThen_ok, Lib.run_eql_slice_nil w _ _ a m cap 0 0 hu, Sem.run_pure]; rfl) h
end
end Go.Owl
/-! from Owl20 -/
/- Regions that draw, with a move that nothing waits for until the end. -/
namespace Go.Owl
variable {P : Program} {ops : Array Oper} {Q : Exit → Act → World → Prop}
end Go.Owl
/-! from Owl21 -/
/- Regions that draw, with a move that nothing waits for until the end: the rule. -/
namespace Go.Owl
variable {P : Program} {n : Nat} {D : List Deferred} {ρ : Env} {w w0 : World} {S : List Nat} {L : List Ent} {Q : Exit → Act → World → Prop}
end Go.Owl
/-! from Owl22 -/
/- What is left of a head behind the tail's first operation. -/
namespace Go.Owl
variable {P : Program} {n : Nat} {D : List Deferred} {ρ : Env} {w w0 : World} {S : List Nat} {L : List Ent} {Q : Exit → Act → World → Prop}
end Go.Owl
/-! from Owl23 -/
/- Regions that draw, with a late move: the rule. -/
namespace Go.Owl
variable {P : Program} {n : Nat} {D : List Deferred} {ρ : Env} {w w0 : World} {S : List Nat} {L : List Ent} {Q : Exit → Act → World → Prop}
end Go.Owl
/-! from Owl24 -/
/- Small rules: two ways by a truth. -/
namespace Go.Owl
theorem bsplit {b : Bool} {P : Prop} (h1 : b = true → P) (h2 : b = false → P) : P := by
  cases h : b
  · exact h2 h
  · exact h1 h
section
variable {P : Program} {n : Nat} {D : List Deferred} {ρ : Env} {w : World} {R : Value → World → Prop} {dst : Option Tmp} {ty : TypeId} {pos : String} {af : Array Edge} {g : Option (Nat × Bool)} {t t' : TypeId} {x y : Operand}
theorem op_neqPN {a : Option Addr} (hu : P.underlying t = some (.pointer (P.pointee t))) (hx : ev ρ x = some (.pointer a)) (hy : ev ρ y = some (.pointer none)) (h : R (.bool (!a.isNone)) w) : Op1 P n D ⟨dst, .binOp .neq t x y t', ty, pos, af, g⟩ ρ w R :=
  Op1.val (fun c ha => by
    have hg : (eqGuard .neq t x y (.pointer a) (.pointer none)).run P w = .ok () w := rfl
    simp only [execOp, ha.ev hx, ha.ev hy, Sem.run_bind, hg, Result.andThen_ok, run_neq_pointer_nil w t a hu, Sem.run_pure]) h
end
end Go.Owl
/-! from Owl25 -/
/- Regions that draw, step by step: moves ahead of time, one operation that all others wait for, and the rest in any order. -/
namespace Go.Owl
section
variable {P : Program} {n : Nat} {D : List Deferred} {ρ : Env} {w w0 : World} {S : List Nat} {L : List Ent} {ops : Array Oper} {Q : Exit → Act → World → Prop}

/-- Only a normal end counts. -/
def Nrm (Q : Exit → Act → World → Prop) : Exit → Act → World → Prop := fun e a w => e = .normal ∧ Q .normal a w
theorem letsOut_nrm (h : LetsOut (Nrm Q)) : False := by
  obtain ⟨_, _, h, _⟩ := h; cases h
theorem wp_nrm {o : Oper} {a : Act} {w : World} {K : Act → World → Prop} (h : o.wp P a w K (Nrm Q)) : o.wp P a w K Q := by
  unfold Oper.wp at *
  generalize (execOp a.eval o).run P w = r at *
  cases r with
  | ok x w' =>
    cases x <;> simp only [Oper.upon] at h ⊢ <;> first
      | exact h
      | exact Calls.mono h (fun e w'' he => by
          cases e with
          | returned v => exact he
          | panicked c => exact absurd he.1 (by intro h; cases h)
          | outgrown => exact (letsOut_nrm he).elim)
  | halt x w' =>
    cases x <;> simp only [Oper.upon] at h ⊢ <;> first
      | exact h
      | exact absurd h.1 (by intro h; cases h)
theorem wpOp_nrm {i : Nat} {a : Act} {w : World} {K : Act → World → Prop} (h : wpOp P ops (Nrm Q) i K a w) : wpOp P ops Q i K a w := by
  unfold wpOp at *
  cases ho : ops[i]? with
  | none => simp only [ho] at h ⊢; exact h
  | some o =>
    simp only [ho] at h ⊢
    split
    · rename_i hw
      rw [if_pos hw] at h
      rcases h with h | ⟨_, h⟩
      · exact .inl (wp_nrm h)
      · exact (letsOut_nrm h).elim
    · rename_i hw
      rw [if_neg hw] at h; exact h
theorem wpAny_nrm : ∀ (fuel : Nat) (listed : Array Bool) (a : Act) (w : World), wpAny P .any ops (Nrm Q) fuel listed a w → wpAny P .any ops Q fuel listed a w
  | 0, _, _, _, h => ⟨h.1, h.2.2⟩
  | fuel + 1, _, _, _, h => ⟨fun hr => (h.1 hr).2, fun i hi => wpOp_nrm (wpOp_mono (fun a w h => wpAny_nrm fuel _ a w h) (h.2 i hi))⟩
/-- In the midst of a region that draws: what is listed was run. -/
def WD (P : Program) (n : Nat) (D : List Deferred) (ops : Array Oper) (Q : Exit → Act → World → Prop) (fuel : Nat) (listed : Array Bool) (ρ : Env) (w : World) : Prop :=
  ∀ a, Agr n D ρ a → wpAny P .any ops (Nrm Q) fuel listed a w
theorem WC.drawn {id : Nat} {l : List Oper} (N : Nat) (hN : l.length = N) (hm : P.follows .mixedOrders = true) (H : Own S w0 w L) (h : ∀ w1, Own S w0 w1 L → WD P n D l.toArray Q N (Array.replicate N false) ρ w1) : WC P n D (.region id l.toArray true) Q ρ w := by
  subst hN
  exact fun a ha => wp_region_any hm (wpAny_nrm _ _ _ _ (by have h1 := h w.drew (H.fr' (Fr.drew w)) a ha; rw [show l.length = l.toArray.size from (List.size_toArray ..).symm] at h1; exact h1))
def chkEarly (ops : Array Oper) (listed : Array Bool) (i : Nat) : Bool := Region.noSelect ops && Region.free .any ops listed i && (Region.ready .any ops listed).contains i
/-- One operation that all others wait for. -/
theorem WD.op {i fuel : Nat} {oi : Oper} {listed : Array Bool} (hi : ops[i]? = some oi) (hg : oi.guard = none) (hd : dOK n oi.dst = true) (hr : Region.ready .any ops listed = [i])
    (h : Op1 P n D oi ρ w (fun v w' => WD P n D ops Q fuel (listed.setIfInBounds i true) (ext ρ oi.dst v) w')) : WD P n D ops Q (fuel + 1) listed ρ w := by
  intro a ha
  refine ⟨fun h => (by rw [hr] at h; cases h), fun j hj => ?_⟩
  rw [hr] at hj
  have hji : j = i := by simpa using hj
  subst hji
  refine wpOp_of hi ?_
  rw [if_pos (by simp [Region.wanted, hg])]
  exact (h a ha).wp fun v w' hR => hR _ (ha.put hd v)
theorem WD.done {fuel : Nat} {listed : Array Bool} (hr : Region.ready .any ops listed = []) (h : WQ n D Q .normal ρ w) : WD P n D ops Q fuel listed ρ w :=
  fun a ha => wpAny_done hr ⟨rfl, h a ha⟩ fuel

def oldAt (ρ : Env) : Option Tmp → Value → Prop
  | none, _ => True
  | some d, v => Env.get ρ d = some v
def OldOK (ρ : Env) : List Oper → List Sp → Prop
  | o :: l, .det v _ :: sp => oldAt ρ o.dst v ∧ OldOK ρ l sp
  | _ :: _, .flt _ _ :: _ => False
  | _, _ => True
theorem OldOK.at : ∀ (l : List Oper) (sp : List Sp), OldOK ρ l sp → ∀ (i : Nat) (o : Oper) (v : Value) (dp : Option Nat), l[i]? = some o → sp[i]? = some (.det v dp) → oldAt ρ o.dst v
  | o :: l, .det v dp :: sp, h, 0, o', v', dp', h1, h2 => by simp at h1 h2; obtain ⟨rfl, rfl⟩ := h2; subst h1; exact h.1
  | o :: l, .det v dp :: sp, h, i + 1, o', v', dp', h1, h2 => OldOK.at l sp h.2 i o' v' dp' (by simpa using h1) (by simpa using h2)
  | _ :: _, .flt _ _ :: _, h, _, _, _, _, _, _ => h.elim
  | [], _, _, _, _, _, _, h1, _ => by simp at h1
  | _ :: _, [], _, _, _, _, _, _, h2 => by simp at h2
end
end Go.Owl
/-! from Owl26 -/
/- Regions that draw: a state for each set of operations that were run. -/
namespace Go.Owl
section
variable {P : Program} {n : Nat} {D : List Deferred} {ρ ρ' : Env} {w w0 : World} {S : List Nat} {L : List Ent} {ops : Array Oper} {Q : Exit → Act → World → Prop} {fuel : Nat} {listed : Array Bool}
theorem WD.named (h : ∀ W : Nat → Array Bool → Env → World → Prop, W = WD P n D ops Q → W fuel listed ρ w) : WD P n D ops Q fuel listed ρ w := h _ rfl
theorem WD.cov (hc : Cov ρ ρ') (h : WD P n D ops Q fuel listed ρ' w) : WD P n D ops Q fuel listed ρ w := fun a ha => h a (ha.cov hc)
/-- One operation of those that may come next. -/
def WS (P : Program) (n : Nat) (D : List Deferred) (ops : Array Oper) (Q : Exit → Act → World → Prop) (i fuel : Nat) (listed : Array Bool) (ρ : Env) (w : World) : Prop :=
  ∀ a, Agr n D ρ a → wpOp P ops (Nrm Q) i (wpAny P .any ops (Nrm Q) fuel (listed.setIfInBounds i true)) a w
theorem WS.op {i : Nat} {oi : Oper} (hi : ops[i]? = some oi) (hg : oi.guard = none) (hd : dOK n oi.dst = true)
    (h : Op1 P n D oi ρ w (fun v w' => WD P n D ops Q fuel (listed.setIfInBounds i true) (ext ρ oi.dst v) w')) : WS P n D ops Q i fuel listed ρ w := by
  intro a ha
  refine wpOp_of hi ?_
  rw [if_pos (by simp [Region.wanted, hg])]
  exact (h a ha).wp fun v w' hR => hR _ (ha.put hd v)
theorem WD.all {rs : List Nat} (hr : Region.ready .any ops listed = rs) (hne : rs ≠ []) (h : ∀ i, i ∈ rs → WS P n D ops Q i fuel listed ρ w) : WD P n D ops Q (fuel + 1) listed ρ w := by
  subst hr
  exact fun a ha => ⟨fun h0 => absurd h0 hne, fun i hi => h i hi a ha⟩
theorem WD.all1 {i : Nat} (hr : Region.ready .any ops listed = [i]) (h : WS P n D ops Q i fuel listed ρ w) : WD P n D ops Q (fuel + 1) listed ρ w :=
  WD.all hr (by simp) fun k hk => by
    rcases List.mem_singleton.1 hk with rfl; exact h
theorem WD.all2 {i j : Nat} (hr : Region.ready .any ops listed = [i, j]) (h : WS P n D ops Q i fuel listed ρ w) (h2 : WS P n D ops Q j fuel listed ρ w) : WD P n D ops Q (fuel + 1) listed ρ w :=
  WD.all hr (by simp) fun k hk => by
    rcases List.mem_cons.1 hk with rfl | hk
    · exact h
    · rcases List.mem_singleton.1 hk with rfl; exact h2
end
end Go.Owl
/-! from Owl35 -/
/- Appending zeros to a slice of nothing (slices.Grow). -/
namespace Go.Owl
section
variable {P : Program} {n : Nat} {D : List Deferred} {ρ : Env} {w w0 : World} {R : Value → World → Prop} {dst : Option Tmp} {ty : TypeId} {pos : String} {af : Array Edge} {g : Option (Nat × Bool)}
variable {S : List Nat} {L : List Ent} {i : Nat} {t t' T T' : TypeId} {x y : Operand} {z : List Value} {sz by_ : Nat} {k : IntKind}
end
end Go.Owl
/-! from Owl36 -/
/- Loops of a fixed number of rounds. -/
namespace Go.Owl
section
variable {P : Program} {n : Nat} {D : List Deferred} {Q : Exit → Act → World → Prop} {ρ : Env} {w : World} {c : Code}
theorem WC.unroll (k : Nat) (h : WC P n D c (Exit.then (Code.rounds P c Q k) Q) ρ w) : WC P n D (.loop c) Q ρ w :=
  fun a ha => wp_loop_rounds (k + 1) (h a ha)
theorem WQ.again {k : Nat} (h : WC P n D c (Exit.then (Code.rounds P c Q k) Q) ρ w) : WQ n D (Exit.then (Code.rounds P c Q (k + 1)) Q) .normal ρ w :=
  fun a ha => h a ha
end
end Go.Owl
/-! from Owl27 -/
/- Elements that hold slices: what hangs on other blocks, as one thing that is only read. -/
namespace Go.Owl
/-- What is known of a thing, and on which blocks that hangs. -/
structure Deep (α : Type) where
  ok : World → α → Prop
  ft : α → List Nat
  lt : ∀ (w : World) (a : α), ok w a → ∀ b ∈ ft a, b < w.heap.size
  fr : ∀ (T : List Nat) (w w' : World) (a : α), Fr T w w' → (∀ b ∈ ft a, b ∉ T) → ok w a → ok w' a
section
variable {α β : Type} {S : List Nat} {w0 w w' : World} {L : List Ent} {i j : Nat}
theorem Deep.st (D : Deep α) (a : α) : Stable (fun w => D.ok w a) (D.ft a) := ⟨fun w h => D.lt w a h, fun T w w' hf hT h => D.fr T w w' a hf hT h⟩
def Deep.list (D : Deep α) : Deep (List α) where
  ok := fun w l => ∀ x ∈ l, D.ok w x
  ft := fun l => l.flatMap D.ft
  lt := fun w l h b hb => by
    obtain ⟨x, hx, hb⟩ := List.mem_flatMap.1 hb
    exact D.lt w x (h x hx) b hb
  fr := fun T w w' l hf hT h x hx => D.fr T w w' x hf (fun b hb => hT b (List.mem_flatMap.2 ⟨x, hx, hb⟩)) (h x hx)
def Deep.and (D E : Deep α) : Deep α where
  ok := fun w a => D.ok w a ∧ E.ok w a
  ft := fun a => D.ft a ++ E.ft a
  lt := fun w a h b hb => (List.mem_append.1 hb).elim (D.lt w a h.1 b) (E.lt w a h.2 b)
  fr := fun T w w' a hf hT h => ⟨D.fr T w w' a hf (fun b hb => hT b (List.mem_append.2 (.inl hb))) h.1, E.fr T w w' a hf (fun b hb => hT b (List.mem_append.2 (.inr hb))) h.2⟩
def Deep.on (D : Deep β) (g : α → β) : Deep α where
  ok := fun w a => D.ok w (g a)
  ft := fun a => D.ft (g a)
  lt := fun w a => D.lt w (g a)
  fr := fun T w w' a => D.fr T w w' (g a)
def Deep.arr (sz : Nat) (g : β → List Value) : Deep (Value × List β) where
  ok := fun w p => Arr w p.1 sz p.2.length (p.2.flatMap g)
  ft := fun p => footA p.1 (p.2.flatMap g)
  lt := fun w p => (Arr.stable p.1 sz p.2.length (p.2.flatMap g)).lt w
  fr := fun T w w' p hf hT h => (Arr.stable p.1 sz p.2.length (p.2.flatMap g)).fr T w w' hf hT h
def Ent.dp (D : Deep α) (a : α) : Ent := .ro (fun w => D.ok w a) (D.ft a) (D.st a)
theorem Deep.getD (D : Deep α) {l : List α} (h : D.list.ok w l) (d : α) (hd : D.ok w d) (i : Nat) : D.ok w (l.getD i d) := by
  rcases Nat.lt_or_ge i l.length with hi | hi
  · rw [show l.getD i d = l[i] by simp [List.getD, hi]]; exact h _ (List.getElem_mem hi)
  · rw [show l.getD i d = d by simp [List.getD, Nat.not_lt.2 hi]]; exact hd
end
end Go.Owl
/-! from Owl28 -/
/- Cells copied into a slice; slices with three bounds. -/
namespace Go.Owl
section
variable {P : Program} {n : Nat} {D : List Deferred} {ρ : Env} {w w0 : World} {R : Value → World → Prop} {dst : Option Tmp} {ty : TypeId} {pos : String} {af : Array Edge} {g : Option (Nat × Bool)}
variable {S : List Nat} {L : List Ent} {i : Nat} {t t' T T' : TypeId} {x y : Operand} {z : List Value} {sz by_ : Nat} {d : TypeDesc}
/-- What may be copied: its first k elements, for each k. -/
structure SrcC (P : Program) (w : World) (sz : Nat) (u : Value) (m : Nat) (ys : List Value) : Prop where
  len : (Builtin.lenOf u).run P w = .ok m w
  size : ys.length = m * sz
  cells : ∀ k, k ≤ m → (Builtin.firstCells sz k u).run P w = .ok (ys.take (k * sz)).toArray w
theorem SrcC.ofStr {l : List UInt8} : SrcC P w 1 (str l) l.length (l.map vU8) := by
  refine ⟨by simp [Builtin.lenOf, size_str], by simp, fun k hk => ?_⟩
  simp only [Builtin.firstCells, ByteArray.extract_mk, Nat.mul_one]
  simp [List.map_take]
theorem SrcC.ofArr {u : Value} {m : Nat} {ys : List Value} (hA : Arr w u sz m ys) : SrcC P w sz u m ys := by
  obtain ⟨a0, cap, rfl, hn, hc, ha0, hsp⟩ := hA.form
  refine ⟨by simp [Builtin.lenOf], hA.len, fun k hk => ?_⟩
  cases a0 with
  | none =>
    have : ys = [] := List.eq_nil_of_length_eq_zero (by rw [hA.len, (ha0 rfl).1]; simp)
    subst this
    simp [Builtin.firstCells]
  | some ad =>
    by_cases hm0 : k = 0
    · subst hm0
      have := run_firstCells_some (P := P) w sz 0 ad m cap [] (by simp) (fun j v hj => by simp at hj)
      simpa using this
    have hs0 := hsp (by omega) ad rfl
    obtain ⟨b, o, s⟩ := ad
    simp at hs0; subst hs0
    refine run_firstCells_some w sz k ⟨b, o, none⟩ m cap (ys.take (k * sz)) ?_ (fun j v hj => ?_)
    · rw [List.length_take, hA.len]; exact Nat.min_eq_left (Nat.mul_le_mul_right _ hk)
    rw [Addr.add_at]
    have hj' : j < (ys.take (k * sz)).length := (List.getElem?_eq_some_iff.1 hj).1
    have hjy : j < ys.length := by rw [List.length_take] at hj'; omega
    have h1 := hA.cell j hjy
    rw [List.getElem?_take, if_pos (by rw [List.length_take] at hj'; omega)] at hj
    rw [← hj, ← h1]
    rfl
/-- A part of a row: dl cells from a on. -/
def Sub (u v : Value) (a dl : Nat) : Prop := ∃ ad cap, u = .slice ad dl cap ∧ (dl ≠ 0 → ad = some (sp v a))
theorem Sub.self {v : Value} {q : Nat} {xs : List Value} (hA : Arr w v 1 q xs) : Sub v v 0 q := by
  obtain ⟨a0, cap, rfl, hn, hc, ha0, hsp⟩ := hA.form
  refine ⟨a0, cap, rfl, fun h => ?_⟩
  cases a0 with
  | none => exact absurd (ha0 rfl).1 h
  | some ad =>
    have := hsp h ad rfl
    obtain ⟨b, o, s⟩ := ad
    simp at this; subst this
    rfl
theorem RowOK.stores {v : Value} {q a : Nat} {xs ys : List Value} (hr : RowOK w v t 1 q xs) (ha : a + ys.length ≤ q) (h1 : ∀ c ∈ ys, c.oneCell' = true) (hne : ys ≠ []) :
    ∃ w', (storeCells (sp v a) ys).run P w = .ok () w' ∧ RowOK w' v t 1 q (xs.take a ++ (ys ++ xs.drop (a + ys.length))) ∧ Fr v.ownBlock.toList w w' := by
  have hp : 0 < ys.length := List.length_pos_iff.2 hne
  obtain ⟨hl, ⟨rfl, rfl⟩ | ⟨gb, cap, pre, junk, rfl, hk, hn, hc, hj⟩⟩ := hr
  · omega
  · rw [Nat.mul_one] at hl
    have hst := run_storeCells_blk P gb (pre.length + a) t ys 0 _ w hk (by simp; omega) h1
    have e : List.take (pre.length + a + 0) (pre ++ (xs ++ junk)) ++ ys ++ List.drop (pre.length + a + 0 + ys.length) (pre ++ (xs ++ junk)) = pre ++ ((xs.take a ++ (ys ++ xs.drop (a + ys.length))) ++ junk) := by
      rw [Nat.add_zero, Nat.add_assoc, List.take_length_add_append, List.drop_length_add_append, List.take_append_of_le_length (by omega), List.drop_append_of_le_length (by omega)]
      simp only [List.append_assoc]
    rw [e] at hst
    refine ⟨_, hst, ⟨by simp only [List.length_append, List.length_take, List.length_drop]; omega, .inr ⟨gb, cap, pre, junk, rfl, hk.setRow _ (by simp only [List.length_append, List.length_take, List.length_drop]; omega), hn, hc, ?_⟩⟩, Fr.setRow _ _ _⟩
    simp only [List.length_append, List.length_take, List.length_drop] at hj ⊢; omega
theorem op_copy {u v s : Value} {q m a dl : Nat} {xs ys : List Value} (H : Own S w0 w L) (hu : P.underlying T = some (.slice t)) (hz : tiB P t = some (z, 1, by_)) (hx : ev ρ x = some u) (hy : ev ρ y = some s)
    (hs : SrcC P w 1 s m ys) (hi : L[i]? = some (Ent.row v t 1 q xs)) (hd : Sub u v a dl) (ha : a + dl ≤ q) (h1 : ∀ c ∈ ys, c.oneCell' = true)
    (h : ∀ w', Own S w0 w' (L.set i (.row v t 1 q (xs.take a ++ (ys.take (min m dl) ++ xs.drop (a + min m dl))))) → R (vN (min m dl)) w') :
    Op1 P n D ⟨dst, .call { callee := .builtin .copy, args := #[x, y], argTypes := #[T, T'] }, ty, pos, af, g⟩ ρ w R := by
  obtain ⟨ad, cap, rfl, had⟩ := hd
  have hys : ys.length = m := by have := hs.size; omega
  have hc := hs.cells (min m dl) (Nat.min_le_left _ _)
  rw [Nat.mul_one] at hc
  have hlen : (ys.take (min m dl)).length = min m dl := by rw [List.length_take, hys]; omega
  have hmin : Nat.min m dl = min m dl := rfl
  by_cases h0 : min m dl = 0
  · have e0 : ys.take (min m dl) = [] := List.eq_nil_of_length_eq_zero (by rw [hlen, h0])
    have hrow := h w (by
      rw [e0, h0, Nat.add_zero, List.nil_append, List.take_append_drop]
      have hh := List.getElem?_eq_some_iff.1 hi
      rw [show L.set i (Ent.row v t 1 q xs) = L by rw [← hh.2]; exact List.set_getElem_self hh.1]; exact H)
    refine Op1.val (w' := w) (fun c hcc => ?_) hrow
    rw [e0] at hc
    cases ad with
    | none => simp [execOp, resolve, invoke, builtin, hcc.ev hx, hcc.ev hy, Builtin.copy_, run_underlying hu, hs.len, run_sizeOf hz, hmin, hc, goInt]
    | some ad => simp [execOp, resolve, invoke, builtin, hcc.ev hx, hcc.ev hy, Builtin.copy_, run_underlying hu, hs.len, run_sizeOf hz, hmin, hc, goInt, storeCells]
  · have hdl : dl ≠ 0 := by omega
    have := had hdl; subst this
    obtain ⟨w', h2, h3, h4⟩ := (H.row hi).stores (P := P) (a := a) (ys := ys.take (min m dl)) (by rw [hlen]; omega) (fun c hcc => h1 c (List.mem_of_mem_take hcc)) (fun e => by rw [e] at hlen; simp at hlen; omega)
    rw [hlen] at h3
    refine Op1.val (w' := w') (fun c hcc => ?_) (h w' (H.upd hi h4 (fun b hb => by simpa [Ent.Owns] using hb) h3 (fun b hb => .inl hb)))
    simp [execOp, resolve, invoke, builtin, hcc.ev hx, hcc.ev hy, Builtin.copy_, run_underlying hu, hs.len, run_sizeOf hz, hmin, hc, goInt, h2]
theorem op_copyM {α : Type} {f : α → Value} {l r : List α} {u v s : Value} {q m a dl kk : Nat} (H : Own S w0 w L) (hu : P.underlying T = some (.slice t)) (hz : tiB P t = some (z, 1, by_)) (hx : ev ρ x = some u) (hy : ev ρ y = some s)
    (hs : SrcC P w 1 s m (r.map f)) (hi : L[i]? = some (Ent.row v t 1 q (l.map f))) (hd : Sub u v a dl) (ha : a + dl ≤ q) (hk : min m dl = kk) (h1 : ∀ c, (f c).oneCell' = true)
    (h : ∀ w', Own S w0 w' (L.set i (.row v t 1 q ((l.take a ++ (r.take kk ++ l.drop (a + kk))).map f))) → R (vN kk) w') :
    Op1 P n D ⟨dst, .call { callee := .builtin .copy, args := #[x, y], argTypes := #[T, T'] }, ty, pos, af, g⟩ ρ w R := by
  subst hk
  exact op_copy H hu hz hx hy hs hi hd ha (fun c hc => by obtain ⟨b, _, rfl⟩ := List.mem_map.1 hc; exact h1 b) (fun w' H' => h w' (by
    rw [List.map_append, List.map_append, List.map_take, List.map_take, List.map_drop]; exact H'))
end
end Go.Owl
/-! from Owl30 -/
/- Maps with keys that are texts. -/
namespace Go.Owl
section
variable {β : Type} {g : β → Value}
/-- A map's entries: each key with its value, in the order in which they came. -/
def ments (g : β → Value) : List (List UInt8 × β) → Nat → List MapEntry
  | [], _ => []
  | (k, v) :: l, i => ⟨str k, g v, i⟩ :: ments g l (i + 1)
def mO (g : β → Value) (l : List (List UInt8 × β)) : Obj := .map (ments g l 0).toArray l.length
end
section
variable {P : Program} {n : Nat} {D : List Deferred} {ρ : Env} {w w0 : World} {R : Value → World → Prop} {dst : Option Tmp} {ty : TypeId} {pos : String} {af : Array Edge} {gd : Option (Nat × Bool)}
variable {S : List Nat} {L : List Ent} {i b : Nat} {t T kt et : TypeId} {x y z : Operand} {by_ : Nat} {β : Type} {g : β → Value} {l : List (List UInt8 × β)} {k : List UInt8}
theorem Own.map (H : Own S w0 w L) (hi : L[i]? = some (Ent.obj b (mO g l))) : w.heap[b]? = some (.map (ments g l 0).toArray l.length) := H.ok i _ hi
end
end Go.Owl
/-! from Owl33 -/
/- clear of a slice; blocks with a table behind their first cells. -/
namespace Go.Owl
section
variable {P : Program} {n : Nat} {D : List Deferred} {ρ : Env} {w w0 : World} {R : Value → World → Prop} {dst : Option Tmp} {ty : TypeId} {pos : String} {af : Array Edge} {g : Option (Nat × Bool)}
variable {S : List Nat} {L : List Ent} {i : Nat} {t t' T T' : TypeId} {x y : Operand} {z : List Value} {sz by_ : Nat} {d : TypeDesc}
theorem Sub.cut {v : Value} {q a b : Nat} {xs : List Value} (hA : Arr w v 1 q xs) (hab : a ≤ b) (hb : b ≤ q) : Sub (cutV v a b 1) v a (b - a) := by
  obtain ⟨ad, cap, rfl, hn, hcm, ha0, hsp⟩ := hA.form
  refine ⟨_, _, rfl, fun h => ?_⟩
  rw [if_neg (by omega)]
  cases ad with
  | none => have := ha0 rfl; omega
  | some ad =>
    have := hsp (by omega) ad rfl
    obtain ⟨bb, o, s⟩ := ad
    simp at this; subst this
    simp only [Option.map_some, Addr.add_at, sp, sBlk, sOff, Nat.mul_one]
end
end Go.Owl
/-! from Owl37 -/
/- Many blocks of one kind, as one thing that is owned. -/
namespace Go.Owl
section
variable {α : Type} {S : List Nat} {w0 w w1 : World} {L : List Ent} {i j : Nat} {t : TypeId} {f : α → List Value} {bl : α → Nat} {l : List α}
/-- Each has its block. -/
def BsOK (t : TypeId) (f : α → List Value) (bl : α → Nat) (l : List α) (w : World) : Prop := (l.map bl).Nodup ∧ ∀ a ∈ l, Blk w (bl a) (f a) t
theorem BsOK.st (t : TypeId) (f : α → List Value) (bl : α → Nat) (l : List α) : Stable (BsOK t f bl l) (l.map bl) where
  lt := fun w h b hb => by
    obtain ⟨a, ha, rfl⟩ := List.mem_map.1 hb
    exact (h.2 a ha).lt
  fr := fun T w w' hf hT h => ⟨h.1, fun a ha => (h.2 a ha).fr hf (hT _ (List.mem_map.2 ⟨a, ha, rfl⟩))⟩
def Ent.bs (t : TypeId) (f : α → List Value) (bl : α → Nat) (l : List α) : Ent := .grp (BsOK t f bl l) (l.map bl) (BsOK.st t f bl l)
theorem Own.bsG (H : Own S w0 w L) (hi : L[i]? = some (Ent.bs t f bl l)) : BsOK t f bl l w := H.ok i _ hi
theorem BsOK.cell (h : BsOK t f bl l w) {a : α} (ha : a ∈ l) {k : Nat} {v : Value} (hv : (f a)[k]? = some v) : w.cell? ⟨bl a, k, none⟩ = some v := by
  rw [(h.2 a ha).cell]; exact hv
theorem BsOK.nil : BsOK t f bl [] w := ⟨List.nodup_nil, fun a h => by cases h⟩
theorem Own.bsNil (H : Own S w0 w L) (t : TypeId) (f : α → List Value) (bl : α → Nat) : Own S w0 w (L ++ [Ent.bs t f bl []]) :=
  H.new (Fr.refl _ _) BsOK.nil (fun b hb => by cases hb)
/-- Nothing. -/
def Ent.nul : Ent := .ro (fun _ => True) [] ⟨fun _ _ _ h => (by cases h), fun _ _ _ _ _ _ => True.intro⟩
theorem nodup_mid {a : Nat} {p q : List Nat} : (p ++ a :: q).Nodup ↔ a ∉ p ++ q ∧ (p ++ q).Nodup :=
  (List.perm_middle.nodup_iff).trans List.nodup_cons
/-- One block more. -/
theorem Own.fold {b : Nat} {cs : List Value} {a : α} {l1 l2 : List α} (H : Own S w0 w L) (hi : L[i]? = some (Ent.bs t f bl (l1 ++ l2))) (hj : L[j]? = some (.blk b cs t)) (hij : Nat.beq i j = false) (hb : bl a = b) (hc : f a = cs) :
    Own S w0 w ((L.set j Ent.nul).set i (Ent.bs t f bl (l1 ++ a :: l2))) := by
  subst hb; subst hc
  have hne : i ≠ j := fun e => by subst e; rw [Nat.beq_refl] at hij; cases hij
  have h := H.bsG hi
  have hk := H.blk hj
  have hsep : bl a ∉ (l1 ++ l2).map bl := H.sep j i _ _ hj hi (Ne.symm hne) (bl a) rfl
  have h1 : Own S w0 w (L.set j Ent.nul) :=
    H.upd' hj (Fr.refl [] w) (fun b hb => by cases hb) True.intro (fun b hb => by cases hb) (fun b hb => by cases hb)
  have key : ∀ b, b ∈ (l1 ++ a :: l2).map bl → b ∈ (l1 ++ l2).map bl ∨ b = bl a := fun b hb => by
    obtain ⟨x, hx, rfl⟩ := List.mem_map.1 hb
    rcases List.mem_append.1 hx with hx | hx
    · exact .inl (List.mem_map.2 ⟨x, List.mem_append.2 (.inl hx), rfl⟩)
    · rcases List.mem_cons.1 hx with rfl | hx
      · exact .inr rfl
      · exact .inl (List.mem_map.2 ⟨x, List.mem_append.2 (.inr hx), rfl⟩)
  have hok : BsOK t f bl (l1 ++ a :: l2) w := by
    refine ⟨?_, fun x hx => ?_⟩
    · rw [List.map_append, List.map_cons, nodup_mid, ← List.map_append]; exact ⟨hsep, h.1⟩
    · rcases List.mem_append.1 hx with hx | hx
      · exact h.2 x (List.mem_append.2 (.inl hx))
      · rcases List.mem_cons.1 hx with rfl | hx
        · exact hk
        · exact h.2 x (List.mem_append.2 (.inr hx))
  have hilt := (List.getElem?_eq_some_iff.1 hi).1
  have get : ∀ k x, ((L.set j Ent.nul).set i (Ent.bs t f bl (l1 ++ a :: l2)))[k]? = some x →
      (k = i ∧ x = Ent.bs t f bl (l1 ++ a :: l2)) ∨ (k ≠ i ∧ k = j ∧ x.foot = [] ∧ (∀ b, ¬ x.Owns b) ∧ ∀ w, x.ok w) ∨ (k ≠ i ∧ k ≠ j ∧ L[k]? = some x) := fun k x hk => by
    rw [List.getElem?_set] at hk
    by_cases hik : i = k
    · subst hik; simp [hilt] at hk; exact .inl ⟨rfl, hk.symm⟩
    · rw [if_neg hik, List.getElem?_set] at hk
      by_cases hjk : j = k
      · rw [if_pos hjk] at hk
        split at hk
        · cases hk; exact .inr (.inl ⟨Ne.symm hik, hjk.symm, rfl, fun _ h => h, fun _ => True.intro⟩)
        · cases hk
      · rw [if_neg hjk] at hk; exact .inr (.inr ⟨Ne.symm hik, Ne.symm hjk, hk⟩)
  refine ⟨H.fr, fun k x hk => ?_, fun k m x y hk hm hkm b hb => ?_, fun k x hk b hb => ?_⟩
  · rcases get k x hk with ⟨_, rfl⟩ | ⟨_, _, _, _, h5⟩ | ⟨_, _, h5⟩
    · exact hok
    · exact h5 w
    · exact H.ok k x h5
  · rcases get k x hk with ⟨rfl, rfl⟩ | ⟨_, _, _, h4, _⟩ | ⟨hk1, hk2, hk3⟩
    · rcases get m y hm with ⟨rfl, rfl⟩ | ⟨_, _, h3, _, _⟩ | ⟨hm1, hm2, hm3⟩
      · exact absurd rfl hkm
      · rw [h3]; simp
      · rcases key b hb with hb | rfl
        · exact H.sep k m _ y hi hm3 hkm b hb
        · exact H.sep j m _ y hj hm3 (Ne.symm hm2) (bl a) rfl
    · exact absurd hb (h4 b)
    · rcases get m y hm with ⟨rfl, rfl⟩ | ⟨_, _, h3, _, _⟩ | ⟨hm1, hm2, hm3⟩
      · intro hf
        rcases key b hf with hf | rfl
        · exact H.sep k m x _ hk3 hi hkm b hb hf
        · exact H.sep k j x _ hk3 hj hk2 (bl a) hb (List.mem_singleton.2 rfl)
      · rw [h3]; simp
      · exact H.sep k m x y hk3 hm3 hkm b hb
  · rcases get k x hk with ⟨rfl, rfl⟩ | ⟨_, _, _, h4, _⟩ | ⟨_, _, h5⟩
    · rcases key b hb with hb | rfl
      · exact H.own k _ hi b hb
      · exact H.own j _ hj (bl a) rfl
    · exact absurd hb (h4 b)
    · exact H.own k x h5 b hb
end
end Go.Owl
/-! from Owl38 -/
/- Maps with keys that are numbers, of pointers: look, set, delete, range. -/
namespace Go.Owl
/-- An entry: the key, the block that its pointer is of, the stamp. -/
structure ME where
  k : Nat
  b : Nat
  r : Nat
def ME.ent (kk : IntKind) (e : ME) : MapEntry := ⟨.int kk (e.k : Int), ptr e.b 0, e.r⟩
def mP (kk : IntKind) (l : List ME) (c : Nat) : Obj := .map (l.map (ME.ent kk)).toArray c
structure MEok (l : List ME) (c : Nat) : Prop where
  born : ∀ e ∈ l, e.r < c
  rn : (l.map ME.r).Nodup
  kn : (l.map ME.k).Nodup
theorem MEok.left {l1 l2 : List ME} {e : ME} {c : Nat} (h : MEok (l1 ++ e :: l2) c) : ∀ x ∈ l1, (x.k : Int) ≠ (e.k : Int) := fun x hx hk => by
  have h1 := h.kn
  rw [List.map_append, List.map_cons, nodup_mid] at h1
  exact h1.1 (List.mem_append.2 (.inl (by rw [← show x.k = e.k by omega]; exact List.mem_map.2 ⟨x, hx, rfl⟩)))
theorem MEok.add {l : List ME} {k b c : Nat} (h : MEok l c) (hk : ∀ x ∈ l, x.k ≠ k) : MEok (l ++ [⟨k, b, c⟩]) (c + 1) := by
  refine ⟨fun x hx => ?_, ?_, ?_⟩
  · rcases List.mem_append.1 hx with hx | hx
    · exact Nat.lt_succ_of_lt (h.born x hx)
    · rw [List.mem_singleton] at hx; subst hx; exact Nat.lt_succ_self _
  · rw [List.map_append, List.map_cons, List.map_nil, nodup_mid, List.append_nil]
    exact ⟨fun hm => by obtain ⟨x, hx, e⟩ := List.mem_map.1 hm; have := h.born x hx; dsimp only at e; omega, h.rn⟩
  · rw [List.map_append, List.map_cons, List.map_nil, nodup_mid, List.append_nil]
    exact ⟨fun hm => by obtain ⟨x, hx, e⟩ := List.mem_map.1 hm; exact hk x hx e, h.kn⟩
theorem MEok.nil (c : Nat) : MEok [] c := ⟨fun _ h => (by cases h), List.nodup_nil, List.nodup_nil⟩
section
variable {P : Program} {n : Nat} {D : List Deferred} {ρ : Env} {w w0 : World} {R : Value → World → Prop} {dst : Option Tmp} {ty : TypeId} {pos : String} {af : Array Edge} {gd : Option (Nat × Bool)}
variable {S : List Nat} {L : List Ent} {i b ib : Nat} {t T kt et : TypeId} {x y z : Operand} {l l1 l2 : List ME} {e : ME} {c : Nat} {q : Int} {kk : IntKind}
/-- A map that is only read. -/
theorem mP.st (kk : IntKind) (b : Nat) (l : List ME) (c : Nat) : Stable (fun w => w.heap[b]? = some (mP kk l c)) [b] where
  lt := fun w h b' hb => by rw [List.mem_singleton] at hb; subst hb; exact (Array.getElem?_eq_some_iff.1 h).1
  fr := fun T w w' hf hT h => (hf.block b (Array.getElem?_eq_some_iff.1 h).1 (hT b (by simp))).trans h
theorem Own.mp (H : Own S w0 w L) (hi : L[i]? = some (Ent.obj b (mP kk l c))) : w.heap[b]? = some (mP kk l c) := H.ok i _ hi
theorem op_makeMapP (H : Own S w0 w L) (h : ∀ b w', Own S w0 w' (L ++ [.obj b (mP kk [] 0)]) → R (.map (some b)) w') : Op1 P n D ⟨dst, .makeMap T none, ty, pos, af, gd⟩ ρ w R :=
  Op1.val (w' := w.alloc (.map #[] 0)) (fun a ha => by simp [execOp, Instr.makeMap]) (h _ _ (H.new (Fr.alloc w _) (heap_alloc_new w _) (fun b hb => by simp only [Ent.Owns, Option.some.injEq] at hb; omega)))
end
end Go.Owl
/-! from Owl31 -/
/- Structs that hold structs, held against each other. -/
namespace Go.Owl
section
variable {P : Program} {n : Nat} {D : List Deferred} {ρ : Env} {w : World} {R : Value → World → Prop} {dst : Option Tmp} {ty : TypeId} {pos : String} {af : Array Edge} {g : Option (Nat × Bool)} {t t' : TypeId} {x y : Operand}
end
end Go.Owl
/-! from Owl32 -/
/- Regions that draw: what only reads is taken first, what acts comes in each order that is left. -/
namespace Go.Owl
section
variable {P : Program} {n : Nat} {D : List Deferred} {ρ ρ' : Env} {w w0 : World} {S : List Nat} {L : List Ent} {ops : Array Oper} {Q : Exit → Act → World → Prop} {fuel : Nat} {listed : Array Bool} {Sx : World → Prop}
/-- In the midst of a region that draws; Sx holds behind each operation. -/
def WH (P : Program) (n : Nat) (D : List Deferred) (ops : Array Oper) (Q : Exit → Act → World → Prop) (Sx : World → Prop) (fuel : Nat) (listed : Array Bool) (ρ : Env) (w : World) : Prop :=
  ∀ a, Agr n D ρ a → wpAnyH P .any ops (Nrm Q) Sx fuel listed a w
theorem WC.held {id : Nat} {l : List Oper} (N : Nat) (hN : l.length = N) (hm : P.follows .mixedOrders = true) (H : Own S w0 w L) (Sx : World → Prop) (h : ∀ w1, Own S w0 w1 L → WH P n D l.toArray Q Sx N (Array.replicate N false) ρ w1) : WC P n D (.region id l.toArray true) Q ρ w := by
  subst hN
  exact fun a ha => wp_region_any hm (wpAny_nrm _ _ _ _ (wpAny_of_held _ _ _ _ (by have h1 := h w.drew (H.fr' (Fr.drew w)) a ha; rw [show l.length = l.toArray.size from (List.size_toArray ..).symm] at h1; exact h1)))
theorem WH.named (h : ∀ W : Nat → Array Bool → Env → World → Prop, W = WH P n D ops Q Sx → W fuel listed ρ w) : WH P n D ops Q Sx fuel listed ρ w := h _ rfl
theorem WH.cov (hc : Cov ρ ρ') (h : WH P n D ops Q Sx fuel listed ρ' w) : WH P n D ops Q Sx fuel listed ρ w := fun a ha => h a (ha.cov hc)
theorem WH.done (hr : Region.ready .any ops listed = []) (h : WQ n D Q .normal ρ w) : WH P n D ops Q Sx fuel listed ρ w := fun a ha => wpAnyH_done hr ⟨rfl, h a ha⟩ fuel
/-- The operation is wanted. -/
def Wnt (ops : Array Oper) (ρ : Env) (o : Oper) : Prop := o.guard = none ∨ ∃ j t want b, o.guard = some (j, want) ∧ (ops[j]?).bind (·.dst) = some t ∧ Env.get ρ t = some (.bool b) ∧ b = want
def Unw (ops : Array Oper) (ρ : Env) (o : Oper) : Prop := ∃ j t want, o.guard = some (j, want) ∧ (ops[j]?).bind (·.dst) = some t ∧ (Env.get ρ t = some undef ∨ ∃ b, Env.get ρ t = some (.bool b) ∧ b = !want)
theorem Wnt.yes {o : Oper} {a : Act} (h : Wnt ops ρ o) (ha : Agr n D ρ a) : Region.wanted o (yielded ops a.tmps) = true := by
  rcases h with hg | ⟨j, t, want, b, hg, hj, hv, hb⟩
  · simp [Region.wanted, hg]
  · simp [Region.wanted, hg, yielded_of ha hj hv, sees, hb]
theorem Unw.no {o : Oper} {a : Act} (h : Unw ops ρ o) (ha : Agr n D ρ a) : Region.wanted o (yielded ops a.tmps) = false := by
  obtain ⟨j, t, want, hg, hj, hv | ⟨b, hv, hb⟩⟩ := h
  · simp [Region.wanted, hg, yielded_of ha hj hv, sees, undef]
  · subst hb; cases want <;> simp [Region.wanted, hg, yielded_of ha hj hv, sees]
/-- Operations that yield a value, or halt. -/
def valOp (o : Oper) : Bool := match o.op with
  | .move _ | .assign _ | .pick .. | .load .. | .binOp .. | .unOp .. | .convert .. | .fieldAddr .. | .field .. | .indexAddr .. | .index .. | .extract .. | .slice .. | .build .. => true
  | _ => false
theorem run_v {s : Sem Value} {x : Next} {w w' : World} (h : ((do pure (Next.value (← s)) : Sem Next)).run P w = .ok x w') : ∃ u, x = .value u := by
  rw [Sem.run_bind] at h
  cases hs : s.run P w with
  | halt y w2 => rw [hs] at h; cases h
  | ok u w2 =>
    rw [hs] at h
    simp only [Result.andThen_ok, Sem.run_pure] at h
    cases h; exact ⟨u, rfl⟩
theorem exec_val {o : Oper} (h : valOp o = true) {e : Operand → Value} {x : Next} {w w' : World} (hx : (execOp e o).run P w = .ok x w') : ∃ u, x = .value u := by
  obtain ⟨dst, op, ty, pos, af, g⟩ := o
  cases op <;> first
    | (cases h; done)
    | exact run_v hx
    | (simp only [execOp, Sem.run_pure] at hx; cases hx; exact ⟨_, rfl⟩)
    | (simp only [execOp, Sem.run_bind] at hx
       rename_i c a b
       cases hs : (asBool (e c)).run P w with
       | halt y w2 => rw [hs] at hx; cases hx
       | ok u w2 => rw [hs] at hx; simp only [Result.andThen_ok, Sem.run_pure] at hx; cases hx; exact ⟨_, rfl⟩)
/-- What only reads, ahead of what acts. -/
theorem WH.take {i : Nat} {oi : Oper} {v : Value} (hi : ops[i]? = some oi) (hv : valOp oi = true) (hg : Wnt ops ρ oi) (hd : dOK n oi.dst = true) (hc : chkEarly ops listed i = true) (hS : Sx w)
    (hy : ∀ w1, Sx w1 → Op1 P n D oi ρ w1 (fun u w2 => u = v ∧ w2 = w1)) (h : WH P n D ops Q Sx fuel (listed.setIfInBounds i true) (ext ρ oi.dst v) w) : WH P n D ops Q Sx (fuel + 1) listed ρ w := by
  intro a ha
  unfold chkEarly at hc
  simp only [Bool.and_eq_true] at hc
  refine wpAnyH_take hi hc.1.1 hc.1.2 hc.2 (fun c a w h => absurd h.1 (by intro h; cases h)) (.inl ⟨hg.yes ha, fun w1 h1 => ?_⟩) hS (h _ (ha.put hd v))
  have h2 := hy w1 h1 a ha
  cases hr : (execOp a.eval oi).run P w1 with
  | halt y w2 => rw [hr] at h2; exact h2.elim
  | ok x w2 =>
    obtain ⟨u, rfl⟩ := exec_val hv hr
    rw [hr] at h2
    obtain ⟨rfl, rfl⟩ := h2
    rfl
theorem WH.pass {i : Nat} {oi : Oper} (hi : ops[i]? = some oi) (hg : Unw ops ρ oi) (hd : dOK n oi.dst = true) (hc : chkEarly ops listed i = true) (hS : Sx w)
    (h : WH P n D ops Q Sx fuel (listed.setIfInBounds i true) (ext ρ oi.dst undef) w) : WH P n D ops Q Sx (fuel + 1) listed ρ w := by
  intro a ha
  unfold chkEarly at hc
  simp only [Bool.and_eq_true] at hc
  exact wpAnyH_take hi hc.1.1 hc.1.2 hc.2 (fun c a w h => absurd h.1 (by intro h; cases h)) (.inr ⟨hg.no ha, rfl⟩) hS (h _ (ha.put hd undef))
/-- One operation of those that may come next. -/
def WHS (P : Program) (n : Nat) (D : List Deferred) (ops : Array Oper) (Q : Exit → Act → World → Prop) (Sx : World → Prop) (i fuel : Nat) (listed : Array Bool) (ρ : Env) (w : World) : Prop :=
  ∀ a, Agr n D ρ a → wpOp P ops (Nrm Q) i (fun a' w' => Sx w' ∧ wpAnyH P .any ops (Nrm Q) Sx fuel (listed.setIfInBounds i true) a' w') a w
theorem WHS.op {i : Nat} {oi : Oper} (hi : ops[i]? = some oi) (hg : Wnt ops ρ oi) (hd : dOK n oi.dst = true)
    (h : Op1 P n D oi ρ w (fun v w' => Sx w' ∧ WH P n D ops Q Sx fuel (listed.setIfInBounds i true) (ext ρ oi.dst v) w')) : WHS P n D ops Q Sx i fuel listed ρ w := by
  intro a ha
  refine wpOp_of hi ?_
  rw [if_pos (hg.yes ha)]
  exact (h a ha).wp fun v w' hR => ⟨hR.1, hR.2 _ (ha.put hd v)⟩
theorem WH.all {rs : List Nat} (hr : Region.ready .any ops listed = rs) (hne : rs ≠ []) (h : ∀ i, i ∈ rs → WHS P n D ops Q Sx i fuel listed ρ w) : WH P n D ops Q Sx (fuel + 1) listed ρ w :=
  fun a ha => wpAnyH_all hr hne fun i hi => h i hi a ha
theorem WH.all1 {i : Nat} (hr : Region.ready .any ops listed = [i]) (h : WHS P n D ops Q Sx i fuel listed ρ w) : WH P n D ops Q Sx (fuel + 1) listed ρ w :=
  WH.all hr (by simp) fun k hk => by
    rcases List.mem_singleton.1 hk with rfl; exact h
theorem WH.all2 {i j : Nat} (hr : Region.ready .any ops listed = [i, j]) (h : WHS P n D ops Q Sx i fuel listed ρ w) (h2 : WHS P n D ops Q Sx j fuel listed ρ w) : WH P n D ops Q Sx (fuel + 1) listed ρ w :=
  WH.all hr (by simp) fun k hk => by
    rcases List.mem_cons.1 hk with rfl | hk
    · exact h
    · rcases List.mem_singleton.1 hk with rfl; exact h2
/-- What is known of a slice in another world serves too. -/
theorem op_indexAddrW {R : Value → World → Prop} {dst : Option Tmp} {ty : TypeId} {pos : String} {af : Array Edge} {g : Option (Nat × Bool)} {x y : Operand} {z : List Value} {sz by_ : Nat} {t : TypeId} {w2 : World} {v : Value} {e : TypeId} {k : IntKind} {m q : Nat} {xs : List Value} (hu : P.underlying t = some (.slice e)) (hz : tiB P e = some (z, sz, by_)) (hx : ev ρ x = some v) (hA : Arr w2 v sz q xs)
    (hi : ev ρ y = some (.int k (m : Int))) (hm : m < q) (h : R (.pointer (some (sp v (m * sz)))) w) : Op1 P n D ⟨dst, .indexAddr t x y, ty, pos, af, g⟩ ρ w R := by
  obtain ⟨a0, cap, rfl, hn, hc, ha0, hsp⟩ := hA.form
  cases a0 with
  | none => have := (ha0 rfl).1; omega
  | some ad =>
    have hs0 := hsp (by omega) ad rfl
    refine Op1.val (fun a ha => ?_) h
    have e1 : ad.add (m * sz) = sp (.slice (some ad) q cap) (m * sz) := by
      obtain ⟨b, o, s⟩ := ad; simp at hs0; subst hs0; rw [Addr.add_at]; rfl
    have h1 : ((0 : Int) ≤ (m : Int) ∧ (m : Int) < (q : Int)) := by omega
    simp [execOp, ha.ev hx, ha.ev hi, Instr.indexAt, asIntOf, run_underlying hu, h1, hm, run_sizeOf hz, e1]
end
end Go.Owl
/-! from Owl39 -/
/- Functions with what they captured; a look at a block of many; a list of them grows. -/
namespace Go.Owl
structure Cl where
  f : FuncId
  cap : List Value
def Cl.zero : Cl := ⟨0, []⟩
def clV (c : Cl) : Value := .func (.func c.f) #[] c.cap.toArray
section
variable {α : Type} {S : List Nat} {w0 w w1 : World} {L E M : List Ent} {i j g : Nat} {I : List Nat} {t : TypeId} {f : α → List Value} {bl : α → Nat} {l : List α} {a : α} {b : Nat} {cs : List Value}
theorem Own.rowX {v : Value} {sz m m' : Nat} {xs xs' : List Value} (H : Own S w0 w L) (hi : L[i]? = some (Ent.row v t sz m xs)) (e : xs = xs') (en : m = m') : Own S w0 w (L.set i (.row v t sz m' xs')) := by
  subst e; subst en
  have h := List.getElem?_eq_some_iff.1 hi
  have e : L.set i (.row v t sz m xs) = L := by rw [← h.2]; exact List.set_getElem_self h.1
  rw [e]; exact H
theorem Own.foldEnd (H : Own S w0 w L) (hi : L[i]? = some (Ent.bs t f bl l)) (hj : L[j]? = some (.blk b cs t)) (hij : Nat.beq i j = false) (hb : bl a = b) (hc : f a = cs) :
    Own S w0 w ((L.set j Ent.nul).set i (Ent.bs t f bl (l ++ [a]))) :=
  H.fold (l1 := l) (l2 := []) (by rw [List.append_nil]; exact hi) hj hij hb hc
/-- A look at a block that is nobody's here. -/
theorem Own.addBo (H : Own S w0 w M) (hc : Owl.cellsAt w b cs) (hM : ∀ (k : Nat) (x : Ent), M[k]? = some x → ¬ x.Owns b) : Own S w0 w (M ++ [Ent.bo b cs]) :=
  H.new' (Fr.refl _ _) hc (fun b hb => by cases hb) (fun b' hb' k x hk => by
    have : b' = b := by
      cases cs with
      | nil => simp [Ent.bo, Ent.foot] at hb'
      | cons c r => simpa [Ent.bo, Ent.foot] using hb'
    rw [this]; exact hM k x hk)
theorem Own.notOwn (H : Own S w0 w L) (hp : picks L I = some E) (hg : L[g]? = some (Ent.bs t f bl l)) (hgI : I.any (Nat.beq g) = false) (ha : a ∈ l) : ∀ (k : Nat) (x : Ent), E[k]? = some x → ¬ x.Owns (bl a) := fun k x hk hx => by
  obtain ⟨q, hq, h⟩ := picks_of hp hk
  refine H.sep q g x _ h hg (fun e => ?_) (bl a) hx (List.mem_map.2 ⟨a, ha, rfl⟩)
  exact (List.any_eq_false.1 hgI q (List.mem_of_getElem? hq)) (by rw [e]; exact Nat.beq_refl _)
theorem notOwn_bo (h : ∀ (k : Nat) (x : Ent), M[k]? = some x → ¬ x.Owns b) {b' : Nat} {cs' : List Value} : ∀ (k : Nat) (x : Ent), (M ++ [Ent.bo b' cs'])[k]? = some x → ¬ x.Owns b := fun k x hk => by
  rcases Nat.lt_trichotomy k M.length with h1 | h1 | h1
  · rw [List.getElem?_append_left h1] at hk; exact h k x hk
  · subst h1; simp at hk; subst hk; exact fun h => h
  · rw [List.getElem?_eq_none (by simp; omega)] at hk; cases hk
theorem BsOK.cells (h : BsOK t f bl l w) (ha : a ∈ l) : cellsAt w (bl a) (f a) := fun j u hu => h.cell ha hu
end
end Go.Owl
namespace Go.Owl
section
variable {S : List Nat} {w0 w : World} {L : List Ent} {i b : Nat} {cs cs' : List Value} {t : TypeId}
/-- A block whose first cells are only read from now on. -/
theorem Own.toBo (H : Own S w0 w L) (hi : L[i]? = some (.blk b cs t)) (k : Nat) (hk : cs.take k = cs') : Own S w0 w (L.set i (Ent.bo b cs')) := by
  refine H.upd' hi (Fr.refl [] w) (fun b hb => by cases hb) (fun j u hu => ?_) (fun b hb => by cases hb) (fun b' hb => ?_)
  · subst hk
    rw [List.getElem?_take] at hu
    split at hu
    · exact H.cell hi hu
    · cases hu
  · left
    cases cs' with
    | nil => simp [Ent.bo, Ent.foot] at hb
    | cons c r => simpa [Ent.bo, Ent.foot] using hb
theorem Own.fresh0 (H : Own [] w0 w L) (hi : L[i]? = some (.blk b cs t)) (_h : True = True) : w0.heap.size ≤ b := by
  rcases H.own i _ hi b rfl with h | h
  · exact h
  · cases h
theorem up {F : List Nat} {w : World} (h : ∀ b ∈ F, w.heap.size ≤ b) (hs : w0.heap.size ≤ w.heap.size) : ∀ b ∈ F, w0.heap.size ≤ b := fun b hb => Nat.le_trans hs (h b hb)
end
theorem repl_copy {α : Type} {z y : α} {c d k : Nat} (hd : d ≤ c) (hk : k = min d (c - d)) :
    (List.replicate d z ++ List.replicate (c - d) y).take d ++ (((List.replicate d z ++ List.replicate (c - d) y).take d).take k ++ (List.replicate d z ++ List.replicate (c - d) y).drop (d + k)) = List.replicate (d + k) z ++ List.replicate (c - (d + k)) y := by
  have e1 : (List.replicate d z ++ List.replicate (c - d) y).take d = List.replicate d z := by
    rw [List.take_append_of_le_length (by simp), List.take_of_length_le (by simp)]
  have e2 : (List.replicate d z ++ List.replicate (c - d) y).drop (d + k) = List.replicate (c - (d + k)) y := by
    rw [← List.drop_drop, List.drop_left' (by simp), List.drop_replicate]
    congr 1; omega
  rw [e1, e2, List.take_replicate, show min k d = k by omega, ← List.append_assoc, List.replicate_append_replicate]
end Go.Owl
