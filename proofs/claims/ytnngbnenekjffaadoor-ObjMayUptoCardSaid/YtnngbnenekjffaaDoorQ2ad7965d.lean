/- General lemmas and walks: Owl31, Owl16, Owl17, OwlRow, OwlOpen, Owl18, Owl19, Owl20, Owl21, Owl22, Owl23, Owl24, Owl25, Owl26, Owl27, Owl28, Owl33, Owl32, OwlUpto. No condition but what each theorem names. -/
import Derived.Test.YtnngbnenekjffaaDoorQ66c3e74a
import Derived.Lib.Builder
import Derived.Lib.UnsafeStr
import Derived.Laws.Externs
import Derived.ProofKit
import Derived.HandedShaped
import Derived.Deep.Slices
import Derived.Lib.SliceRun
import Derived.OrdersHeld
import Derived.Test.YtnngbnenekjffaaDoorRows
import Derived.Deep.DeepHandedRow
import Derived.LaidMore
import Derived.LaidLaws
import Derived.Stop.Joined
/-! from Owl31 -/
/- Structs that hold structs, held against each other. -/
namespace Go.Owl
section
variable {P : Program} {n : Nat} {D : List Deferred} {ρ : Env} {w : World} {R : Value → World → Prop} {dst : Option Tmp} {ty : TypeId} {pos : String} {af : Array Edge} {g : Option (Nat × Bool)} {t t' : TypeId} {x y : Operand}
end
end Go.Owl
/-! from Owl16 -/
/- Blocks that are only read. -/
namespace Go.Owl
/-- From a block's head on these cells stand. -/
def cellsAt (w : World) (b : Nat) (cs : List Value) : Prop := ∀ (j : Nat) (u : Value), cs[j]? = some u → w.cell? ⟨b, j, none⟩ = some u
theorem cellsAt.lt {w : World} {b : Nat} {cs : List Value} (h : cellsAt w b cs) (hne : cs ≠ []) : b < w.heap.size := by
  cases cs with
  | nil => exact absurd rfl hne
  | cons c l => exact block_lt_of_cell (a := ⟨b, 0, none⟩) (h 0 c rfl)
theorem cellsAt.stable (b : Nat) (cs : List Value) : Stable (fun w => cellsAt w b cs) (if cs.isEmpty then [] else [b]) where
  lt := fun w h b' hb => by
    cases cs with
    | nil => simp at hb
    | cons c l => simp at hb; subst hb; exact cellsAt.lt h (by simp)
  fr := fun T w w' hf hT h j u hu => by
    cases cs with
    | nil => simp at hu
    | cons c l =>
      have hb := cellsAt.lt h (by simp)
      rw [← h j u hu]
      exact World.cell?_of_block (hf.block b hb (hT b (by simp)))
def Ent.bo (b : Nat) (cs : List Value) : Ent := .ro (fun w => cellsAt w b cs) (if cs.isEmpty then [] else [b]) (cellsAt.stable b cs)
section
variable {S : List Nat} {w0 w : World} {L : List Ent} {i b : Nat} {cs vs : List Value} {t : TypeId}
theorem Own.cellO {off : Nat} {v : Value} (H : Own S w0 w L) (hi : L[i]? = some (Ent.bo b cs)) (hc : cs[off]? = some v) : w.cell? ⟨b, off, none⟩ = some v := (H.ok i _ hi) off v hc
theorem Own.cellsAt (H : Own S w0 w L) (hi : L[i]? = some (Ent.blk b cs t)) : cellsAt w b cs := fun j u hu => H.cell hi hu
theorem Own.cellsAtO (H : Own S w0 w L) (hi : L[i]? = some (Ent.bo b cs)) : Owl.cellsAt w b cs := H.ok i _ hi
theorem Own.oldB (H : Own [] w0 w L) (h : Owl.cellsAt w0 b cs) : Own [] w0 w (L ++ [Ent.bo b cs]) := H.old (cellsAt.stable b cs) h
end
end Go.Owl
/-! from Owl17 -/
/- Memory seen through unsafe.Pointer: what strings.Builder does. -/
namespace Go.Owl
/-- What stays when a callee had some things and gives none back. -/
theorem Own.rest {S : List Nat} {w0 w w1 : World} {L E F : List Ent} {I J : List Nat} (H : Own S w0 w L) (hp : picks L I = some E) (hJ : nodupB J = true) (hq : picks L J = some F) (hd : J.all (fun j => !I.any (Nat.beq j)) = true)
    (R : Fr (blks E) w w1) : Own S w0 w1 F := by
  have P := H.sel J hJ hq
  refine ⟨H.frPart hp R, fun i e hi => ?_, P.sep, P.own⟩
  obtain ⟨j, hj, h⟩ := picks_of hq hi
  have := List.all_eq_true.1 hd j (List.mem_of_getElem? hj)
  exact H.stay hp h (by simpa using this) R
section
variable {P : Program} {n : Nat} {D : List Deferred} {ρ : Env} {w w0 : World} {R : Value → World → Prop} {dst : Option Tmp} {ty : TypeId} {pos : String} {af : Array Edge} {g : Option (Nat × Bool)}
variable {S : List Nat} {L : List Ent} {i b : Nat} {t t' u T0 : TypeId} {x y : Operand} {cs : List Value}
theorem Fr.freeze (w : World) (p : Addr) (m : Nat) : Fr [p.block] w (w.freeze p m) := by
  unfold World.freeze
  split
  · exact Fr.refl _ _
  · refine ⟨rfl, rfl, rfl, by simp, fun k _ hn => ?_⟩
    simp only [Array.getElem?_modify]
    rw [if_neg (by intro e; subst e; simp at hn)]
end
end Go.Owl
/-! from OwlRow -/
/- A row that says: whatever the input, true; the input reads as it did. -/
namespace Go.Owl
open Go.ChangeShapes Go.WideShapes Go.RowKit
section
variable {H : Type} {enc : TypeId × Value → H} {P : Program}

theorem trodAll_stays (hl : laidOutB P = true) {W W' : World} (hb : Below W.heap.size W W') : ∀ {ts : List TypeId} {vs : List Value} {ds : List (DataW H)} {ps : List MemPlace},
    (ts.all fun t => P.readableRec t && decide (t < P.types.size)) = true → DataW.TrodAll enc P W 0 (fun _ => true) true ts vs ds ps → (∀ x ∈ ps, x.block < W.heap.size) →
    DataW.TrodAll enc P W' 0 (fun b => decide (b < W.heap.size)) true ts vs ds ps
  | [], vs, ds, ps, _, h, _ => by
    obtain ⟨rfl, rfl, rfl⟩ := trodAll_nil h
    exact rfl
  | t :: ts, vs, ds, ps, hr, h, hlt => by
    obtain ⟨v, vs1, d, ds1, a, b, rfl, rfl, rfl, h1, h2⟩ := trodAll_cons h
    rw [List.all_cons, Bool.and_eq_true, Bool.and_eq_true, decide_eq_true_eq] at hr
    exact ⟨a, b, Below.trod hl hr.1.1 hr.1.2 h1 hb (fun x hx => hlt x (List.mem_append.2 (.inl hx))), trodAll_stays hl hb hr.2 h2 (fun x hx => hlt x (List.mem_append.2 (.inr hx))), rfl⟩

theorem trodAll_length {w : World} {base : Nat} {spare : Nat → Bool} {held : Bool} : ∀ {ts : List TypeId} {vs : List Value} {ds : List (DataW H)} {ps : List MemPlace}, DataW.TrodAll enc P w base spare held ts vs ds ps → ds.length = ts.length ∧ vs.length = ts.length
  | [], vs, ds, ps, h => by
    obtain ⟨rfl, rfl, rfl⟩ := trodAll_nil h
    exact ⟨rfl, rfl⟩
  | t :: ts, vs, ds, ps, h => by
    obtain ⟨v, vs1, d, ds1, a, b, rfl, rfl, rfl, h1, h2⟩ := trodAll_cons h
    simp [trodAll_length h2]

end

theorem u8_of {n : Int} (h : (Lit.int .u8 n).wf = true) : ∃ a : UInt8, Value.int .u8 n = vU8 a := by
  simp [Lit.wf, IntKind.min, IntKind.max, IntKind.signed, IntKind.bits] at h
  exact ⟨UInt8.ofNat n.toNat, by unfold vU8; congr 1; simp; omega⟩
theorem u32_of {n : Int} (h : (Lit.int .u32 n).wf = true) : ∃ a : UInt32, Value.int .u32 n = vU32 a := by
  simp [Lit.wf, IntKind.min, IntKind.max, IntKind.signed, IntKind.bits] at h
  exact ⟨UInt32.ofNat n.toNat, by unfold vU32; congr 1; simp; omega⟩
section
variable {H : Type} {enc : TypeId × Value → H} {P : Program} {w : World} {base b0 : Nat} {spare : Nat → Bool} {held : Bool} {r : Reach} {t : TypeId} {v : Value} {d : DataW H} {ps : List MemPlace}
end
end Go.Owl
/-! from OwlOpen -/
/- Arguments of any depth, opened; the row's proof with the form's own reach. -/
namespace Go.Owl
open Go.ChangeShapes Go.WideShapes Go.RowKit

/-- What is read at a type has this form. -/
def Opens (P : Program) (t : TypeId) {α : Type} (f : α → List Value) (ok : World → α → Prop) : Prop :=
  ∀ (H : Type) (enc : TypeId × Value → H) (w : World) (base : Nat) (spare : Nat → Bool) (held : Bool) (fuel : Nat) (cs : List Value) (x : DataW H × List MemPlace),
    DataW.trod enc P w base spare held fuel t cs = some x → (∀ k ∈ x.1.weights P t, k ≤ reachBytes) → ∃ a, cs = f a ∧ ok w a

section
variable {P : Program} {t e : TypeId}

theorem Opens.map {α β : Type} {f : α → List Value} {ok : World → α → Prop} {f' : β → List Value} {ok' : World → β → Prop} (h : Opens P t f ok) (g : α → β) (hf : ∀ a, f a = f' (g a)) (hk : ∀ w a, ok w a → ok' w (g a)) : Opens P t f' ok' := by
  intro H enc w base spare held fuel cs x hx hw
  obtain ⟨a, h1, h2⟩ := h H enc w base spare held fuel cs x hx hw
  exact ⟨g a, h1.trans (hf a), hk w a h2⟩

theorem opens_u8 (ht : P.underlying t = some (.int .u8)) : Opens P t (fun a : UInt8 => [vU8 a]) (fun _ _ => True) := by
  intro H enc w base spare held fuel cs x hx _
  obtain ⟨n, rfl, -, hw⟩ := DataW.trod_int ht hx
  obtain ⟨a, ha⟩ := u8_of hw
  exact ⟨a, by rw [ha], trivial⟩
theorem opens_u32 (ht : P.underlying t = some (.int .u32)) : Opens P t (fun a : UInt32 => [vU32 a]) (fun _ _ => True) := by
  intro H enc w base spare held fuel cs x hx _
  obtain ⟨n, rfl, -, hw⟩ := DataW.trod_int ht hx
  obtain ⟨a, ha⟩ := u32_of hw
  exact ⟨a, by rw [ha], trivial⟩
theorem weightsAll_mem {H : Type} {d : DataW H} : ∀ {l : List (DataW H)}, d ∈ l → ∀ k ∈ d.weights P e, k ∈ DataW.weightsAll P e l
  | [], h, _, _ => by cases h
  | y :: l, h, k, hk => by
    rw [DataW.weightsAll, List.mem_append]
    rcases List.mem_cons.1 h with rfl | h
    · exact .inl hk
    · exact .inr (weightsAll_mem h k hk)

theorem cells?_get {w : World} {base : Nat} {a : Addr} {n : Nat} {cs : List Value} (h : w.cells? base a n = some cs) : cs.length = n ∧ ∀ i, i < n → w.cell? (a.add i) = cs[i]? := by
  unfold World.cells? at h
  split at h
  · refine ⟨by simpa using mapM_some_length h, fun i hi => ?_⟩
    have := mapM_some_get h i i (by simp [hi])
    exact this
  · cases h

theorem flatMap_len {β : Type} {g : β → List Value} {sz : Nat} (hg : ∀ b, (g b).length = sz) : ∀ l : List β, (l.flatMap g).length = l.length * sz
  | [] => by simp
  | b :: l => by rw [List.flatMap_cons, List.length_append, hg, flatMap_len hg l, List.length_cons, Nat.add_mul]; omega
theorem flatMap_at {β : Type} {g : β → List Value} {sz : Nat} (hg : ∀ b, (g b).length = sz) : ∀ (l : List β) (i k : Nat) (b : β), l[i]? = some b → k < sz → (l.flatMap g)[i * sz + k]? = (g b)[k]?
  | [], i, k, b, h, _ => by simp at h
  | c :: l, 0, k, b, h, hk => by
    simp at h; subst h
    rw [List.flatMap_cons, Nat.zero_mul, Nat.zero_add, List.getElem?_append_left (by rw [hg]; exact hk)]
  | c :: l, i + 1, k, b, h, hk => by
    rw [List.flatMap_cons, List.getElem?_append_right (by rw [hg, Nat.add_mul]; omega), hg, show (i + 1) * sz + k - sz = i * sz + k by rw [Nat.add_mul]; omega]
    exact flatMap_at hg l i k b (by simpa using h) hk

theorem spot_none {w : World} {a : Addr} {v : Value} (h : w.cell? a = some v) : a.spot = none := by
  unfold World.cell? at h
  split at h
  · split at h
    · cases h
    · rename_i hs; simpa using hs
  · cases h
theorem add0 (a : Addr) : a.add 0 = a := rfl

section
variable {H : Type} {enc : TypeId × Value → H} {w : World} {base b0 : Nat} {spare : Nat → Bool} {held : Bool} {r : Reach} {v : Value} {d : DataW H} {ps : List MemPlace}
end

end
end Go.Owl
/-! from Owl18 -/
/- Rows of structs: a list's cells, one behind the other. -/
namespace Go.Owl
section
variable {β : Type} {g : β → List Value} {sz : Nat}
theorem flatMap_piece (hg : ∀ b, (g b).length = sz) : ∀ (l : List β) (i : Nat) (d : β), i < l.length → ((l.flatMap g).drop (i * sz)).take sz = g (l.getD i d)
  | [], i, d, h => by simp at h
  | c :: l, 0, d, _ => by
    rw [List.flatMap_cons, Nat.zero_mul, List.drop_zero, List.take_append_of_le_length (by rw [hg]; exact Nat.le_refl _), List.take_of_length_le (by rw [hg]; exact Nat.le_refl _)]; rfl
  | c :: l, i + 1, d, h => by
    have e : (i + 1) * sz = sz + i * sz := by rw [Nat.add_mul]; omega
    have e2 : ((c :: l).flatMap g).drop ((i + 1) * sz) = (l.flatMap g).drop (i * sz) := by
      have h0 : ((c :: l).flatMap g).drop sz = l.flatMap g := by
        have hh := List.drop_left (l₁ := g c) (l₂ := l.flatMap g)
        rw [hg] at hh
        rw [List.flatMap_cons]; exact hh
      rw [e, ← List.drop_drop, h0]
    rw [e2]
    have := flatMap_piece hg l i d (by simpa using h)
    rw [this]; rfl
theorem flatMap_cell (hg : ∀ b, (g b).length = sz) {l : List β} {i k : Nat} {d : β} (hi : i < l.length) {u : Value} (hc : (g (l.getD i d))[k]? = some u) : (l.flatMap g)[i * sz + k]? = some u := by
  have hk : k < sz := by rw [← hg (l.getD i d)]; exact (List.getElem?_eq_some_iff.1 hc).1
  rw [flatMap_at hg l i k (l.getD i d) (by rw [List.getD, List.getElem?_eq_getElem hi]; rfl) hk]; exact hc
variable {w : World} {v : Value} {q : Nat} {l : List β}
theorem flat_len (hg : ∀ b, (g b).length = sz) (hs : 0 < sz) (h : (l.flatMap g).length = q * sz) : l.length = q := by
  rw [flatMap_len hg] at h; exact Nat.eq_of_mul_eq_mul_right hs h
theorem Arr.flatLen (hA : Arr w v sz q (l.flatMap g)) (hg : ∀ b, (g b).length = sz) (hs : 0 < sz) : l.length = q := flat_len hg hs hA.len
theorem Arr.atF {i k : Nat} {u : Value} (hA : Arr w v sz q (l.flatMap g)) (hg : ∀ b, (g b).length = sz) (hs : 0 < sz) (d : β) (hi : i < q) (hc : (g (l.getD i d))[k]? = some u) : w.cell? (sp v (i * sz + k)) = some u :=
  hA.at (flatMap_cell hg (by rw [hA.flatLen hg hs]; exact hi) hc)
theorem Arr.atsF {i : Nat} (hA : Arr w v sz q (l.flatMap g)) (hg : ∀ b, (g b).length = sz) (hs : 0 < sz) (d : β) (hi : i < q) : ∀ j u, (g (l.getD i d))[j]? = some u → w.cell? ⟨sBlk v, sOff v + i * sz + j, none⟩ = some u :=
  hA.ats (by rw [hg]; exact flatMap_piece hg l i d (by rw [hA.flatLen hg hs]; exact hi))
theorem one_flat (h : ∀ a, ∀ c ∈ g a, c.oneCell' = true) {l : List β} : ∀ c ∈ l.flatMap g, c.oneCell' = true := fun c hc => by
  obtain ⟨a, _, ha⟩ := List.mem_flatMap.1 hc
  exact h a c ha
end
section
variable {P : Program} {n : Nat} {D : List Deferred} {ρ : Env} {w w0 : World} {R : Value → World → Prop} {dst : Option Tmp} {ty : TypeId} {pos : String} {af : Array Edge} {gd : Option (Nat × Bool)}
variable {S : List Nat} {L : List Ent} {i : Nat} {t t' T T' : TypeId} {x y : Operand} {z : List Value} {sz by_ : Nat} {d : TypeDesc}
theorem op_appendF {α : Type} {f : α → List Value} {l l' : List α} {v u : Value} {q m : Nat} (H : Own S w0 w L) (hu : P.underlying T = some (.slice t)) (hz : tiB P t = some (z, sz, by_)) (hzl : z.length = sz) (hx : ev ρ x = some v) (hy : ev ρ y = some u)
    (hi : L[i]? = some (Ent.row v t sz q (l.flatMap f))) (hs : Src P w T' sz u m (l'.flatMap f)) (h1 : ∀ c ∈ l'.flatMap f, c.oneCell' = true) (h63 : q + m ≤ 9223372036854775807) (hby : (q + m) * by_ ≤ 140737488355328)
    (h : ∀ v' w', Own S w0 w' (L.set i (.row v' t sz (q + m) ((l ++ l').flatMap f))) → R v' w') : Op1 P n D ⟨dst, .call { callee := .builtin .append, args := #[x, y], argTypes := #[T, T'] }, ty, pos, af, gd⟩ ρ w R :=
  op_append H hu hz hzl hx hy hi hs h1 h63 hby (fun v' w' H' => h v' w' (by rw [List.flatMap_append]; exact H'))
/-- A struct of a row, as a whole. -/
theorem op_loadSP {v : Value} {k : Nat} {vs : List Value} (hx : ev ρ x = some (.pointer (some (sp v k)))) (hc : ∀ j u, vs[j]? = some u → w.cell? ⟨sBlk v, sOff v + k + j, none⟩ = some u) (hu : P.underlying T = some d) (hs : scal d = false)
    (hz : tiB P T = some (z, sz, by_)) (hl : vs.length = sz) (h : R (.agg vs.toArray) w) : Op1 P n D ⟨dst, .load T x, ty, pos, af, gd⟩ ρ w R :=
  op_loadS (b := sBlk v) (off := sOff v + k) hx hc hu hs hz hl h
end
end Go.Owl
/-! from Owl19 -/
/- Conversions to and from 32 bits with a sign. -/
namespace Go.Owl
def w32 (x : Int) : Int := (x + 2147483648) % 4294967296 - 2147483648
section
variable {P : Program} {n : Nat} {D : List Deferred} {ρ : Env} {w : World} {R : Value → World → Prop} {dst : Option Tmp} {ty : TypeId} {pos : String} {af : Array Edge} {g : Option (Nat × Bool)}
variable {t t' : TypeId} {x y : Operand}
end
section
variable {P : Program} {n : Nat} {D : List Deferred} {ρ : Env} {w : World} {R : Value → World → Prop} {dst : Option Tmp} {ty : TypeId} {pos : String} {af : Array Edge} {g : Option (Nat × Bool)}
variable {t t' : TypeId} {x y : Operand}
end
end Go.Owl
/-! from Owl20 -/
/- Regions that draw, with a move that nothing waits for until the end. -/
namespace Go.Owl
variable {P : Program} {ops : Array Oper} {Q : Exit → Act → World → Prop}
end Go.Owl
/-! from Owl21 -/
/- Regions that draw, with a move that nothing waits for until the end: the rule. -/
namespace Go.Owl
variable {P : Program} {n : Nat} {D : List Deferred} {ρ : Env} {w w0 : World} {S : List Nat} {L : List Ent} {Q : Exit → Act → World → Prop}
end Go.Owl
/-! from Owl22 -/
/- What is left of a head behind the tail's first operation. -/
namespace Go.Owl
variable {P : Program} {n : Nat} {D : List Deferred} {ρ : Env} {w w0 : World} {S : List Nat} {L : List Ent} {Q : Exit → Act → World → Prop}
end Go.Owl
/-! from Owl23 -/
/- Regions that draw, with a late move: the rule. -/
namespace Go.Owl
variable {P : Program} {n : Nat} {D : List Deferred} {ρ : Env} {w w0 : World} {S : List Nat} {L : List Ent} {Q : Exit → Act → World → Prop}
end Go.Owl
/-! from Owl24 -/
/- Small rules: two ways by a truth. -/
namespace Go.Owl
theorem bsplit {b : Bool} {P : Prop} (h1 : b = true → P) (h2 : b = false → P) : P := by
  cases h : b
  · exact h2 h
  · exact h1 h
section
variable {P : Program} {n : Nat} {D : List Deferred} {ρ : Env} {w : World} {R : Value → World → Prop} {dst : Option Tmp} {ty : TypeId} {pos : String} {af : Array Edge} {g : Option (Nat × Bool)} {t t' : TypeId} {x y : Operand}
end
theorem Arr.lenF {β : Type} {g : β → List Value} {w : World} {v : Value} {sz q : Nat} {l : List β} (hA : Arr w v sz q (l.flatMap g)) (hg : ∀ b, (g b).length = sz) (hs : 0 < sz) : Arr w v sz l.length (l.flatMap g) := by
  have h := hA.len
  rw [flatMap_len hg] at h
  have e : l.length = q := Nat.eq_of_mul_eq_mul_right hs h
  rw [e]; exact hA
end Go.Owl
/-! from Owl25 -/
/- Regions that draw, step by step: moves ahead of time, one operation that all others wait for, and the rest in any order. -/
namespace Go.Owl
section
variable {P : Program} {n : Nat} {D : List Deferred} {ρ : Env} {w w0 : World} {S : List Nat} {L : List Ent} {ops : Array Oper} {Q : Exit → Act → World → Prop}

/-- Only a normal end counts. -/
def Nrm (Q : Exit → Act → World → Prop) : Exit → Act → World → Prop := fun e a w => e = .normal ∧ Q .normal a w
theorem letsOut_nrm (h : LetsOut (Nrm Q)) : False := by
  obtain ⟨_, _, h, _⟩ := h; cases h
theorem wp_nrm {o : Oper} {a : Act} {w : World} {K : Act → World → Prop} (h : o.wp P a w K (Nrm Q)) : o.wp P a w K Q := by
  unfold Oper.wp at *
  generalize (execOp a.eval o).run P w = r at *
  cases r with
  | ok x w' =>
    cases x <;> simp only [Oper.upon] at h ⊢ <;> first
      | exact h
      | exact Calls.mono h (fun e w'' he => by
          cases e with
          | returned v => exact he
          | panicked c => exact absurd he.1 (by intro h; cases h)
          | outgrown => exact (letsOut_nrm he).elim)
  | halt x w' =>
    cases x <;> simp only [Oper.upon] at h ⊢ <;> first
      | exact h
      | exact absurd h.1 (by intro h; cases h)
theorem wpOp_nrm {i : Nat} {a : Act} {w : World} {K : Act → World → Prop} (h : wpOp P ops (Nrm Q) i K a w) : wpOp P ops Q i K a w := by
  unfold wpOp at *
  cases ho : ops[i]? with
  | none => simp only [ho] at h ⊢; exact h
  | some o =>
    simp only [ho] at h ⊢
    split
    · rename_i hw
      rw [if_pos hw] at h
      rcases h with h | ⟨_, h⟩
      · exact .inl (wp_nrm h)
      · exact (letsOut_nrm h).elim
    · rename_i hw
      rw [if_neg hw] at h; exact h
theorem wpAny_nrm : ∀ (fuel : Nat) (listed : Array Bool) (a : Act) (w : World), wpAny P .any ops (Nrm Q) fuel listed a w → wpAny P .any ops Q fuel listed a w
  | 0, _, _, _, h => ⟨h.1, h.2.2⟩
  | fuel + 1, _, _, _, h => ⟨fun hr => (h.1 hr).2, fun i hi => wpOp_nrm (wpOp_mono (fun a w h => wpAny_nrm fuel _ a w h) (h.2 i hi))⟩
/-- In the midst of a region that draws: what is listed was run. -/
def WD (P : Program) (n : Nat) (D : List Deferred) (ops : Array Oper) (Q : Exit → Act → World → Prop) (fuel : Nat) (listed : Array Bool) (ρ : Env) (w : World) : Prop :=
  ∀ a, Agr n D ρ a → wpAny P .any ops (Nrm Q) fuel listed a w
def chkEarly (ops : Array Oper) (listed : Array Bool) (i : Nat) : Bool := Region.noSelect ops && Region.free .any ops listed i && (Region.ready .any ops listed).contains i
/-- One operation that all others wait for. -/
theorem WD.op {i fuel : Nat} {oi : Oper} {listed : Array Bool} (hi : ops[i]? = some oi) (hg : oi.guard = none) (hd : dOK n oi.dst = true) (hr : Region.ready .any ops listed = [i])
    (h : Op1 P n D oi ρ w (fun v w' => WD P n D ops Q fuel (listed.setIfInBounds i true) (ext ρ oi.dst v) w')) : WD P n D ops Q (fuel + 1) listed ρ w := by
  intro a ha
  refine ⟨fun h => (by rw [hr] at h; cases h), fun j hj => ?_⟩
  rw [hr] at hj
  have hji : j = i := by simpa using hj
  subst hji
  refine wpOp_of hi ?_
  rw [if_pos (by simp [Region.wanted, hg])]
  exact (h a ha).wp fun v w' hR => hR _ (ha.put hd v)
theorem WD.done {fuel : Nat} {listed : Array Bool} (hr : Region.ready .any ops listed = []) (h : WQ n D Q .normal ρ w) : WD P n D ops Q fuel listed ρ w :=
  fun a ha => wpAny_done hr ⟨rfl, h a ha⟩ fuel

def oldAt (ρ : Env) : Option Tmp → Value → Prop
  | none, _ => True
  | some d, v => Env.get ρ d = some v
def OldOK (ρ : Env) : List Oper → List Sp → Prop
  | o :: l, .det v _ :: sp => oldAt ρ o.dst v ∧ OldOK ρ l sp
  | _ :: _, .flt _ _ :: _ => False
  | _, _ => True
theorem OldOK.at : ∀ (l : List Oper) (sp : List Sp), OldOK ρ l sp → ∀ (i : Nat) (o : Oper) (v : Value) (dp : Option Nat), l[i]? = some o → sp[i]? = some (.det v dp) → oldAt ρ o.dst v
  | o :: l, .det v dp :: sp, h, 0, o', v', dp', h1, h2 => by simp at h1 h2; obtain ⟨rfl, rfl⟩ := h2; subst h1; exact h.1
  | o :: l, .det v dp :: sp, h, i + 1, o', v', dp', h1, h2 => OldOK.at l sp h.2 i o' v' dp' (by simpa using h1) (by simpa using h2)
  | _ :: _, .flt _ _ :: _, h, _, _, _, _, _, _ => h.elim
  | [], _, _, _, _, _, _, h1, _ => by simp at h1
  | _ :: _, [], _, _, _, _, _, _, h2 => by simp at h2
def chkLast (ops : Array Oper) (n : Nat) (fl : List (Bool × Option Nat)) (listed : Array Bool) (k0 fuel : Nat) : Bool :=
  Nat.beq listed.size ops.size && (List.range ops.size).all (chkOp ops n fl ops.size) &&
  (List.range ops.size).all (fun i => if Nat.blt i k0 then listed.getD i false && (fl.getD i (true, none) == (false, some i)) else !listed.getD i true && !((fl.getD i (true, none)).2 == some i)) && Nat.beq (undone ops.size listed) fuel
/-- What is left comes in any order. -/
theorem WD.last {l : List Oper} {sp : List Sp} {listed : Array Bool} {fuel : Nat} (k0 : Nat) (H : Own S w0 w L) (h : HW P n D l.toArray S w0 L 0 [] l sp ρ) (hchk : chkLast l.toArray n (sp.map Sp.mark) listed k0 fuel = true)
    (hold : OldOK ρ (l.take k0) (sp.take k0)) (tail : ∀ (β : Nat → Fp) w1, Own S w0 w1 (L ++ fents sp β 0) → WQ n D Q .normal (fenv l sp β 0 (dets l sp ρ)) w1) : WD P n D l.toArray Q fuel listed ρ w := by
  intro a ha
  unfold chkLast at hchk
  simp only [Bool.and_eq_true] at hchk
  obtain ⟨⟨⟨hsz, hall⟩, hlst⟩, hfuel⟩ := hchk
  have hsz := Nat.eq_of_beq_eq_true hsz
  have hfuel := Nat.eq_of_beq_eq_true hfuel
  have hch : ∀ i, i < l.toArray.size → chkOp l.toArray n (sp.map Sp.mark) l.toArray.size i = true := fun i hi => allRange hall hi
  have hbig : ∀ t v, Env.get ρ t = some v → n ≤ t → v = undef := fun t v hv hn => by
    have := ha.get t v hv
    rw [← this]
    have : a.tmps.size ≤ t := by rw [ha.size]; exact hn
    simp [Array.getElem?_eq_none this]
  have hlen := h.len
  have hls : l.toArray.size = l.length := by simp
  have htk : l.take l.toArray.size = l := by simp
  -- what is listed at first
  have hin : ∀ i, i < l.toArray.size → listed.getD i false = true → i < k0 ∧ (sp.map Sp.mark).getD i (true, none) = (false, some i) := fun i hi hl => by
    have h1 := allRange hlst hi
    cases hb : Nat.blt i k0 with
    | true => simp only [hb, if_true, Bool.and_eq_true, beq_iff_eq] at h1; exact ⟨by rw [Nat.blt_eq] at hb; exact hb, h1.2⟩
    | false =>
      simp only [hb, Bool.false_eq_true, if_false, Bool.and_eq_true, Bool.not_eq_true'] at h1
      rw [getD_both h1.1] at hl; cases hl
  have hout : ∀ i, i < l.toArray.size → i < k0 → listed.getD i false = true := fun i hi hk => by
    have h1 := allRange hlst hi
    rw [if_pos (by rw [Nat.blt_eq]; exact hk)] at h1
    simp only [Bool.and_eq_true] at h1
    exact h1.1
  have hmk : ∀ i (s : Sp), sp[i]? = some s → (sp.map Sp.mark).getD i (true, none) = s.mark := fun i s hs => by simp [List.getD, hs]
  have M0 : Mid P n D l.toArray S w0 L l.toArray.size sp ρ listed (fun _ => (0, undef)) [] a w := by
    refine ⟨ha.size, ha.defers, ⟨hsz, fun j oj hj hl e he hb => ?_, fun t h1 h2 => absurd h2 (by omega)⟩, by simpa using H, by simp, fun i => ?_, fun i o s d hi hl ho hs hd => ?_, fun t v hv _ => ha.get t v hv, fun i v hi hs => ?_⟩
    · have hjs := (Array.getElem?_eq_some_iff.1 hj).1
      have hc := hch j hjs
      unfold chkOp at hc
      rw [hj] at hc
      simp only [Bool.and_eq_true] at hc
      have h1 := Array.all_eq_true'.1 hc.1.2 e he
      rw [hb] at h1
      have h2 : e.on < j := by simpa [Nat.blt_eq] using h1
      exact hout _ (by omega) (by have := (hin j hjs hl).1; omega)
    · constructor
      · intro h; cases h
      · rintro ⟨hi, hl, hF⟩
        have h1 := (hin i hi hl).2
        cases hs : sp[i]? with
        | none => rw [hs] at hF; cases hF
        | some s =>
          rw [hmk i s hs] at h1
          rw [hs] at hF
          have h2 : s.isF = true := by simpa using hF
          have h3 := congrArg Prod.fst h1
          rw [show s.mark.1 = s.isF from rfl, h2] at h3; cases h3
    · obtain ⟨hik, hm⟩ := hin i hi hl
      rw [hmk i s hs] at hm
      cases s with
      | flt m e => cases (congrArg Prod.fst hm)
      | det v dp =>
        have h1 := OldOK.at _ _ hold i o v dp (by rw [List.getElem?_take, if_pos hik]; simpa using ho) (by rw [List.getElem?_take, if_pos hik]; exact hs)
        rw [hd] at h1
        exact ha.get d v h1
    · rcases Nat.lt_or_ge i k0 with hk | hk
      · exact hout i hi hk
      · have h1 := allRange hlst hi
        rw [if_neg (by rw [Nat.blt_eq]; omega)] at h1
        simp only [Bool.and_eq_true] at h1
        rw [hmk i _ hs] at h1
        simp [Sp.mark, Sp.dep] at h1
  have main : ∀ f listed β Fl a' w1, undone l.toArray.size listed = f → Mid P n D l.toArray S w0 L l.toArray.size sp ρ listed β Fl a' w1 → wpAny P .any l.toArray (Nrm Q) f listed a' w1 := by
    intro f
    induction f with
    | zero =>
      intro listed β Fl a' w1 hf M
      have hdone := undone_zero hf
      refine ⟨?_, rfl, ?_⟩
      · cases hr : Region.ready .any l.toArray listed with
        | nil => rfl
        | cons i t =>
          have hi : i ∈ Region.ready .any l.toArray listed := by rw [hr]; simp
          obtain ⟨hun, o, ho, _⟩ := mem_ready.1 hi
          have := hdone i (Array.getElem?_eq_some_iff.1 ho).1
          rw [getD_both hun] at this; cases this
      · have hO : Own S w0 w1 (L ++ fents sp β 0) := by
          rw [fents_eq β sp sp 0 (fun j => by simp)]
          refine M.heap.perm M.nodup (fidx_nodup sp 0) (fun i hi => ?_)
          have h1 := (fidx_mem sp 0 i).1 hi
          simp only [Nat.sub_zero] at h1
          have hik : i < l.toArray.size := by
            rcases Nat.lt_or_ge i l.toArray.size with h | h
            · exact h
            · rw [List.getElem?_eq_none (by omega)] at h1; cases h1.2
          exact (M.mem i).2 ⟨hik, hdone i hik, h1.2⟩
        refine tail β w1 hO a' ⟨M.size, M.defers, fun t v hv => ?_⟩
        have hop : ∀ (j : Nat) (o : Oper), l[j]? = some o → j < l.toArray.size ∧ l.toArray[j]? = some o := fun j o hj =>
          ⟨by rw [hls]; exact (List.getElem?_eq_some_iff.1 hj).1, by simpa using hj⟩
        rcases fenv_get β _ sp 0 _ t v hv with ⟨j, o, m, e, h1, h2, h3, h4⟩ | ⟨hv, hnf⟩
        · obtain ⟨hjk, ho⟩ := hop j o h1
          rw [M.done j o _ t hjk (hdone j hjk) ho h2 h3, h4]
          simp [Sp.val]
        · rcases dets_get _ sp ρ t v hv with ⟨j, o, dp, h1, h2, h3⟩ | ⟨h1, h2⟩
          · obtain ⟨hjk, ho⟩ := hop j o h1
            rw [M.done j o _ t hjk (hdone j hjk) ho h2 h3]; rfl
          · by_cases hex : ∃ (j : Nat) (o : Oper), j < l.toArray.size ∧ l.toArray[j]? = some o ∧ o.dst = some t
            · obtain ⟨j, o, hjk, ho, hd⟩ := hex
              obtain ⟨s, hs⟩ : ∃ s, sp[j]? = some s := ⟨sp[j]'(by omega), by simp [show j < sp.length by omega]⟩
              cases s with
              | det u dp => exact absurd hd (h2 j o u dp (by simpa using ho) hs)
              | flt m e => exact absurd hd (hnf j o m e (by simpa using ho) hs)
            · exact M.rest t v h1 (fun j o hj _ ho hd => hex ⟨j, o, hj, ho, hd⟩)
    | succ f ih =>
      intro listed β Fl a' w1 hf M
      obtain ⟨i0, hi0, hl0⟩ : ∃ i, i < l.toArray.size ∧ listed.getD i false = false := by
        rcases Classical.em (∃ i, i < l.toArray.size ∧ listed.getD i false = false) with h | h
        · exact h
        · exfalso
          have : undone l.toArray.size listed = 0 := by
            unfold undone
            refine List.countP_eq_zero.2 fun i hi => ?_
            have hi' := List.mem_range.1 hi
            cases hb : listed.getD i false with
            | true => simp
            | false => exact absurd ⟨i, hi', hb⟩ h
          omega
      obtain ⟨j0, hj0, hr0⟩ := some_ready (n := n) M.inv.size (Nat.le_refl _) hch i0 hi0 hl0
      refine ⟨fun h => (by rw [h] at hr0; cases hr0), fun i hi => ?_⟩
      obtain ⟨hun, o, ho, _⟩ := mem_ready.1 hi
      have hik := (Array.getElem?_eq_some_iff.1 ho).1
      refine M.step rfl (by rw [htk]; exact h) hch (Nat.le_refl _) hbig hi hik (fun β' Fl' a'' w2 M' => ih _ β' Fl' a'' w2 ?_ M')
      have := undone_set hik hun
      omega
  exact main _ _ _ _ _ _ hfuel M0
end
end Go.Owl
/-! from Owl26 -/
/- Regions that draw: a state for each set of operations that were run. -/
namespace Go.Owl
section
variable {P : Program} {n : Nat} {D : List Deferred} {ρ ρ' : Env} {w w0 : World} {S : List Nat} {L : List Ent} {ops : Array Oper} {Q : Exit → Act → World → Prop} {fuel : Nat} {listed : Array Bool}
theorem WD.named (h : ∀ W : Nat → Array Bool → Env → World → Prop, W = WD P n D ops Q → W fuel listed ρ w) : WD P n D ops Q fuel listed ρ w := h _ rfl
theorem WD.cov (hc : Cov ρ ρ') (h : WD P n D ops Q fuel listed ρ' w) : WD P n D ops Q fuel listed ρ w := fun a ha => h a (ha.cov hc)
/-- One operation of those that may come next. -/
def WS (P : Program) (n : Nat) (D : List Deferred) (ops : Array Oper) (Q : Exit → Act → World → Prop) (i fuel : Nat) (listed : Array Bool) (ρ : Env) (w : World) : Prop :=
  ∀ a, Agr n D ρ a → wpOp P ops (Nrm Q) i (wpAny P .any ops (Nrm Q) fuel (listed.setIfInBounds i true)) a w
theorem WS.op {i : Nat} {oi : Oper} (hi : ops[i]? = some oi) (hg : oi.guard = none) (hd : dOK n oi.dst = true)
    (h : Op1 P n D oi ρ w (fun v w' => WD P n D ops Q fuel (listed.setIfInBounds i true) (ext ρ oi.dst v) w')) : WS P n D ops Q i fuel listed ρ w := by
  intro a ha
  refine wpOp_of hi ?_
  rw [if_pos (by simp [Region.wanted, hg])]
  exact (h a ha).wp fun v w' hR => hR _ (ha.put hd v)
theorem WD.all {rs : List Nat} (hr : Region.ready .any ops listed = rs) (hne : rs ≠ []) (h : ∀ i, i ∈ rs → WS P n D ops Q i fuel listed ρ w) : WD P n D ops Q (fuel + 1) listed ρ w := by
  subst hr
  exact fun a ha => ⟨fun h0 => absurd h0 hne, fun i hi => h i hi a ha⟩
theorem WD.all1 {i : Nat} (hr : Region.ready .any ops listed = [i]) (h : WS P n D ops Q i fuel listed ρ w) : WD P n D ops Q (fuel + 1) listed ρ w :=
  WD.all hr (by simp) fun k hk => by
    rcases List.mem_singleton.1 hk with rfl; exact h
theorem WD.all2 {i j : Nat} (hr : Region.ready .any ops listed = [i, j]) (h : WS P n D ops Q i fuel listed ρ w) (h2 : WS P n D ops Q j fuel listed ρ w) : WD P n D ops Q (fuel + 1) listed ρ w :=
  WD.all hr (by simp) fun k hk => by
    rcases List.mem_cons.1 hk with rfl | hk
    · exact h
    · rcases List.mem_singleton.1 hk with rfl; exact h2
end
end Go.Owl
/-! from Owl27 -/
/- Elements that hold slices: what hangs on other blocks, as one thing that is only read. -/
namespace Go.Owl
/-- What is known of a thing, and on which blocks that hangs. -/
structure Deep (α : Type) where
  ok : World → α → Prop
  ft : α → List Nat
  lt : ∀ (w : World) (a : α), ok w a → ∀ b ∈ ft a, b < w.heap.size
  fr : ∀ (T : List Nat) (w w' : World) (a : α), Fr T w w' → (∀ b ∈ ft a, b ∉ T) → ok w a → ok w' a
section
variable {α β : Type} {S : List Nat} {w0 w w' : World} {L : List Ent} {i j : Nat}
theorem Deep.st (D : Deep α) (a : α) : Stable (fun w => D.ok w a) (D.ft a) := ⟨fun w h => D.lt w a h, fun T w w' hf hT h => D.fr T w w' a hf hT h⟩
theorem Deep.fr0 (D : Deep α) {a : α} (h : D.ok w a) (hf : Fr [] w w') : D.ok w' a := D.fr [] w w' a hf (fun _ _ => by simp) h
def Deep.list (D : Deep α) : Deep (List α) where
  ok := fun w l => ∀ x ∈ l, D.ok w x
  ft := fun l => l.flatMap D.ft
  lt := fun w l h b hb => by
    obtain ⟨x, hx, hb⟩ := List.mem_flatMap.1 hb
    exact D.lt w x (h x hx) b hb
  fr := fun T w w' l hf hT h x hx => D.fr T w w' x hf (fun b hb => hT b (List.mem_flatMap.2 ⟨x, hx, hb⟩)) (h x hx)
def Deep.and (D E : Deep α) : Deep α where
  ok := fun w a => D.ok w a ∧ E.ok w a
  ft := fun a => D.ft a ++ E.ft a
  lt := fun w a h b hb => (List.mem_append.1 hb).elim (D.lt w a h.1 b) (E.lt w a h.2 b)
  fr := fun T w w' a hf hT h => ⟨D.fr T w w' a hf (fun b hb => hT b (List.mem_append.2 (.inl hb))) h.1, E.fr T w w' a hf (fun b hb => hT b (List.mem_append.2 (.inr hb))) h.2⟩
def Deep.on (D : Deep β) (g : α → β) : Deep α where
  ok := fun w a => D.ok w (g a)
  ft := fun a => D.ft (g a)
  lt := fun w a => D.lt w (g a)
  fr := fun T w w' a => D.fr T w w' (g a)
def Deep.arr (sz : Nat) (g : β → List Value) : Deep (Value × List β) where
  ok := fun w p => Arr w p.1 sz p.2.length (p.2.flatMap g)
  ft := fun p => footA p.1 (p.2.flatMap g)
  lt := fun w p => (Arr.stable p.1 sz p.2.length (p.2.flatMap g)).lt w
  fr := fun T w w' p hf hT h => (Arr.stable p.1 sz p.2.length (p.2.flatMap g)).fr T w w' hf hT h
def Ent.dp (D : Deep α) (a : α) : Ent := .ro (fun w => D.ok w a) (D.ft a) (D.st a)
theorem Own.dpO {D : Deep α} {a : α} (H : Own S w0 w L) (hi : L[i]? = some (Ent.dp D a)) : D.ok w a := H.ok i _ hi
theorem Deep.getD (D : Deep α) {l : List α} (h : D.list.ok w l) (d : α) (hd : D.ok w d) (i : Nat) : D.ok w (l.getD i d) := by
  rcases Nat.lt_or_ge i l.length with hi | hi
  · rw [show l.getD i d = l[i] by simp [List.getD, hi]]; exact h _ (List.getElem_mem hi)
  · rw [show l.getD i d = d by simp [List.getD, Nat.not_lt.2 hi]]; exact hd
theorem Deep.list_nil (D : Deep α) : D.list.ok w [] := fun x hx => by cases hx
theorem Deep.list_one (D : Deep α) {a : α} (h : D.ok w a) : D.list.ok w [a] := fun x hx => by
  rw [List.mem_singleton] at hx; subst hx; exact h
theorem Deep.list_snoc (D : Deep α) {l : List α} {a : α} (h : D.list.ok w l) (k : D.ok w a) : D.list.ok w (l ++ [a]) := fun x hx => by
  rcases List.mem_append.1 hx with hx | hx
  · exact h x hx
  · rw [List.mem_singleton] at hx; subst hx; exact k
/-- What hangs on the blocks of two things that are only read. -/
theorem Own.join {p q r : World → Prop} {F G K : List Nat} {sp : Stable p F} {sq : Stable q G} {sr : Stable r K} (H : Own S w0 w L) (hi : L[i]? = some (.ro p F sp)) (hj : L[j]? = some (.ro q G sq)) (hr : p w → q w → r w) (hs : ∀ b ∈ K, b ∈ F ∨ b ∈ G) :
    Own S w0 w (L ++ [.ro r K sr]) :=
  H.new' (Fr.refl _ _) (hr (H.ok i _ hi) (H.ok j _ hj)) (fun b hb => by cases hb) (fun b hb k f hk hfb => by
    rcases hs b hb with h | h
    · have hne : k ≠ i := fun e => by subst e; rw [hi] at hk; injection hk with hk; subst hk; cases hfb
      exact H.sep k i f _ hk hi hne b hfb h
    · have hne : k ≠ j := fun e => by subst e; rw [hj] at hk; injection hk with hk; subst hk; cases hfb
      exact H.sep k j f _ hk hj hne b hfb h)
/-- A list of such things, one longer. -/
theorem Own.dpSnoc {D : Deep α} {l : List α} {a : α} (H : Own S w0 w L) (hi : L[i]? = some (Ent.dp D.list l)) (hj : L[j]? = some (Ent.dp D a)) : Own S w0 w (L ++ [Ent.dp D.list (l ++ [a])]) :=
  H.join hi hj (fun h k => D.list_snoc h k) (fun b hb => by
    have hb' : b ∈ (l ++ [a]).flatMap D.ft := hb
    rw [List.flatMap_append, List.mem_append] at hb'
    rcases hb' with h | h
    · exact .inl h
    · rw [List.flatMap_cons, List.flatMap_nil, List.append_nil] at h; exact .inr h)
/-- A list of none. -/
theorem Own.dpNil (D : Deep α) (H : Own S w0 w L) : Own S w0 w (L ++ [Ent.dp D.list []]) :=
  H.new' (Fr.refl _ _) D.list_nil (fun b hb => by cases hb) (fun b hb => by cases hb)
end
end Go.Owl
/-! from Owl28 -/
/- Cells copied into a slice; slices with three bounds. -/
namespace Go.Owl
section
variable {P : Program} {n : Nat} {D : List Deferred} {ρ : Env} {w w0 : World} {R : Value → World → Prop} {dst : Option Tmp} {ty : TypeId} {pos : String} {af : Array Edge} {g : Option (Nat × Bool)}
variable {S : List Nat} {L : List Ent} {i : Nat} {t t' T T' : TypeId} {x y : Operand} {z : List Value} {sz by_ : Nat} {d : TypeDesc}
/-- What may be copied: its first k elements, for each k. -/
structure SrcC (P : Program) (w : World) (sz : Nat) (u : Value) (m : Nat) (ys : List Value) : Prop where
  len : (Builtin.lenOf u).run P w = .ok m w
  size : ys.length = m * sz
  cells : ∀ k, k ≤ m → (Builtin.firstCells sz k u).run P w = .ok (ys.take (k * sz)).toArray w
theorem SrcC.ofArr {u : Value} {m : Nat} {ys : List Value} (hA : Arr w u sz m ys) : SrcC P w sz u m ys := by
  obtain ⟨a0, cap, rfl, hn, hc, ha0, hsp⟩ := hA.form
  refine ⟨by simp [Builtin.lenOf], hA.len, fun k hk => ?_⟩
  cases a0 with
  | none =>
    have : ys = [] := List.eq_nil_of_length_eq_zero (by rw [hA.len, (ha0 rfl).1]; simp)
    subst this
    simp [Builtin.firstCells]
  | some ad =>
    by_cases hm0 : k = 0
    · subst hm0
      have := run_firstCells_some (P := P) w sz 0 ad m cap [] (by simp) (fun j v hj => by simp at hj)
      simpa using this
    have hs0 := hsp (by omega) ad rfl
    obtain ⟨b, o, s⟩ := ad
    simp at hs0; subst hs0
    refine run_firstCells_some w sz k ⟨b, o, none⟩ m cap (ys.take (k * sz)) ?_ (fun j v hj => ?_)
    · rw [List.length_take, hA.len]; exact Nat.min_eq_left (Nat.mul_le_mul_right _ hk)
    rw [Addr.add_at]
    have hj' : j < (ys.take (k * sz)).length := (List.getElem?_eq_some_iff.1 hj).1
    have hjy : j < ys.length := by rw [List.length_take] at hj'; omega
    have h1 := hA.cell j hjy
    rw [List.getElem?_take, if_pos (by rw [List.length_take] at hj'; omega)] at hj
    rw [← hj, ← h1]
    rfl
/-- A part of a row: dl cells from a on. -/
def Sub (u v : Value) (a dl : Nat) : Prop := ∃ ad cap, u = .slice ad dl cap ∧ (dl ≠ 0 → ad = some (sp v a))
theorem RowOK.stores {v : Value} {q a : Nat} {xs ys : List Value} (hr : RowOK w v t 1 q xs) (ha : a + ys.length ≤ q) (h1 : ∀ c ∈ ys, c.oneCell' = true) (hne : ys ≠ []) :
    ∃ w', (storeCells (sp v a) ys).run P w = .ok () w' ∧ RowOK w' v t 1 q (xs.take a ++ (ys ++ xs.drop (a + ys.length))) ∧ Fr v.ownBlock.toList w w' := by
  have hp : 0 < ys.length := List.length_pos_iff.2 hne
  obtain ⟨hl, ⟨rfl, rfl⟩ | ⟨gb, cap, pre, junk, rfl, hk, hn, hc, hj⟩⟩ := hr
  · omega
  · rw [Nat.mul_one] at hl
    have hst := run_storeCells_blk P gb (pre.length + a) t ys 0 _ w hk (by simp; omega) h1
    have e : List.take (pre.length + a + 0) (pre ++ (xs ++ junk)) ++ ys ++ List.drop (pre.length + a + 0 + ys.length) (pre ++ (xs ++ junk)) = pre ++ ((xs.take a ++ (ys ++ xs.drop (a + ys.length))) ++ junk) := by
      rw [Nat.add_zero, Nat.add_assoc, List.take_length_add_append, List.drop_length_add_append, List.take_append_of_le_length (by omega), List.drop_append_of_le_length (by omega)]
      simp only [List.append_assoc]
    rw [e] at hst
    refine ⟨_, hst, ⟨by simp only [List.length_append, List.length_take, List.length_drop]; omega, .inr ⟨gb, cap, pre, junk, rfl, hk.setRow _ (by simp only [List.length_append, List.length_take, List.length_drop]; omega), hn, hc, ?_⟩⟩, Fr.setRow _ _ _⟩
    simp only [List.length_append, List.length_take, List.length_drop] at hj ⊢; omega
/-- A slice of a slice, with a bound for its capacity. -/
def cutV3 (v : Value) (a b c sz : Nat) : Value := match v with
  | .slice ad _ _ => .slice (if c = a then ad else ad.map (·.add (a * sz))) (b - a) (c - a)
  | v => v
theorem Arr.upto {ad : Option Addr} {q cap c : Nat} {xs : List Value} (hA : Arr w (.slice ad q cap) sz q xs) (hc : c ≤ q) : Arr w (.slice ad c c) sz c (xs.take (c * sz)) := by
  obtain ⟨a0, cap', e, hn, hc', ha0, hsp⟩ := hA.form
  injection e with e1 e2 e3; subst e1; subst e3
  have hle : c * sz ≤ xs.length := by rw [hA.len]; exact Nat.mul_le_mul_right _ hc
  refine ⟨⟨ad, c, rfl, Nat.le_refl _, by omega, fun h => ?_, fun h0 => hsp (by omega)⟩, by rw [List.length_take]; omega, fun j hj => ?_⟩
  · have := ha0 h; omega
  · rw [List.length_take] at hj
    rw [List.getElem?_take, if_pos (by omega)]
    have h1 := hA.cell j (by omega)
    cases ad with
    | none => exact h1
    | some ad => exact h1
theorem Arr.cut3 {v : Value} {q a b c : Nat} {xs : List Value} (hA : Arr w v sz q xs) (hab : a ≤ b) (hbc : b ≤ c) (hc : c ≤ q) : Arr w (cutV3 v a b c sz) sz (b - a) (cutL xs a b sz) := by
  obtain ⟨ad, cap, rfl, _⟩ := hA.form
  have h := (hA.upto hc).cut hab hbc
  have e : cutL (xs.take (c * sz)) a b sz = cutL xs a b sz := by
    unfold cutL
    rw [List.drop_take, List.take_take]
    congr 1
    rw [← Nat.sub_mul]
    exact Nat.min_eq_left (Nat.mul_le_mul_right _ (by omega))
  rw [e] at h
  exact h
theorem Arr.cut3M {α : Type} {f : α → Value} {l : List α} {v : Value} {q a b c : Nat} (hA : Arr w v 1 q (l.map f)) (hab : a ≤ b) (hbc : b ≤ c) (hc : c ≤ q) : Arr w (cutV3 v a b c 1) 1 (b - a) (((l.drop a).take (b - a)).map f) := by
  rw [← cutL_map]; exact hA.cut3 hab hbc hc
theorem Sub.cut3 {v : Value} {q a b c : Nat} {xs : List Value} (hA : Arr w v 1 q xs) (hab : a ≤ b) (hbc : b ≤ c) (hc : c ≤ q) : Sub (cutV3 v a b c 1) v a (b - a) := by
  obtain ⟨ad, cap, rfl, hn, hcm, ha0, hsp⟩ := hA.form
  refine ⟨_, _, rfl, fun h => ?_⟩
  rw [if_neg (by omega)]
  cases ad with
  | none => have := ha0 rfl; omega
  | some ad =>
    have := hsp (by omega) ad rfl
    obtain ⟨bb, o, s⟩ := ad
    simp at this; subst this
    simp only [Option.map_some, Addr.add_at, sp, sBlk, sOff, Nat.mul_one]
end
end Go.Owl
/-! from Owl33 -/
/- clear of a slice; blocks with a table behind their first cells. -/
namespace Go.Owl
section
variable {P : Program} {n : Nat} {D : List Deferred} {ρ : Env} {w w0 : World} {R : Value → World → Prop} {dst : Option Tmp} {ty : TypeId} {pos : String} {af : Array Edge} {g : Option (Nat × Bool)}
variable {S : List Nat} {L : List Ent} {i : Nat} {t t' T T' : TypeId} {x y : Operand} {z : List Value} {sz by_ : Nat} {d : TypeDesc}
theorem Sub.cut {v : Value} {q a b : Nat} {xs : List Value} (hA : Arr w v 1 q xs) (hab : a ≤ b) (hb : b ≤ q) : Sub (cutV v a b 1) v a (b - a) := by
  obtain ⟨ad, cap, rfl, hn, hcm, ha0, hsp⟩ := hA.form
  refine ⟨_, _, rfl, fun h => ?_⟩
  rw [if_neg (by omega)]
  cases ad with
  | none => have := ha0 rfl; omega
  | some ad =>
    have := hsp (by omega) ad rfl
    obtain ⟨bb, o, s⟩ := ad
    simp at this; subst this
    simp only [Option.map_some, Addr.add_at, sp, sBlk, sOff, Nat.mul_one]
theorem zeroCells1 (z : Value) (hz : z.cells = #[z]) (n : Nat) : (Builtin.zeroCells z.cells n).toList = List.replicate n z := by
  rw [hz]
  simp [Builtin.zeroCells]
  apply List.ext_getElem
  · simp
  · intro i h1 h2
    simp [Nat.mod_one]
theorem op_clearM {α : Type} {f : α → Value} {l : List α} {c : α} {u v : Value} {q a dl : Nat} (H : Own S w0 w L) (hu : P.underlying T = some (.slice t)) (hz : zvB P t = some (f c)) (hx : ev ρ x = some u)
    (hi : L[i]? = some (Ent.row v t 1 q (l.map f))) (hd : Sub u v a dl) (ha : a + dl ≤ q) (h1 : (f c).oneCell' = true) (hc : (f c).cells = #[f c])
    (h : ∀ w', Own S w0 w' (L.set i (.row v t 1 q ((l.take a ++ (List.replicate dl c ++ l.drop (a + dl))).map f))) → R (.tuple #[]) w') :
    Op1 P n D ⟨dst, .call { callee := .builtin .clear, args := #[x], argTypes := #[T] }, ty, pos, af, g⟩ ρ w R := by
  obtain ⟨ad, cap, rfl, had⟩ := hd
  have hzr : ∀ w, (zeroValue t).run P w = .ok (f c) w := fun w => run_zv hz
  by_cases h0 : dl = 0
  · subst h0
    have hrow := h w (by
      rw [List.replicate_zero, List.nil_append, Nat.add_zero, List.take_append_drop]
      have hh := List.getElem?_eq_some_iff.1 hi
      rw [show L.set i (Ent.row v t 1 q (l.map f)) = L by rw [← hh.2]; exact List.set_getElem_self hh.1]; exact H)
    refine Op1.val (w' := w) (fun a ha => ?_) hrow
    cases ad <;> simp [execOp, resolve, invoke, builtin, ha.ev hx, Builtin.clear_, run_underlying hu]
  · have := had h0; subst this
    have hrep : ∀ e ∈ List.replicate dl (f c), e.oneCell' = true := fun e he => by rw [List.eq_of_mem_replicate he]; exact h1
    obtain ⟨w', h2, h3, h4⟩ := (H.row hi).stores (P := P) (a := a) (ys := List.replicate dl (f c)) (by rw [List.length_replicate]; omega) hrep (fun e => by simp at e; exact h0 e)
    rw [List.length_replicate] at h3
    have e3 : (l.map f).take a ++ (List.replicate dl (f c) ++ (l.map f).drop (a + dl)) = (l.take a ++ (List.replicate dl c ++ l.drop (a + dl))).map f := by
      rw [List.map_append, List.map_append, List.map_take, List.map_drop, List.map_replicate]
    rw [e3] at h3
    refine Op1.val (w' := w') (fun k hk => ?_) (h w' (H.upd hi h4 (fun b hb => by simpa [Ent.block] using hb) h3 (fun b hb => .inl hb)))
    obtain ⟨m, rfl⟩ : ∃ m, dl = m + 1 := ⟨dl - 1, by omega⟩
    simp [execOp, resolve, invoke, builtin, hk.ev hx, Builtin.clear_, run_underlying hu, hzr, zeroCells1 _ hc, h2]
end
end Go.Owl
/-! from Owl32 -/
/- Regions that draw: what only reads is taken first, what acts comes in each order that is left. -/
namespace Go.Owl
section
variable {P : Program} {n : Nat} {D : List Deferred} {ρ ρ' : Env} {w w0 : World} {S : List Nat} {L : List Ent} {ops : Array Oper} {Q : Exit → Act → World → Prop} {fuel : Nat} {listed : Array Bool} {Sx : World → Prop}
/-- In the midst of a region that draws; Sx holds behind each operation. -/
def WH (P : Program) (n : Nat) (D : List Deferred) (ops : Array Oper) (Q : Exit → Act → World → Prop) (Sx : World → Prop) (fuel : Nat) (listed : Array Bool) (ρ : Env) (w : World) : Prop :=
  ∀ a, Agr n D ρ a → wpAnyH P .any ops (Nrm Q) Sx fuel listed a w
theorem WC.held {id : Nat} {l : List Oper} (N : Nat) (hN : l.length = N) (hm : P.follows .mixedOrders = true) (H : Own S w0 w L) (Sx : World → Prop) (h : ∀ w1, Own S w0 w1 L → WH P n D l.toArray Q Sx N (Array.replicate N false) ρ w1) : WC P n D (.region id l.toArray true) Q ρ w := by
  subst hN
  exact fun a ha => wp_region_any hm (wpAny_nrm _ _ _ _ (wpAny_of_held _ _ _ _ (by have h1 := h w.drew (H.fr' (Fr.drew w)) a ha; rw [show l.length = l.toArray.size from (List.size_toArray ..).symm] at h1; exact h1)))
theorem WH.named (h : ∀ W : Nat → Array Bool → Env → World → Prop, W = WH P n D ops Q Sx → W fuel listed ρ w) : WH P n D ops Q Sx fuel listed ρ w := h _ rfl
theorem WH.cov (hc : Cov ρ ρ') (h : WH P n D ops Q Sx fuel listed ρ' w) : WH P n D ops Q Sx fuel listed ρ w := fun a ha => h a (ha.cov hc)
theorem WH.done (hr : Region.ready .any ops listed = []) (h : WQ n D Q .normal ρ w) : WH P n D ops Q Sx fuel listed ρ w := fun a ha => wpAnyH_done hr ⟨rfl, h a ha⟩ fuel
/-- The operation is wanted. -/
def Wnt (ops : Array Oper) (ρ : Env) (o : Oper) : Prop := o.guard = none ∨ ∃ j t want b, o.guard = some (j, want) ∧ (ops[j]?).bind (·.dst) = some t ∧ Env.get ρ t = some (.bool b) ∧ b = want
def Unw (ops : Array Oper) (ρ : Env) (o : Oper) : Prop := ∃ j t want, o.guard = some (j, want) ∧ (ops[j]?).bind (·.dst) = some t ∧ (Env.get ρ t = some undef ∨ ∃ b, Env.get ρ t = some (.bool b) ∧ b = !want)
theorem Wnt.yes {o : Oper} {a : Act} (h : Wnt ops ρ o) (ha : Agr n D ρ a) : Region.wanted o (yielded ops a.tmps) = true := by
  rcases h with hg | ⟨j, t, want, b, hg, hj, hv, hb⟩
  · simp [Region.wanted, hg]
  · simp [Region.wanted, hg, yielded_of ha hj hv, sees, hb]
theorem Unw.no {o : Oper} {a : Act} (h : Unw ops ρ o) (ha : Agr n D ρ a) : Region.wanted o (yielded ops a.tmps) = false := by
  obtain ⟨j, t, want, hg, hj, hv | ⟨b, hv, hb⟩⟩ := h
  · simp [Region.wanted, hg, yielded_of ha hj hv, sees, undef]
  · subst hb; cases want <;> simp [Region.wanted, hg, yielded_of ha hj hv, sees]
/-- Operations that yield a value, or halt. -/
def valOp (o : Oper) : Bool := match o.op with
  | .move _ | .assign _ | .pick .. | .load .. | .binOp .. | .unOp .. | .convert .. | .fieldAddr .. | .field .. | .indexAddr .. | .index .. | .extract .. | .slice .. | .build .. => true
  | _ => false
theorem run_v {s : Sem Value} {x : Next} {w w' : World} (h : ((do pure (Next.value (← s)) : Sem Next)).run P w = .ok x w') : ∃ u, x = .value u := by
  rw [Sem.run_bind] at h
  cases hs : s.run P w with
  | halt y w2 => rw [hs] at h; cases h
  | ok u w2 =>
    rw [hs] at h
    simp only [Result.andThen_ok, Sem.run_pure] at h
    cases h; exact ⟨u, rfl⟩
theorem exec_val {o : Oper} (h : valOp o = true) {e : Operand → Value} {x : Next} {w w' : World} (hx : (execOp e o).run P w = .ok x w') : ∃ u, x = .value u := by
  obtain ⟨dst, op, ty, pos, af, g⟩ := o
  cases op <;> first
    | (cases h; done)
    | exact run_v hx
    | (simp only [execOp, Sem.run_pure] at hx; cases hx; exact ⟨_, rfl⟩)
    | (simp only [execOp, Sem.run_bind] at hx
       rename_i c a b
       cases hs : (asBool (e c)).run P w with
       | halt y w2 => rw [hs] at hx; cases hx
       | ok u w2 => rw [hs] at hx; simp only [Result.andThen_ok, Sem.run_pure] at hx; cases hx; exact ⟨_, rfl⟩)
/-- What only reads, ahead of what acts. -/
theorem WH.take {i : Nat} {oi : Oper} {v : Value} (hi : ops[i]? = some oi) (hv : valOp oi = true) (hg : Wnt ops ρ oi) (hd : dOK n oi.dst = true) (hc : chkEarly ops listed i = true) (hS : Sx w)
    (hy : ∀ w1, Sx w1 → Op1 P n D oi ρ w1 (fun u w2 => u = v ∧ w2 = w1)) (h : WH P n D ops Q Sx fuel (listed.setIfInBounds i true) (ext ρ oi.dst v) w) : WH P n D ops Q Sx (fuel + 1) listed ρ w := by
  intro a ha
  unfold chkEarly at hc
  simp only [Bool.and_eq_true] at hc
  refine wpAnyH_take hi hc.1.1 hc.1.2 hc.2 (fun c a w h => absurd h.1 (by intro h; cases h)) (.inl ⟨hg.yes ha, fun w1 h1 => ?_⟩) hS (h _ (ha.put hd v))
  have h2 := hy w1 h1 a ha
  cases hr : (execOp a.eval oi).run P w1 with
  | halt y w2 => rw [hr] at h2; exact h2.elim
  | ok x w2 =>
    obtain ⟨u, rfl⟩ := exec_val hv hr
    rw [hr] at h2
    obtain ⟨rfl, rfl⟩ := h2
    rfl
theorem WH.pass {i : Nat} {oi : Oper} (hi : ops[i]? = some oi) (hg : Unw ops ρ oi) (hd : dOK n oi.dst = true) (hc : chkEarly ops listed i = true) (hS : Sx w)
    (h : WH P n D ops Q Sx fuel (listed.setIfInBounds i true) (ext ρ oi.dst undef) w) : WH P n D ops Q Sx (fuel + 1) listed ρ w := by
  intro a ha
  unfold chkEarly at hc
  simp only [Bool.and_eq_true] at hc
  exact wpAnyH_take hi hc.1.1 hc.1.2 hc.2 (fun c a w h => absurd h.1 (by intro h; cases h)) (.inr ⟨hg.no ha, rfl⟩) hS (h _ (ha.put hd undef))
/-- One operation of those that may come next. -/
def WHS (P : Program) (n : Nat) (D : List Deferred) (ops : Array Oper) (Q : Exit → Act → World → Prop) (Sx : World → Prop) (i fuel : Nat) (listed : Array Bool) (ρ : Env) (w : World) : Prop :=
  ∀ a, Agr n D ρ a → wpOp P ops (Nrm Q) i (fun a' w' => Sx w' ∧ wpAnyH P .any ops (Nrm Q) Sx fuel (listed.setIfInBounds i true) a' w') a w
theorem WHS.op {i : Nat} {oi : Oper} (hi : ops[i]? = some oi) (hg : Wnt ops ρ oi) (hd : dOK n oi.dst = true)
    (h : Op1 P n D oi ρ w (fun v w' => Sx w' ∧ WH P n D ops Q Sx fuel (listed.setIfInBounds i true) (ext ρ oi.dst v) w')) : WHS P n D ops Q Sx i fuel listed ρ w := by
  intro a ha
  refine wpOp_of hi ?_
  rw [if_pos (hg.yes ha)]
  exact (h a ha).wp fun v w' hR => ⟨hR.1, hR.2 _ (ha.put hd v)⟩
theorem WH.all {rs : List Nat} (hr : Region.ready .any ops listed = rs) (hne : rs ≠ []) (h : ∀ i, i ∈ rs → WHS P n D ops Q Sx i fuel listed ρ w) : WH P n D ops Q Sx (fuel + 1) listed ρ w :=
  fun a ha => wpAnyH_all hr hne fun i hi => h i hi a ha
theorem WH.all1 {i : Nat} (hr : Region.ready .any ops listed = [i]) (h : WHS P n D ops Q Sx i fuel listed ρ w) : WH P n D ops Q Sx (fuel + 1) listed ρ w :=
  WH.all hr (by simp) fun k hk => by
    rcases List.mem_singleton.1 hk with rfl; exact h
theorem WH.all2 {i j : Nat} (hr : Region.ready .any ops listed = [i, j]) (h : WHS P n D ops Q Sx i fuel listed ρ w) (h2 : WHS P n D ops Q Sx j fuel listed ρ w) : WH P n D ops Q Sx (fuel + 1) listed ρ w :=
  WH.all hr (by simp) fun k hk => by
    rcases List.mem_cons.1 hk with rfl | hk
    · exact h
    · rcases List.mem_singleton.1 hk with rfl; exact h2
/-- What is known of a slice in another world serves too. -/
theorem op_indexAddrW {R : Value → World → Prop} {dst : Option Tmp} {ty : TypeId} {pos : String} {af : Array Edge} {g : Option (Nat × Bool)} {x y : Operand} {z : List Value} {sz by_ : Nat} {t : TypeId} {w2 : World} {v : Value} {e : TypeId} {k : IntKind} {m q : Nat} {xs : List Value} (hu : P.underlying t = some (.slice e)) (hz : tiB P e = some (z, sz, by_)) (hx : ev ρ x = some v) (hA : Arr w2 v sz q xs)
    (hi : ev ρ y = some (.int k (m : Int))) (hm : m < q) (h : R (.pointer (some (sp v (m * sz)))) w) : Op1 P n D ⟨dst, .indexAddr t x y, ty, pos, af, g⟩ ρ w R := by
  obtain ⟨a0, cap, rfl, hn, hc, ha0, hsp⟩ := hA.form
  cases a0 with
  | none => have := (ha0 rfl).1; omega
  | some ad =>
    have hs0 := hsp (by omega) ad rfl
    refine Op1.val (fun a ha => ?_) h
    have e1 : ad.add (m * sz) = sp (.slice (some ad) q cap) (m * sz) := by
      obtain ⟨b, o, s⟩ := ad; simp at hs0; subst hs0; rw [Addr.add_at]; rfl
    have h1 : ((0 : Int) ≤ (m : Int) ∧ (m : Int) < (q : Int)) := by omega
    simp [execOp, ha.ev hx, ha.ev hi, Instr.indexAt, asIntOf, run_underlying hu, h1, hm, run_sizeOf hz, e1]
theorem op_indexAddr1W {R : Value → World → Prop} {dst : Option Tmp} {ty : TypeId} {pos : String} {af : Array Edge} {g : Option (Nat × Bool)} {x y : Operand} {z : List Value} {by_ : Nat} {t : TypeId} {w2 : World} {v : Value} {e : TypeId} {k : IntKind} {m q : Nat} {xs : List Value} (hu : P.underlying t = some (.slice e)) (hz : tiB P e = some (z, 1, by_)) (hx : ev ρ x = some v) (hA : Arr w2 v 1 q xs)
    (hi : ev ρ y = some (.int k (m : Int))) (hm : m < q) (h : R (.pointer (some (sp v m))) w) : Op1 P n D ⟨dst, .indexAddr t x y, ty, pos, af, g⟩ ρ w R :=
  op_indexAddrW hu hz hx hA hi hm (by rw [Nat.mul_one]; exact h)
end
end Go.Owl
/-! from OwlUpto -/
/- Arguments of bounded bulk, opened; the row's proof of a statement of the second form. -/
namespace Go.Owl
open Go.ChangeShapes Go.WideShapes Go.RowKit
abbrev bulk {H : Type} (d : DataW H) : Nat := Go.Proofs.YtnngbnenekjffaaDoor.Rows.uptoBulk d
abbrev bulkAll {H : Type} (l : List (DataW H)) : Nat := Go.Proofs.YtnngbnenekjffaaDoor.Rows.uptoBulkAll l
theorem bulk_one {H : Type} (d : DataW H) : 1 ≤ bulk d := by
  cases d with
  | lit l => cases l <;> simp [bulk, Go.Proofs.YtnngbnenekjffaaDoor.Rows.uptoBulk]
  | nil => simp [bulk, Go.Proofs.YtnngbnenekjffaaDoor.Rows.uptoBulk]
  | ptr d => simp [bulk, Go.Proofs.YtnngbnenekjffaaDoor.Rows.uptoBulk]
  | slice elems spare => simp [bulk, Go.Proofs.YtnngbnenekjffaaDoor.Rows.uptoBulk]
  | agg parts => simp [bulk, Go.Proofs.YtnngbnenekjffaaDoor.Rows.uptoBulk]
  | iface t d => simp [bulk, Go.Proofs.YtnngbnenekjffaaDoor.Rows.uptoBulk]
  | map entries => simp [bulk, Go.Proofs.YtnngbnenekjffaaDoor.Rows.uptoBulk]
  | held h => simp [bulk, Go.Proofs.YtnngbnenekjffaaDoor.Rows.uptoBulk]
theorem bulkAll_cons {H : Type} (d : DataW H) (l : List (DataW H)) : bulkAll (d :: l) = bulk d + bulkAll l := by simp only [bulkAll, Go.Proofs.YtnngbnenekjffaaDoor.Rows.uptoBulkAll, bulk]
theorem bulk_mem {H : Type} {d : DataW H} : ∀ {l : List (DataW H)}, d ∈ l → bulk d ≤ bulkAll l
  | [], h => by cases h
  | x :: r, h => by
    rw [bulkAll_cons]
    rcases List.mem_cons.1 h with rfl | h
    · omega
    · have := bulk_mem h; omega
theorem bulk_len {H : Type} : ∀ (l : List (DataW H)), l.length ≤ bulkAll l
  | [] => Nat.zero_le _
  | x :: r => by have := bulk_one x; have := bulk_len r; rw [bulkAll_cons, List.length_cons]; omega
theorem bulk_slice {H : Type} (l r : List (DataW H)) : bulk (.slice l r) = bulkAll l + bulkAll r + 1 := by simp only [bulk, bulkAll, Go.Proofs.YtnngbnenekjffaaDoor.Rows.uptoBulk]
theorem bulk_agg {H : Type} (l : List (DataW H)) : bulk (.agg l) = bulkAll l + 1 := by simp only [bulk, bulkAll, Go.Proofs.YtnngbnenekjffaaDoor.Rows.uptoBulk]
theorem bulk_str {H : Type} (l : List UInt8) : bulk (DataW.lit (H := H) (.string l)) = l.length + 1 := by simp [bulk, Go.Proofs.YtnngbnenekjffaaDoor.Rows.uptoBulk]
/-- What is read at a type has this form, where its bulk is bounded. -/
def OpensU (P : Program) (t : TypeId) {α : Type} (f : α → List Value) (ok : World → α → Prop) : Prop :=
  ∀ (H : Type) (enc : TypeId × Value → H) (w : World) (base : Nat) (spare : Nat → Bool) (held : Bool) (fuel : Nat) (cs : List Value) (x : DataW H × List MemPlace),
    DataW.trod enc P w base spare held fuel t cs = some x → (∀ k ∈ x.1.weights P t, k ≤ reachBytes) → bulk x.1 ≤ 1048576 → ∃ a, cs = f a ∧ ok w a
section
variable {P : Program} {t e : TypeId}
theorem Opens.up {α : Type} {f : α → List Value} {ok : World → α → Prop} (h : Opens P t f ok) : OpensU P t f ok :=
  fun H enc w base spare held fuel cs x hx hw _ => h H enc w base spare held fuel cs x hx hw
theorem OpensU.map {α β : Type} {f : α → List Value} {ok : World → α → Prop} {f' : β → List Value} {ok' : World → β → Prop} (h : OpensU P t f ok) (g : α → β) (hf : ∀ a, f a = f' (g a)) (hk : ∀ w a, ok w a → ok' w (g a)) : OpensU P t f' ok' := by
  intro H enc w base spare held fuel cs x hx hw hb
  obtain ⟨a, h1, h2⟩ := h H enc w base spare held fuel cs x hx hw hb
  exact ⟨g a, h1.trans (hf a), hk w a h2⟩
theorem opensU_str (ht : P.underlying t = some .string) : OpensU P t (fun l : List UInt8 => [str l]) (fun _ l => l.length ≤ 1048576) := by
  intro H enc w base spare held fuel cs x hx hw hb
  obtain ⟨s, rfl, rfl, -⟩ := DataW.trod_string ht hx
  refine ⟨s.data.toList, by simp [str], ?_⟩
  rw [bulk_str] at hb
  omega
theorem opensU_slice {β : Type} {g : β → List Value} {okE : World → β → Prop} {sz by_ : Nat} (ht : P.underlying t = some (.slice e)) (hE : OpensU P e g okE) (hg : ∀ b, (g b).length = sz) (hsz : P.cellsOf e = sz) (hs0 : 0 < sz) (hby : P.bytesOf e = by_) :
    OpensU P t (fun p : Value × List β => [p.1]) (fun w p => Arr w p.1 sz p.2.length (p.2.flatMap g) ∧ (∀ b ∈ p.2, okE w b) ∧ p.2.length * by_ ≤ 140737488351232 ∧ p.2.length ≤ 1048576) := by
  intro H enc w base spare held fuel cs x hx hw hbk
  rcases Deep.open_slice ht hx with ⟨rfl, rfl⟩ | ⟨a, len, cap, m, n, D, Pl, rfl, hb, hl, hm, hmm, rfl, hel⟩
  · exact ⟨(.slice none 0 0, []), rfl, Arr.nil w sz, (fun b hb => by cases hb), (by simp), (by simp)⟩
  · have hlm : len ≤ m := by rw [hmm]; split <;> omega
    simp only [DataW.weights, ht] at hw
    rw [bulk_slice] at hbk
    have hbe : ∀ i, i < len → bulk (D i) ≤ 1048576 := fun i hi => by
      have h1 := bulk_mem (l := (List.range len).map D) (List.mem_map.2 ⟨i, List.mem_range.2 hi, rfl⟩)
      omega
    have hbl : len ≤ 1048576 := by
      have h1 := bulk_len ((List.range len).map D)
      rw [List.length_map, List.length_range] at h1
      omega
    have hwl := hw _ (List.mem_cons_self ..)
    have each : ∀ i, i < len → ∃ b, okE w b ∧ ∀ k, k < sz → w.cell? ((a.add (i * sz)).add k) = (g b)[k]? := fun i hi => by
      obtain ⟨cs', h1, h2⟩ := hel i (by omega)
      have hwi : ∀ k ∈ (D i).weights P e, k ≤ reachBytes := fun k hk => hw k (List.mem_cons_of_mem _ (List.mem_append.2 (.inl (weightsAll_mem (List.mem_map.2 ⟨i, List.mem_range.2 hi, rfl⟩) k hk))))
      obtain ⟨b, hb1, hb2⟩ := hE H enc w base spare held n cs' _ h2 hwi (hbe i hi)
      subst hb1
      obtain ⟨hl1, h3⟩ := cells?_get h1
      rw [hsz] at h3
      exact ⟨b, hb2, fun k hk => by rw [← h3 k hk]⟩
    let F : Fin len → β := fun i => Classical.choose (each i.1 i.2)
    have hF : ∀ i : Fin len, okE w (F i) ∧ ∀ k, k < sz → w.cell? ((a.add (i.1 * sz)).add k) = (g (F i))[k]? := fun i => Classical.choose_spec (each i.1 i.2)
    have hspot : len ≠ 0 → a.spot = none := fun h0 => by
      have h1 := (hF ⟨0, by omega⟩).2 0 hs0
      simp only [Nat.zero_mul, add0] at h1
      exact spot_none (h1.trans (List.getElem?_eq_getElem (by rw [hg]; exact hs0)))
    refine ⟨(.slice (some a) len cap, List.ofFn F), rfl, ⟨⟨some a, cap, by simp, by simpa using hl, hm, (fun h => by cases h), fun h0 ad had => ?_⟩, ?_, ?_⟩, ?_, ?_, by simpa using hbl⟩
    · injection had with had; subst had; exact hspot (by simpa using h0)
    · exact flatMap_len hg _
    · intro j hj
      rw [flatMap_len hg, List.length_ofFn] at hj
      have hi : j / sz < len := Nat.div_lt_of_lt_mul (by rw [Nat.mul_comm]; exact hj)
      have hk : j % sz < sz := Nat.mod_lt _ hs0
      have ej : j = j / sz * sz + j % sz := by rw [Nat.mul_comm]; exact (Nat.div_add_mod j sz).symm
      have h1 := (hF ⟨j / sz, hi⟩).2 (j % sz) hk
      have h2 := flatMap_at hg (List.ofFn F) (j / sz) (j % sz) (F ⟨j / sz, hi⟩) (by rw [List.getElem?_ofFn]; simp [hi]) hk
      rw [← ej] at h2
      rw [h2, ← h1]
      have hs := hspot (fun e0 => by rw [e0] at hi; exact absurd hi (Nat.not_lt_zero _))
      obtain ⟨b, o, s⟩ := a
      simp at hs; subst hs
      rw [Addr.add_at, Addr.add_at, Nat.add_assoc, ← ej]
      rfl
    · intro b hb
      rw [List.mem_ofFn] at hb
      obtain ⟨i, rfl⟩ := hb
      exact (hF i).1
    · have h5 : len * by_ ≤ reachBytes := by
        refine Nat.le_trans ?_ hwl
        rw [hby]; refine Nat.mul_le_mul_right _ ?_
        simp
      simpa [reachBytes] using h5

def OpensFU (P : Program) (fs : List Field) (o : Nat) {α : Type} (f : α → List Value) (ok : World → α → Prop) : Prop :=
  ∀ (H : Type) (enc : TypeId × Value → H) (w : World) (base : Nat) (spare : Nat → Bool) (held : Bool) (n : Nat) (cs : List Value) (xs : List (DataW H × List MemPlace)),
    (∀ (i : Nat) (g : Field), fs[i]? = some g → DataW.trod enc P w base spare held n g.type ((cs.drop g.offset).take (P.cellsOf g.type)) = xs[i]?) → xs.length = fs.length →
    (∀ k ∈ DataW.weightsEach P (fs.map (·.type)) (xs.map (·.1)), k ≤ reachBytes) → cs.length = o + (fs.map fun g => P.cellsOf g.type).sum → bulkAll (xs.map (·.1)) ≤ 1048576 → ∃ a, cs.drop o = f a ∧ ok w a
theorem opensFU_nil {o : Nat} : OpensFU P [] o (fun _ : Unit => []) (fun _ _ => True) := by
  intro H enc w base spare held n cs xs _ _ _ hl _
  exact ⟨(), List.drop_of_length_le (by simp at hl; omega), trivial⟩
theorem opensFU_cons {α β : Type} {f0 : Field} {fs : List Field} {o k : Nat} {g : β → List Value} {okg : World → β → Prop} {f : α → List Value} {ok : World → α → Prop} (ho : f0.offset = o) (hk : P.cellsOf f0.type = k) (hg : OpensU P f0.type g okg)
    (hf : OpensFU P fs (o + k) f ok) : OpensFU P (f0 :: fs) o (fun p : β × α => g p.1 ++ f p.2) (fun w p => okg w p.1 ∧ ok w p.2) := by
  intro H enc w base spare held n cs xs hx hl hw hc hbk
  cases xs with
  | nil => simp at hl
  | cons x xs =>
    simp only [List.map_cons, DataW.weightsEach, List.mem_append] at hw
    simp only [List.map_cons, List.sum_cons, hk] at hc
    rw [List.map_cons, bulkAll_cons] at hbk
    have h0 := hx 0 f0 rfl
    rw [ho, hk] at h0
    obtain ⟨b, hb1, hb2⟩ := hg H enc w base spare held n _ x (by simpa using h0) (fun k hk => hw k (.inl hk)) (by omega)
    obtain ⟨a, ha1, ha2⟩ := hf H enc w base spare held n cs xs (fun i q hi => by simpa using hx (i + 1) q (by simpa using hi)) (by simpa using hl) (fun k hk => hw k (.inr hk)) (by omega) (by omega)
    refine ⟨(b, a), ?_, hb2, ha2⟩
    show cs.drop o = g b ++ f a
    rw [← hb1, ← ha1, ← List.drop_drop, List.take_append_drop]
theorem opensU_struct {α : Type} {fs : List Field} {f : α → List Value} {ok : World → α → Prop} (ht : P.underlying t = some (.struct fs.toArray)) (hc : P.cellsOf t = (fs.map fun g => P.cellsOf g.type).sum) (hf : OpensFU P fs 0 f ok) : OpensU P t f ok := by
  intro H enc w base spare held fuel cs x hx hw hbk
  obtain ⟨xs, n, rfl, rfl, hl, hlen, hfs⟩ := DataW.trod_struct ht hx
  simp only [DataW.weights, ht] at hw
  rw [bulk_agg] at hbk
  obtain ⟨a, h1, h2⟩ := hf H enc w base spare held n cs xs (fun i g hi => hfs i g (by simpa using hi)) (by simpa using hlen) (by simpa using hw) (by omega) (by omega)
  exact ⟨a, by simpa using h1, h2⟩

section
variable {H : Type} {enc : TypeId × Value → H} {w : World} {base b0 : Nat} {spare : Nat → Bool} {held : Bool} {r : Reach} {v : Value} {d : DataW H} {ps : List MemPlace}
theorem argU_scal {α : Type} {g : α → Value} {ok : World → α → Prop} (h : OpensU P t (fun a => [g a]) ok) (hu : (match P.underlying t with | some (.int _) | some .string | some .bool | some (.slice _) => true | _ => false) = true)
    (hval : Value.okWide P w r b0 t v) (hd : DataW.Trod enc P w base spare held t v d ps) (hw : ∀ k ∈ d.weights P t, k ≤ reachBytes) (hb : bulk d ≤ 1048576) : ∃ a, v = g a ∧ ok w a := by
  have hv : v.cells.toList = [v] := by
    split at hu
    · rename_i k hk; obtain ⟨n, rfl⟩ := okWide_int hk hval; rfl
    · rename_i hk; obtain ⟨n, rfl⟩ := okWide_string hk hval; rfl
    · rename_i hk; obtain ⟨n, rfl⟩ := okWide_bool hk hval; rfl
    · rename_i k hk; obtain ⟨a, l, c, rfl⟩ := okWide_slice hk hval; rfl
    · cases hu
  obtain ⟨fuel, hf⟩ := hd
  obtain ⟨a, h1, h2⟩ := h H enc w base spare held fuel _ _ hf hw hb
  rw [hv] at h1
  exact ⟨a, by simpa using h1, h2⟩
theorem argU_struct {α : Type} {f : α → List Value} {ok : World → α → Prop} {fs : Array Field} (hu : P.underlying t = some (.struct fs)) (h : OpensU P t f ok)
    (hval : Value.okWide P w r b0 t v) (hd : DataW.Trod enc P w base spare held t v d ps) (hw : ∀ k ∈ d.weights P t, k ≤ reachBytes) (hb : bulk d ≤ 1048576) : ∃ a, v = .agg (f a).toArray ∧ ok w a := by
  obtain ⟨cs, rfl, -⟩ := okWide_struct hu hval
  obtain ⟨fuel, hf⟩ := hd
  obtain ⟨a, h1, h2⟩ := h H enc w base spare held fuel _ _ hf hw hb
  refine ⟨a, ?_, h2⟩
  rw [← h1]; simp [Value.cells]
end
end
theorem row_upto {H : Type} {enc : TypeId × Value → H} {C : Checked} {os : Os} {f : FuncId} {fn : Func} {s : ChangeSpec} {conds : List PathCond} {apart : Bool} {tb : TypeId} {F : Stop.Interp} {laid : List (String × DataW Unit)}
    (own : ownKnob C.prog.godebug = none) (started : os.Started) (noInit : C.prog.inits.idxOf? f = none) (hfn : C.prog.funcs[f]? = some fn)
    (witness : ∃ (w : World) (tape : Tape) (i : Input), w.os = os ∧ (w.forCall tape i).Shaped C.prog ∧ i.vars = [] ∧ Input.okWide C.prog (w.forCall tape i) .any w.heap.size f i ∧
      (Go.Proofs.YtnngbnenekjffaaDoor.Rows.OpenSpec.upto s).preRow enc C.prog fn conds apart laid (w.forCall tape i).memory i.args ∧ ({} : Assume).holds C.prog (lone (Frame.enter C.prog f i.args .normal) [] (w.forCall tape i)))
    (hl : laidOutB C.prog = true) (hv : s.vars = []) (hv2 : s.plain.varTypes C.prog = []) (hsp : ∀ ds : List (DataW H), ds.length = fn.params.size → (s.fn H ds).results = [.lit (.bool true)] ∧ (s.fn H ds).args = ds ∧ (s.fn H ds).vars = [])
    (hres : fn.resultTypes = #[tb]) (htb : C.prog.underlying tb = some .bool) (hread : (fn.params.toList.all fun t => C.prog.readableRec t && decide (t < C.prog.types.size)) = true)
    (walk : ∀ (W : World) (base : Nat) (args : Array Value) (ds : List (DataW H)) (ps : List MemPlace), (∀ (j : Nat) t v, fn.params[j]? = some t → args[j]? = some v → Value.okWide C.prog W .any base t v) →
      DataW.TrodAll enc C.prog W 0 (fun _ => true) true fn.params.toList args.toList ds ps → (∀ k ∈ DataW.weightsEach C.prog fn.params.toList ds, k ≤ reachBytes) → bulkAll ds ≤ 1048576 → Calls C.prog f args W fun e W' => e = .returned (.bool true) ∧ Fr [] W W') :
    ReturnsInHanded {} C os f .any ((Go.Proofs.YtnngbnenekjffaaDoor.Rows.OpenSpec.upto s).preRow enc C.prog fn conds apart laid) (((Go.Proofs.YtnngbnenekjffaaDoor.Rows.OpenSpec.upto s).at F).post enc C.prog fn apart true false false) := by
  refine returnsInHanded_of_row (s := Go.Proofs.YtnngbnenekjffaaDoor.Rows.OpenSpec.upto s) own started noInit hfn witness ?_
  intro W base args ds gs before hval hW _ hcond hwt _ _ _
  have hW' := hW
  obtain ⟨p, q, hA, hV, rfl, hfz, hnd⟩ := hW
  have hv' : (Go.Proofs.YtnngbnenekjffaaDoor.Rows.OpenSpec.upto s).vars = [] := hv
  rw [hv'] at hV
  obtain ⟨rfl, rfl⟩ := trodVars_none hV
  have hlt : ∀ x ∈ p, x.block < W.heap.size := fun x hx => by simpa using hW'.lt x (by simp [hx])
  have hv2' : (Go.Proofs.YtnngbnenekjffaaDoor.Rows.OpenSpec.upto s).bare.plain.varTypes C.prog = [] := hv2
  rw [hv2', List.append_nil, List.append_nil] at hwt
  have hb0 : bulkAll (ds ++ []) ≤ 1048576 := of_decide_eq_true (hcond _ rfl)
  rw [List.append_nil] at hb0
  refine (walk W base args ds p hval hA (fun k hk => by simpa using List.all_eq_true.1 hwt k hk) hb0).mono fun e W' ⟨he, hw⟩ => ⟨_, he, ?_⟩
  have hb := hw.below
  obtain ⟨s1, s2, s3⟩ := hsp ds (by rw [(trodAll_length hA).1]; simp)
  show s.post enc C.prog fn apart true false false W args _ W'
  refine ⟨ds, [], _, [], p, [], hW', ?_, ?_, ?_, hb.frame _, fun h => by cases h⟩
  · rw [List.append_nil, s1, hres]; exact trodAll_mk1 (shut_bool htb true)
  · rw [List.append_nil, s2]; exact trodAll_stays hl hb hread hA hlt
  · rw [List.append_nil, s3, hv]; exact rfl
theorem witness_upto {H : Type} {enc : TypeId × Value → H} {C : Checked} {os : Os} {f : FuncId} {fn : Func} {s : ChangeSpec} {conds : List PathCond} {apart : Bool} {laid : List (String × DataW Unit)} (modest : Bool) (w0 : World) (args : Array Value) (fuel : Nat) (hos : w0.os = os)
    (hsh : (w0.forCall (fun _ _ => 0) ⟨#[], args, []⟩).Shaped C.prog)
    (hok : Input.okWideB C.prog (w0.forCall (fun _ _ => 0) ⟨#[], args, []⟩) f ⟨#[], args, []⟩ = true)
    {x : List (DataW H) × List (DataW H) × List MemPlace} (hx : DataW.whole enc C.prog (w0.forCall (fun _ _ => 0) ⟨#[], args, []⟩).memory fn.params.toList (Go.Proofs.YtnngbnenekjffaaDoor.Rows.OpenSpec.upto s).vars apart args.toList fuel = some x)
    (hconds : conds.all (PathCond.test C.prog ⟨fn.params.toList, x.1, (Go.Proofs.YtnngbnenekjffaaDoor.Rows.OpenSpec.upto s).bare.plain.varTypes C.prog, x.2.1⟩) = true) (hb : Go.Proofs.YtnngbnenekjffaaDoor.Rows.uptoSmall H (x.1 ++ x.2.1) = true)
    (hsz : (Go.Proofs.YtnngbnenekjffaaDoor.Rows.OpenSpec.upto s).bare.sizedB enc C.prog fn apart (w0.forCall (fun _ _ => 0) ⟨#[], args, []⟩).memory args fuel = true)
    (hl : laidMetH C.prog laid (w0.forCall (fun _ _ => 0) ⟨#[], args, []⟩).memory) :
    ∃ (w : World) (tape : Tape) (i : Input), w.os = os ∧ (w.forCall tape i).Shaped C.prog ∧ i.vars = [] ∧ Input.okWide C.prog (w.forCall tape i) .any w.heap.size f i ∧
      (Go.Proofs.YtnngbnenekjffaaDoor.Rows.OpenSpec.upto s).preRow enc C.prog fn conds apart laid (w.forCall tape i).memory i.args ∧ ({ modest := modest } : Assume).holds C.prog (lone (Frame.enter C.prog f i.args .normal) [] (w.forCall tape i)) :=
  ⟨w0, fun _ _ => 0, ⟨#[], args, []⟩, hos, hsh, (Input.okWide_of_okWideB (base := 0) hok).1, (Input.okWide_of_okWideB hok).2, OpenSpec.preRow_of_cond fuel hx hconds (fun k hk => by cases hk; exact hb) hsz hl, by
    simp only [Assume.holds]
    exact ⟨by simp, by simp, fun _ => Modest.zero, by simp, by simp⟩⟩
end Go.Owl
