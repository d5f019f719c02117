/- General lemmas and walks: Owl31, Owl16, Owl17, OwlRow, OwlOpen, Owl18, Owl19, Owl20, Owl21, Owl22, Owl23, Owl24, Owl25, Owl26, Owl27, Owl28, Owl35, Owl32, Owl29. No condition but what each theorem names. -/
import Derived.Test.YtbdghnbfnnamkaaDoorQf53d6c9f
import Derived.Lib.Builder
import Derived.Lib.UnsafeStr
import Derived.Laws.Externs
import Derived.ProofKit
import Derived.HandedShaped
import Derived.Deep.Slices
import Derived.Lib.SliceRun
import Derived.OrdersHeld
import Derived.Handed
import Derived.Lay
import Derived.LaidLaws
/-! from Owl31 -/
/- Structs that hold structs, held against each other. -/
namespace Go.Owl
/-- A struct's fields: of one cell, or flat structs, one behind the other. -/
def flat2Fs (P : Program) : Nat → List Field → Option (List TypeDesc)
  | _, [] => some []
  | k, f :: fs => match P.underlying f.type with
    | some (.struct gs) => match flatFs P 0 gs.toList, P.info? f.type with
      | some d1, some i => match flat2Fs P (k + i.size) fs with
        | some d2 => if Nat.beq f.offset k && f.name != "_" && !P.stoodInHeld f.type && Nat.beq d1.length i.size then some (d1 ++ d2) else none
        | none => none
      | _, _ => none
    | some d => match flat2Fs P (k + 1) fs with
      | some ds => if Nat.beq f.offset k && f.name != "_" && scal d then some (d :: ds) else none
      | none => none
    | none => none
def flat2B (P : Program) (t : TypeId) : Option (List TypeDesc) := match P.underlying t with
  | some (.struct fs) => if P.stoodInHeld t || P.eqGuardType P.depth t then none else flat2Fs P 0 fs.toList
  | _ => none
theorem fitAll_split : ∀ {d1 d2 : List TypeDesc} {xs ys : List Value}, fitAll (d1 ++ d2) xs ys = true → fitAll d1 (xs.take d1.length) (ys.take d1.length) = true ∧ fitAll d2 (xs.drop d1.length) (ys.drop d1.length) = true ∧ eqAll xs ys = (eqAll (xs.take d1.length) (ys.take d1.length) && eqAll (xs.drop d1.length) (ys.drop d1.length))
  | [], d2, xs, ys, h => ⟨by simp [fitAll], by simpa using h, by simp [eqAll]⟩
  | d :: d1, d2, x :: xs, y :: ys, h => by
    rw [List.cons_append, fitAll, Bool.and_eq_true] at h
    obtain ⟨h1, h2, h3⟩ := fitAll_split h.2
    refine ⟨?_, ?_, ?_⟩
    · rw [List.length_cons, List.take_succ_cons, List.take_succ_cons, fitAll, h.1, h1]; rfl
    · rw [List.length_cons, List.drop_succ_cons, List.drop_succ_cons]; exact h2
    · rw [List.length_cons, List.take_succ_cons, List.take_succ_cons, List.drop_succ_cons, List.drop_succ_cons, eqAll, eqAll, h3, Bool.and_assoc]
  | _ :: _, _, [], _, h => by simp [fitAll] at h
  | _ :: _, _, _ :: _, [], h => by simp [fitAll] at h
section
variable {P : Program} {n : Nat} {D : List Deferred} {ρ : Env} {w : World} {R : Value → World → Prop} {dst : Option Tmp} {ty : TypeId} {pos : String} {af : Array Edge} {g : Option (Nat × Bool)} {t t' : TypeId} {x y : Operand}
theorem run_partS {T : TypeId} {gs : Array Field} {i : TypeInfo} {cs : List Value} {k : Nat} (hd : P.underlying T = some (.struct gs)) (hi : P.info? T = some i) : (part T cs.toArray k).run P w = .ok (.agg ((cs.drop k).take i.size).toArray) w := by
  have e : cs.toArray.extract k (k + i.size) = ((cs.drop k).take i.size).toArray := by apply Array.ext'; simp [List.drop_take]
  simp [part, run_isAgg hd, scal, run_sizeOf' hi, e]
theorem run_eqIn {xs ys : List Value} {ds : List TypeDesc} {gs : Array Field} {dd : Nat} (hu : P.underlying t = some (.struct gs)) (hst : P.stoodInHeld t = false) (hfl : flatFs P 0 gs.toList = some ds) (hfit : fitAll ds xs ys = true) :
    (Op.equalIn (dd + 2) t (.agg xs.toArray) (.agg ys.toArray)).run P w = .ok (eqAll xs ys) w := by
  have hfo : P.fieldsOf t = gs := by unfold Program.fieldsOf; rw [hu]
  have h1 := run_equalIn_struct (P := P) w (dd + 1) t xs.toArray ys.toArray (by rw [hfo]; exact hu) hst
  rw [hfo] at h1
  rw [h1]
  have := run_eqFields (P := P) (w := w) (xs := xs) (ys := ys) (dd := dd) gs.toList ds 0 hfl (by simpa using hfit)
  simpa using this
theorem run_eqFields2 {xs ys : List Value} {dd : Nat} : ∀ (fs : List Field) (ds : List TypeDesc) (k : Nat), flat2Fs P k fs = some ds → fitAll ds (xs.drop k) (ys.drop k) = true →
    (Op.eqFields (dd + 2) xs.toArray ys.toArray fs).run P w = .ok (eqAll (xs.drop k) (ys.drop k)) w
  | [], ds, k, h, hf => by
    simp only [flat2Fs, Option.some.injEq] at h
    subst h
    cases hx : xs.drop k with
    | nil => simp [Op.eqFields, eqAll]
    | cons a l => rw [hx] at hf; cases hy : ys.drop k <;> rw [hy] at hf <;> simp [fitAll] at hf
  | f :: fs, ds, k, h, hf => by
    simp only [flat2Fs] at h
    split at h
    · rename_i gs hu
      split at h
      · rename_i d1 i h1 hi
        split at h
        · rename_i d2 h2
          split at h
          · rename_i hc
            simp only [Bool.and_eq_true, Bool.not_eq_true'] at hc
            simp only [Option.some.injEq] at h
            subst h
            have hk : f.offset = k := Nat.eq_of_beq_eq_true hc.1.1.1
            have hl : d1.length = i.size := Nat.eq_of_beq_eq_true hc.2
            have hnm : f.name ≠ "_" := by simpa using hc.1.1.2
            obtain ⟨f1, f2, f3⟩ := fitAll_split hf
            rw [hl] at f1 f2 f3
            rw [List.drop_drop, List.drop_drop] at f2
            have ih := run_eqFields2 (xs := xs) (ys := ys) (dd := dd) fs d2 (k + i.size) h2 f2
            simp only [Op.eqFields]
            rw [if_pos hnm, hk]
            simp only [Sem.run_bind, run_partS hu hi, Result.andThen_ok, run_eqIn hu hc.1.2 h1 f1]
            rw [f3, List.drop_drop, List.drop_drop]
            cases hv : eqAll ((xs.drop k).take i.size) ((ys.drop k).take i.size)
            · simp
            · simp [ih]
          · cases h
        · cases h
      · cases h
    · rename_i d hns hd
      split at h
      · rename_i ds' hds
        split at h
        · rename_i hc
          simp only [Bool.and_eq_true] at hc
          simp only [Option.some.injEq] at h
          subst h
          have hk : f.offset = k := Nat.eq_of_beq_eq_true hc.1.1
          have hnm : f.name ≠ "_" := by simpa using hc.1.2
          cases hx : xs.drop k with
          | nil => rw [hx] at hf; simp [fitAll] at hf
          | cons a l =>
            cases hy : ys.drop k with
            | nil => rw [hx, hy] at hf; simp [fitAll] at hf
            | cons b m =>
              rw [hx, hy] at hf
              simp only [fitAll, Bool.and_eq_true] at hf
              have hxa : xs[k]? = some a := by have := congrArg (·[0]?) hx; simpa using this
              have hyb : ys[k]? = some b := by have := congrArg (·[0]?) hy; simpa using this
              have hx1 : xs.drop (k + 1) = l := by rw [← List.drop_drop, hx]; rfl
              have hy1 : ys.drop (k + 1) = m := by rw [← List.drop_drop, hy]; rfl
              have ih := run_eqFields2 (xs := xs) (ys := ys) (dd := dd) fs ds' (k + 1) hds (by rw [hx1, hy1]; exact hf.2)
              rw [hx1, hy1] at ih
              simp only [Op.eqFields]
              rw [if_pos hnm, hk]
              simp only [Sem.run_bind, run_part1 hd hc.2 hxa, run_part1 hd hc.2 hyb, Result.andThen_ok, run_eq1 hd hf.1, eqAll]
              cases hv : veq a b
              · simp
              · simp [ih]
        · cases h
      · cases h
    · cases h
theorem run_equalS2 {xs ys : List Value} {ds : List TypeDesc} (hfl : flat2B P t = some ds) (hfit : fitAll ds xs ys = true) : (Op.equalIn 10000 t (.agg xs.toArray) (.agg ys.toArray)).run P w = .ok (eqAll xs ys) w ∧ P.eqGuardType P.depth t = false := by
  unfold flat2B at hfl
  split at hfl
  · rename_i fs hu
    split at hfl
    · cases hfl
    · rename_i hc
      simp only [Bool.or_eq_true, not_or, Bool.not_eq_true] at hc
      have hfo : P.fieldsOf t = fs := by unfold Program.fieldsOf; rw [hu]
      have h1 := run_equalIn_struct (P := P) w 9999 t xs.toArray ys.toArray (by rw [hfo]; exact hu) hc.1
      rw [hfo] at h1
      rw [h1]
      have := run_eqFields2 (P := P) (w := w) (xs := xs) (ys := ys) (dd := 9997) fs.toList ds 0 hfl (by simpa using hfit)
      exact ⟨by simpa using this, hc.2⟩
  · cases hfl
theorem op_eqlS2 {xs ys : List Value} {ds : List TypeDesc} {b : Bool} (hfl : flat2B P t = some ds) (hx : ev ρ x = some (.agg xs.toArray)) (hy : ev ρ y = some (.agg ys.toArray)) (hfit : fitAll ds xs ys = true) (hb : eqAll xs ys = b) (h : R (.bool b) w) :
    Op1 P n D ⟨dst, .binOp .eql t x y t', ty, pos, af, g⟩ ρ w R :=
  Op1.val (fun a ha => by
    obtain ⟨h1, h2⟩ := run_equalS2 (w := w) hfl hfit
    simp only [execOp, ha.ev hx, ha.ev hy, Sem.run_bind, run_eqGuard_agg w .eql t x y _ _ h2, Result.andThen_ok, run_eql_struct, h1, Sem.run_pure, hb]) h
theorem op_neqS2 {xs ys : List Value} {ds : List TypeDesc} {b : Bool} (hfl : flat2B P t = some ds) (hx : ev ρ x = some (.agg xs.toArray)) (hy : ev ρ y = some (.agg ys.toArray)) (hfit : fitAll ds xs ys = true) (hb : (!eqAll xs ys) = b) (h : R (.bool b) w) :
    Op1 P n D ⟨dst, .binOp .neq t x y t', ty, pos, af, g⟩ ρ w R :=
  Op1.val (fun a ha => by
    obtain ⟨h1, h2⟩ := run_equalS2 (w := w) hfl hfit
    simp only [execOp, ha.ev hx, ha.ev hy, Sem.run_bind, run_eqGuard_agg w .neq t x y _ _ h2, Result.andThen_ok, run_neq_struct, h1, Sem.run_pure, hb]) h
end
end Go.Owl
/-! from Owl16 -/
/- Blocks that are only read. -/
namespace Go.Owl
/-- From a block's head on these cells stand. -/
def cellsAt (w : World) (b : Nat) (cs : List Value) : Prop := ∀ (j : Nat) (u : Value), cs[j]? = some u → w.cell? ⟨b, j, none⟩ = some u
theorem cellsAt.lt {w : World} {b : Nat} {cs : List Value} (h : cellsAt w b cs) (hne : cs ≠ []) : b < w.heap.size := by
  cases cs with
  | nil => exact absurd rfl hne
  | cons c l => exact block_lt_of_cell (a := ⟨b, 0, none⟩) (h 0 c rfl)
theorem cellsAt.stable (b : Nat) (cs : List Value) : Stable (fun w => cellsAt w b cs) (if cs.isEmpty then [] else [b]) where
  lt := fun w h b' hb => by
    cases cs with
    | nil => simp at hb
    | cons c l => simp at hb; subst hb; exact cellsAt.lt h (by simp)
  fr := fun T w w' hf hT h j u hu => by
    cases cs with
    | nil => simp at hu
    | cons c l =>
      have hb := cellsAt.lt h (by simp)
      rw [← h j u hu]
      exact World.cell?_of_block (hf.block b hb (hT b (by simp)))
def Ent.bo (b : Nat) (cs : List Value) : Ent := .ro (fun w => cellsAt w b cs) (if cs.isEmpty then [] else [b]) (cellsAt.stable b cs)
section
variable {S : List Nat} {w0 w : World} {L : List Ent} {i b : Nat} {cs vs : List Value} {t : TypeId}
theorem Own.cellO {off : Nat} {v : Value} (H : Own S w0 w L) (hi : L[i]? = some (Ent.bo b cs)) (hc : cs[off]? = some v) : w.cell? ⟨b, off, none⟩ = some v := (H.ok i _ hi) off v hc
theorem Own.cellsAt (H : Own S w0 w L) (hi : L[i]? = some (Ent.blk b cs t)) : cellsAt w b cs := fun j u hu => H.cell hi hu
theorem Own.cellsAtO (H : Own S w0 w L) (hi : L[i]? = some (Ent.bo b cs)) : Owl.cellsAt w b cs := H.ok i _ hi
theorem Own.oldB (H : Own [] w0 w L) (h : Owl.cellsAt w0 b cs) : Own [] w0 w (L ++ [Ent.bo b cs]) := H.old (cellsAt.stable b cs) h
end
end Go.Owl
/-! from Owl17 -/
/- Memory seen through unsafe.Pointer: what strings.Builder does. -/
namespace Go.Owl
/-- What stays when a callee had some things and gives none back. -/
theorem Own.rest {S : List Nat} {w0 w w1 : World} {L E F : List Ent} {I J : List Nat} (H : Own S w0 w L) (hp : picks L I = some E) (hJ : nodupB J = true) (hq : picks L J = some F) (hd : J.all (fun j => !I.any (Nat.beq j)) = true)
    (R : Fr (blks E) w w1) : Own S w0 w1 F := by
  have P := H.sel J hJ hq
  refine ⟨H.frPart hp R, fun i e hi => ?_, P.sep, P.own⟩
  obtain ⟨j, hj, h⟩ := picks_of hq hi
  have := List.all_eq_true.1 hd j (List.mem_of_getElem? hj)
  exact H.stay hp h (by simpa using this) R
section
variable {P : Program} {n : Nat} {D : List Deferred} {ρ : Env} {w w0 : World} {R : Value → World → Prop} {dst : Option Tmp} {ty : TypeId} {pos : String} {af : Array Edge} {g : Option (Nat × Bool)}
variable {S : List Nat} {L : List Ent} {i b : Nat} {t t' u T0 : TypeId} {x y : Operand} {cs : List Value}
end
end Go.Owl
/-! from OwlRow -/
/- A row that says: whatever the input, true; the input reads as it did. -/
namespace Go.Owl
open Go.ChangeShapes Go.WideShapes Go.RowKit
section
variable {H : Type} {enc : TypeId × Value → H} {P : Program}

theorem trodAll_stays (hl : laidOutB P = true) {W W' : World} (hb : Below W.heap.size W W') : ∀ {ts : List TypeId} {vs : List Value} {ds : List (DataW H)} {ps : List MemPlace},
    (ts.all fun t => P.readableRec t && decide (t < P.types.size)) = true → DataW.TrodAll enc P W 0 (fun _ => true) true ts vs ds ps → (∀ x ∈ ps, x.block < W.heap.size) →
    DataW.TrodAll enc P W' 0 (fun b => decide (b < W.heap.size)) true ts vs ds ps
  | [], vs, ds, ps, _, h, _ => by
    obtain ⟨rfl, rfl, rfl⟩ := trodAll_nil h
    exact rfl
  | t :: ts, vs, ds, ps, hr, h, hlt => by
    obtain ⟨v, vs1, d, ds1, a, b, rfl, rfl, rfl, h1, h2⟩ := trodAll_cons h
    rw [List.all_cons, Bool.and_eq_true, Bool.and_eq_true, decide_eq_true_eq] at hr
    exact ⟨a, b, Below.trod hl hr.1.1 hr.1.2 h1 hb (fun x hx => hlt x (List.mem_append.2 (.inl hx))), trodAll_stays hl hb hr.2 h2 (fun x hx => hlt x (List.mem_append.2 (.inr hx))), rfl⟩

theorem trodAll_length {w : World} {base : Nat} {spare : Nat → Bool} {held : Bool} : ∀ {ts : List TypeId} {vs : List Value} {ds : List (DataW H)} {ps : List MemPlace}, DataW.TrodAll enc P w base spare held ts vs ds ps → ds.length = ts.length ∧ vs.length = ts.length
  | [], vs, ds, ps, h => by
    obtain ⟨rfl, rfl, rfl⟩ := trodAll_nil h
    exact ⟨rfl, rfl⟩
  | t :: ts, vs, ds, ps, h => by
    obtain ⟨v, vs1, d, ds1, a, b, rfl, rfl, rfl, h1, h2⟩ := trodAll_cons h
    simp [trodAll_length h2]

end

theorem u8_of {n : Int} (h : (Lit.int .u8 n).wf = true) : ∃ a : UInt8, Value.int .u8 n = vU8 a := by
  simp [Lit.wf, IntKind.min, IntKind.max, IntKind.signed, IntKind.bits] at h
  exact ⟨UInt8.ofNat n.toNat, by unfold vU8; congr 1; simp; omega⟩
theorem u32_of {n : Int} (h : (Lit.int .u32 n).wf = true) : ∃ a : UInt32, Value.int .u32 n = vU32 a := by
  simp [Lit.wf, IntKind.min, IntKind.max, IntKind.signed, IntKind.bits] at h
  exact ⟨UInt32.ofNat n.toNat, by unfold vU32; congr 1; simp; omega⟩
section
variable {H : Type} {enc : TypeId × Value → H} {P : Program} {w : World} {base b0 : Nat} {spare : Nat → Bool} {held : Bool} {r : Reach} {t : TypeId} {v : Value} {d : DataW H} {ps : List MemPlace}
end
end Go.Owl
/-! from OwlOpen -/
/- Arguments of any depth, opened; the row's proof with the form's own reach. -/
namespace Go.Owl
open Go.ChangeShapes Go.WideShapes Go.RowKit

/-- What is read at a type has this form. -/
def Opens (P : Program) (t : TypeId) {α : Type} (f : α → List Value) (ok : World → α → Prop) : Prop :=
  ∀ (H : Type) (enc : TypeId × Value → H) (w : World) (base : Nat) (spare : Nat → Bool) (held : Bool) (fuel : Nat) (cs : List Value) (x : DataW H × List MemPlace),
    DataW.trod enc P w base spare held fuel t cs = some x → (∀ k ∈ x.1.weights P t, k ≤ reachBytes) → ∃ a, cs = f a ∧ ok w a

section
variable {P : Program} {t e : TypeId}

theorem Opens.map {α β : Type} {f : α → List Value} {ok : World → α → Prop} {f' : β → List Value} {ok' : World → β → Prop} (h : Opens P t f ok) (g : α → β) (hf : ∀ a, f a = f' (g a)) (hk : ∀ w a, ok w a → ok' w (g a)) : Opens P t f' ok' := by
  intro H enc w base spare held fuel cs x hx hw
  obtain ⟨a, h1, h2⟩ := h H enc w base spare held fuel cs x hx hw
  exact ⟨g a, h1.trans (hf a), hk w a h2⟩

theorem opens_u8 (ht : P.underlying t = some (.int .u8)) : Opens P t (fun a : UInt8 => [vU8 a]) (fun _ _ => True) := by
  intro H enc w base spare held fuel cs x hx _
  obtain ⟨n, rfl, -, hw⟩ := DataW.trod_int ht hx
  obtain ⟨a, ha⟩ := u8_of hw
  exact ⟨a, by rw [ha], trivial⟩
theorem opens_u32 (ht : P.underlying t = some (.int .u32)) : Opens P t (fun a : UInt32 => [vU32 a]) (fun _ _ => True) := by
  intro H enc w base spare held fuel cs x hx _
  obtain ⟨n, rfl, -, hw⟩ := DataW.trod_int ht hx
  obtain ⟨a, ha⟩ := u32_of hw
  exact ⟨a, by rw [ha], trivial⟩
theorem opens_str (ht : P.underlying t = some .string) : Opens P t (fun l : List UInt8 => [str l]) (fun _ l => l.length ≤ 140737488351232) := by
  intro H enc w base spare held fuel cs x hx hw
  obtain ⟨s, rfl, rfl, -⟩ := DataW.trod_string ht hx
  refine ⟨s.data.toList, by simp [str], ?_⟩
  have := hw s.data.toList.length (by simp [DataW.weights])
  simpa [reachBytes] using this

theorem weightsAll_mem {H : Type} {d : DataW H} : ∀ {l : List (DataW H)}, d ∈ l → ∀ k ∈ d.weights P e, k ∈ DataW.weightsAll P e l
  | [], h, _, _ => by cases h
  | y :: l, h, k, hk => by
    rw [DataW.weightsAll, List.mem_append]
    rcases List.mem_cons.1 h with rfl | h
    · exact .inl hk
    · exact .inr (weightsAll_mem h k hk)

theorem cells?_get {w : World} {base : Nat} {a : Addr} {n : Nat} {cs : List Value} (h : w.cells? base a n = some cs) : cs.length = n ∧ ∀ i, i < n → w.cell? (a.add i) = cs[i]? := by
  unfold World.cells? at h
  split at h
  · refine ⟨by simpa using mapM_some_length h, fun i hi => ?_⟩
    have := mapM_some_get h i i (by simp [hi])
    exact this
  · cases h

theorem flatMap_len {β : Type} {g : β → List Value} {sz : Nat} (hg : ∀ b, (g b).length = sz) : ∀ l : List β, (l.flatMap g).length = l.length * sz
  | [] => by simp
  | b :: l => by rw [List.flatMap_cons, List.length_append, hg, flatMap_len hg l, List.length_cons, Nat.add_mul]; omega
theorem flatMap_at {β : Type} {g : β → List Value} {sz : Nat} (hg : ∀ b, (g b).length = sz) : ∀ (l : List β) (i k : Nat) (b : β), l[i]? = some b → k < sz → (l.flatMap g)[i * sz + k]? = (g b)[k]?
  | [], i, k, b, h, _ => by simp at h
  | c :: l, 0, k, b, h, hk => by
    simp at h; subst h
    rw [List.flatMap_cons, Nat.zero_mul, Nat.zero_add, List.getElem?_append_left (by rw [hg]; exact hk)]
  | c :: l, i + 1, k, b, h, hk => by
    rw [List.flatMap_cons, List.getElem?_append_right (by rw [hg, Nat.add_mul]; omega), hg, show (i + 1) * sz + k - sz = i * sz + k by rw [Nat.add_mul]; omega]
    exact flatMap_at hg l i k b (by simpa using h) hk

theorem spot_none {w : World} {a : Addr} {v : Value} (h : w.cell? a = some v) : a.spot = none := by
  unfold World.cell? at h
  split at h
  · split at h
    · cases h
    · rename_i hs; simpa using hs
  · cases h
theorem add0 (a : Addr) : a.add 0 = a := rfl

theorem opens_slice {β : Type} {g : β → List Value} {okE : World → β → Prop} {sz by_ : Nat} (ht : P.underlying t = some (.slice e)) (hE : Opens P e g okE) (hg : ∀ b, (g b).length = sz) (hsz : P.cellsOf e = sz) (hs0 : 0 < sz) (hby : P.bytesOf e = by_) :
    Opens P t (fun p : Value × List β => [p.1]) (fun w p => Arr w p.1 sz p.2.length (p.2.flatMap g) ∧ (∀ b ∈ p.2, okE w b) ∧ p.2.length * by_ ≤ 140737488351232) := by
  intro H enc w base spare held fuel cs x hx hw
  rcases Deep.open_slice ht hx with ⟨rfl, rfl⟩ | ⟨a, len, cap, m, n, D, Pl, rfl, hb, hl, hm, hmm, rfl, hel⟩
  · exact ⟨(.slice none 0 0, []), rfl, Arr.nil w sz, (fun b hb => by cases hb), (by simp)⟩
  · have hlm : len ≤ m := by rw [hmm]; split <;> omega
    simp only [DataW.weights, ht] at hw
    have hwl := hw _ (List.mem_cons_self ..)
    have each : ∀ i, i < len → ∃ b, okE w b ∧ ∀ k, k < sz → w.cell? ((a.add (i * sz)).add k) = (g b)[k]? := fun i hi => by
      obtain ⟨cs', h1, h2⟩ := hel i (by omega)
      have hwi : ∀ k ∈ (D i).weights P e, k ≤ reachBytes := fun k hk => hw k (List.mem_cons_of_mem _ (List.mem_append.2 (.inl (weightsAll_mem (List.mem_map.2 ⟨i, List.mem_range.2 hi, rfl⟩) k hk))))
      obtain ⟨b, hb1, hb2⟩ := hE H enc w base spare held n cs' _ h2 hwi
      subst hb1
      obtain ⟨hl1, h3⟩ := cells?_get h1
      rw [hsz] at h3
      exact ⟨b, hb2, fun k hk => by rw [← h3 k hk]⟩
    let F : Fin len → β := fun i => Classical.choose (each i.1 i.2)
    have hF : ∀ i : Fin len, okE w (F i) ∧ ∀ k, k < sz → w.cell? ((a.add (i.1 * sz)).add k) = (g (F i))[k]? := fun i => Classical.choose_spec (each i.1 i.2)
    have hspot : len ≠ 0 → a.spot = none := fun h0 => by
      have h1 := (hF ⟨0, by omega⟩).2 0 hs0
      simp only [Nat.zero_mul, add0] at h1
      exact spot_none (h1.trans (List.getElem?_eq_getElem (by rw [hg]; exact hs0)))
    refine ⟨(.slice (some a) len cap, List.ofFn F), rfl, ⟨⟨some a, cap, by simp, by simpa using hl, hm, (fun h => by cases h), fun h0 ad had => ?_⟩, ?_, ?_⟩, ?_, ?_⟩
    · injection had with had; subst had; exact hspot (by simpa using h0)
    · exact flatMap_len hg _
    · intro j hj
      rw [flatMap_len hg, List.length_ofFn] at hj
      have hi : j / sz < len := Nat.div_lt_of_lt_mul (by rw [Nat.mul_comm]; exact hj)
      have hk : j % sz < sz := Nat.mod_lt _ hs0
      have ej : j = j / sz * sz + j % sz := by rw [Nat.mul_comm]; exact (Nat.div_add_mod j sz).symm
      have h1 := (hF ⟨j / sz, hi⟩).2 (j % sz) hk
      have h2 := flatMap_at hg (List.ofFn F) (j / sz) (j % sz) (F ⟨j / sz, hi⟩) (by rw [List.getElem?_ofFn]; simp [hi]) hk
      rw [← ej] at h2
      rw [h2, ← h1]
      have hs := hspot (fun e0 => by rw [e0] at hi; exact absurd hi (Nat.not_lt_zero _))
      obtain ⟨b, o, s⟩ := a
      simp at hs; subst hs
      rw [Addr.add_at, Addr.add_at, Nat.add_assoc, ← ej]
      rfl
    · intro b hb
      rw [List.mem_ofFn] at hb
      obtain ⟨i, rfl⟩ := hb
      exact (hF i).1
    · have h5 : len * by_ ≤ reachBytes := by
        refine Nat.le_trans ?_ hwl
        rw [hby]; refine Nat.mul_le_mul_right _ ?_
        simp
      simpa [reachBytes] using h5

def OpensF (P : Program) (fs : List Field) (o : Nat) {α : Type} (f : α → List Value) (ok : World → α → Prop) : Prop :=
  ∀ (H : Type) (enc : TypeId × Value → H) (w : World) (base : Nat) (spare : Nat → Bool) (held : Bool) (n : Nat) (cs : List Value) (xs : List (DataW H × List MemPlace)),
    (∀ (i : Nat) (g : Field), fs[i]? = some g → DataW.trod enc P w base spare held n g.type ((cs.drop g.offset).take (P.cellsOf g.type)) = xs[i]?) → xs.length = fs.length →
    (∀ k ∈ DataW.weightsEach P (fs.map (·.type)) (xs.map (·.1)), k ≤ reachBytes) → cs.length = o + (fs.map fun g => P.cellsOf g.type).sum → ∃ a, cs.drop o = f a ∧ ok w a
theorem opensF_nil {o : Nat} : OpensF P [] o (fun _ : Unit => []) (fun _ _ => True) := by
  intro H enc w base spare held n cs xs _ _ _ hl
  exact ⟨(), List.drop_of_length_le (by simp at hl; omega), trivial⟩
theorem opensF_cons {α β : Type} {f0 : Field} {fs : List Field} {o k : Nat} {g : β → List Value} {okg : World → β → Prop} {f : α → List Value} {ok : World → α → Prop} (ho : f0.offset = o) (hk : P.cellsOf f0.type = k) (hg : Opens P f0.type g okg)
    (hf : OpensF P fs (o + k) f ok) : OpensF P (f0 :: fs) o (fun p : β × α => g p.1 ++ f p.2) (fun w p => okg w p.1 ∧ ok w p.2) := by
  intro H enc w base spare held n cs xs hx hl hw hc
  cases xs with
  | nil => simp at hl
  | cons x xs =>
    simp only [List.map_cons, DataW.weightsEach, List.mem_append] at hw
    simp only [List.map_cons, List.sum_cons, hk] at hc
    have h0 := hx 0 f0 rfl
    rw [ho, hk] at h0
    obtain ⟨b, hb1, hb2⟩ := hg H enc w base spare held n _ x (by simpa using h0) (fun k hk => hw k (.inl hk))
    obtain ⟨a, ha1, ha2⟩ := hf H enc w base spare held n cs xs (fun i q hi => by simpa using hx (i + 1) q (by simpa using hi)) (by simpa using hl) (fun k hk => hw k (.inr hk)) (by omega)
    refine ⟨(b, a), ?_, hb2, ha2⟩
    show cs.drop o = g b ++ f a
    rw [← hb1, ← ha1, ← List.drop_drop, List.take_append_drop]
theorem opens_struct {α : Type} {fs : List Field} {f : α → List Value} {ok : World → α → Prop} (ht : P.underlying t = some (.struct fs.toArray)) (hc : P.cellsOf t = (fs.map fun g => P.cellsOf g.type).sum) (hf : OpensF P fs 0 f ok) : Opens P t f ok := by
  intro H enc w base spare held fuel cs x hx hw
  obtain ⟨xs, n, rfl, rfl, hl, hlen, hfs⟩ := DataW.trod_struct ht hx
  simp only [DataW.weights, ht] at hw
  obtain ⟨a, h1, h2⟩ := hf H enc w base spare held n cs xs (fun i g hi => hfs i g (by simpa using hi)) (by simpa using hlen) (by simpa using hw) (by omega)
  exact ⟨a, by simpa using h1, h2⟩

section
variable {H : Type} {enc : TypeId × Value → H} {w : World} {base b0 : Nat} {spare : Nat → Bool} {held : Bool} {r : Reach} {v : Value} {d : DataW H} {ps : List MemPlace}
theorem arg_scal {α : Type} {g : α → Value} {ok : World → α → Prop} (h : Opens P t (fun a => [g a]) ok) (hu : (match P.underlying t with | some (.int _) | some .string | some .bool | some (.slice _) => true | _ => false) = true)
    (hval : Value.okWide P w r b0 t v) (hd : DataW.Trod enc P w base spare held t v d ps) (hw : ∀ k ∈ d.weights P t, k ≤ reachBytes) : ∃ a, v = g a ∧ ok w a := by
  have hv : v.cells.toList = [v] := by
    split at hu
    · rename_i k hk; obtain ⟨n, rfl⟩ := okWide_int hk hval; rfl
    · rename_i hk; obtain ⟨n, rfl⟩ := okWide_string hk hval; rfl
    · rename_i hk; obtain ⟨n, rfl⟩ := okWide_bool hk hval; rfl
    · rename_i k hk; obtain ⟨a, l, c, rfl⟩ := okWide_slice hk hval; rfl
    · cases hu
  obtain ⟨fuel, hf⟩ := hd
  obtain ⟨a, h1, h2⟩ := h H enc w base spare held fuel _ _ hf hw
  rw [hv] at h1
  exact ⟨a, by simpa using h1, h2⟩
theorem arg_struct {α : Type} {f : α → List Value} {ok : World → α → Prop} {fs : Array Field} (hu : P.underlying t = some (.struct fs)) (h : Opens P t f ok)
    (hval : Value.okWide P w r b0 t v) (hd : DataW.Trod enc P w base spare held t v d ps) (hw : ∀ k ∈ d.weights P t, k ≤ reachBytes) : ∃ a, v = .agg (f a).toArray ∧ ok w a := by
  obtain ⟨cs, rfl, -⟩ := okWide_struct hu hval
  obtain ⟨fuel, hf⟩ := hd
  obtain ⟨a, h1, h2⟩ := h H enc w base spare held fuel _ _ hf hw
  refine ⟨a, ?_, h2⟩
  rw [← h1]; simp [Value.cells]
end

end
end Go.Owl
/-! from Owl18 -/
/- Rows of structs: a list's cells, one behind the other. -/
namespace Go.Owl
section
variable {β : Type} {g : β → List Value} {sz : Nat}
theorem flatMap_piece (hg : ∀ b, (g b).length = sz) : ∀ (l : List β) (i : Nat) (d : β), i < l.length → ((l.flatMap g).drop (i * sz)).take sz = g (l.getD i d)
  | [], i, d, h => by simp at h
  | c :: l, 0, d, _ => by
    rw [List.flatMap_cons, Nat.zero_mul, List.drop_zero, List.take_append_of_le_length (by rw [hg]; exact Nat.le_refl _), List.take_of_length_le (by rw [hg]; exact Nat.le_refl _)]; rfl
  | c :: l, i + 1, d, h => by
    have e : (i + 1) * sz = sz + i * sz := by rw [Nat.add_mul]; omega
    have e2 : ((c :: l).flatMap g).drop ((i + 1) * sz) = (l.flatMap g).drop (i * sz) := by
      have h0 : ((c :: l).flatMap g).drop sz = l.flatMap g := by
        have hh := List.drop_left (l₁ := g c) (l₂ := l.flatMap g)
        rw [hg] at hh
        rw [List.flatMap_cons]; exact hh
      rw [e, ← List.drop_drop, h0]
    rw [e2]
    have := flatMap_piece hg l i d (by simpa using h)
    rw [this]; rfl
theorem flatMap_cell (hg : ∀ b, (g b).length = sz) {l : List β} {i k : Nat} {d : β} (hi : i < l.length) {u : Value} (hc : (g (l.getD i d))[k]? = some u) : (l.flatMap g)[i * sz + k]? = some u := by
  have hk : k < sz := by rw [← hg (l.getD i d)]; exact (List.getElem?_eq_some_iff.1 hc).1
  rw [flatMap_at hg l i k (l.getD i d) (by rw [List.getD, List.getElem?_eq_getElem hi]; rfl) hk]; exact hc
variable {w : World} {v : Value} {q : Nat} {l : List β}
theorem flat_len (hg : ∀ b, (g b).length = sz) (hs : 0 < sz) (h : (l.flatMap g).length = q * sz) : l.length = q := by
  rw [flatMap_len hg] at h; exact Nat.eq_of_mul_eq_mul_right hs h
theorem Arr.flatLen (hA : Arr w v sz q (l.flatMap g)) (hg : ∀ b, (g b).length = sz) (hs : 0 < sz) : l.length = q := flat_len hg hs hA.len
theorem Arr.atF {i k : Nat} {u : Value} (hA : Arr w v sz q (l.flatMap g)) (hg : ∀ b, (g b).length = sz) (hs : 0 < sz) (d : β) (hi : i < q) (hc : (g (l.getD i d))[k]? = some u) : w.cell? (sp v (i * sz + k)) = some u :=
  hA.at (flatMap_cell hg (by rw [hA.flatLen hg hs]; exact hi) hc)
theorem Arr.atsF {i : Nat} (hA : Arr w v sz q (l.flatMap g)) (hg : ∀ b, (g b).length = sz) (hs : 0 < sz) (d : β) (hi : i < q) : ∀ j u, (g (l.getD i d))[j]? = some u → w.cell? ⟨sBlk v, sOff v + i * sz + j, none⟩ = some u :=
  hA.ats (by rw [hg]; exact flatMap_piece hg l i d (by rw [hA.flatLen hg hs]; exact hi))
theorem one_flat (h : ∀ a, ∀ c ∈ g a, c.oneCell' = true) {l : List β} : ∀ c ∈ l.flatMap g, c.oneCell' = true := fun c hc => by
  obtain ⟨a, _, ha⟩ := List.mem_flatMap.1 hc
  exact h a c ha
end
section
variable {P : Program} {n : Nat} {D : List Deferred} {ρ : Env} {w w0 : World} {R : Value → World → Prop} {dst : Option Tmp} {ty : TypeId} {pos : String} {af : Array Edge} {gd : Option (Nat × Bool)}
variable {S : List Nat} {L : List Ent} {i : Nat} {t t' T T' : TypeId} {x y : Operand} {z : List Value} {sz by_ : Nat} {d : TypeDesc}
theorem op_appendF {α : Type} {f : α → List Value} {l l' : List α} {v u : Value} {q m : Nat} (H : Own S w0 w L) (hu : P.underlying T = some (.slice t)) (hz : tiB P t = some (z, sz, by_)) (hzl : z.length = sz) (hx : ev ρ x = some v) (hy : ev ρ y = some u)
    (hi : L[i]? = some (Ent.row v t sz q (l.flatMap f))) (hs : Src P w T' sz u m (l'.flatMap f)) (h1 : ∀ c ∈ l'.flatMap f, c.oneCell' = true) (h63 : q + m ≤ 9223372036854775807) (hby : (q + m) * by_ ≤ 140737488355328)
    (h : ∀ v' w', Own S w0 w' (L.set i (.row v' t sz (q + m) ((l ++ l').flatMap f))) → R v' w') : Op1 P n D ⟨dst, .call { callee := .builtin .append, args := #[x, y], argTypes := #[T, T'] }, ty, pos, af, gd⟩ ρ w R :=
  op_append H hu hz hzl hx hy hi hs h1 h63 hby (fun v' w' H' => h v' w' (by rw [List.flatMap_append]; exact H'))
/-- A struct of a row, as a whole. -/
theorem op_loadSP {v : Value} {k : Nat} {vs : List Value} (hx : ev ρ x = some (.pointer (some (sp v k)))) (hc : ∀ j u, vs[j]? = some u → w.cell? ⟨sBlk v, sOff v + k + j, none⟩ = some u) (hu : P.underlying T = some d) (hs : scal d = false)
    (hz : tiB P T = some (z, sz, by_)) (hl : vs.length = sz) (h : R (.agg vs.toArray) w) : Op1 P n D ⟨dst, .load T x, ty, pos, af, gd⟩ ρ w R :=
  op_loadS (b := sBlk v) (off := sOff v + k) hx hc hu hs hz hl h
theorem Own.rowEqF {α : Type} {f : α → List Value} {l l' : List α} {v : Value} {m m' : Nat} (H : Own S w0 w L) (hi : L[i]? = some (Ent.row v t sz m (l.flatMap f))) (e : l = l') (en : m = m') : Own S w0 w (L.set i (.row v t sz m' (l'.flatMap f))) := by
  subst e; subst en
  have h := List.getElem?_eq_some_iff.1 hi
  have e : L.set i (.row v t sz m (l.flatMap f)) = L := by rw [← h.2]; exact List.set_getElem_self h.1
  rw [e]; exact H
end
end Go.Owl
/-! from Owl19 -/
/- Conversions to and from 32 bits with a sign. -/
namespace Go.Owl
section
variable {P : Program} {n : Nat} {D : List Deferred} {ρ : Env} {w : World} {R : Value → World → Prop} {dst : Option Tmp} {ty : TypeId} {pos : String} {af : Array Edge} {g : Option (Nat × Bool)}
variable {t t' : TypeId} {x y : Operand}
end
def isNilS : Value → Bool
  | .slice a _ _ => a.isNone
  | _ => false
section
variable {P : Program} {n : Nat} {D : List Deferred} {ρ : Env} {w : World} {R : Value → World → Prop} {dst : Option Tmp} {ty : TypeId} {pos : String} {af : Array Edge} {g : Option (Nat × Bool)}
variable {t t' : TypeId} {x y : Operand}
theorem op_eqlSN {v : Value} {sz m : Nat} {xs : List Value} {el : TypeId} (hu : P.underlying t = some (.slice el)) (hx : ev ρ x = some v) (hA : Arr w v sz m xs) (hy : ev ρ y = some (.slice none 0 0)) (h : R (.bool (isNilS v)) w) : Op1 P n D ⟨dst, .binOp .eql t x y t', ty, pos, af, g⟩ ρ w R := by
  obtain ⟨a, cap, rfl, _⟩ := hA.form
  exact Op1.val (fun c ha => by
    have hg : (eqGuard .eql t x y (.slice a m cap) (.slice none 0 0)).run P w = .ok () w := rfl
    simp only [execOp, ha.ev hx, ha.ev hy, Sem.run_bind, hg, Result.andThen_ok, Lib.run_eql_slice_nil w _ _ a m cap 0 0 hu, Sem.run_pure]; rfl) h
end
end Go.Owl
/-! from Owl20 -/
/- Regions that draw, with a move that nothing waits for until the end. -/
namespace Go.Owl
variable {P : Program} {ops : Array Oper} {Q : Exit → Act → World → Prop}
theorem put_comm {a : Act} {d e : Option Tmp} {x y : Value} (h : ∀ t, d = some t → e ≠ some t) : (a.put d x).put e y = (a.put e y).put d x := by
  cases d with
  | none => cases e <;> rfl
  | some d =>
    cases e with
    | none => rfl
    | some e =>
      have hne : d ≠ e := fun hh => h d rfl (by rw [hh])
      simp only [Act.put]
      rw [Array.setIfInBounds_comm _ _ hne]
/-- As sinkB, r set aside. -/
def sinkR (ops : Array Oper) (k r : Nat) : Bool :=
  (List.range k).all fun i => Nat.beq i r || (List.range (k + 1)).any fun j => decide (i < j) && !Nat.beq j r && Region.waitsFor .any ops j i
theorem waits_late {k r : Nat} {listed : Array Bool} (hs : sinkR ops k r = true) (hc : Region.chainB .any ops k = true) (hn : k < ops.size) (inv : HeadInv .any ops k listed) :
    ∀ (d i : Nat), k - i = d → i < k → i ≠ r → listed.getD i true = false → ∀ t, k ≤ t → t ∉ Region.ready .any ops listed := by
  intro d
  induction d using Nat.strongRecOn with
  | _ d ih =>
    intro i hd hi hir hun t ht hr
    obtain ⟨_, ot, hot, hall⟩ := mem_ready.1 hr
    have htlt : t < ops.size := (Array.getElem?_eq_some_iff.1 hot).1
    by_cases htn : t = k
    · subst htn
      have h1 := List.all_eq_true.1 hs i (List.mem_range.2 hi)
      simp only [Bool.or_eq_true] at h1
      rcases h1 with h1 | h1
      · exact hir (Nat.eq_of_beq_eq_true h1)
      obtain ⟨j, hj, hj2⟩ := List.any_eq_true.1 h1
      simp only [Bool.and_eq_true, decide_eq_true_eq] at hj2
      obtain ⟨⟨hij, hjr⟩, hw⟩ := hj2
      obtain ⟨oj, hoj, e, he, hb, hon⟩ := Region.waitsFor_spec hw
      have hjle : j ≤ t := by have := List.mem_range.1 hj; omega
      by_cases hjt : j = t
      · subst hjt
        have : oj = ot := Option.some.inj (hoj.symm.trans hot)
        subst this
        have h2 := hall e he hb
        rw [hon, getD_both hun] at h2
        cases h2
      · cases hl : listed.getD j false with
        | true =>
          have h2 := inv.closed j oj hoj hl e he hb
          rw [hon, getD_both hun] at h2
          cases h2
        | false =>
          have hjs : j < listed.size := by rw [inv.size]; omega
          have hjr' : j ≠ r := fun hh => by subst hh; simp at hjr
          exact ih (t - j) (by omega) j rfl (by omega) hjr' (getD_in hjs hl) t (Nat.le_refl _) hr
    · have h1 := List.all_eq_true.1 hc t (List.mem_range.2 htlt)
      simp only [Bool.or_eq_true, decide_eq_true_eq] at h1
      rcases h1 with h1 | h1
      · omega
      · obtain ⟨o', ho', e, he, hb, hon⟩ := Region.waitsFor_spec h1
        have : o' = ot := Option.some.inj (ho'.symm.trans hot)
        subst this
        have h2 := hall e he hb
        rw [hon, getD_both (inv.tail (t - 1) (by omega) (by omega))] at h2
        cases h2
end Go.Owl
/-! from Owl21 -/
/- Regions that draw, with a move that nothing waits for until the end: the rule. -/
namespace Go.Owl
variable {P : Program} {n : Nat} {D : List Deferred} {ρ : Env} {w w0 : World} {S : List Nat} {L : List Ent} {Q : Exit → Act → World → Prop}
def noDst (ops : Array Oper) (t : Tmp) : Bool := (List.range ops.size).all fun j => match ops[j]? with
  | some o => match o.dst with
    | some d => !Nat.beq d t
    | none => true
  | none => true
theorem noDst_spec {ops : Array Oper} {t : Tmp} (h : noDst ops t = true) {j : Nat} {o : Oper} (ho : ops[j]? = some o) : o.dst ≠ some t := by
  have h1 := allRange h (Array.getElem?_eq_some_iff.1 ho).1
  rw [ho] at h1
  intro hd
  simp only [hd] at h1
  simp at h1
def chkLate (ops : Array Oper) (n : Nat) (fl : List (Bool × Option Nat)) (k r : Nat) (d0 t0 : Tmp) : Bool :=
  noOld fl k && Nat.blt k ops.size && Nat.blt r k && (List.range k).all (chkOp ops n fl k) && chkTail ops k && sinkR ops k r && Region.chainB .any ops k &&
  (Nat.beq (k + 1) ops.size || edge ops (k + 1) r) && noDst ops t0 &&
  (match ops[k]? with
    | some o => o.guard.isNone && !isSel o.op && dOK n o.dst && (o.looksAt ops).all (fun t => !Nat.beq t d0) && (match o.dst with | some d => !Nat.beq d d0 | none => true)
    | none => false) &&
  (match ops[r]? with
    | some o => o.after.all (fun e => !Region.binds .any e)
    | none => false)
/-- What an act in the midst of a head has in the slots, those of r set aside. -/
theorem Mid.agr {k r : Nat} {sp : List Sp} {listed : Array Bool} {β : Nat → Fp} {Fl : List Nat} {a : Act} {w1 : World} {l : List Oper} {d0 : Tmp} {x : Value} {o0 : Oper}
    (M : Mid P n D l.toArray S w0 L k sp ρ listed β Fl a w1) (hk : k ≤ l.length) (hspk : sp.length = k) (hdone : ∀ i, i < k → i ≠ r → listed.getD i false = true)
    (h0 : l[r]? = some o0) (hd0 : o0.dst = some d0) (hx : a.tmps.getD d0 undef = x) :
    Agr n D ((d0, x) :: fenv (l.take k) sp β 0 (dets (l.take k) sp ρ)) a := by
  refine ⟨M.size, M.defers, fun t v hv => ?_⟩
  by_cases ht : d0 = t
  · subst ht
    have e : Env.get ((d0, x) :: fenv (l.take k) sp β 0 (dets (l.take k) sp ρ)) d0 = some x := by simp [Env.get]
    rw [e] at hv; injection hv with hv; rw [← hv]; exact hx
  · have e : Env.get ((d0, x) :: fenv (l.take k) sp β 0 (dets (l.take k) sp ρ)) t = Env.get (fenv (l.take k) sp β 0 (dets (l.take k) sp ρ)) t := by
      simp [Env.get, ht]
    rw [e] at hv
    have hne : ∀ (j : Nat) (o : Oper), l.toArray[j]? = some o → o.dst = some t → j ≠ r := fun j o hj hd hjr => by
      subst hjr
      have : o = o0 := Option.some.inj (hj.symm.trans (by simpa using h0))
      subst this
      rw [hd0] at hd; injection hd with hd; exact ht hd
    have hop : ∀ (j : Nat) (o : Oper), (l.take k)[j]? = some o → j < k ∧ l.toArray[j]? = some o := fun j o hj => by
      have hjk : j < k := by
        rcases Nat.lt_or_ge j k with h | h
        · exact h
        · rw [List.getElem?_take, if_neg (by omega)] at hj; cases hj
      rw [List.getElem?_take, if_pos hjk] at hj
      exact ⟨hjk, by simpa using hj⟩
    rcases fenv_get β _ sp 0 _ t v hv with ⟨j, o, m, e, h1, h2, h3, h4⟩ | ⟨hv, hnf⟩
    · obtain ⟨hjk, ho⟩ := hop j o h1
      rw [M.done j o _ t hjk (hdone j hjk (hne j o ho h3)) ho h2 h3, h4]
      simp [Sp.val]
    · rcases dets_get _ sp ρ t v hv with ⟨j, o, dp, h1, h2, h3⟩ | ⟨h1, h2⟩
      · obtain ⟨hjk, ho⟩ := hop j o h1
        rw [M.done j o _ t hjk (hdone j hjk (hne j o ho h3)) ho h2 h3]; rfl
      · by_cases hex : ∃ (j : Nat) (o : Oper), j < k ∧ l.toArray[j]? = some o ∧ o.dst = some t
        · obtain ⟨j, o, hjk, ho, hd⟩ := hex
          obtain ⟨s, hs⟩ : ∃ s, sp[j]? = some s := ⟨sp[j]'(by omega), by simp [show j < sp.length by omega]⟩
          cases s with
          | det u dp => exact absurd hd (h2 j o u dp (by rw [List.getElem?_take, if_pos hjk]; simpa using ho) hs)
          | flt m e => exact absurd hd (hnf j o m e (by rw [List.getElem?_take, if_pos hjk]; simpa using ho) hs)
        · exact M.rest t v h1 (fun j o hj _ ho hd => hex ⟨j, o, hj, ho, hd⟩)
end Go.Owl
/-! from Owl22 -/
/- What is left of a head behind the tail's first operation. -/
namespace Go.Owl
variable {P : Program} {n : Nat} {D : List Deferred} {ρ : Env} {w w0 : World} {S : List Nat} {L : List Ent} {Q : Exit → Act → World → Prop}
theorem late_rest {k r : Nat} {l : List Oper} {listed : Array Bool} {o0 : Oper} {d0 t0 : Tmp} {v0 : Value} {a : Act}
    (hsz : listed.size = l.toArray.size) (hkn : k < l.length) (hrk : r < k) (hdone : ∀ i, i < k → i ≠ r → listed.getD i false = true) (hun : listed.getD r true = false)
    (htl : ∀ t, k ≤ t → t < l.toArray.size → listed.getD t true = false) (hc : Region.chainB .any l.toArray k = true) (hedge : k + 1 = l.toArray.size ∨ edge l.toArray (k + 1) r = true)
    (h0 : l.toArray[r]? = some o0) (hd0 : o0.dst = some d0) (hg0 : o0.guard = none) (hop0 : o0.op = .move (.tmp t0)) (hfree : ∀ e ∈ o0.after, Region.binds .any e = true → False)
    (hseq : chkTail l.toArray k = true) (ht0 : a.tmps.getD t0 undef = v0) (hW : wpList P l.toArray Q (l.drop (k + 1)) (a.put (some d0) v0) w) :
    wpAny P .any l.toArray Q ((l.drop (k + 1)).length + 1) (listed.setIfInBounds k true) a w := by
  have hkr : k ≠ r := by omega
  have hrr : r ∈ Region.ready .any l.toArray (listed.setIfInBounds k true) := by
    refine mem_ready.2 ⟨?_, o0, h0, fun e he hb => (hfree e he hb).elim⟩
    rw [getD_set_ne true hkr]; exact hun
  have honly : ∀ i, i ∈ Region.ready .any l.toArray (listed.setIfInBounds k true) → i = r := by
    intro i hi
    obtain ⟨hu, o, ho, hall⟩ := mem_ready.1 hi
    have his : i < l.toArray.size := (Array.getElem?_eq_some_iff.1 ho).1
    refine Classical.byContradiction fun hir => ?_
    rcases Nat.lt_trichotomy i k with h | h | h
    · rw [getD_set_ne true (by omega)] at hu
      have := hdone i h hir
      rw [getD_both hu] at this; cases this
    · subst h
      have : (listed.setIfInBounds i true).getD i true = true := by
        simp [hsz, show i < l.toArray.size from his]
      rw [this] at hu; cases hu
    · by_cases h1 : i = k + 1
      · subst h1
        rcases hedge with h2 | h2
        · omega
        · have := ready_edge hi h2
          rw [getD_set_ne false hkr, getD_both hun] at this; cases this
      · have h2 := List.all_eq_true.1 hc i (List.mem_range.2 his)
        simp only [Bool.or_eq_true, decide_eq_true_eq] at h2
        rcases h2 with h2 | h2
        · omega
        · obtain ⟨o', ho', e, he, hb, hon⟩ := Region.waitsFor_spec h2
          have : o' = o := Option.some.inj (ho'.symm.trans ho)
          subst this
          have h3 := hall e he hb
          rw [hon, getD_set_ne false (by omega), getD_both (htl (i - 1) (by omega) (by omega))] at h3
          cases h3
  refine ⟨fun h => (by rw [h] at hrr; cases hrr), fun i hi => ?_⟩
  obtain rfl := honly i hi
  have hwant : Region.wanted o0 (yielded l.toArray a.tmps) = true := by simp [Region.wanted, hg0]
  refine wpOp_of h0 ?_
  rw [if_pos hwant]
  refine OpRun.wp (R := fun v w' => v = v0 ∧ w' = w) ?_ ?_
  · obtain ⟨dst, op, ty, pos, af, g⟩ := o0
    subst hop0
    have he : a.eval (.tmp t0) = v0 := ht0
    simp [execOp, he, OpRun]
  · rintro v w' ⟨rfl, rfl⟩
    rw [hd0]
    refine wpAny_of_seq (l.drop (k + 1)) (k + 1) _ _ _ (fun j => by simp) ?_ hW
    unfold chkTail at hseq
    have e : l.toArray.size - k = (l.drop (k + 1)).length + 1 := by simp; omega
    rw [e] at hseq
    simp only [Region.seqB, Bool.and_eq_true] at hseq
    have hle : (listed.setIfInBounds k true).setIfInBounds i true = (((List.range l.toArray.size).map (fun i => Nat.blt i k)).toArray).setIfInBounds k true := by
      apply Array.ext
      · simp [hsz]
      · intro j h1 h2
        have h3 : j < l.toArray.size := by simpa [hsz] using h1
        have hs1 : ∀ (A : Array Bool) (m : Nat) (hm : j < (A.setIfInBounds m true).size), (A.setIfInBounds m true)[j] = if m = j then true else A[j]'(by simpa using hm) := fun A m hm => by
          by_cases h : m = j
          · subst h; simp
          · rw [if_neg h, Array.getElem_setIfInBounds_ne _ h]
        rw [hs1, hs1, hs1]
        by_cases hji : i = j
        · rw [if_pos hji, if_neg (by omega)]
          subst hji
          simp [hrk]
        · rw [if_neg hji]
          by_cases hjk : k = j
          · rw [if_pos hjk, if_pos hjk]
          · rw [if_neg hjk, if_neg hjk]
            have h6 : j < listed.size := by rw [hsz]; exact h3
            by_cases hlt : j < k
            · have h4 := hdone j hlt (Ne.symm hji)
              have h5 : listed.getD j false = listed[j] := by simp [h6]
              rw [h5] at h4
              simp [h4, hlt]
            · have h4 := htl j (by omega) h3
              have h5 : listed.getD j true = listed[j] := by simp [h6]
              rw [h5] at h4
              have h7 : Nat.blt j k = false := by
                cases hb : Nat.blt j k with
                | false => rfl
                | true => rw [Nat.blt_eq] at hb; omega
              simp only [List.getElem_toArray, List.getElem_map, List.getElem_range]
              rw [h7]; exact h4
    rw [hle]; exact hseq.2
end Go.Owl
/-! from Owl23 -/
/- Regions that draw, with a late move: the rule. -/
namespace Go.Owl
variable {P : Program} {n : Nat} {D : List Deferred} {ρ : Env} {w w0 : World} {S : List Nat} {L : List Ent} {Q : Exit → Act → World → Prop}
theorem Agr.shadow {d : Tmp} {v x : Value} {a : Act} (h : Agr n D ((d, v) :: (d, x) :: ρ) a) : Agr n D ((d, v) :: ρ) a := by
  refine ⟨h.size, h.defers, fun t u hu => h.get t u ?_⟩
  by_cases ht : d = t
  · subst ht
    simp [Env.get] at hu ⊢; exact hu
  · simp [Env.get, ht] at hu ⊢; exact hu
theorem WC.drawLate {id : Nat} {l : List Oper} (k r : Nat) {sp : List Sp} {ok o0 : Oper} {d0 t0 : Tmp} {v0 : Value} (hm : P.follows .mixedOrders = true) (H : Own S w0 w L) (h : HW P n D l.toArray S w0 L 0 [] (l.take k) sp ρ)
    (hchk : chkLate l.toArray n (sp.map Sp.mark) k r d0 t0 = true) (h0 : l[r]? = some o0) (hd0 : o0.dst = some d0) (hg0 : o0.guard = none) (hop0 : o0.op = .move (.tmp t0)) (hv : Env.get ρ t0 = some v0) (hsp : sp[r]? = some (.det v0 none)) (hok : l[k]? = some ok)
    (tail : ∀ (β : Nat → Fp) w1, Own S w0 w1 (L ++ fents sp β 0) → ∀ x, Op1 P n D ok ((d0, x) :: fenv (l.take k) sp β 0 (dets (l.take k) sp ρ)) w1 (fun v w' => WL P n D l.toArray Q (l.drop (k + 1)) (ext ((d0, v0) :: fenv (l.take k) sp β 0 (dets (l.take k) sp ρ)) ok.dst v) w')) : WC P n D (.region id l.toArray true) Q ρ w := by
  intro a ha
  unfold chkLate at hchk
  have hok' : l.toArray[k]? = some ok := by simpa using hok
  have h0' : l.toArray[r]? = some o0 := by simpa using h0
  rw [hok', h0'] at hchk
  simp only [Bool.and_eq_true, Nat.blt_eq] at hchk
  obtain ⟨⟨⟨⟨⟨⟨⟨⟨⟨⟨hno, hks⟩, hrk⟩, hall⟩, htailB⟩, hsink⟩, hchain⟩, hedge⟩, hnd⟩, hkk⟩, hfr⟩ := hchk
  obtain ⟨⟨⟨⟨hgk, hselk⟩, hdk⟩, hlook⟩, hdk0⟩ := hkk
  have hk : k ≤ l.toArray.size := by omega
  have hgk' : ok.guard = none := by simpa using hgk
  have hne0 : ∀ t, ok.dst = some t → (some d0 : Option Tmp) ≠ some t := fun t ht hh => by
    rw [ht] at hdk0; injection hh with hh; subst hh; simp at hdk0
  have hedge' : k + 1 = l.toArray.size ∨ edge l.toArray (k + 1) r = true := by
    rcases Bool.or_eq_true _ _ ▸ hedge with h1 | h1
    · exact Or.inl (Nat.eq_of_beq_eq_true h1)
    · exact Or.inr h1
  have hfree : ∀ e ∈ o0.after, Region.binds .any e = true → False := fun e he hb => by
    have := Array.all_eq_true'.1 hfr e he
    rw [hb] at this; cases this
  have hch : ∀ i, i < k → chkOp l.toArray n (sp.map Sp.mark) k i = true := fun i hi => allRange hall hi
  have hbig : ∀ t v, Env.get ρ t = some v → n ≤ t → v = undef := fun t v hv hn => by
    have := ha.get t v hv
    rw [← this]
    have : a.tmps.size ≤ t := by rw [ha.size]; exact hn
    simp [Array.getElem?_eq_none this]
  have hlen := h.len
  have htl : (l.take k).length = k := by simp at hk ⊢; omega
  have hspk : sp.length = k := by omega
  have hdrop : l.drop k = ok :: l.drop (k + 1) := by
    have hkl : k < l.length := by simpa using hks
    rw [List.drop_eq_getElem_cons hkl]
    congr 1
    rw [List.getElem?_eq_getElem hkl] at hok; exact Option.some.inj hok
  refine wp_region_any hm ?_
  have H0 : Own S w0 w.drew L := H.fr' (Fr.drew w)
  have M0 : Mid P n D l.toArray S w0 L k sp ρ (Array.replicate l.toArray.size false) (fun _ => (0, undef)) [] a w.drew :=
    ⟨ha.size, ha.defers, ⟨by simp, fun j oj _ hl => (by rw [getD_replicate_false] at hl; cases hl), fun t _ ht => getD_in (by simpa using ht) (getD_replicate_false _ _)⟩, by simpa using H0, by simp,
      fun i => by rw [getD_replicate_false]; simp, fun i o s d _ hl => (by rw [getD_replicate_false] at hl; cases hl), fun t v hv _ => ha.get t v hv, fun i v hi hs => (noOld_spec hno hi hs).elim⟩
  -- where all but r is done, operation k may be run
  have fin : ∀ listed β Fl a' w1, (∀ i, i < k → i ≠ r → listed.getD i false = true) → Mid P n D l.toArray S w0 L k sp ρ listed β Fl a' w1 →
      OpRun P ((execOp a'.eval ok).run P w1) (fun v w' => WL P n D l.toArray Q (l.drop (k + 1)) (ext ((d0, v0) :: fenv (l.take k) sp β 0 (dets (l.take k) sp ρ)) ok.dst v) w') ∧
      Agr n D ((d0, a'.tmps.getD d0 undef) :: fenv (l.take k) sp β 0 (dets (l.take k) sp ρ)) a' := by
    intro listed β Fl a' w1 hdone M
    have hA := M.agr (x := a'.tmps.getD d0 undef) (by simpa using hk) hspk hdone h0 hd0 rfl
    refine ⟨tail β w1 ?_ _ a' hA, hA⟩
    rw [fents_eq β sp sp 0 (fun j => by simp)]
    refine M.heap.perm M.nodup (fidx_nodup sp 0) (fun i hi => ?_)
    have h1 := (fidx_mem sp 0 i).1 hi
    simp only [Nat.sub_zero] at h1
    have hik : i < k := by
      rcases Nat.lt_or_ge i k with h | h
      · exact h
      · rw [List.getElem?_eq_none (by omega)] at h1; cases h1.2
    have hir : i ≠ r := fun hh => by subst hh; rw [hsp] at h1; have := h1.2; simp [Sp.isF] at this
    exact (M.mem i).2 ⟨hik, hdone i hik hir, h1.2⟩
  have hd0k : dOK n (some d0) = true := by
    have hc := hch r hrk
    unfold chkOp at hc
    rw [h0'] at hc
    simp only [Bool.and_eq_true] at hc
    rw [← hd0]; exact hc.1.1.1.2
  have main : ∀ f listed β Fl a' w1, undone k listed = f → Mid P n D l.toArray S w0 L k sp ρ listed β Fl a' w1 → wpAny P .any l.toArray Q (f + (l.drop k).length) listed a' w1 := by
    intro f
    induction f with
    | zero =>
      intro listed β Fl a' w1 hf M
      have hdone := undone_zero hf
      rw [Nat.zero_add]
      refine wpAny_of_seq (l.drop k) k listed a' w1 (fun j => by simp) ?_ ?_
      · have hle : listed = ((List.range l.toArray.size).map (fun i => Nat.blt i k)).toArray := by
          apply Array.ext
          · simp [M.inv.size]
          · intro i h1 h2
            have h3 : i < l.toArray.size := by rw [← M.inv.size]; exact h1
            have h4 : (((List.range l.toArray.size).map (fun i => Nat.blt i k)).toArray)[i] = Nat.blt i k := by simp
            rw [h4]
            by_cases hik : i < k
            · have := hdone i hik
              have h5 : listed.getD i false = listed[i] := by simp [h1]
              rw [h5] at this
              rw [this]; exact (by rw [Nat.blt_eq]; exact hik : Nat.blt i k = true).symm
            · have := M.inv.tail i (by omega) h3
              have h5 : listed.getD i true = listed[i] := by simp [h1]
              rw [h5] at this
              rw [this]
              cases hb : Nat.blt i k with
              | false => rfl
              | true => rw [Nat.blt_eq] at hb; omega
        have e : (l.drop k).length = l.toArray.size - k := by simp
        rw [hle, e]
        exact htailB
      · obtain ⟨hr1, hA⟩ := fin listed β Fl a' w1 (fun i hi _ => hdone i hi) M
        have hx : a'.tmps.getD d0 undef = v0 := M.done r o0 _ d0 hrk (hdone r hrk) h0' hsp hd0
        rw [hx] at hA
        rw [hdrop]
        exact wpList_plain hgk' fun K hK => hr1.wp fun v w' hR => hK _ _ (hR _ (hA.put hdk v))
    | succ f ih =>
      intro listed β Fl a' w1 hf M
      obtain ⟨i0, hi0, hl0⟩ : ∃ i, i < k ∧ listed.getD i false = false := by
        rcases Classical.em (∃ i, i < k ∧ listed.getD i false = false) with h | h
        · exact h
        · exfalso
          have : undone k listed = 0 := by
            unfold undone
            refine List.countP_eq_zero.2 fun i hi => ?_
            have hi' := List.mem_range.1 hi
            cases hb : listed.getD i false with
            | true => simp
            | false => exact absurd ⟨i, hi', hb⟩ h
          omega
      obtain ⟨j0, hj0, hr0⟩ := some_ready (n := n) M.inv.size hk hch i0 hi0 hl0
      rw [show f + 1 + (l.drop k).length = (f + (l.drop k).length) + 1 by omega]
      refine ⟨fun h => (by rw [h] at hr0; cases hr0), fun i hi => ?_⟩
      rcases Nat.lt_or_ge i k with hik | hik
      · obtain ⟨hun, _⟩ := mem_ready.1 hi
        refine M.step rfl h hch hk hbig hi hik (fun β' Fl' a'' w2 M' => ih _ β' Fl' a'' w2 ?_ M')
        have := undone_set hik hun
        omega
      · have hlate : ∀ i, i < k → i ≠ r → listed.getD i false = true := fun j hj hjr => by
          cases hb : listed.getD j false with
          | true => rfl
          | false => exact absurd hi (waits_late hsink hchain hks M.inv _ j rfl hj hjr (getD_in (by rw [M.inv.size]; omega) hb) i hik)
        have hi0r : i0 = r := Classical.byContradiction fun hh => by rw [hlate i0 hi0 hh] at hl0; cases hl0
        subst hi0r
        have hunr := getD_in (by rw [M.inv.size]; omega) hl0
        have hf0 : f = 0 := by
          have h1 := undone_set hrk hunr
          have h2 : undone k (listed.setIfInBounds i0 true) = 0 := by
            unfold undone
            refine List.countP_eq_zero.2 fun j hj => ?_
            have hj' := List.mem_range.1 hj
            by_cases hji : j = i0
            · subst hji
              have : (listed.setIfInBounds j true).getD j false = true := by simp [show j < listed.size by rw [M.inv.size]; omega]
              rw [this]; simp
            · rw [getD_set_ne false (Ne.symm hji), hlate j hj' hji]; simp
          omega
        subst hf0
        have hik2 : i = k := by
          obtain ⟨_, o, ho, hal⟩ := mem_ready.1 hi
          have his : i < l.toArray.size := (Array.getElem?_eq_some_iff.1 ho).1
          have h2 := List.all_eq_true.1 hchain i (List.mem_range.2 his)
          simp only [Bool.or_eq_true, decide_eq_true_eq] at h2
          rcases h2 with h2 | h2
          · omega
          · refine Classical.byContradiction fun hh => ?_
            obtain ⟨o', ho', e, he, hb, hon⟩ := Region.waitsFor_spec h2
            have : o' = o := Option.some.inj (ho'.symm.trans ho)
            subst this
            have h3 := hal e he hb
            rw [hon, getD_both (M.inv.tail (i - 1) (by omega) (by omega))] at h3
            cases h3
        subst hik2
        obtain ⟨hr1, hA⟩ := fin listed β Fl a' w1 hlate M
        refine wpOp_of hok' ?_
        rw [if_pos (by simp [Region.wanted, hgk'])]
        refine hr1.wp fun v w' hR => ?_
        have hl2 : 0 + (l.drop i).length = (l.drop (i + 1)).length + 1 := by rw [hdrop]; simp
        rw [hl2]
        have hnd' : ok.dst ≠ some t0 := noDst_spec hnd hok'
        refine late_rest (v0 := v0) M.inv.size (by simpa using hks) hrk hlate hunr (fun t ht hts => M.inv.tail t ht hts) hchain hedge' h0' hd0 hg0 hop0 hfree htailB ?_ ?_
        · have hB : Agr n D [(t0, v0)] a' := ⟨M.size, M.defers, fun t u hu => by
            by_cases ht : t0 = t
            · subst ht
              simp [Env.get] at hu; subst hu
              exact M.rest t0 _ hv (fun j o _ _ ho => noDst_spec hnd ho)
            · simp [Env.get, ht] at hu⟩
          refine (hB.put hdk v).get t0 v0 ?_
          cases hd : ok.dst with
          | none => simp [ext, Env.get]
          | some d =>
            have : d ≠ t0 := fun hh => hnd' (by rw [hd, hh])
            simp [ext, Env.get, this]
        · rw [put_comm (d := ok.dst) (e := some d0) hne0]
          exact hR _ ((hA.put hd0k v0).shadow.put hdk v)
  have e : l.toArray.size = undone k (Array.replicate l.toArray.size false) + (l.drop k).length := by
    have h1 : undone k (Array.replicate l.toArray.size false) = k := by
      unfold undone
      have : (List.range k).countP (fun i => !(Array.replicate l.toArray.size false).getD i false) = (List.range k).length := List.countP_eq_length.2 fun i _ => by rw [getD_replicate_false]; rfl
      rw [this]; simp
    rw [h1]; simp at hk ⊢; omega
  have := main _ _ _ _ _ _ rfl M0
  rw [← e] at this
  exact this
end Go.Owl
/-! from Owl24 -/
/- Small rules: two ways by a truth. -/
namespace Go.Owl
section
variable {P : Program} {n : Nat} {D : List Deferred} {ρ : Env} {w : World} {R : Value → World → Prop} {dst : Option Tmp} {ty : TypeId} {pos : String} {af : Array Edge} {g : Option (Nat × Bool)} {t t' : TypeId} {x y : Operand}
end
theorem Arr.lenF {β : Type} {g : β → List Value} {w : World} {v : Value} {sz q : Nat} {l : List β} (hA : Arr w v sz q (l.flatMap g)) (hg : ∀ b, (g b).length = sz) (hs : 0 < sz) : Arr w v sz l.length (l.flatMap g) := by
  have h := hA.len
  rw [flatMap_len hg] at h
  have e : l.length = q := Nat.eq_of_mul_eq_mul_right hs h
  rw [e]; exact hA
end Go.Owl
/-! from Owl25 -/
/- Regions that draw, step by step: moves ahead of time, one operation that all others wait for, and the rest in any order. -/
namespace Go.Owl
section
variable {P : Program} {n : Nat} {D : List Deferred} {ρ : Env} {w w0 : World} {S : List Nat} {L : List Ent} {ops : Array Oper} {Q : Exit → Act → World → Prop}

/-- Only a normal end counts. -/
def Nrm (Q : Exit → Act → World → Prop) : Exit → Act → World → Prop := fun e a w => e = .normal ∧ Q .normal a w
theorem letsOut_nrm (h : LetsOut (Nrm Q)) : False := by
  obtain ⟨_, _, h, _⟩ := h; cases h
theorem wp_nrm {o : Oper} {a : Act} {w : World} {K : Act → World → Prop} (h : o.wp P a w K (Nrm Q)) : o.wp P a w K Q := by
  unfold Oper.wp at *
  generalize (execOp a.eval o).run P w = r at *
  cases r with
  | ok x w' =>
    cases x <;> simp only [Oper.upon] at h ⊢ <;> first
      | exact h
      | exact Calls.mono h (fun e w'' he => by
          cases e with
          | returned v => exact he
          | panicked c => exact absurd he.1 (by intro h; cases h)
          | outgrown => exact (letsOut_nrm he).elim)
  | halt x w' =>
    cases x <;> simp only [Oper.upon] at h ⊢ <;> first
      | exact h
      | exact absurd h.1 (by intro h; cases h)
theorem wpOp_nrm {i : Nat} {a : Act} {w : World} {K : Act → World → Prop} (h : wpOp P ops (Nrm Q) i K a w) : wpOp P ops Q i K a w := by
  unfold wpOp at *
  cases ho : ops[i]? with
  | none => simp only [ho] at h ⊢; exact h
  | some o =>
    simp only [ho] at h ⊢
    split
    · rename_i hw
      rw [if_pos hw] at h
      rcases h with h | ⟨_, h⟩
      · exact .inl (wp_nrm h)
      · exact (letsOut_nrm h).elim
    · rename_i hw
      rw [if_neg hw] at h; exact h
theorem wpAny_nrm : ∀ (fuel : Nat) (listed : Array Bool) (a : Act) (w : World), wpAny P .any ops (Nrm Q) fuel listed a w → wpAny P .any ops Q fuel listed a w
  | 0, _, _, _, h => ⟨h.1, h.2.2⟩
  | fuel + 1, _, _, _, h => ⟨fun hr => (h.1 hr).2, fun i hi => wpOp_nrm (wpOp_mono (fun a w h => wpAny_nrm fuel _ a w h) (h.2 i hi))⟩
/-- In the midst of a region that draws: what is listed was run. -/
def WD (P : Program) (n : Nat) (D : List Deferred) (ops : Array Oper) (Q : Exit → Act → World → Prop) (fuel : Nat) (listed : Array Bool) (ρ : Env) (w : World) : Prop :=
  ∀ a, Agr n D ρ a → wpAny P .any ops (Nrm Q) fuel listed a w
def chkEarly (ops : Array Oper) (listed : Array Bool) (i : Nat) : Bool := Region.noSelect ops && Region.free .any ops listed i && (Region.ready .any ops listed).contains i
/-- One operation that all others wait for. -/
theorem WD.op {i fuel : Nat} {oi : Oper} {listed : Array Bool} (hi : ops[i]? = some oi) (hg : oi.guard = none) (hd : dOK n oi.dst = true) (hr : Region.ready .any ops listed = [i])
    (h : Op1 P n D oi ρ w (fun v w' => WD P n D ops Q fuel (listed.setIfInBounds i true) (ext ρ oi.dst v) w')) : WD P n D ops Q (fuel + 1) listed ρ w := by
  intro a ha
  refine ⟨fun h => (by rw [hr] at h; cases h), fun j hj => ?_⟩
  rw [hr] at hj
  have hji : j = i := by simpa using hj
  subst hji
  refine wpOp_of hi ?_
  rw [if_pos (by simp [Region.wanted, hg])]
  exact (h a ha).wp fun v w' hR => hR _ (ha.put hd v)
theorem WD.done {fuel : Nat} {listed : Array Bool} (hr : Region.ready .any ops listed = []) (h : WQ n D Q .normal ρ w) : WD P n D ops Q fuel listed ρ w :=
  fun a ha => wpAny_done hr ⟨rfl, h a ha⟩ fuel

def oldAt (ρ : Env) : Option Tmp → Value → Prop
  | none, _ => True
  | some d, v => Env.get ρ d = some v
def OldOK (ρ : Env) : List Oper → List Sp → Prop
  | o :: l, .det v _ :: sp => oldAt ρ o.dst v ∧ OldOK ρ l sp
  | _ :: _, .flt _ _ :: _ => False
  | _, _ => True
theorem OldOK.at : ∀ (l : List Oper) (sp : List Sp), OldOK ρ l sp → ∀ (i : Nat) (o : Oper) (v : Value) (dp : Option Nat), l[i]? = some o → sp[i]? = some (.det v dp) → oldAt ρ o.dst v
  | o :: l, .det v dp :: sp, h, 0, o', v', dp', h1, h2 => by simp at h1 h2; obtain ⟨rfl, rfl⟩ := h2; subst h1; exact h.1
  | o :: l, .det v dp :: sp, h, i + 1, o', v', dp', h1, h2 => OldOK.at l sp h.2 i o' v' dp' (by simpa using h1) (by simpa using h2)
  | _ :: _, .flt _ _ :: _, h, _, _, _, _, _, _ => h.elim
  | [], _, _, _, _, _, _, h1, _ => by simp at h1
  | _ :: _, [], _, _, _, _, _, _, h2 => by simp at h2
def chkLast (ops : Array Oper) (n : Nat) (fl : List (Bool × Option Nat)) (listed : Array Bool) (k0 fuel : Nat) : Bool :=
  Nat.beq listed.size ops.size && (List.range ops.size).all (chkOp ops n fl ops.size) &&
  (List.range ops.size).all (fun i => if Nat.blt i k0 then listed.getD i false && (fl.getD i (true, none) == (false, some i)) else !listed.getD i true && !((fl.getD i (true, none)).2 == some i)) && Nat.beq (undone ops.size listed) fuel
/-- What is left comes in any order. -/
theorem WD.last {l : List Oper} {sp : List Sp} {listed : Array Bool} {fuel : Nat} (k0 : Nat) (H : Own S w0 w L) (h : HW P n D l.toArray S w0 L 0 [] l sp ρ) (hchk : chkLast l.toArray n (sp.map Sp.mark) listed k0 fuel = true)
    (hold : OldOK ρ (l.take k0) (sp.take k0)) (tail : ∀ (β : Nat → Fp) w1, Own S w0 w1 (L ++ fents sp β 0) → WQ n D Q .normal (fenv l sp β 0 (dets l sp ρ)) w1) : WD P n D l.toArray Q fuel listed ρ w := by
  intro a ha
  unfold chkLast at hchk
  simp only [Bool.and_eq_true] at hchk
  obtain ⟨⟨⟨hsz, hall⟩, hlst⟩, hfuel⟩ := hchk
  have hsz := Nat.eq_of_beq_eq_true hsz
  have hfuel := Nat.eq_of_beq_eq_true hfuel
  have hch : ∀ i, i < l.toArray.size → chkOp l.toArray n (sp.map Sp.mark) l.toArray.size i = true := fun i hi => allRange hall hi
  have hbig : ∀ t v, Env.get ρ t = some v → n ≤ t → v = undef := fun t v hv hn => by
    have := ha.get t v hv
    rw [← this]
    have : a.tmps.size ≤ t := by rw [ha.size]; exact hn
    simp [Array.getElem?_eq_none this]
  have hlen := h.len
  have hls : l.toArray.size = l.length := by simp
  have htk : l.take l.toArray.size = l := by simp
  -- what is listed at first
  have hin : ∀ i, i < l.toArray.size → listed.getD i false = true → i < k0 ∧ (sp.map Sp.mark).getD i (true, none) = (false, some i) := fun i hi hl => by
    have h1 := allRange hlst hi
    cases hb : Nat.blt i k0 with
    | true => simp only [hb, if_true, Bool.and_eq_true, beq_iff_eq] at h1; exact ⟨by rw [Nat.blt_eq] at hb; exact hb, h1.2⟩
    | false =>
      simp only [hb, Bool.false_eq_true, if_false, Bool.and_eq_true, Bool.not_eq_true'] at h1
      rw [getD_both h1.1] at hl; cases hl
  have hout : ∀ i, i < l.toArray.size → i < k0 → listed.getD i false = true := fun i hi hk => by
    have h1 := allRange hlst hi
    rw [if_pos (by rw [Nat.blt_eq]; exact hk)] at h1
    simp only [Bool.and_eq_true] at h1
    exact h1.1
  have hmk : ∀ i (s : Sp), sp[i]? = some s → (sp.map Sp.mark).getD i (true, none) = s.mark := fun i s hs => by simp [List.getD, hs]
  have M0 : Mid P n D l.toArray S w0 L l.toArray.size sp ρ listed (fun _ => (0, undef)) [] a w := by
    refine ⟨ha.size, ha.defers, ⟨hsz, fun j oj hj hl e he hb => ?_, fun t h1 h2 => absurd h2 (by omega)⟩, by simpa using H, by simp, fun i => ?_, fun i o s d hi hl ho hs hd => ?_, fun t v hv _ => ha.get t v hv, fun i v hi hs => ?_⟩
    · have hjs := (Array.getElem?_eq_some_iff.1 hj).1
      have hc := hch j hjs
      unfold chkOp at hc
      rw [hj] at hc
      simp only [Bool.and_eq_true] at hc
      have h1 := Array.all_eq_true'.1 hc.1.2 e he
      rw [hb] at h1
      have h2 : e.on < j := by simpa [Nat.blt_eq] using h1
      exact hout _ (by omega) (by have := (hin j hjs hl).1; omega)
    · constructor
      · intro h; cases h
      · rintro ⟨hi, hl, hF⟩
        have h1 := (hin i hi hl).2
        cases hs : sp[i]? with
        | none => rw [hs] at hF; cases hF
        | some s =>
          rw [hmk i s hs] at h1
          rw [hs] at hF
          have h2 : s.isF = true := by simpa using hF
          have h3 := congrArg Prod.fst h1
          rw [show s.mark.1 = s.isF from rfl, h2] at h3; cases h3
    · obtain ⟨hik, hm⟩ := hin i hi hl
      rw [hmk i s hs] at hm
      cases s with
      | flt m e => cases (congrArg Prod.fst hm)
      | det v dp =>
        have h1 := OldOK.at _ _ hold i o v dp (by rw [List.getElem?_take, if_pos hik]; simpa using ho) (by rw [List.getElem?_take, if_pos hik]; exact hs)
        rw [hd] at h1
        exact ha.get d v h1
    · rcases Nat.lt_or_ge i k0 with hk | hk
      · exact hout i hi hk
      · have h1 := allRange hlst hi
        rw [if_neg (by rw [Nat.blt_eq]; omega)] at h1
        simp only [Bool.and_eq_true] at h1
        rw [hmk i _ hs] at h1
        simp [Sp.mark, Sp.dep] at h1
  have main : ∀ f listed β Fl a' w1, undone l.toArray.size listed = f → Mid P n D l.toArray S w0 L l.toArray.size sp ρ listed β Fl a' w1 → wpAny P .any l.toArray (Nrm Q) f listed a' w1 := by
    intro f
    induction f with
    | zero =>
      intro listed β Fl a' w1 hf M
      have hdone := undone_zero hf
      refine ⟨?_, rfl, ?_⟩
      · cases hr : Region.ready .any l.toArray listed with
        | nil => rfl
        | cons i t =>
          have hi : i ∈ Region.ready .any l.toArray listed := by rw [hr]; simp
          obtain ⟨hun, o, ho, _⟩ := mem_ready.1 hi
          have := hdone i (Array.getElem?_eq_some_iff.1 ho).1
          rw [getD_both hun] at this; cases this
      · have hO : Own S w0 w1 (L ++ fents sp β 0) := by
          rw [fents_eq β sp sp 0 (fun j => by simp)]
          refine M.heap.perm M.nodup (fidx_nodup sp 0) (fun i hi => ?_)
          have h1 := (fidx_mem sp 0 i).1 hi
          simp only [Nat.sub_zero] at h1
          have hik : i < l.toArray.size := by
            rcases Nat.lt_or_ge i l.toArray.size with h | h
            · exact h
            · rw [List.getElem?_eq_none (by omega)] at h1; cases h1.2
          exact (M.mem i).2 ⟨hik, hdone i hik, h1.2⟩
        refine tail β w1 hO a' ⟨M.size, M.defers, fun t v hv => ?_⟩
        have hop : ∀ (j : Nat) (o : Oper), l[j]? = some o → j < l.toArray.size ∧ l.toArray[j]? = some o := fun j o hj =>
          ⟨by rw [hls]; exact (List.getElem?_eq_some_iff.1 hj).1, by simpa using hj⟩
        rcases fenv_get β _ sp 0 _ t v hv with ⟨j, o, m, e, h1, h2, h3, h4⟩ | ⟨hv, hnf⟩
        · obtain ⟨hjk, ho⟩ := hop j o h1
          rw [M.done j o _ t hjk (hdone j hjk) ho h2 h3, h4]
          simp [Sp.val]
        · rcases dets_get _ sp ρ t v hv with ⟨j, o, dp, h1, h2, h3⟩ | ⟨h1, h2⟩
          · obtain ⟨hjk, ho⟩ := hop j o h1
            rw [M.done j o _ t hjk (hdone j hjk) ho h2 h3]; rfl
          · by_cases hex : ∃ (j : Nat) (o : Oper), j < l.toArray.size ∧ l.toArray[j]? = some o ∧ o.dst = some t
            · obtain ⟨j, o, hjk, ho, hd⟩ := hex
              obtain ⟨s, hs⟩ : ∃ s, sp[j]? = some s := ⟨sp[j]'(by omega), by simp [show j < sp.length by omega]⟩
              cases s with
              | det u dp => exact absurd hd (h2 j o u dp (by simpa using ho) hs)
              | flt m e => exact absurd hd (hnf j o m e (by simpa using ho) hs)
            · exact M.rest t v h1 (fun j o hj _ ho hd => hex ⟨j, o, hj, ho, hd⟩)
    | succ f ih =>
      intro listed β Fl a' w1 hf M
      obtain ⟨i0, hi0, hl0⟩ : ∃ i, i < l.toArray.size ∧ listed.getD i false = false := by
        rcases Classical.em (∃ i, i < l.toArray.size ∧ listed.getD i false = false) with h | h
        · exact h
        · exfalso
          have : undone l.toArray.size listed = 0 := by
            unfold undone
            refine List.countP_eq_zero.2 fun i hi => ?_
            have hi' := List.mem_range.1 hi
            cases hb : listed.getD i false with
            | true => simp
            | false => exact absurd ⟨i, hi', hb⟩ h
          omega
      obtain ⟨j0, hj0, hr0⟩ := some_ready (n := n) M.inv.size (Nat.le_refl _) hch i0 hi0 hl0
      refine ⟨fun h => (by rw [h] at hr0; cases hr0), fun i hi => ?_⟩
      obtain ⟨hun, o, ho, _⟩ := mem_ready.1 hi
      have hik := (Array.getElem?_eq_some_iff.1 ho).1
      refine M.step rfl (by rw [htk]; exact h) hch (Nat.le_refl _) hbig hi hik (fun β' Fl' a'' w2 M' => ih _ β' Fl' a'' w2 ?_ M')
      have := undone_set hik hun
      omega
  exact main _ _ _ _ _ _ hfuel M0
end
end Go.Owl
/-! from Owl26 -/
/- Regions that draw: a state for each set of operations that were run. -/
namespace Go.Owl
section
variable {P : Program} {n : Nat} {D : List Deferred} {ρ ρ' : Env} {w w0 : World} {S : List Nat} {L : List Ent} {ops : Array Oper} {Q : Exit → Act → World → Prop} {fuel : Nat} {listed : Array Bool}
theorem WD.named (h : ∀ W : Nat → Array Bool → Env → World → Prop, W = WD P n D ops Q → W fuel listed ρ w) : WD P n D ops Q fuel listed ρ w := h _ rfl
theorem WD.cov (hc : Cov ρ ρ') (h : WD P n D ops Q fuel listed ρ' w) : WD P n D ops Q fuel listed ρ w := fun a ha => h a (ha.cov hc)
/-- One operation of those that may come next. -/
def WS (P : Program) (n : Nat) (D : List Deferred) (ops : Array Oper) (Q : Exit → Act → World → Prop) (i fuel : Nat) (listed : Array Bool) (ρ : Env) (w : World) : Prop :=
  ∀ a, Agr n D ρ a → wpOp P ops (Nrm Q) i (wpAny P .any ops (Nrm Q) fuel (listed.setIfInBounds i true)) a w
theorem WS.op {i : Nat} {oi : Oper} (hi : ops[i]? = some oi) (hg : oi.guard = none) (hd : dOK n oi.dst = true)
    (h : Op1 P n D oi ρ w (fun v w' => WD P n D ops Q fuel (listed.setIfInBounds i true) (ext ρ oi.dst v) w')) : WS P n D ops Q i fuel listed ρ w := by
  intro a ha
  refine wpOp_of hi ?_
  rw [if_pos (by simp [Region.wanted, hg])]
  exact (h a ha).wp fun v w' hR => hR _ (ha.put hd v)
theorem WD.all {rs : List Nat} (hr : Region.ready .any ops listed = rs) (hne : rs ≠ []) (h : ∀ i, i ∈ rs → WS P n D ops Q i fuel listed ρ w) : WD P n D ops Q (fuel + 1) listed ρ w := by
  subst hr
  exact fun a ha => ⟨fun h0 => absurd h0 hne, fun i hi => h i hi a ha⟩
theorem WD.all1 {i : Nat} (hr : Region.ready .any ops listed = [i]) (h : WS P n D ops Q i fuel listed ρ w) : WD P n D ops Q (fuel + 1) listed ρ w :=
  WD.all hr (by simp) fun k hk => by
    rcases List.mem_singleton.1 hk with rfl; exact h
end
end Go.Owl
/-! from Owl27 -/
/- Elements that hold slices: what hangs on other blocks, as one thing that is only read. -/
namespace Go.Owl
/-- What is known of a thing, and on which blocks that hangs. -/
structure Deep (α : Type) where
  ok : World → α → Prop
  ft : α → List Nat
  lt : ∀ (w : World) (a : α), ok w a → ∀ b ∈ ft a, b < w.heap.size
  fr : ∀ (T : List Nat) (w w' : World) (a : α), Fr T w w' → (∀ b ∈ ft a, b ∉ T) → ok w a → ok w' a
section
variable {α β : Type} {S : List Nat} {w0 w w' : World} {L : List Ent} {i j : Nat}
theorem Deep.st (D : Deep α) (a : α) : Stable (fun w => D.ok w a) (D.ft a) := ⟨fun w h => D.lt w a h, fun T w w' hf hT h => D.fr T w w' a hf hT h⟩
theorem Deep.fr0 (D : Deep α) {a : α} (h : D.ok w a) (hf : Fr [] w w') : D.ok w' a := D.fr [] w w' a hf (fun _ _ => by simp) h
def Deep.list (D : Deep α) : Deep (List α) where
  ok := fun w l => ∀ x ∈ l, D.ok w x
  ft := fun l => l.flatMap D.ft
  lt := fun w l h b hb => by
    obtain ⟨x, hx, hb⟩ := List.mem_flatMap.1 hb
    exact D.lt w x (h x hx) b hb
  fr := fun T w w' l hf hT h x hx => D.fr T w w' x hf (fun b hb => hT b (List.mem_flatMap.2 ⟨x, hx, hb⟩)) (h x hx)
def Deep.and (D E : Deep α) : Deep α where
  ok := fun w a => D.ok w a ∧ E.ok w a
  ft := fun a => D.ft a ++ E.ft a
  lt := fun w a h b hb => (List.mem_append.1 hb).elim (D.lt w a h.1 b) (E.lt w a h.2 b)
  fr := fun T w w' a hf hT h => ⟨D.fr T w w' a hf (fun b hb => hT b (List.mem_append.2 (.inl hb))) h.1, E.fr T w w' a hf (fun b hb => hT b (List.mem_append.2 (.inr hb))) h.2⟩
def Deep.on (D : Deep β) (g : α → β) : Deep α where
  ok := fun w a => D.ok w (g a)
  ft := fun a => D.ft (g a)
  lt := fun w a => D.lt w (g a)
  fr := fun T w w' a => D.fr T w w' (g a)
def Deep.arr (sz : Nat) (g : β → List Value) : Deep (Value × List β) where
  ok := fun w p => Arr w p.1 sz p.2.length (p.2.flatMap g)
  ft := fun p => footA p.1 (p.2.flatMap g)
  lt := fun w p => (Arr.stable p.1 sz p.2.length (p.2.flatMap g)).lt w
  fr := fun T w w' p hf hT h => (Arr.stable p.1 sz p.2.length (p.2.flatMap g)).fr T w w' hf hT h
def Ent.dp (D : Deep α) (a : α) : Ent := .ro (fun w => D.ok w a) (D.ft a) (D.st a)
theorem Deep.getD (D : Deep α) {l : List α} (h : D.list.ok w l) (d : α) (hd : D.ok w d) (i : Nat) : D.ok w (l.getD i d) := by
  rcases Nat.lt_or_ge i l.length with hi | hi
  · rw [show l.getD i d = l[i] by simp [List.getD, hi]]; exact h _ (List.getElem_mem hi)
  · rw [show l.getD i d = d by simp [List.getD, Nat.not_lt.2 hi]]; exact hd
end
end Go.Owl
/-! from Owl28 -/
/- Cells copied into a slice; slices with three bounds. -/
namespace Go.Owl
section
variable {P : Program} {n : Nat} {D : List Deferred} {ρ : Env} {w w0 : World} {R : Value → World → Prop} {dst : Option Tmp} {ty : TypeId} {pos : String} {af : Array Edge} {g : Option (Nat × Bool)}
variable {S : List Nat} {L : List Ent} {i : Nat} {t t' T T' : TypeId} {x y : Operand} {z : List Value} {sz by_ : Nat} {d : TypeDesc}
/-- What may be copied: its first k elements, for each k. -/
structure SrcC (P : Program) (w : World) (sz : Nat) (u : Value) (m : Nat) (ys : List Value) : Prop where
  len : (Builtin.lenOf u).run P w = .ok m w
  size : ys.length = m * sz
  cells : ∀ k, k ≤ m → (Builtin.firstCells sz k u).run P w = .ok (ys.take (k * sz)).toArray w
theorem SrcC.ofArr {u : Value} {m : Nat} {ys : List Value} (hA : Arr w u sz m ys) : SrcC P w sz u m ys := by
  obtain ⟨a0, cap, rfl, hn, hc, ha0, hsp⟩ := hA.form
  refine ⟨by simp [Builtin.lenOf], hA.len, fun k hk => ?_⟩
  cases a0 with
  | none =>
    have : ys = [] := List.eq_nil_of_length_eq_zero (by rw [hA.len, (ha0 rfl).1]; simp)
    subst this
    simp [Builtin.firstCells]
  | some ad =>
    by_cases hm0 : k = 0
    · subst hm0
      have := run_firstCells_some (P := P) w sz 0 ad m cap [] (by simp) (fun j v hj => by simp at hj)
      simpa using this
    have hs0 := hsp (by omega) ad rfl
    obtain ⟨b, o, s⟩ := ad
    simp at hs0; subst hs0
    refine run_firstCells_some w sz k ⟨b, o, none⟩ m cap (ys.take (k * sz)) ?_ (fun j v hj => ?_)
    · rw [List.length_take, hA.len]; exact Nat.min_eq_left (Nat.mul_le_mul_right _ hk)
    rw [Addr.add_at]
    have hj' : j < (ys.take (k * sz)).length := (List.getElem?_eq_some_iff.1 hj).1
    have hjy : j < ys.length := by rw [List.length_take] at hj'; omega
    have h1 := hA.cell j hjy
    rw [List.getElem?_take, if_pos (by rw [List.length_take] at hj'; omega)] at hj
    rw [← hj, ← h1]
    rfl
/-- A part of a row: dl cells from a on. -/
def Sub (u v : Value) (a dl : Nat) : Prop := ∃ ad cap, u = .slice ad dl cap ∧ (dl ≠ 0 → ad = some (sp v a))
/-- A slice of a slice, with a bound for its capacity. -/
def cutV3 (v : Value) (a b c sz : Nat) : Value := match v with
  | .slice ad _ _ => .slice (if c = a then ad else ad.map (·.add (a * sz))) (b - a) (c - a)
  | v => v
theorem Arr.upto {ad : Option Addr} {q cap c : Nat} {xs : List Value} (hA : Arr w (.slice ad q cap) sz q xs) (hc : c ≤ q) : Arr w (.slice ad c c) sz c (xs.take (c * sz)) := by
  obtain ⟨a0, cap', e, hn, hc', ha0, hsp⟩ := hA.form
  injection e with e1 e2 e3; subst e1; subst e3
  have hle : c * sz ≤ xs.length := by rw [hA.len]; exact Nat.mul_le_mul_right _ hc
  refine ⟨⟨ad, c, rfl, Nat.le_refl _, by omega, fun h => ?_, fun h0 => hsp (by omega)⟩, by rw [List.length_take]; omega, fun j hj => ?_⟩
  · have := ha0 h; omega
  · rw [List.length_take] at hj
    rw [List.getElem?_take, if_pos (by omega)]
    have h1 := hA.cell j (by omega)
    cases ad with
    | none => exact h1
    | some ad => exact h1
theorem Arr.cut3 {v : Value} {q a b c : Nat} {xs : List Value} (hA : Arr w v sz q xs) (hab : a ≤ b) (hbc : b ≤ c) (hc : c ≤ q) : Arr w (cutV3 v a b c sz) sz (b - a) (cutL xs a b sz) := by
  obtain ⟨ad, cap, rfl, _⟩ := hA.form
  have h := (hA.upto hc).cut hab hbc
  have e : cutL (xs.take (c * sz)) a b sz = cutL xs a b sz := by
    unfold cutL
    rw [List.drop_take, List.take_take]
    congr 1
    rw [← Nat.sub_mul]
    exact Nat.min_eq_left (Nat.mul_le_mul_right _ (by omega))
  rw [e] at h
  exact h
theorem Arr.cut3M {α : Type} {f : α → Value} {l : List α} {v : Value} {q a b c : Nat} (hA : Arr w v 1 q (l.map f)) (hab : a ≤ b) (hbc : b ≤ c) (hc : c ≤ q) : Arr w (cutV3 v a b c 1) 1 (b - a) (((l.drop a).take (b - a)).map f) := by
  rw [← cutL_map]; exact hA.cut3 hab hbc hc
theorem Sub.cut3 {v : Value} {q a b c : Nat} {xs : List Value} (hA : Arr w v 1 q xs) (hab : a ≤ b) (hbc : b ≤ c) (hc : c ≤ q) : Sub (cutV3 v a b c 1) v a (b - a) := by
  obtain ⟨ad, cap, rfl, hn, hcm, ha0, hsp⟩ := hA.form
  refine ⟨_, _, rfl, fun h => ?_⟩
  rw [if_neg (by omega)]
  cases ad with
  | none => have := ha0 rfl; omega
  | some ad =>
    have := hsp (by omega) ad rfl
    obtain ⟨bb, o, s⟩ := ad
    simp at this; subst this
    simp only [Option.map_some, Addr.add_at, sp, sBlk, sOff, Nat.mul_one]
end
end Go.Owl
/-! from Owl35 -/
/- Appending zeros to a slice of nothing (slices.Grow). -/
namespace Go.Owl
section
variable {P : Program} {n : Nat} {D : List Deferred} {ρ : Env} {w w0 : World} {R : Value → World → Prop} {dst : Option Tmp} {ty : TypeId} {pos : String} {af : Array Edge} {g : Option (Nat × Bool)}
variable {S : List Nat} {L : List Ent} {i : Nat} {t t' T T' : TypeId} {x y : Operand} {z : List Value} {sz by_ : Nat} {k : IntKind}
theorem WC.regionL {id : Nat} {l1 l2 : List Oper} {Q : Exit → Act → World → Prop} (h : WL P n D (l1 ++ l2).toArray Q (l1 ++ l2) ρ w) : WC P n D (.region id (List.append l1 l2).toArray false) Q ρ w := WC.region h
theorem op_capNil {at_ e : TypeId} (hu : P.underlying at_ = some (.slice e)) (hx : ev ρ x = some (.slice none 0 0)) (h : R (vN 0) w) :
    Op1 P n D ⟨dst, .call { callee := .builtin .cap, args := #[x], argTypes := #[at_] }, ty, pos, af, g⟩ ρ w R :=
  Op1.val (fun c hc => by simp [execOp, resolve, invoke, builtin, hc.ev hx, Builtin.cap_, run_underlying hu, goInt]) h
theorem op_cutNil {e : TypeId} {k' : IntKind} {hi : Operand} (hu : P.underlying t = some (.slice e)) (hz : tiB P e = some (z, sz, by_)) (hx : ev ρ x = some (.slice none 0 0)) (hb : ev ρ hi = some (.int k' ((0 : Nat) : Int)))
    (h : R (.slice none 0 0) w) : Op1 P n D ⟨dst, .slice t x none (some hi) none, ty, pos, af, g⟩ ρ w R :=
  op_cutHi (v := .slice none 0 0) (q := 0) (xs := []) (b := 0) hu hz hx (Arr.nil w sz) hb (Nat.le_refl _) (by
    show R (.slice (if (0 : Nat) = 0 then none else _) (0 - 0) (0 - 0)) w
    rw [if_pos rfl]; exact h)
theorem run_appendZ {m : Nat} (hu : P.underlying T = some (.slice t)) (hT : P.underlying T' = some (.int k)) (hz : tiB P t = some (z, sz, by_)) (hzl : z.length = sz) (h0 : 0 < m) (h63 : m ≤ 4611686018427387904) (hby : m * by_ ≤ 140737488355328) :
    ∃ v' w' xs, (Builtin.append_ #[T, T'] ty #[.slice none 0 0, vN m]).run P w = .ok v' w' ∧ RowOK w' v' t sz m xs ∧ Fr [] w w' ∧ (∀ b, v'.ownBlock = some b → w.heap.size ≤ b) := by
  obtain ⟨ti, zv, hti, htz, hcz, htsz, htby⟩ := tiB_spec hz
  have hzs : zv.cells.size = sz := by rw [← hzl, ← hcz]; simp
  have hge := grownCap_ge w m 0 t
  have hcm : grownCap w m 0 t ≤ maxLen := grownCap_le_maxLen w m 0 t (by unfold maxLen; omega)
  have hfit : ¬ (281474976710656 < Builtin.nextslicecap m 0 * ti.bytes) := by
    have := growslice_fits (need := m) (old := 0) (bytes := ti.bytes) (by omega) (by rw [htby]; exact hby)
    omega
  have hw : IntKind.i64.wrap (m : Int) = (m : Int) := by rw [IntKind.wrap_i64]; omega
  have hm1 : ¬ ((m : Int) < 0) := by omega
  have hm2 : ¬ ((281474976710656 : Int) < (m : Int) * (ti.bytes : Int)) := by
    have : m * ti.bytes ≤ 140737488355328 := by rw [htby]; exact hby
    have : ((m * ti.bytes : Nat) : Int) ≤ 140737488355328 := by omega
    rw [Int.natCast_mul] at this
    omega
  have hm3 : ¬ (9223372036854775807 < (m : Int)) := by omega
  have hm4 : ¬ (m = 0) := by omega
  have hm5 : ¬ (m ≤ 0) := by omega
  let new : Array Value := if m * sz = 0 then #[] else Builtin.zeroCells zv.cells m
  have hnew : new.size = m * sz := by
    show (if m * sz = 0 then #[] else Builtin.zeroCells zv.cells m).size = m * sz
    split
    · rename_i h; rw [h]; rfl
    · rw [size_zeroCells, hzs]
  refine ⟨.slice (some ⟨w.heap.size, 0, none⟩) m (grownCap w m 0 t), w.drew.alloc (.cells (new ++ Builtin.zeroCells zv.cells (grownCap w m 0 t - m)) t), new.toList, ?_, ?_, ?_, ?_⟩
  · simp [Builtin.append_, run_underlying hu, run_underlying hT, run_sizeOf hz, typeInfo, hti, asInt, asIntOf, hw, hm1, hm2, hm3, hfit, Question.forced, Builtin.firstCells, newRow, grownCap, hm4, zeroValue, htz]
    show _ = Result.ok _ (World.alloc _ (Obj.cells ((if m * sz = 0 then #[] else Builtin.zeroCells zv.cells m) ++ _) _))
    split
    · rw [Array.empty_append]
    · rfl
  · refine ⟨by simpa using hnew, .inr ⟨w.heap.size, _, [], (Builtin.zeroCells zv.cells (grownCap w m 0 t - m)).toList, rfl, ?_, hge, hcm, ?_⟩⟩
    · have hb := Blk.alloc w.drew (new.toList ++ (Builtin.zeroCells zv.cells (grownCap w m 0 t - m)).toList) t
      have e : (new.toList ++ (Builtin.zeroCells zv.cells (grownCap w m 0 t - m)).toList).toArray = new ++ Builtin.zeroCells zv.cells (grownCap w m 0 t - m) := by
        apply Array.ext'; simp
      rw [e] at hb
      simpa using hb
    · have h9 : (Builtin.zeroCells zv.cells (grownCap w m 0 t - m)).toList.length = (grownCap w m 0 t - m) * sz := by
        rw [Array.length_toList, size_zeroCells, hzs]
      rw [h9, Array.length_toList, hnew, ← Nat.add_mul]
      exact Nat.le_of_eq (congrArg (· * sz) (by omega))
  · exact ((Fr.drew w).trans (Fr.alloc _ _)).nil
  · intro b hb
    simp only [Value.ownBlock, Option.some.injEq] at hb
    omega
theorem op_appendZ {m : Nat} (H : Own S w0 w L) (hu : P.underlying T = some (.slice t)) (hT : P.underlying T' = some (.int k)) (hz : tiB P t = some (z, sz, by_)) (hzl : z.length = sz) (hx : ev ρ x = some (.slice none 0 0)) (hy : ev ρ y = some (vN m))
    (h0 : 0 < m) (h63 : m ≤ 4611686018427387904) (hby : m * by_ ≤ 140737488355328) (h : ∀ v' w' xs, Own S w0 w' (L ++ [.row v' t sz m xs]) → R v' w') :
    Op1 P n D ⟨dst, .call { callee := .builtin .append, args := #[x, y], argTypes := #[T, T'] }, ty, pos, af, g⟩ ρ w R := by
  obtain ⟨v', w', xs, h1, h2, h3, h4⟩ := run_appendZ (P := P) (w := w) (ty := ty) hu hT hz hzl h0 h63 hby
  refine Op1.val (w' := w') (v := v') (fun a ha => ?_) (h _ _ xs (H.new h3 h2 h4))
  simp [execOp, resolve, invoke, builtin, ha.ev hx, ha.ev hy, h1]
end
end Go.Owl
/-! from Owl32 -/
/- Regions that draw: what only reads is taken first, what acts comes in each order that is left. -/
namespace Go.Owl
section
variable {P : Program} {n : Nat} {D : List Deferred} {ρ ρ' : Env} {w w0 : World} {S : List Nat} {L : List Ent} {ops : Array Oper} {Q : Exit → Act → World → Prop} {fuel : Nat} {listed : Array Bool} {Sx : World → Prop}
/-- In the midst of a region that draws; Sx holds behind each operation. -/
def WH (P : Program) (n : Nat) (D : List Deferred) (ops : Array Oper) (Q : Exit → Act → World → Prop) (Sx : World → Prop) (fuel : Nat) (listed : Array Bool) (ρ : Env) (w : World) : Prop :=
  ∀ a, Agr n D ρ a → wpAnyH P .any ops (Nrm Q) Sx fuel listed a w
theorem WC.held {id : Nat} {l : List Oper} (N : Nat) (hN : l.length = N) (hm : P.follows .mixedOrders = true) (H : Own S w0 w L) (Sx : World → Prop) (h : ∀ w1, Own S w0 w1 L → WH P n D l.toArray Q Sx N (Array.replicate N false) ρ w1) : WC P n D (.region id l.toArray true) Q ρ w := by
  subst hN
  exact fun a ha => wp_region_any hm (wpAny_nrm _ _ _ _ (wpAny_of_held _ _ _ _ (by have h1 := h w.drew (H.fr' (Fr.drew w)) a ha; rw [show l.length = l.toArray.size from (List.size_toArray ..).symm] at h1; exact h1)))
theorem WH.named (h : ∀ W : Nat → Array Bool → Env → World → Prop, W = WH P n D ops Q Sx → W fuel listed ρ w) : WH P n D ops Q Sx fuel listed ρ w := h _ rfl
theorem WH.cov (hc : Cov ρ ρ') (h : WH P n D ops Q Sx fuel listed ρ' w) : WH P n D ops Q Sx fuel listed ρ w := fun a ha => h a (ha.cov hc)
theorem WH.done (hr : Region.ready .any ops listed = []) (h : WQ n D Q .normal ρ w) : WH P n D ops Q Sx fuel listed ρ w := fun a ha => wpAnyH_done hr ⟨rfl, h a ha⟩ fuel
/-- The operation is wanted. -/
def Wnt (ops : Array Oper) (ρ : Env) (o : Oper) : Prop := o.guard = none ∨ ∃ j t want b, o.guard = some (j, want) ∧ (ops[j]?).bind (·.dst) = some t ∧ Env.get ρ t = some (.bool b) ∧ b = want
def Unw (ops : Array Oper) (ρ : Env) (o : Oper) : Prop := ∃ j t want, o.guard = some (j, want) ∧ (ops[j]?).bind (·.dst) = some t ∧ (Env.get ρ t = some undef ∨ ∃ b, Env.get ρ t = some (.bool b) ∧ b = !want)
theorem Wnt.yes {o : Oper} {a : Act} (h : Wnt ops ρ o) (ha : Agr n D ρ a) : Region.wanted o (yielded ops a.tmps) = true := by
  rcases h with hg | ⟨j, t, want, b, hg, hj, hv, hb⟩
  · simp [Region.wanted, hg]
  · simp [Region.wanted, hg, yielded_of ha hj hv, sees, hb]
theorem Unw.no {o : Oper} {a : Act} (h : Unw ops ρ o) (ha : Agr n D ρ a) : Region.wanted o (yielded ops a.tmps) = false := by
  obtain ⟨j, t, want, hg, hj, hv | ⟨b, hv, hb⟩⟩ := h
  · simp [Region.wanted, hg, yielded_of ha hj hv, sees, undef]
  · subst hb; cases want <;> simp [Region.wanted, hg, yielded_of ha hj hv, sees]
/-- Operations that yield a value, or halt. -/
def valOp (o : Oper) : Bool := match o.op with
  | .move _ | .assign _ | .pick .. | .load .. | .binOp .. | .unOp .. | .convert .. | .fieldAddr .. | .field .. | .indexAddr .. | .index .. | .extract .. | .slice .. | .build .. => true
  | _ => false
theorem run_v {s : Sem Value} {x : Next} {w w' : World} (h : ((do pure (Next.value (← s)) : Sem Next)).run P w = .ok x w') : ∃ u, x = .value u := by
  rw [Sem.run_bind] at h
  cases hs : s.run P w with
  | halt y w2 => rw [hs] at h; cases h
  | ok u w2 =>
    rw [hs] at h
    simp only [Result.andThen_ok, Sem.run_pure] at h
    cases h; exact ⟨u, rfl⟩
theorem exec_val {o : Oper} (h : valOp o = true) {e : Operand → Value} {x : Next} {w w' : World} (hx : (execOp e o).run P w = .ok x w') : ∃ u, x = .value u := by
  obtain ⟨dst, op, ty, pos, af, g⟩ := o
  cases op <;> first
    | (cases h; done)
    | exact run_v hx
    | (simp only [execOp, Sem.run_pure] at hx; cases hx; exact ⟨_, rfl⟩)
    | (simp only [execOp, Sem.run_bind] at hx
       rename_i c a b
       cases hs : (asBool (e c)).run P w with
       | halt y w2 => rw [hs] at hx; cases hx
       | ok u w2 => rw [hs] at hx; simp only [Result.andThen_ok, Sem.run_pure] at hx; cases hx; exact ⟨_, rfl⟩)
/-- What only reads, ahead of what acts. -/
theorem WH.take {i : Nat} {oi : Oper} {v : Value} (hi : ops[i]? = some oi) (hv : valOp oi = true) (hg : Wnt ops ρ oi) (hd : dOK n oi.dst = true) (hc : chkEarly ops listed i = true) (hS : Sx w)
    (hy : ∀ w1, Sx w1 → Op1 P n D oi ρ w1 (fun u w2 => u = v ∧ w2 = w1)) (h : WH P n D ops Q Sx fuel (listed.setIfInBounds i true) (ext ρ oi.dst v) w) : WH P n D ops Q Sx (fuel + 1) listed ρ w := by
  intro a ha
  unfold chkEarly at hc
  simp only [Bool.and_eq_true] at hc
  refine wpAnyH_take hi hc.1.1 hc.1.2 hc.2 (fun c a w h => absurd h.1 (by intro h; cases h)) (.inl ⟨hg.yes ha, fun w1 h1 => ?_⟩) hS (h _ (ha.put hd v))
  have h2 := hy w1 h1 a ha
  cases hr : (execOp a.eval oi).run P w1 with
  | halt y w2 => rw [hr] at h2; exact h2.elim
  | ok x w2 =>
    obtain ⟨u, rfl⟩ := exec_val hv hr
    rw [hr] at h2
    obtain ⟨rfl, rfl⟩ := h2
    rfl
theorem WH.pass {i : Nat} {oi : Oper} (hi : ops[i]? = some oi) (hg : Unw ops ρ oi) (hd : dOK n oi.dst = true) (hc : chkEarly ops listed i = true) (hS : Sx w)
    (h : WH P n D ops Q Sx fuel (listed.setIfInBounds i true) (ext ρ oi.dst undef) w) : WH P n D ops Q Sx (fuel + 1) listed ρ w := by
  intro a ha
  unfold chkEarly at hc
  simp only [Bool.and_eq_true] at hc
  exact wpAnyH_take hi hc.1.1 hc.1.2 hc.2 (fun c a w h => absurd h.1 (by intro h; cases h)) (.inr ⟨hg.no ha, rfl⟩) hS (h _ (ha.put hd undef))
/-- One operation of those that may come next. -/
def WHS (P : Program) (n : Nat) (D : List Deferred) (ops : Array Oper) (Q : Exit → Act → World → Prop) (Sx : World → Prop) (i fuel : Nat) (listed : Array Bool) (ρ : Env) (w : World) : Prop :=
  ∀ a, Agr n D ρ a → wpOp P ops (Nrm Q) i (fun a' w' => Sx w' ∧ wpAnyH P .any ops (Nrm Q) Sx fuel (listed.setIfInBounds i true) a' w') a w
theorem WHS.op {i : Nat} {oi : Oper} (hi : ops[i]? = some oi) (hg : Wnt ops ρ oi) (hd : dOK n oi.dst = true)
    (h : Op1 P n D oi ρ w (fun v w' => Sx w' ∧ WH P n D ops Q Sx fuel (listed.setIfInBounds i true) (ext ρ oi.dst v) w')) : WHS P n D ops Q Sx i fuel listed ρ w := by
  intro a ha
  refine wpOp_of hi ?_
  rw [if_pos (hg.yes ha)]
  exact (h a ha).wp fun v w' hR => ⟨hR.1, hR.2 _ (ha.put hd v)⟩
theorem WH.all {rs : List Nat} (hr : Region.ready .any ops listed = rs) (hne : rs ≠ []) (h : ∀ i, i ∈ rs → WHS P n D ops Q Sx i fuel listed ρ w) : WH P n D ops Q Sx (fuel + 1) listed ρ w :=
  fun a ha => wpAnyH_all hr hne fun i hi => h i hi a ha
theorem WH.all1 {i : Nat} (hr : Region.ready .any ops listed = [i]) (h : WHS P n D ops Q Sx i fuel listed ρ w) : WH P n D ops Q Sx (fuel + 1) listed ρ w :=
  WH.all hr (by simp) fun k hk => by
    rcases List.mem_singleton.1 hk with rfl; exact h
/-- A long region, printed in two parts. -/
theorem WC.regionA {id : Nat} {l1 l2 : List Oper} (h : WL P n D (l1 ++ l2).toArray Q (l1 ++ l2) ρ w) : WC P n D (.region id (Array.append l1.toArray l2.toArray) false) Q ρ w := by
  have e : Array.append l1.toArray l2.toArray = (l1 ++ l2).toArray := by
    show l1.toArray ++ l2.toArray = _
    simp
  rw [e]; exact WC.region h
end
end Go.Owl
/-! from Owl29 -/
/- The row's proof where the row lists variables: as the plain one, and the condition is handed by. -/
namespace Go.Owl
open Go.ChangeShapes Go.WideShapes Go.RowKit
theorem row_laid {H : Type} {enc : TypeId × Value → H} {C : Checked} {os : Os} {f : FuncId} {fn : Func} {s : ChangeSpec} {conds : List PathCond} {apart : Bool} {tb : TypeId} {X : World → Array Value → Prop} (hX : ∀ (w w' : World) (args : Array Value), w.heap = w'.heap → X w args → X w' args)
    (own : ownKnob C.prog.godebug = none) (started : os.Started) (noInit : C.prog.inits.idxOf? f = none) (hfn : C.prog.funcs[f]? = some fn)
    (witness : ∃ (w : World) (tape : Tape) (i : Input), w.os = os ∧ (w.forCall tape i).Shaped C.prog ∧ i.vars = [] ∧ Input.okWide C.prog (w.forCall tape i) .any w.heap.size f i ∧
      ((s.pre enc C.prog fn conds apart (w.forCall tape i).memory i.args ∧ X (w.forCall tape i).memory i.args) ∧ sizedMet enc C.prog fn (OpenSpec.ofChange s) apart (w.forCall tape i).memory i.args) ∧ ({} : Assume).holds C.prog (lone (Frame.enter C.prog f i.args .normal) [] (w.forCall tape i)))
    (hl : laidOutB C.prog = true) (hv : s.vars = []) (hv2 : s.plain.varTypes C.prog = []) (hsp : ∀ ds : List (DataW H), ds.length = fn.params.size → (s.fn H ds).results = [.lit (.bool true)] ∧ (s.fn H ds).args = ds ∧ (s.fn H ds).vars = [])
    (hres : fn.resultTypes = #[tb]) (htb : C.prog.underlying tb = some .bool) (hread : (fn.params.toList.all fun t => C.prog.readableRec t && decide (t < C.prog.types.size)) = true)
    (walk : ∀ (W : World) (base : Nat) (args : Array Value) (ds : List (DataW H)) (ps : List MemPlace), (∀ (j : Nat) t v, fn.params[j]? = some t → args[j]? = some v → Value.okWide C.prog W .any base t v) →
      DataW.TrodAll enc C.prog W 0 (fun _ => true) true fn.params.toList args.toList ds ps → (∀ k ∈ DataW.weightsEach C.prog fn.params.toList ds, k ≤ reachBytes) → Calls C.prog f args W fun e W' => e = .returned (.bool true) ∧ Fr [] W W') :
    ReturnsInHanded {} C os f .any (fun w args => (s.pre enc C.prog fn conds apart w args ∧ X w args) ∧ sizedMet enc C.prog fn (OpenSpec.ofChange s) apart w args) (s.post enc C.prog fn apart true false false) := by
  refine returnsInHanded_of_change_and (X := X) hX own started noInit hfn witness ?_
  intro W base args ds gs before hval hW _ hwt _ _
  have hW' := hW
  obtain ⟨p, q, hA, hV, rfl, hfz, hnd⟩ := hW
  rw [hv] at hV
  obtain ⟨rfl, rfl⟩ := trodVars_none hV
  have hlt : ∀ x ∈ p, x.block < W.heap.size := fun x hx => by simpa using hW'.lt x (by simp [hx])
  rw [hv2, List.append_nil, List.append_nil] at hwt
  refine (walk W base args ds p hval hA (fun k hk => by simpa using List.all_eq_true.1 hwt k hk)).mono fun e W' ⟨he, hw⟩ => ⟨_, he, ?_⟩
  have hb := hw.below
  obtain ⟨s1, s2, s3⟩ := hsp ds (by rw [(trodAll_length hA).1]; simp)
  refine ⟨ds, [], _, [], p, [], hW', ?_, ?_, ?_, hb.frame _, fun h => by cases h⟩
  · rw [List.append_nil, s1, hres]; exact trodAll_mk1 (shut_bool htb true)
  · rw [List.append_nil, s2]; exact trodAll_stays hl hb hread hA hlt
  · rw [List.append_nil, s3, hv]; exact rfl
end Go.Owl
