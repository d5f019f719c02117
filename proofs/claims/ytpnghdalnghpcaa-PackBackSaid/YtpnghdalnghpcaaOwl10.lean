/- Structs that are held against each other. -/
import Derived.Test.YtpnghdalnghpcaaOwl9
namespace Go.Owl
def veq : Value → Value → Bool
  | .int _ a, .int _ b => a == b
  | .bool a, .bool b => a == b
  | .string a, .string b => a.toList == b.toList
  | _, _ => false
def fits1 : TypeDesc → Value → Value → Bool
  | .int _, .int k _, .int k' _ => decide (k = k')
  | .bool, .bool _, .bool _ => true
  | .string, .string _, .string _ => true
  | _, _, _ => false
def fitAll : List TypeDesc → List Value → List Value → Bool
  | [], [], [] => true
  | d :: ds, x :: xs, y :: ys => fits1 d x y && fitAll ds xs ys
  | _, _, _ => false
def eqAll : List Value → List Value → Bool
  | x :: xs, y :: ys => veq x y && eqAll xs ys
  | _, _ => true
def flatFs (P : Program) : Nat → List Field → Option (List TypeDesc)
  | _, [] => some []
  | k, f :: fs => match P.underlying f.type, flatFs P (k + 1) fs with
    | some d, some ds => if Nat.beq f.offset k && f.name != "_" && scal d then some (d :: ds) else none
    | _, _ => none
/-- A struct's fields, all of one cell, one behind the other. -/
def flatB (P : Program) (t : TypeId) : Option (List TypeDesc) := match P.underlying t with
  | some (.struct fs) => if P.stoodInHeld t || P.eqGuardType P.depth t then none else flatFs P 0 fs.toList
  | _ => none

section
variable {P : Program} {n : Nat} {D : List Deferred} {ρ : Env} {w : World} {R : Value → World → Prop} {dst : Option Tmp} {ty : TypeId} {pos : String} {af : Array Edge} {g : Option (Nat × Bool)} {t t' : TypeId} {x y : Operand}

theorem run_part1 {T : TypeId} {d : TypeDesc} {cs : List Value} {k : Nat} {v : Value} (hd : P.underlying T = some d) (hs : scal d = true) (hc : cs[k]? = some v) : (part T cs.toArray k).run P w = .ok v w := by
  simp [part, run_isAgg hd, hs, hc]
theorem run_eq1 {d : TypeDesc} {T : TypeId} {a b : Value} {dd : Nat} (hd : P.underlying T = some d) (hf : fits1 d a b = true) : (Op.equalIn (dd + 1) T a b).run P w = .ok (veq a b) w := by
  cases d <;> cases a <;> cases b <;> simp [fits1] at hf
  · exact run_equalIn_bool' w dd T _ _ hd
  · subst hf; exact run_equalIn_int w dd T _ _ _ _ hd
  · exact run_equalIn_string w dd T _ _ hd
theorem run_eqFields {xs ys : List Value} {dd : Nat} : ∀ (fs : List Field) (ds : List TypeDesc) (k : Nat), flatFs P k fs = some ds → fitAll ds (xs.drop k) (ys.drop k) = true →
    (Op.eqFields (dd + 1) xs.toArray ys.toArray fs).run P w = .ok (eqAll (xs.drop k) (ys.drop k)) w
  | [], ds, k, h, hf => by
    simp only [flatFs, Option.some.injEq] at h
    subst h
    cases hx : xs.drop k with
    | nil => simp [Op.eqFields, eqAll]
    | cons a l => rw [hx] at hf; cases hy : ys.drop k <;> rw [hy] at hf <;> simp [fitAll] at hf
  | f :: fs, ds, k, h, hf => by
    simp only [flatFs] at h
    split at h
    · rename_i d ds' hd hds
      split at h
      · rename_i hc
        simp only [Bool.and_eq_true] at hc
        simp only [Option.some.injEq] at h
        subst h
        have hk : f.offset = k := Nat.eq_of_beq_eq_true hc.1.1
        have hnm : f.name ≠ "_" := by simpa using hc.1.2
        cases hx : xs.drop k with
        | nil => rw [hx] at hf; simp [fitAll] at hf
        | cons a l =>
          cases hy : ys.drop k with
          | nil => rw [hx, hy] at hf; simp [fitAll] at hf
          | cons b m =>
            rw [hx, hy] at hf
            simp only [fitAll, Bool.and_eq_true] at hf
            have hxa : xs[k]? = some a := by have := congrArg (·[0]?) hx; simpa using this
            have hyb : ys[k]? = some b := by have := congrArg (·[0]?) hy; simpa using this
            have hx1 : xs.drop (k + 1) = l := by rw [← List.drop_drop, hx]; rfl
            have hy1 : ys.drop (k + 1) = m := by rw [← List.drop_drop, hy]; rfl
            have ih := run_eqFields (xs := xs) (ys := ys) (dd := dd) fs ds' (k + 1) hds (by rw [hx1, hy1]; exact hf.2)
            rw [hx1, hy1] at ih
            simp only [Op.eqFields]
            rw [if_pos hnm, hk]
            simp only [Sem.run_bind, run_part1 hd hc.2 hxa, run_part1 hd hc.2 hyb, Result.andThen_ok, run_eq1 hd hf.1, eqAll]
            cases hv : veq a b
            · simp
            · simp [ih]
      · cases h
    · cases h

theorem run_equalS {xs ys : List Value} {ds : List TypeDesc} (hfl : flatB P t = some ds) (hfit : fitAll ds xs ys = true) : (Op.equalIn 10000 t (.agg xs.toArray) (.agg ys.toArray)).run P w = .ok (eqAll xs ys) w ∧ P.eqGuardType P.depth t = false := by
  unfold flatB at hfl
  split at hfl
  · rename_i fs hu
    split at hfl
    · cases hfl
    · rename_i hc
      simp only [Bool.or_eq_true, not_or, Bool.not_eq_true] at hc
      have hfo : P.fieldsOf t = fs := by unfold Program.fieldsOf; rw [hu]
      have h1 := run_equalIn_struct (P := P) w 9999 t xs.toArray ys.toArray (by rw [hfo]; exact hu) hc.1
      rw [hfo] at h1
      rw [h1]
      have := run_eqFields (P := P) (w := w) (xs := xs) (ys := ys) (dd := 9998) fs.toList ds 0 hfl (by simpa using hfit)
      exact ⟨by simpa using this, hc.2⟩
  · cases hfl
theorem op_eqlS {xs ys : List Value} {ds : List TypeDesc} {b : Bool} (hfl : flatB P t = some ds) (hx : ev ρ x = some (.agg xs.toArray)) (hy : ev ρ y = some (.agg ys.toArray)) (hfit : fitAll ds xs ys = true) (hb : eqAll xs ys = b) (h : R (.bool b) w) :
    Op1 P n D ⟨dst, .binOp .eql t x y t', ty, pos, af, g⟩ ρ w R :=
  Op1.val (fun a ha => by
    obtain ⟨h1, h2⟩ := run_equalS (w := w) hfl hfit
    simp only [execOp, ha.ev hx, ha.ev hy, Sem.run_bind, run_eqGuard_agg w .eql t x y _ _ h2, Result.andThen_ok, run_eql_struct, h1, Sem.run_pure, hb]) h
theorem op_neqS {xs ys : List Value} {ds : List TypeDesc} {b : Bool} (hfl : flatB P t = some ds) (hx : ev ρ x = some (.agg xs.toArray)) (hy : ev ρ y = some (.agg ys.toArray)) (hfit : fitAll ds xs ys = true) (hb : (!eqAll xs ys) = b) (h : R (.bool b) w) :
    Op1 P n D ⟨dst, .binOp .neq t x y t', ty, pos, af, g⟩ ρ w R :=
  Op1.val (fun a ha => by
    obtain ⟨h1, h2⟩ := run_equalS (w := w) hfl hfit
    simp only [execOp, ha.ev hx, ha.ev hy, Sem.run_bind, run_eqGuard_agg w .neq t x y _ _ h2, Result.andThen_ok, run_neq_struct, h1, Sem.run_pure, hb]) h
theorem veqU8 (a b : UInt8) : veq (vU8 a) (vU8 b) = decide (a = b) := by
  simp only [veq, vU8]; rw [Bool.eq_iff_iff]; simp [← UInt8.toNat_inj]; omega
theorem veqU16 (a b : UInt16) : veq (vU16 a) (vU16 b) = decide (a = b) := by
  simp only [veq, vU16]; rw [Bool.eq_iff_iff]; simp [← UInt16.toNat_inj]; omega
theorem veqU32 (a b : UInt32) : veq (vU32 a) (vU32 b) = decide (a = b) := by
  simp only [veq, vU32]; rw [Bool.eq_iff_iff]; simp [← UInt32.toNat_inj]; omega
theorem veqN (a b : Nat) : veq (vN a) (vN b) = decide (a = b) := by
  simp only [veq, vN]; rw [Bool.eq_iff_iff]; simp; omega
theorem veqStr (a b : List UInt8) : veq (str a) (str b) = decide (a = b) := by
  simp only [veq, str, ByteArray.toList_mk]; rw [Bool.eq_iff_iff]; simp
theorem veqB (a b : Bool) : veq (.bool a) (.bool b) = (a == b) := rfl
end
end Go.Owl
