/- General lemmas and walks: Owl34. No condition but what each theorem names. -/
import Derived.Test.YtnngbnenekjffaaDoorQ66c3e74a
import Derived.Test.YtnngbnenekjffaaDoorQ7f878364
/-! from Owl34 -/
/- Texts held against each other: which comes first. -/
namespace Go.Spec
/-- The order of texts, byte by byte. -/
abbrev ltStr : List UInt8 → List UInt8 → Bool := Go.Op.bytesLess
theorem ltStr_nil (a : List UInt8) : ltStr a [] = false := by cases a <;> rfl
theorem ltStr_cons {a b : UInt8} {x y : List UInt8} : ltStr (a :: x) (b :: y) = true ↔ a < b ∨ (a = b ∧ ltStr x y = true) := by
  show (decide (a < b) || (a == b && ltStr x y)) = true ↔ _
  simp
theorem ltStr_no {a b : UInt8} {x y : List UInt8} : ltStr (a :: x) (b :: y) = false ↔ ¬ a < b ∧ (a = b → ltStr x y = false) := by
  rw [← Bool.not_eq_true, ltStr_cons, not_or]
  refine and_congr_right fun _ => ?_
  rw [not_and, Bool.not_eq_true]
theorem u8_tri {a b : UInt8} (h1 : ¬ a < b) (h2 : ¬ b < a) : a = b := by
  rw [UInt8.lt_iff_toNat_lt] at h1 h2
  exact UInt8.toNat_inj.1 (by omega)
theorem ltStr_irr : ∀ a, ltStr a a = false
  | [] => rfl
  | a :: x => ltStr_no.2 ⟨by rw [UInt8.lt_iff_toNat_lt]; omega, fun _ => ltStr_irr x⟩
theorem ltStr_asym : ∀ a b, ltStr a b = true → ltStr b a = false
  | a, [], h => by rw [ltStr_nil] at h; cases h
  | [], b :: y, _ => rfl
  | a :: x, b :: y, h => by
    rcases ltStr_cons.1 h with h1 | ⟨rfl, h1⟩
    · rw [UInt8.lt_iff_toNat_lt] at h1
      exact ltStr_no.2 ⟨by rw [UInt8.lt_iff_toNat_lt]; omega, fun e => by rw [e] at h1; omega⟩
    · exact ltStr_no.2 ⟨by rw [UInt8.lt_iff_toNat_lt]; omega, fun _ => ltStr_asym x y h1⟩
theorem ltStr_neg : ∀ a b c, ltStr a b = false → ltStr b c = false → ltStr a c = false
  | a, b, [], _, _ => ltStr_nil a
  | [], [], c :: z, _, h => h
  | [], b :: y, c :: z, h, _ => by cases h
  | a :: x, [], c :: z, _, h => by cases h
  | a :: x, b :: y, c :: z, h1, h2 => by
    rw [ltStr_no] at h1 h2 ⊢
    have e1 := h1.1; have e2 := h2.1
    rw [UInt8.lt_iff_toNat_lt] at e1 e2
    refine ⟨by rw [UInt8.lt_iff_toNat_lt]; omega, fun e => ?_⟩
    subst e
    have e3 : a = b := UInt8.toNat_inj.1 (by omega)
    exact ltStr_neg x y z (h1.2 e3) (h2.2 e3.symm)
theorem ltStr_tri : ∀ a b, ltStr a b = false → ltStr b a = false → a = b
  | [], [], _, _ => rfl
  | [], b :: y, h, _ => by cases h
  | a :: x, [], _, h => by cases h
  | a :: x, b :: y, h1, h2 => by
    rw [ltStr_no] at h1 h2
    have e : a = b := u8_tri h1.1 h2.1
    rw [e, ltStr_tri x y (h1.2 e) (h2.2 e.symm)]
theorem ltStrOK : LtOK ltStr := ⟨ltStr_irr, ltStr_asym, ltStr_neg⟩
theorem ltStrTot : LtTot ltStr where
  toLtOK := ltStrOK
  tri := ltStr_tri
end Go.Spec
namespace Go.Owl
open Go.Spec
section
variable {P : Program} {n : Nat} {D : List Deferred} {ρ : Env} {w : World} {R : Value → World → Prop} {dst : Option Tmp} {ty : TypeId} {pos : String} {af : Array Edge} {g : Option (Nat × Bool)} {t t' : TypeId} {x y : Operand}
theorem op_lssStr {a b : List UInt8} (hx : ev ρ x = some (str a)) (hy : ev ρ y = some (str b)) (h : R (.bool (ltStr a b)) w) : Op1 P n D ⟨dst, .binOp .lss t x y t', ty, pos, af, g⟩ ρ w R :=
  Op1.val (fun c ha => by
    have hg : (eqGuard .lss t x y (str a) (str b)).run P w = .ok () w := rfl
    simp only [execOp, ha.ev hx, ha.ev hy, Sem.run_bind, hg, Result.andThen_ok, binOp_string_lss, ByteArray.toList_mk, Sem.run_pure]) h
end
end Go.Owl
