/- min, max. -/
import Derived.Test.YtpnghdalnghpcaaOwl14
namespace Go.Owl
def maxU32 (a b : UInt32) : UInt32 := if a < b then b else a
def minU32 (a b : UInt32) : UInt32 := if b < a then b else a
section
variable {P : Program} {n : Nat} {D : List Deferred} {ρ : Env} {w : World} {R : Value → World → Prop} {dst : Option Tmp} {ty : TypeId} {pos : String} {af : Array Edge} {g : Option (Nat × Bool)}
variable {t t' : TypeId} {x y : Operand}
theorem run_min2 {k : IntKind} {a b : Int} : (Builtin.min_ #[t, t'] ty #[.int k a, .int k b]).run P w = .ok (.int k (if b < a then b else a)) w := by
  simp [Builtin.min_, Builtin.min2]
theorem run_max2 {k : IntKind} {a b : Int} : (Builtin.max_ #[t, t'] ty #[.int k a, .int k b]).run P w = .ok (.int k (if a < b then b else a)) w := by
  simp [Builtin.max_, Builtin.max2]
theorem op_min2 {k : IntKind} {a b : Int} (hx : ev ρ x = some (.int k a)) (hy : ev ρ y = some (.int k b)) (h : R (.int k (if b < a then b else a)) w) : Op1 P n D ⟨dst, .call { callee := .builtin .min, args := #[x, y], argTypes := #[t, t'] }, ty, pos, af, g⟩ ρ w R :=
  Op1.val (fun c hc => by simp [execOp, resolve, invoke, builtin, hc.ev hx, hc.ev hy, run_min2]) h
theorem op_max2 {k : IntKind} {a b : Int} (hx : ev ρ x = some (.int k a)) (hy : ev ρ y = some (.int k b)) (h : R (.int k (if a < b then b else a)) w) : Op1 P n D ⟨dst, .call { callee := .builtin .max, args := #[x, y], argTypes := #[t, t'] }, ty, pos, af, g⟩ ρ w R :=
  Op1.val (fun c hc => by simp [execOp, resolve, invoke, builtin, hc.ev hx, hc.ev hy, run_max2]) h
theorem op_minN {a b : Nat} (hx : ev ρ x = some (vN a)) (hy : ev ρ y = some (vN b)) (h : R (vN (min a b)) w) : Op1 P n D ⟨dst, .call { callee := .builtin .min, args := #[x, y], argTypes := #[t, t'] }, ty, pos, af, g⟩ ρ w R :=
  op_min2 (a := (a : Int)) (b := (b : Int)) hx hy (by rw [show (if (b : Int) < (a : Int) then (b : Int) else (a : Int)) = ((min a b : Nat) : Int) from by split <;> omega]; exact h)
theorem op_maxN {a b : Nat} (hx : ev ρ x = some (vN a)) (hy : ev ρ y = some (vN b)) (h : R (vN (max a b)) w) : Op1 P n D ⟨dst, .call { callee := .builtin .max, args := #[x, y], argTypes := #[t, t'] }, ty, pos, af, g⟩ ρ w R :=
  op_max2 (a := (a : Int)) (b := (b : Int)) hx hy (by rw [show (if (a : Int) < (b : Int) then (b : Int) else (a : Int)) = ((max a b : Nat) : Int) from by split <;> omega]; exact h)
theorem op_minI {a b : Int} (hx : ev ρ x = some (vI a)) (hy : ev ρ y = some (vI b)) (h : R (vI (min a b)) w) : Op1 P n D ⟨dst, .call { callee := .builtin .min, args := #[x, y], argTypes := #[t, t'] }, ty, pos, af, g⟩ ρ w R :=
  op_min2 hx hy (by rw [show (if b < a then b else a) = min a b from by split <;> omega]; exact h)
theorem op_maxI {a b : Int} (hx : ev ρ x = some (vI a)) (hy : ev ρ y = some (vI b)) (h : R (vI (max a b)) w) : Op1 P n D ⟨dst, .call { callee := .builtin .max, args := #[x, y], argTypes := #[t, t'] }, ty, pos, af, g⟩ ρ w R :=
  op_max2 hx hy (by rw [show (if a < b then b else a) = max a b from by split <;> omega]; exact h)
theorem op_maxU32 {a b : UInt32} (hx : ev ρ x = some (vU32 a)) (hy : ev ρ y = some (vU32 b)) (h : R (vU32 (maxU32 a b)) w) : Op1 P n D ⟨dst, .call { callee := .builtin .max, args := #[x, y], argTypes := #[t, t'] }, ty, pos, af, g⟩ ρ w R :=
  op_max2 (a := (a.toNat : Int)) (b := (b.toNat : Int)) hx hy (by
    rw [show (if (a.toNat : Int) < (b.toNat : Int) then (b.toNat : Int) else (a.toNat : Int)) = ((maxU32 a b).toNat : Int) from by
      unfold maxU32; rw [apply_ite UInt32.toNat]
      by_cases h : a < b
      · rw [if_pos (by rw [UInt32.lt_iff_toNat_lt] at h; omega), if_pos h]
      · rw [if_neg (by rw [UInt32.lt_iff_toNat_lt] at h; omega), if_neg h]]
    exact h)
end
end Go.Owl
