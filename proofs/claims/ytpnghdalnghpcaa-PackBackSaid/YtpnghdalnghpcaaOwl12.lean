/- A callee that changes what its caller owns. -/
import Derived.Test.YtpnghdalnghpcaaOwl11
namespace Go.Owl
variable {S T : List Nat} {w0 w w1 : World} {L : List Ent} {i j : Nat} {e f e' f' : Ent}

section
variable {P : Program} {n : Nat} {D : List Deferred} {ρ : Env} {w : World} {R : Value → World → Prop} {dst : Option Tmp} {ty : TypeId} {pos : String} {af : Array Edge} {g : Option (Nat × Bool)} {t t' : TypeId} {x y : Operand}
/-- A pointer against nil. -/
theorem op_eqlPN {a : Option Addr} (hu : P.underlying t = some (.pointer (P.pointee t))) (hx : ev ρ x = some (.pointer a)) (hy : ev ρ y = some (.pointer none)) (h : R (.bool a.isNone) w) : Op1 P n D ⟨dst, .binOp .eql t x y t', ty, pos, af, g⟩ ρ w R :=
  Op1.val (fun c ha => by
    have hg : (eqGuard .eql t x y (.pointer a) (.pointer none)).run P w = .ok () w := rfl
    simp only [execOp, ha.ev hx, ha.ev hy, Sem.run_bind, hg, Result.andThen_ok, run_eql_pointer_nil w t a hu, Sem.run_pure]) h
end
end Go.Owl
