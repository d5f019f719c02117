/- Smaller rules. -/
import Derived.Test.YtpnghdalnghpcaaOwl7
namespace Go.Owl
section
variable {P : Program} {n : Nat} {D : List Deferred} {ρ : Env} {w w0 : World} {R : Value → World → Prop} {dst : Option Tmp} {ty : TypeId} {pos : String} {af : Array Edge} {g : Option (Nat × Bool)}
variable {S : List Nat} {L : List Ent} {i : Nat} {t t' T T' : TypeId} {x y : Operand} {z : List Value} {sz by_ : Nat} {d : TypeDesc}
theorem op_idN {a : Nat} (hs : P.underlying t = some (.int .i64)) (hd : P.underlying t' = some (.int .i64)) (hx : ev ρ x = some (vN a)) (hr : a ≤ 9223372036854775807) (h : R (vN a) w) : Op1 P n D ⟨dst, .convert t t' x, ty, pos, af, g⟩ ρ w R :=
  op_conv hs hd hx (by rw [wrapN hr]) h
theorem op_idI {a : Int} (hs : P.underlying t = some (.int .i64)) (hd : P.underlying t' = some (.int .i64)) (hx : ev ρ x = some (vI a)) (hr : -9223372036854775808 ≤ a ∧ a ≤ 9223372036854775807) (h : R (vI a) w) : Op1 P n D ⟨dst, .convert t t' x, ty, pos, af, g⟩ ρ w R :=
  op_conv hs hd hx (by rw [wrapI hr]) h
theorem op_idStr {l : List UInt8} (hs : P.underlying t = some .string) (hd : P.underlying t' = some .string) (hx : ev ρ x = some (str l)) (h : R (str l) w) : Op1 P n D ⟨dst, .convert t t' x, ty, pos, af, g⟩ ρ w R :=
  Op1.val (fun a ha => by simp [execOp, ha.ev hx, convert, run_underlying hs, run_underlying hd]) h
theorem op_storeBV {b : Nat} {cs vs : List Value} (H : Own S w0 w L) (hx : ev ρ x = some (ptr b 0)) (hy : ev ρ y = some (.agg vs.toArray)) (hi : L[i]? = some (Ent.blk b cs t)) (ho : Nat.beq vs.length cs.length = true)
    (h1 : vs.all (·.oneCell') = true) (hs : vs.length = sz) (hz : tiB P T = some (z, sz, by_)) (h : ∀ w', Own S w0 w' (L.set i (.blk b vs t)) → R undef w') : Op1 P n D ⟨dst, .store T x y, ty, pos, af, g⟩ ρ w R := by
  subst hs; exact op_storeBW H hx hy hi ho h1 hz h
theorem Own.cellsW {b : Nat} {cs : List Value} (H : Own S w0 w L) (hi : L[i]? = some (Ent.blk b cs t)) : ∀ j u, cs[j]? = some u → w.cell? ⟨b, 0 + j, none⟩ = some u :=
  H.cells hi (by simp)
theorem op_idU8 {a : UInt8} (hs : P.underlying t = some (.int .u8)) (hd : P.underlying t' = some (.int .u8)) (hx : ev ρ x = some (vU8 a)) (h : R (vU8 a) w) : Op1 P n D ⟨dst, .convert t t' x, ty, pos, af, g⟩ ρ w R :=
  op_conv hs hd hx (by rw [wrapU8n]; simp) h
theorem op_idU16 {a : UInt16} (hs : P.underlying t = some (.int .u16)) (hd : P.underlying t' = some (.int .u16)) (hx : ev ρ x = some (vU16 a)) (h : R (vU16 a) w) : Op1 P n D ⟨dst, .convert t t' x, ty, pos, af, g⟩ ρ w R :=
  op_conv hs hd hx (by rw [wrapU16n]; simp) h
theorem op_idU32 {a : UInt32} (hs : P.underlying t = some (.int .u32)) (hd : P.underlying t' = some (.int .u32)) (hx : ev ρ x = some (vU32 a)) (h : R (vU32 a) w) : Op1 P n D ⟨dst, .convert t t' x, ty, pos, af, g⟩ ρ w R :=
  op_conv hs hd hx (by rw [wrapU32n]; simp) h
theorem op_idU64 {a : UInt64} (hs : P.underlying t = some (.int .u64)) (hd : P.underlying t' = some (.int .u64)) (hx : ev ρ x = some (vU64 a)) (h : R (vU64 a) w) : Op1 P n D ⟨dst, .convert t t' x, ty, pos, af, g⟩ ρ w R :=
  op_conv hs hd hx (by rw [wrapU64n]; simp) h
end
end Go.Owl
