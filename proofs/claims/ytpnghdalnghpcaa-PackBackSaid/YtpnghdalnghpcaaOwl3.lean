/- One rule for each kind of operation: moves, numbers, comparisons, texts. -/
import Derived.Test.YtpnghdalnghpcaaOwl2
namespace Go.Owl

abbrev vU8 (x : UInt8) : Value := .int .u8 (x.toNat : Int)
abbrev vU16 (x : UInt16) : Value := .int .u16 (x.toNat : Int)
abbrev vU32 (x : UInt32) : Value := .int .u32 (x.toNat : Int)
abbrev vU64 (x : UInt64) : Value := .int .u64 (x.toNat : Int)
abbrev vN (n : Nat) : Value := .int .i64 (n : Int)
abbrev vI (n : Int) : Value := .int .i64 n
abbrev str (l : List UInt8) : Value := .string ⟨l.toArray⟩
abbrev ptr (b off : Nat) : Value := .pointer (some ⟨b, off, none⟩)

/-! Facts on types, off the program's tables. -/
def tiB (P : Program) (t : TypeId) : Option (List Value × Nat × Nat) :=
  match P.info? t with
  | some i => match i.zero with
    | some z => some (z.cells.toList, i.size, i.bytes)
    | none => none
  | none => none
theorem tiB_spec {P : Program} {t : TypeId} {z : List Value} {sz by_ : Nat} (h : tiB P t = some (z, sz, by_)) :
    ∃ i v, P.info? t = some i ∧ i.zero = some v ∧ v.cells.toList = z ∧ i.size = sz ∧ i.bytes = by_ := by
  unfold tiB at h
  split at h
  · rename_i i hi
    split at h
    · rename_i v hv
      simp only [Option.some.injEq, Prod.mk.injEq] at h
      exact ⟨i, v, hi, hv, h.1, h.2.1, h.2.2⟩
    · cases h
  · cases h
def scal : TypeDesc → Bool
  | .struct _ | .array _ _ => false
  | _ => true
def faB (P : Program) (s : TypeId) (k : Nat) : Option (Nat × Nat × Bool) :=
  match P.underlying s with
  | some (.struct fs) => match fs[k]? with
    | some f => match P.info? f.type, P.underlying f.type with
      | some i, some d => if i.size = 0 then none else some (f.offset, i.size, scal d)
      | _, _ => none
    | none => none
  | _ => none
theorem faB_spec {P : Program} {s : TypeId} {k off sz : Nat} {b : Bool} (h : faB P s k = some (off, sz, b)) :
    ∃ fs f i d, P.underlying s = some (.struct fs) ∧ fs[k]? = some f ∧ P.info? f.type = some i ∧ P.underlying f.type = some d ∧ i.size = sz ∧ sz ≠ 0 ∧ f.offset = off ∧ scal d = b := by
  unfold faB at h
  split at h
  · rename_i fs hfs
    split at h
    · rename_i f hf
      split at h
      · rename_i i d hi hd
        split at h
        · cases h
        · rename_i hne
          simp only [Option.some.injEq, Prod.mk.injEq] at h
          exact ⟨fs, f, i, d, hfs, hf, hi, hd, h.2.1, by rw [← h.2.1]; exact hne, h.1, h.2.2⟩
      · cases h
    · cases h
  · cases h
def callB (P : Program) (f : FuncId) : Bool :=
  match P.funcs[f]? with
  | some fn => !(fn.name == "runtime.NumGoroutine") && !fn.body.isNone
  | none => false

section
variable {P : Program} {n : Nat} {D : List Deferred} {ρ : Env} {w : World} {R : Value → World → Prop} {dst : Option Tmp} {ty : TypeId} {pos : String} {af : Array Edge} {g : Option (Nat × Bool)}

theorem Op1.val {o : Oper} {v : Value} {w' : World} (h : ∀ a, Agr n D ρ a → (execOp a.eval o).run P w = .ok (.value v) w') (hR : R v w') : Op1 P n D o ρ w R := by
  intro a ha
  rw [h a ha]
  exact hR
theorem Op1.unit {o : Oper} {w' : World} (h : ∀ a, Agr n D ρ a → (execOp a.eval o).run P w = .ok .skip w') (hR : R undef w') : Op1 P n D o ρ w R := by
  intro a ha
  rw [h a ha]
  exact hR
theorem OpRun.mono {r : Result Next} {R R' : Value → World → Prop} (h : OpRun P r R) (hR : ∀ v w', R v w' → R' v w') : OpRun P r R' := by
  cases r with
  | halt x w' => exact h.elim
  | ok x w' =>
    cases x with
    | value v => exact hR v w' h
    | skip => exact hR undef w' h
    | enter f args => exact Calls.mono h fun e w'' ⟨v, he, hv⟩ => ⟨v, he, hR v w'' hv⟩
    | _ => exact h.elim
theorem Op1.mono {o : Oper} {R' : Value → World → Prop} (h : Op1 P n D o ρ w R) (hR : ∀ v w', R v w' → R' v w') : Op1 P n D o ρ w R' :=
  fun a ha => (h a ha).mono hR

theorem op_move {x : Operand} {v : Value} (hx : ev ρ x = some v) (h : R v w) : Op1 P n D ⟨dst, .move x, ty, pos, af, g⟩ ρ w R :=
  Op1.val (fun a ha => by simp [execOp, ha.ev hx]) h
theorem op_assign {x : Operand} {v : Value} (hx : ev ρ x = some v) (h : R v w) : Op1 P n D ⟨dst, .assign x, ty, pos, af, g⟩ ρ w R :=
  Op1.val (fun a ha => by simp [execOp, ha.ev hx]) h
theorem op_pickT {c x y : Operand} {v : Value} {b : Bool} (hc : ev ρ c = some (.bool b)) (hb : b = true) (hx : ev ρ x = some v) (h : R v w) : Op1 P n D ⟨dst, .pick c x y, ty, pos, af, g⟩ ρ w R := by
  subst hb; exact Op1.val (fun a ha => by simp [execOp, ha.ev hc, ha.ev hx, asBool]) h
theorem op_pickF {c x y : Operand} {v : Value} {b : Bool} (hc : ev ρ c = some (.bool b)) (hb : b = false) (hy : ev ρ y = some v) (h : R v w) : Op1 P n D ⟨dst, .pick c x y, ty, pos, af, g⟩ ρ w R := by
  subst hb; exact Op1.val (fun a ha => by simp [execOp, ha.ev hc, ha.ev hy, asBool]) h
theorem op_extract {x : Operand} {k : Nat} {vs : Array Value} {v : Value} (hx : ev ρ x = some (.tuple vs)) (hv : vs.toList[k]? = some v) (h : R v w) : Op1 P n D ⟨dst, .extract x k, ty, pos, af, g⟩ ρ w R :=
  Op1.val (fun a ha => by
    have hv' : vs[k]? = some v := by simpa using hv
    simp [execOp, ha.ev hx, Instr.extract, hv']) h
theorem Agr.evA {a : Act} {args : Array Operand} {vs : List Value} (ha : Agr n D ρ a) (hv : Owl.evL ρ args.toList = some vs) : args.map a.eval = vs.toArray := by
  have h := ha.evL hv
  apply Array.ext'
  rw [Array.toList_map, h]
theorem op_makeFunc {fn : Fn} {f c : Array Operand} {fs cs : List Value} (hf : evL ρ f.toList = some fs) (hc : evL ρ c.toList = some cs) (h : R (.func fn fs.toArray cs.toArray) w) :
    Op1 P n D ⟨dst, .makeFunc fn f c, ty, pos, af, g⟩ ρ w R :=
  Op1.val (fun a ha => by
    have h1 := ha.evA hf
    have h2 := ha.evA hc
    simp [execOp, Instr.makeFunc, h1, h2]) h
theorem op_nilCheck {x : Operand} {ad : Addr} (hx : ev ρ x = some (.pointer (some ad))) (h : R (.pointer (some ad)) w) : Op1 P n D ⟨dst, .nilCheck x, ty, pos, af, g⟩ ρ w R :=
  Op1.val (fun a ha => by simp [execOp, ha.ev hx]) h
theorem op_not {t : TypeId} {x : Operand} {b : Bool} (hx : ev ρ x = some (.bool b)) (h : R (.bool !b) w) : Op1 P n D ⟨dst, .unOp .not t x, ty, pos, af, g⟩ ρ w R :=
  Op1.val (fun a ha => by simp [execOp, ha.ev hx, Op.unary]) h

theorem op_call {c : Operand} {args : Array Operand} {ats : Array TypeId} {f : FuncId} {fi ca vs : List Value} (hf : ev ρ c = some (.func (.func f) fi.toArray ca.toArray)) (hb : callB P f = true) (hv : evL ρ args.toList = some vs)
    (h : Calls P f (fi ++ vs ++ ca).toArray w (fun e w' => ∃ v, e = .returned v ∧ R v w')) : Op1 P n D ⟨dst, .call { callee := .value c, args := args, argTypes := ats }, ty, pos, af, g⟩ ρ w R := by
  intro a ha
  unfold callB at hb
  split at hb
  · rename_i fn hfn
    simp only [Bool.and_eq_true, Bool.not_eq_true'] at hb
    have h1 := ha.evA hv
    have hb1 : fn.name ≠ "runtime.NumGoroutine" := by simpa using hb.1
    have hb2 : ¬ fn.body = none := by have := hb.2; intro e; simp [e] at this
    have hr : (execOp a.eval ⟨dst, .call { callee := .value c, args := args, argTypes := ats }, ty, pos, af, g⟩).run P w = .ok (.enter f (fi ++ vs ++ ca).toArray) w := by
      simp [execOp, resolve, h1, ha.ev hf, Deferred.ofValue, invoke, callFunc, hfn, hb1, hb2]
    rw [hr]
    exact h
  · cases hb
theorem op_callF {f : FuncId} {args : Array Operand} {ats : Array TypeId} {vs : List Value} (hb : callB P f = true) (hv : evL ρ args.toList = some vs)
    (h : Calls P f vs.toArray w (fun e w' => ∃ v, e = .returned v ∧ R v w')) : Op1 P n D ⟨dst, .call { callee := .value (.func f), args := args, argTypes := ats }, ty, pos, af, g⟩ ρ w R :=
  op_call (f := f) (fi := []) (ca := []) rfl hb hv (by simpa using h)
end

/-! Numbers. -/
section
variable {P : Program} {n : Nat} {D : List Deferred} {ρ : Env} {w : World} {R : Value → World → Prop} {dst : Option Tmp} {ty : TypeId} {pos : String} {af : Array Edge} {g : Option (Nat × Bool)} {t t' : TypeId} {x y : Operand}

theorem op_bin {op : BinOp} {k k' : IntKind} {i j : Int} {v : Value} (hx : ev ρ x = some (.int k i)) (hy : ev ρ y = some (.int k' j)) (hb : (binOp op t (.int k i) (.int k' j)).run P w = .ok v w) (h : R v w) :
    Op1 P n D ⟨dst, .binOp op t x y t', ty, pos, af, g⟩ ρ w R :=
  Op1.val (fun a ha => by
    have hg : (eqGuard op t x y (.int k i) (.int k' j)).run P w = .ok () w := by
      unfold eqGuard
      cases op <;> rfl
    simp only [execOp, ha.ev hx, ha.ev hy, Sem.run_bind, hg, Result.andThen_ok, hb, Sem.run_pure]) h

theorem op_conv {i : Int} {k k' : IntKind} {v : Value} (hs : P.underlying t = some (.int k)) (hd : P.underlying t' = some (.int k')) (hx : ev ρ x = some (.int k i)) (hv : v = .int k' (k'.wrap i)) (h : R v w) :
    Op1 P n D ⟨dst, .convert t t' x, ty, pos, af, g⟩ ρ w R :=
  Op1.val (fun a ha => by subst hv; simp [execOp, ha.ev hx, convert, run_underlying hs, run_underlying hd, Conv.intToInt]) h


theorem run_and {k : IntKind} {i j r : Int} (hr : k.wrap ((BitVec.ofInt k.bits i &&& BitVec.ofInt k.bits j).toNat) = r) : (binOp .and t (.int k i) (.int k j)).run P w = .ok (.int k r) w := by
  subst hr; simp [binOp, Op.intBits]
theorem run_or {k : IntKind} {i j r : Int} (hr : k.wrap ((BitVec.ofInt k.bits i ||| BitVec.ofInt k.bits j).toNat) = r) : (binOp .or t (.int k i) (.int k j)).run P w = .ok (.int k r) w := by
  subst hr; simp [binOp, Op.intBits]
theorem run_xor {k : IntKind} {i j r : Int} (hr : k.wrap ((BitVec.ofInt k.bits i ^^^ BitVec.ofInt k.bits j).toNat) = r) : (binOp .xor t (.int k i) (.int k j)).run P w = .ok (.int k r) w := by
  subst hr; simp [binOp, Op.intBits]
theorem run_andNot {k : IntKind} {i j r : Int} (hr : k.wrap ((BitVec.ofInt k.bits i &&& ~~~BitVec.ofInt k.bits j).toNat) = r) : (binOp .andNot t (.int k i) (.int k j)).run P w = .ok (.int k r) w := by
  subst hr; simp [binOp, Op.intBits]
theorem run_shl {k k' : IntKind} {i r : Int} {s : Nat} (hr : k.wrap (i * 2 ^ (min s k.bits)) = r) : (binOp .shl t (.int k i) (.int k' (s : Int))).run P w = .ok (.int k r) w := by
  have h0 : ¬ ((s : Int) < 0) := by omega
  subst hr; simp [binOp, Op.shift, h0]
theorem run_shr {k k' : IntKind} {i r : Int} {s : Nat} (hr : i.fdiv (2 ^ (min s k.bits)) = r) : (binOp .shr t (.int k i) (.int k' (s : Int))).run P w = .ok (.int k r) w := by
  have h0 : ¬ ((s : Int) < 0) := by omega
  subst hr; simp [binOp, Op.shift, h0]
theorem run_quo {k : IntKind} {i j r : Int} (hj : j ≠ 0) (hr : k.wrap (i.tdiv j) = r) : (binOp .quo t (.int k i) (.int k j)).run P w = .ok (.int k r) w := by
  subst hr; simp [binOp, Op.intDiv, hj]
theorem run_rem {k : IntKind} {i j r : Int} (hj : j ≠ 0) (hr : i.tmod j = r) : (binOp .rem t (.int k i) (.int k j)).run P w = .ok (.int k r) w := by
  subst hr; simp [binOp, Op.intDiv, hj]
theorem run_add {k : IntKind} {i j r : Int} (hr : k.wrap (i + j) = r) : (binOp .add t (.int k i) (.int k j)).run P w = .ok (.int k r) w := by
  subst hr; simp [binOp, Op.intArith]
theorem run_sub {k : IntKind} {i j r : Int} (hr : k.wrap (i - j) = r) : (binOp .sub t (.int k i) (.int k j)).run P w = .ok (.int k r) w := by
  subst hr; simp [binOp, Op.intArith]
theorem run_mul {k : IntKind} {i j r : Int} (hr : k.wrap (i * j) = r) : (binOp .mul t (.int k i) (.int k j)).run P w = .ok (.int k r) w := by
  subst hr; simp [binOp, Op.intArith]
theorem run_eql {k : IntKind} {i j : Int} {b : Bool} (hb : decide (i = j) = b) : (binOp .eql t (.int k i) (.int k j)).run P w = .ok (.bool b) w := by
  subst hb; simp [binOp, Op.intCmp]; rw [Bool.eq_iff_iff]; simp
theorem run_neq {k : IntKind} {i j : Int} {b : Bool} (hb : decide (i ≠ j) = b) : (binOp .neq t (.int k i) (.int k j)).run P w = .ok (.bool b) w := by
  subst hb; simp [binOp, Op.intCmp]; rw [Bool.eq_iff_iff]; simp
theorem run_lss {k : IntKind} {i j : Int} {b : Bool} (hb : decide (i < j) = b) : (binOp .lss t (.int k i) (.int k j)).run P w = .ok (.bool b) w := by
  subst hb; simp [binOp, Op.intCmp]
theorem run_leq {k : IntKind} {i j : Int} {b : Bool} (hb : decide (i ≤ j) = b) : (binOp .leq t (.int k i) (.int k j)).run P w = .ok (.bool b) w := by
  subst hb; simp [binOp, Op.intCmp]
theorem run_gtr {k : IntKind} {i j : Int} {b : Bool} (hb : decide (i > j) = b) : (binOp .gtr t (.int k i) (.int k j)).run P w = .ok (.bool b) w := by
  subst hb; simp [binOp, Op.intCmp]
theorem run_geq {k : IntKind} {i j : Int} {b : Bool} (hb : decide (i ≥ j) = b) : (binOp .geq t (.int k i) (.int k j)).run P w = .ok (.bool b) w := by
  subst hb; simp [binOp, Op.intCmp]
theorem run_compl {k : IntKind} {i r : Int} (hs : k.signed = false) (hr : k.wrap ((BitVec.ofInt k.bits k.max ^^^ BitVec.ofInt k.bits i).toNat) = r) : (Op.unary .xor (.int k i)).run P w = .ok (.int k r) w := by
  subst hr; simp [Op.unary, Op.intBits, hs]


theorem wrapU8 {i : Int} (h : 0 ≤ i ∧ i < 256) : IntKind.u8.wrap i = i := by
  unfold IntKind.wrap; simp only [IntKind.bits, IntKind.signed]; simp; omega
theorem wrapU8n (i : Nat) : IntKind.u8.wrap (i : Int) = ((UInt8.ofNat i).toNat : Int) := by
  unfold IntKind.wrap; simp only [IntKind.bits, IntKind.signed]; simp
theorem wrapU16 {i : Int} (h : 0 ≤ i ∧ i < 65536) : IntKind.u16.wrap i = i := by
  unfold IntKind.wrap; simp only [IntKind.bits, IntKind.signed]; simp; omega
theorem wrapU16n (i : Nat) : IntKind.u16.wrap (i : Int) = ((UInt16.ofNat i).toNat : Int) := by
  unfold IntKind.wrap; simp only [IntKind.bits, IntKind.signed]; simp
theorem wrapU32 {i : Int} (h : 0 ≤ i ∧ i < 4294967296) : IntKind.u32.wrap i = i := by
  unfold IntKind.wrap; simp only [IntKind.bits, IntKind.signed]; simp; omega
theorem wrapU32n (i : Nat) : IntKind.u32.wrap (i : Int) = ((UInt32.ofNat i).toNat : Int) := by
  unfold IntKind.wrap; simp only [IntKind.bits, IntKind.signed]; simp
theorem wrapU64 {i : Int} (h : 0 ≤ i ∧ i < 18446744073709551616) : IntKind.u64.wrap i = i := by
  unfold IntKind.wrap; simp only [IntKind.bits, IntKind.signed]; simp; omega
theorem wrapU64n (i : Nat) : IntKind.u64.wrap (i : Int) = ((UInt64.ofNat i).toNat : Int) := by
  unfold IntKind.wrap; simp only [IntKind.bits, IntKind.signed]; simp
theorem wrapI {i : Int} (h : -9223372036854775808 ≤ i ∧ i ≤ 9223372036854775807) : IntKind.i64.wrap i = i := by
  unfold IntKind.wrap; simp only [IntKind.bits, IntKind.signed]; simp; omega
theorem wrapN {i : Nat} (h : i ≤ 9223372036854775807) : IntKind.i64.wrap (i : Int) = i := wrapI (by omega)

theorem op_addI {a b : Int} (hx : ev ρ x = some (vI a)) (hy : ev ρ y = some (vI b)) (hr : -9223372036854775808 ≤ a + b ∧ a + b ≤ 9223372036854775807) (h : R (vI (a + b)) w) : Op1 P n D ⟨dst, .binOp .add t x y t', ty, pos, af, g⟩ ρ w R :=
  op_bin hx hy (run_add (wrapI hr)) h
theorem op_subI {a b : Int} (hx : ev ρ x = some (vI a)) (hy : ev ρ y = some (vI b)) (hr : -9223372036854775808 ≤ a - b ∧ a - b ≤ 9223372036854775807) (h : R (vI (a - b)) w) : Op1 P n D ⟨dst, .binOp .sub t x y t', ty, pos, af, g⟩ ρ w R :=
  op_bin hx hy (run_sub (wrapI hr)) h
theorem op_mulI {a b : Int} (hx : ev ρ x = some (vI a)) (hy : ev ρ y = some (vI b)) (hr : -9223372036854775808 ≤ a * b ∧ a * b ≤ 9223372036854775807) (h : R (vI (a * b)) w) : Op1 P n D ⟨dst, .binOp .mul t x y t', ty, pos, af, g⟩ ρ w R :=
  op_bin hx hy (run_mul (wrapI hr)) h
theorem op_addN {a b : Nat} (hx : ev ρ x = some (vN a)) (hy : ev ρ y = some (vN b)) (hr : a + b ≤ 9223372036854775807) (h : R (vN (a + b)) w) : Op1 P n D ⟨dst, .binOp .add t x y t', ty, pos, af, g⟩ ρ w R :=
  op_bin hx hy (run_add (by rw [← Int.natCast_add, wrapN hr])) h
theorem op_mulN {a b : Nat} (hx : ev ρ x = some (vN a)) (hy : ev ρ y = some (vN b)) (hr : a * b ≤ 9223372036854775807) (h : R (vN (a * b)) w) : Op1 P n D ⟨dst, .binOp .mul t x y t', ty, pos, af, g⟩ ρ w R :=
  op_bin hx hy (run_mul (by rw [← Int.natCast_mul, wrapN hr])) h
theorem op_subN {a b : Nat} (hx : ev ρ x = some (vN a)) (hy : ev ρ y = some (vN b)) (hab : b ≤ a) (hr : a ≤ 9223372036854775807) (h : R (vN (a - b)) w) : Op1 P n D ⟨dst, .binOp .sub t x y t', ty, pos, af, g⟩ ρ w R :=
  op_bin hx hy (run_sub (by rw [← Int.natCast_sub hab, wrapN (Nat.le_trans (Nat.sub_le a b) hr)])) h
theorem op_quoN {a b : Nat} (hx : ev ρ x = some (vN a)) (hy : ev ρ y = some (vN b)) (hb : b ≠ 0) (hr : a ≤ 9223372036854775807) (h : R (vN (a / b)) w) : Op1 P n D ⟨dst, .binOp .quo t x y t', ty, pos, af, g⟩ ρ w R :=
  op_bin hx hy (run_quo (by omega) (by rw [show ((a : Int).tdiv b) = ((a / b : Nat) : Int) from rfl, wrapN (Nat.le_trans (Nat.div_le_self a b) hr)])) h
theorem op_remN {a b : Nat} (hx : ev ρ x = some (vN a)) (hy : ev ρ y = some (vN b)) (hb : b ≠ 0) (h : R (vN (a % b)) w) : Op1 P n D ⟨dst, .binOp .rem t x y t', ty, pos, af, g⟩ ρ w R :=
  op_bin hx hy (run_rem (by omega) rfl) h

theorem op_eqlN {a b : Nat} (hx : ev ρ x = some (vN a)) (hy : ev ρ y = some (vN b)) (h : R (.bool (decide (a = b))) w) : Op1 P n D ⟨dst, .binOp .eql t x y t', ty, pos, af, g⟩ ρ w R :=
  op_bin hx hy (run_eql (decide_eq_decide.2 (by omega))) h
theorem op_eqlI {a b : Int} (hx : ev ρ x = some (vI a)) (hy : ev ρ y = some (vI b)) (h : R (.bool (decide (a = b))) w) : Op1 P n D ⟨dst, .binOp .eql t x y t', ty, pos, af, g⟩ ρ w R :=
  op_bin hx hy (run_eql rfl) h
theorem op_neqN {a b : Nat} (hx : ev ρ x = some (vN a)) (hy : ev ρ y = some (vN b)) (h : R (.bool (decide (a ≠ b))) w) : Op1 P n D ⟨dst, .binOp .neq t x y t', ty, pos, af, g⟩ ρ w R :=
  op_bin hx hy (run_neq (decide_eq_decide.2 (by omega))) h
theorem op_neqI {a b : Int} (hx : ev ρ x = some (vI a)) (hy : ev ρ y = some (vI b)) (h : R (.bool (decide (a ≠ b))) w) : Op1 P n D ⟨dst, .binOp .neq t x y t', ty, pos, af, g⟩ ρ w R :=
  op_bin hx hy (run_neq rfl) h
theorem op_lssN {a b : Nat} (hx : ev ρ x = some (vN a)) (hy : ev ρ y = some (vN b)) (h : R (.bool (decide (a < b))) w) : Op1 P n D ⟨dst, .binOp .lss t x y t', ty, pos, af, g⟩ ρ w R :=
  op_bin hx hy (run_lss (decide_eq_decide.2 (by omega))) h
theorem op_lssI {a b : Int} (hx : ev ρ x = some (vI a)) (hy : ev ρ y = some (vI b)) (h : R (.bool (decide (a < b))) w) : Op1 P n D ⟨dst, .binOp .lss t x y t', ty, pos, af, g⟩ ρ w R :=
  op_bin hx hy (run_lss rfl) h
theorem op_leqN {a b : Nat} (hx : ev ρ x = some (vN a)) (hy : ev ρ y = some (vN b)) (h : R (.bool (decide (a ≤ b))) w) : Op1 P n D ⟨dst, .binOp .leq t x y t', ty, pos, af, g⟩ ρ w R :=
  op_bin hx hy (run_leq (decide_eq_decide.2 (by omega))) h
theorem op_leqI {a b : Int} (hx : ev ρ x = some (vI a)) (hy : ev ρ y = some (vI b)) (h : R (.bool (decide (a ≤ b))) w) : Op1 P n D ⟨dst, .binOp .leq t x y t', ty, pos, af, g⟩ ρ w R :=
  op_bin hx hy (run_leq rfl) h
theorem op_gtrN {a b : Nat} (hx : ev ρ x = some (vN a)) (hy : ev ρ y = some (vN b)) (h : R (.bool (decide (a > b))) w) : Op1 P n D ⟨dst, .binOp .gtr t x y t', ty, pos, af, g⟩ ρ w R :=
  op_bin hx hy (run_gtr (decide_eq_decide.2 (by omega))) h
theorem op_gtrI {a b : Int} (hx : ev ρ x = some (vI a)) (hy : ev ρ y = some (vI b)) (h : R (.bool (decide (a > b))) w) : Op1 P n D ⟨dst, .binOp .gtr t x y t', ty, pos, af, g⟩ ρ w R :=
  op_bin hx hy (run_gtr rfl) h
theorem op_geqN {a b : Nat} (hx : ev ρ x = some (vN a)) (hy : ev ρ y = some (vN b)) (h : R (.bool (decide (a ≥ b))) w) : Op1 P n D ⟨dst, .binOp .geq t x y t', ty, pos, af, g⟩ ρ w R :=
  op_bin hx hy (run_geq (decide_eq_decide.2 (by omega))) h
theorem op_geqI {a b : Int} (hx : ev ρ x = some (vI a)) (hy : ev ρ y = some (vI b)) (h : R (.bool (decide (a ≥ b))) w) : Op1 P n D ⟨dst, .binOp .geq t x y t', ty, pos, af, g⟩ ρ w R :=
  op_bin hx hy (run_geq rfl) h

/-! UInt8 -/

theorem toNatU8 (x : UInt8) : x.toNat < 256 := x.toNat_lt
def shlU8 (x : UInt8) (s : Nat) : UInt8 := UInt8.ofNat (x.toNat <<< s)
def shrU8 (x : UInt8) (s : Nat) : UInt8 := UInt8.ofNat (x.toNat >>> s)
theorem bvU8 (c : UInt8) : BitVec.ofInt IntKind.u8.bits (c.toNat : Int) = c.toBitVec := by
  apply BitVec.eq_of_toNat_eq; simp [IntKind.bits, BitVec.toNat_ofInt]; try (have := toNatU8 c; omega)
theorem wbvU8 (r : BitVec 8) : IntKind.u8.wrap (r.toNat : Int) = (r.toNat : Int) := wrapU8 ⟨Int.natCast_nonneg _, Int.ofNat_lt.2 r.isLt⟩
theorem divU8 (a b : UInt8) : IntKind.u8.wrap ((a.toNat : Int).tdiv b.toNat) = ((a / b).toNat : Int) := by
  have h0 : ((a.toNat : Int).tdiv b.toNat) = ((a.toNat / b.toNat : Nat) : Int) := rfl
  have h1 : a.toNat / b.toNat < 256 := Nat.lt_of_le_of_lt (Nat.div_le_self _ _) (toNatU8 a)
  rw [h0, wrapU8 ⟨Int.natCast_nonneg _, Int.ofNat_lt.2 h1⟩, UInt8.toNat_div]
theorem subU8 (a b : UInt8) : IntKind.u8.wrap ((a.toNat : Int) - (b.toNat : Int)) = ((a - b).toNat : Int) := by
  unfold IntKind.wrap; simp only [IntKind.bits, IntKind.signed]
  have h1 := toNatU8 a; have h2 := toNatU8 b
  rw [UInt8.toNat_sub]
  simp; omega
theorem shlwU8 (a : UInt8) (s : Nat) : IntKind.u8.wrap ((a.toNat : Int) * 2 ^ (min s 8)) = ((shlU8 a s).toNat : Int) := by
  have h1 : ((a.toNat : Int) * 2 ^ (min s 8)) = ((a.toNat * 2 ^ (min s 8) : Nat) : Int) := by simp
  rw [h1, wrapU8n]
  unfold shlU8
  rw [Nat.shiftLeft_eq]
  by_cases hs : s ≤ 8
  · rw [Nat.min_eq_left hs]
  · rw [Nat.min_eq_right (by omega)]
    have h2 : a.toNat * 2 ^ s % 2 ^ 8 = 0 := by
      obtain ⟨d, rfl⟩ : ∃ d, s = 8 + d := ⟨s - 8, by omega⟩
      rw [Nat.pow_add, ← Nat.mul_assoc, Nat.mul_comm (a.toNat), Nat.mul_assoc]
      exact Nat.mul_mod_right _ _
    simp only [UInt8.toNat_ofNat', h2]
    simp
theorem shrwU8 (a : UInt8) (s : Nat) : (a.toNat : Int).fdiv (2 ^ (min s 8)) = ((shrU8 a s).toNat : Int) := by
  have hl := toNatU8 a
  have h1 : (a.toNat : Int).fdiv (2 ^ (min s 8)) = ((a.toNat / 2 ^ (min s 8) : Nat) : Int) := by
    rw [Int.fdiv_eq_ediv_of_nonneg _ (by exact_mod_cast Nat.zero_le (2 ^ (min s 8)))]; simp
  rw [h1]
  unfold shrU8
  rw [Nat.shiftRight_eq_div_pow]
  have h3 : a.toNat / 2 ^ s < 256 := Nat.lt_of_le_of_lt (Nat.div_le_self _ _) hl
  rw [UInt8.toNat_ofNat_of_lt' (by simpa [UInt8.size] using h3)]
  by_cases hs : s ≤ 8
  · rw [Nat.min_eq_left hs]
  · rw [Nat.min_eq_right (by omega)]
    have h4 : a.toNat / 2 ^ 8 = 0 := Nat.div_eq_of_lt (by omega)
    have h5 : a.toNat / 2 ^ s = 0 := Nat.div_eq_of_lt (Nat.lt_of_lt_of_le (by omega : a.toNat < 2 ^ 8) (Nat.pow_le_pow_right (by omega) (by omega)))
    rw [h4, h5]
theorem op_addU8 {a b : UInt8} (hx : ev ρ x = some (vU8 a)) (hy : ev ρ y = some (vU8 b)) (h : R (vU8 (a + b)) w) : Op1 P n D ⟨dst, .binOp .add t x y t', ty, pos, af, g⟩ ρ w R :=
  op_bin hx hy (run_add (by rw [← Int.natCast_add, wrapU8n, UInt8.ofNat_add, UInt8.ofNat_toNat, UInt8.ofNat_toNat])) h
theorem op_mulU8 {a b : UInt8} (hx : ev ρ x = some (vU8 a)) (hy : ev ρ y = some (vU8 b)) (h : R (vU8 (a * b)) w) : Op1 P n D ⟨dst, .binOp .mul t x y t', ty, pos, af, g⟩ ρ w R :=
  op_bin hx hy (run_mul (by rw [← Int.natCast_mul, wrapU8n, UInt8.ofNat_mul, UInt8.ofNat_toNat, UInt8.ofNat_toNat])) h
theorem op_subU8 {a b : UInt8} (hx : ev ρ x = some (vU8 a)) (hy : ev ρ y = some (vU8 b)) (h : R (vU8 (a - b)) w) : Op1 P n D ⟨dst, .binOp .sub t x y t', ty, pos, af, g⟩ ρ w R :=
  op_bin hx hy (run_sub (subU8 a b)) h
theorem nzU8 {b : UInt8} (hb : b ≠ 0) : (b.toNat : Int) ≠ 0 := fun e => hb (UInt8.toNat_inj.1 (by simpa using e))
theorem op_quoU8 {a b : UInt8} (hx : ev ρ x = some (vU8 a)) (hy : ev ρ y = some (vU8 b)) (hb : b ≠ 0) (h : R (vU8 (a / b)) w) : Op1 P n D ⟨dst, .binOp .quo t x y t', ty, pos, af, g⟩ ρ w R :=
  op_bin hx hy (run_quo (nzU8 hb) (divU8 a b)) h
theorem op_remU8 {a b : UInt8} (hx : ev ρ x = some (vU8 a)) (hy : ev ρ y = some (vU8 b)) (hb : b ≠ 0) (h : R (vU8 (a % b)) w) : Op1 P n D ⟨dst, .binOp .rem t x y t', ty, pos, af, g⟩ ρ w R :=
  op_bin hx hy (run_rem (nzU8 hb) (by rw [UInt8.toNat_mod]; rfl)) h
theorem op_andU8 {a b : UInt8} (hx : ev ρ x = some (vU8 a)) (hy : ev ρ y = some (vU8 b)) (h : R (vU8 (a &&& b)) w) : Op1 P n D ⟨dst, .binOp .and t x y t', ty, pos, af, g⟩ ρ w R :=
  op_bin hx hy (run_and (by rw [bvU8, bvU8]; exact wbvU8 _)) h
theorem op_orU8 {a b : UInt8} (hx : ev ρ x = some (vU8 a)) (hy : ev ρ y = some (vU8 b)) (h : R (vU8 (a ||| b)) w) : Op1 P n D ⟨dst, .binOp .or t x y t', ty, pos, af, g⟩ ρ w R :=
  op_bin hx hy (run_or (by rw [bvU8, bvU8]; exact wbvU8 _)) h
theorem op_xorU8 {a b : UInt8} (hx : ev ρ x = some (vU8 a)) (hy : ev ρ y = some (vU8 b)) (h : R (vU8 (a ^^^ b)) w) : Op1 P n D ⟨dst, .binOp .xor t x y t', ty, pos, af, g⟩ ρ w R :=
  op_bin hx hy (run_xor (by rw [bvU8, bvU8]; exact wbvU8 _)) h
theorem op_andNotU8 {a b : UInt8} (hx : ev ρ x = some (vU8 a)) (hy : ev ρ y = some (vU8 b)) (h : R (vU8 (a &&& ~~~b)) w) : Op1 P n D ⟨dst, .binOp .andNot t x y t', ty, pos, af, g⟩ ρ w R :=
  op_bin hx hy (run_andNot (by rw [bvU8, bvU8]; exact wbvU8 _)) h
theorem op_shlU8 {a : UInt8} {k : IntKind} {s : Nat} (hx : ev ρ x = some (vU8 a)) (hy : ev ρ y = some (.int k (s : Int))) (h : R (vU8 (shlU8 a s)) w) : Op1 P n D ⟨dst, .binOp .shl t x y t', ty, pos, af, g⟩ ρ w R :=
  op_bin hx hy (run_shl (shlwU8 a s)) h
theorem op_shrU8 {a : UInt8} {k : IntKind} {s : Nat} (hx : ev ρ x = some (vU8 a)) (hy : ev ρ y = some (.int k (s : Int))) (h : R (vU8 (shrU8 a s)) w) : Op1 P n D ⟨dst, .binOp .shr t x y t', ty, pos, af, g⟩ ρ w R :=
  op_bin hx hy (run_shr (shrwU8 a s)) h
theorem op_complU8 {a : UInt8} (hx : ev ρ x = some (vU8 a)) (h : R (vU8 (~~~a)) w) : Op1 P n D ⟨dst, .unOp .xor t x, ty, pos, af, g⟩ ρ w R :=
  Op1.val (fun b hb => by
    have e1 : BitVec.ofInt IntKind.u8.bits (IntKind.max .u8) = (BitVec.allOnes 8 : BitVec 8) := by apply BitVec.eq_of_toNat_eq; rfl
    have h1 : BitVec.ofInt IntKind.u8.bits (IntKind.max .u8) ^^^ BitVec.ofInt IntKind.u8.bits (a.toNat : Int) = (~~~a.toBitVec : BitVec 8) := by
      rw [bvU8, e1]; exact BitVec.allOnes_xor
    have h2 : (Op.unary .xor (.int .u8 (a.toNat : Int))).run P w = .ok (vU8 (~~~a)) w := run_compl rfl (by rw [h1]; exact wbvU8 _)
    simp only [execOp, hb.ev hx, Sem.run_bind, h2, Result.andThen_ok, Sem.run_pure]) h
theorem op_eqlU8 {a b : UInt8} (hx : ev ρ x = some (vU8 a)) (hy : ev ρ y = some (vU8 b)) (h : R (.bool (decide (a = b))) w) : Op1 P n D ⟨dst, .binOp .eql t x y t', ty, pos, af, g⟩ ρ w R :=
  op_bin hx hy (run_eql (decide_eq_decide.2 (by rw [← UInt8.toNat_inj]; omega))) h
theorem op_neqU8 {a b : UInt8} (hx : ev ρ x = some (vU8 a)) (hy : ev ρ y = some (vU8 b)) (h : R (.bool (decide (a ≠ b))) w) : Op1 P n D ⟨dst, .binOp .neq t x y t', ty, pos, af, g⟩ ρ w R :=
  op_bin hx hy (run_neq (decide_eq_decide.2 (by rw [ne_eq, ne_eq, ← UInt8.toNat_inj]; omega))) h
theorem op_lssU8 {a b : UInt8} (hx : ev ρ x = some (vU8 a)) (hy : ev ρ y = some (vU8 b)) (h : R (.bool (decide (a < b))) w) : Op1 P n D ⟨dst, .binOp .lss t x y t', ty, pos, af, g⟩ ρ w R :=
  op_bin hx hy (run_lss (decide_eq_decide.2 (by rw [UInt8.lt_iff_toNat_lt]; omega))) h
theorem op_leqU8 {a b : UInt8} (hx : ev ρ x = some (vU8 a)) (hy : ev ρ y = some (vU8 b)) (h : R (.bool (decide (a ≤ b))) w) : Op1 P n D ⟨dst, .binOp .leq t x y t', ty, pos, af, g⟩ ρ w R :=
  op_bin hx hy (run_leq (decide_eq_decide.2 (by rw [UInt8.le_iff_toNat_le]; omega))) h
theorem op_gtrU8 {a b : UInt8} (hx : ev ρ x = some (vU8 a)) (hy : ev ρ y = some (vU8 b)) (h : R (.bool (decide (a > b))) w) : Op1 P n D ⟨dst, .binOp .gtr t x y t', ty, pos, af, g⟩ ρ w R :=
  op_bin hx hy (run_gtr (decide_eq_decide.2 (by show _ < _ ↔ _ < _; rw [UInt8.lt_iff_toNat_lt]; omega))) h
theorem op_geqU8 {a b : UInt8} (hx : ev ρ x = some (vU8 a)) (hy : ev ρ y = some (vU8 b)) (h : R (.bool (decide (a ≥ b))) w) : Op1 P n D ⟨dst, .binOp .geq t x y t', ty, pos, af, g⟩ ρ w R :=
  op_bin hx hy (run_geq (decide_eq_decide.2 (by show _ ≤ _ ↔ _ ≤ _; rw [UInt8.le_iff_toNat_le]; omega))) h
theorem op_convU8N {a : UInt8} (hs : P.underlying t = some (.int .u8)) (hd : P.underlying t' = some (.int .i64)) (hx : ev ρ x = some (vU8 a)) (h : R (vN a.toNat) w) :
    Op1 P n D ⟨dst, .convert t t' x, ty, pos, af, g⟩ ρ w R :=
  op_conv hs hd hx (by rw [wrapN (by have := toNatU8 a; omega)]) h
theorem op_convNU8 {a : Nat} (hs : P.underlying t = some (.int .i64)) (hd : P.underlying t' = some (.int .u8)) (hx : ev ρ x = some (vN a)) (h : R (vU8 (UInt8.ofNat a)) w) :
    Op1 P n D ⟨dst, .convert t t' x, ty, pos, af, g⟩ ρ w R :=
  op_conv hs hd hx (by rw [wrapU8n]) h
theorem op_convU8U16 {a : UInt8} (hs : P.underlying t = some (.int .u8)) (hd : P.underlying t' = some (.int .u16)) (hx : ev ρ x = some (vU8 a)) (h : R (vU16 (UInt16.ofNat a.toNat)) w) :
    Op1 P n D ⟨dst, .convert t t' x, ty, pos, af, g⟩ ρ w R :=
  op_conv hs hd hx (by rw [wrapU16n]) h
theorem op_convU8U32 {a : UInt8} (hs : P.underlying t = some (.int .u8)) (hd : P.underlying t' = some (.int .u32)) (hx : ev ρ x = some (vU8 a)) (h : R (vU32 (UInt32.ofNat a.toNat)) w) :
    Op1 P n D ⟨dst, .convert t t' x, ty, pos, af, g⟩ ρ w R :=
  op_conv hs hd hx (by rw [wrapU32n]) h
theorem op_convU8U64 {a : UInt8} (hs : P.underlying t = some (.int .u8)) (hd : P.underlying t' = some (.int .u64)) (hx : ev ρ x = some (vU8 a)) (h : R (vU64 (UInt64.ofNat a.toNat)) w) :
    Op1 P n D ⟨dst, .convert t t' x, ty, pos, af, g⟩ ρ w R :=
  op_conv hs hd hx (by rw [wrapU64n]) h

/-! UInt16 -/

theorem toNatU16 (x : UInt16) : x.toNat < 65536 := x.toNat_lt
def shlU16 (x : UInt16) (s : Nat) : UInt16 := UInt16.ofNat (x.toNat <<< s)
def shrU16 (x : UInt16) (s : Nat) : UInt16 := UInt16.ofNat (x.toNat >>> s)
theorem bvU16 (c : UInt16) : BitVec.ofInt IntKind.u16.bits (c.toNat : Int) = c.toBitVec := by
  apply BitVec.eq_of_toNat_eq; simp [IntKind.bits, BitVec.toNat_ofInt]; try (have := toNatU16 c; omega)
theorem wbvU16 (r : BitVec 16) : IntKind.u16.wrap (r.toNat : Int) = (r.toNat : Int) := wrapU16 ⟨Int.natCast_nonneg _, Int.ofNat_lt.2 r.isLt⟩
theorem divU16 (a b : UInt16) : IntKind.u16.wrap ((a.toNat : Int).tdiv b.toNat) = ((a / b).toNat : Int) := by
  have h0 : ((a.toNat : Int).tdiv b.toNat) = ((a.toNat / b.toNat : Nat) : Int) := rfl
  have h1 : a.toNat / b.toNat < 65536 := Nat.lt_of_le_of_lt (Nat.div_le_self _ _) (toNatU16 a)
  rw [h0, wrapU16 ⟨Int.natCast_nonneg _, Int.ofNat_lt.2 h1⟩, UInt16.toNat_div]
theorem subU16 (a b : UInt16) : IntKind.u16.wrap ((a.toNat : Int) - (b.toNat : Int)) = ((a - b).toNat : Int) := by
  unfold IntKind.wrap; simp only [IntKind.bits, IntKind.signed]
  have h1 := toNatU16 a; have h2 := toNatU16 b
  rw [UInt16.toNat_sub]
  simp; omega
theorem shlwU16 (a : UInt16) (s : Nat) : IntKind.u16.wrap ((a.toNat : Int) * 2 ^ (min s 16)) = ((shlU16 a s).toNat : Int) := by
  have h1 : ((a.toNat : Int) * 2 ^ (min s 16)) = ((a.toNat * 2 ^ (min s 16) : Nat) : Int) := by simp
  rw [h1, wrapU16n]
  unfold shlU16
  rw [Nat.shiftLeft_eq]
  by_cases hs : s ≤ 16
  · rw [Nat.min_eq_left hs]
  · rw [Nat.min_eq_right (by omega)]
    have h2 : a.toNat * 2 ^ s % 2 ^ 16 = 0 := by
      obtain ⟨d, rfl⟩ : ∃ d, s = 16 + d := ⟨s - 16, by omega⟩
      rw [Nat.pow_add, ← Nat.mul_assoc, Nat.mul_comm (a.toNat), Nat.mul_assoc]
      exact Nat.mul_mod_right _ _
    simp only [UInt16.toNat_ofNat', h2]
    simp
theorem shrwU16 (a : UInt16) (s : Nat) : (a.toNat : Int).fdiv (2 ^ (min s 16)) = ((shrU16 a s).toNat : Int) := by
  have hl := toNatU16 a
  have h1 : (a.toNat : Int).fdiv (2 ^ (min s 16)) = ((a.toNat / 2 ^ (min s 16) : Nat) : Int) := by
    rw [Int.fdiv_eq_ediv_of_nonneg _ (by exact_mod_cast Nat.zero_le (2 ^ (min s 16)))]; simp
  rw [h1]
  unfold shrU16
  rw [Nat.shiftRight_eq_div_pow]
  have h3 : a.toNat / 2 ^ s < 65536 := Nat.lt_of_le_of_lt (Nat.div_le_self _ _) hl
  rw [UInt16.toNat_ofNat_of_lt' (by simpa [UInt16.size] using h3)]
  by_cases hs : s ≤ 16
  · rw [Nat.min_eq_left hs]
  · rw [Nat.min_eq_right (by omega)]
    have h4 : a.toNat / 2 ^ 16 = 0 := Nat.div_eq_of_lt (by omega)
    have h5 : a.toNat / 2 ^ s = 0 := Nat.div_eq_of_lt (Nat.lt_of_lt_of_le (by omega : a.toNat < 2 ^ 16) (Nat.pow_le_pow_right (by omega) (by omega)))
    rw [h4, h5]
theorem op_addU16 {a b : UInt16} (hx : ev ρ x = some (vU16 a)) (hy : ev ρ y = some (vU16 b)) (h : R (vU16 (a + b)) w) : Op1 P n D ⟨dst, .binOp .add t x y t', ty, pos, af, g⟩ ρ w R :=
  op_bin hx hy (run_add (by rw [← Int.natCast_add, wrapU16n, UInt16.ofNat_add, UInt16.ofNat_toNat, UInt16.ofNat_toNat])) h
theorem op_mulU16 {a b : UInt16} (hx : ev ρ x = some (vU16 a)) (hy : ev ρ y = some (vU16 b)) (h : R (vU16 (a * b)) w) : Op1 P n D ⟨dst, .binOp .mul t x y t', ty, pos, af, g⟩ ρ w R :=
  op_bin hx hy (run_mul (by rw [← Int.natCast_mul, wrapU16n, UInt16.ofNat_mul, UInt16.ofNat_toNat, UInt16.ofNat_toNat])) h
theorem op_subU16 {a b : UInt16} (hx : ev ρ x = some (vU16 a)) (hy : ev ρ y = some (vU16 b)) (h : R (vU16 (a - b)) w) : Op1 P n D ⟨dst, .binOp .sub t x y t', ty, pos, af, g⟩ ρ w R :=
  op_bin hx hy (run_sub (subU16 a b)) h
theorem nzU16 {b : UInt16} (hb : b ≠ 0) : (b.toNat : Int) ≠ 0 := fun e => hb (UInt16.toNat_inj.1 (by simpa using e))
theorem op_quoU16 {a b : UInt16} (hx : ev ρ x = some (vU16 a)) (hy : ev ρ y = some (vU16 b)) (hb : b ≠ 0) (h : R (vU16 (a / b)) w) : Op1 P n D ⟨dst, .binOp .quo t x y t', ty, pos, af, g⟩ ρ w R :=
  op_bin hx hy (run_quo (nzU16 hb) (divU16 a b)) h
theorem op_remU16 {a b : UInt16} (hx : ev ρ x = some (vU16 a)) (hy : ev ρ y = some (vU16 b)) (hb : b ≠ 0) (h : R (vU16 (a % b)) w) : Op1 P n D ⟨dst, .binOp .rem t x y t', ty, pos, af, g⟩ ρ w R :=
  op_bin hx hy (run_rem (nzU16 hb) (by rw [UInt16.toNat_mod]; rfl)) h
theorem op_andU16 {a b : UInt16} (hx : ev ρ x = some (vU16 a)) (hy : ev ρ y = some (vU16 b)) (h : R (vU16 (a &&& b)) w) : Op1 P n D ⟨dst, .binOp .and t x y t', ty, pos, af, g⟩ ρ w R :=
  op_bin hx hy (run_and (by rw [bvU16, bvU16]; exact wbvU16 _)) h
theorem op_orU16 {a b : UInt16} (hx : ev ρ x = some (vU16 a)) (hy : ev ρ y = some (vU16 b)) (h : R (vU16 (a ||| b)) w) : Op1 P n D ⟨dst, .binOp .or t x y t', ty, pos, af, g⟩ ρ w R :=
  op_bin hx hy (run_or (by rw [bvU16, bvU16]; exact wbvU16 _)) h
theorem op_xorU16 {a b : UInt16} (hx : ev ρ x = some (vU16 a)) (hy : ev ρ y = some (vU16 b)) (h : R (vU16 (a ^^^ b)) w) : Op1 P n D ⟨dst, .binOp .xor t x y t', ty, pos, af, g⟩ ρ w R :=
  op_bin hx hy (run_xor (by rw [bvU16, bvU16]; exact wbvU16 _)) h
theorem op_andNotU16 {a b : UInt16} (hx : ev ρ x = some (vU16 a)) (hy : ev ρ y = some (vU16 b)) (h : R (vU16 (a &&& ~~~b)) w) : Op1 P n D ⟨dst, .binOp .andNot t x y t', ty, pos, af, g⟩ ρ w R :=
  op_bin hx hy (run_andNot (by rw [bvU16, bvU16]; exact wbvU16 _)) h
theorem op_shlU16 {a : UInt16} {k : IntKind} {s : Nat} (hx : ev ρ x = some (vU16 a)) (hy : ev ρ y = some (.int k (s : Int))) (h : R (vU16 (shlU16 a s)) w) : Op1 P n D ⟨dst, .binOp .shl t x y t', ty, pos, af, g⟩ ρ w R :=
  op_bin hx hy (run_shl (shlwU16 a s)) h
theorem op_shrU16 {a : UInt16} {k : IntKind} {s : Nat} (hx : ev ρ x = some (vU16 a)) (hy : ev ρ y = some (.int k (s : Int))) (h : R (vU16 (shrU16 a s)) w) : Op1 P n D ⟨dst, .binOp .shr t x y t', ty, pos, af, g⟩ ρ w R :=
  op_bin hx hy (run_shr (shrwU16 a s)) h
theorem op_complU16 {a : UInt16} (hx : ev ρ x = some (vU16 a)) (h : R (vU16 (~~~a)) w) : Op1 P n D ⟨dst, .unOp .xor t x, ty, pos, af, g⟩ ρ w R :=
  Op1.val (fun b hb => by
    have e1 : BitVec.ofInt IntKind.u16.bits (IntKind.max .u16) = (BitVec.allOnes 16 : BitVec 16) := by apply BitVec.eq_of_toNat_eq; rfl
    have h1 : BitVec.ofInt IntKind.u16.bits (IntKind.max .u16) ^^^ BitVec.ofInt IntKind.u16.bits (a.toNat : Int) = (~~~a.toBitVec : BitVec 16) := by
      rw [bvU16, e1]; exact BitVec.allOnes_xor
    have h2 : (Op.unary .xor (.int .u16 (a.toNat : Int))).run P w = .ok (vU16 (~~~a)) w := run_compl rfl (by rw [h1]; exact wbvU16 _)
    simp only [execOp, hb.ev hx, Sem.run_bind, h2, Result.andThen_ok, Sem.run_pure]) h
theorem op_eqlU16 {a b : UInt16} (hx : ev ρ x = some (vU16 a)) (hy : ev ρ y = some (vU16 b)) (h : R (.bool (decide (a = b))) w) : Op1 P n D ⟨dst, .binOp .eql t x y t', ty, pos, af, g⟩ ρ w R :=
  op_bin hx hy (run_eql (decide_eq_decide.2 (by rw [← UInt16.toNat_inj]; omega))) h
theorem op_neqU16 {a b : UInt16} (hx : ev ρ x = some (vU16 a)) (hy : ev ρ y = some (vU16 b)) (h : R (.bool (decide (a ≠ b))) w) : Op1 P n D ⟨dst, .binOp .neq t x y t', ty, pos, af, g⟩ ρ w R :=
  op_bin hx hy (run_neq (decide_eq_decide.2 (by rw [ne_eq, ne_eq, ← UInt16.toNat_inj]; omega))) h
theorem op_lssU16 {a b : UInt16} (hx : ev ρ x = some (vU16 a)) (hy : ev ρ y = some (vU16 b)) (h : R (.bool (decide (a < b))) w) : Op1 P n D ⟨dst, .binOp .lss t x y t', ty, pos, af, g⟩ ρ w R :=
  op_bin hx hy (run_lss (decide_eq_decide.2 (by rw [UInt16.lt_iff_toNat_lt]; omega))) h
theorem op_leqU16 {a b : UInt16} (hx : ev ρ x = some (vU16 a)) (hy : ev ρ y = some (vU16 b)) (h : R (.bool (decide (a ≤ b))) w) : Op1 P n D ⟨dst, .binOp .leq t x y t', ty, pos, af, g⟩ ρ w R :=
  op_bin hx hy (run_leq (decide_eq_decide.2 (by rw [UInt16.le_iff_toNat_le]; omega))) h
theorem op_gtrU16 {a b : UInt16} (hx : ev ρ x = some (vU16 a)) (hy : ev ρ y = some (vU16 b)) (h : R (.bool (decide (a > b))) w) : Op1 P n D ⟨dst, .binOp .gtr t x y t', ty, pos, af, g⟩ ρ w R :=
  op_bin hx hy (run_gtr (decide_eq_decide.2 (by show _ < _ ↔ _ < _; rw [UInt16.lt_iff_toNat_lt]; omega))) h
theorem op_geqU16 {a b : UInt16} (hx : ev ρ x = some (vU16 a)) (hy : ev ρ y = some (vU16 b)) (h : R (.bool (decide (a ≥ b))) w) : Op1 P n D ⟨dst, .binOp .geq t x y t', ty, pos, af, g⟩ ρ w R :=
  op_bin hx hy (run_geq (decide_eq_decide.2 (by show _ ≤ _ ↔ _ ≤ _; rw [UInt16.le_iff_toNat_le]; omega))) h
theorem op_convU16N {a : UInt16} (hs : P.underlying t = some (.int .u16)) (hd : P.underlying t' = some (.int .i64)) (hx : ev ρ x = some (vU16 a)) (h : R (vN a.toNat) w) :
    Op1 P n D ⟨dst, .convert t t' x, ty, pos, af, g⟩ ρ w R :=
  op_conv hs hd hx (by rw [wrapN (by have := toNatU16 a; omega)]) h
theorem op_convNU16 {a : Nat} (hs : P.underlying t = some (.int .i64)) (hd : P.underlying t' = some (.int .u16)) (hx : ev ρ x = some (vN a)) (h : R (vU16 (UInt16.ofNat a)) w) :
    Op1 P n D ⟨dst, .convert t t' x, ty, pos, af, g⟩ ρ w R :=
  op_conv hs hd hx (by rw [wrapU16n]) h
theorem op_convU16U8 {a : UInt16} (hs : P.underlying t = some (.int .u16)) (hd : P.underlying t' = some (.int .u8)) (hx : ev ρ x = some (vU16 a)) (h : R (vU8 (UInt8.ofNat a.toNat)) w) :
    Op1 P n D ⟨dst, .convert t t' x, ty, pos, af, g⟩ ρ w R :=
  op_conv hs hd hx (by rw [wrapU8n]) h
theorem op_convU16U32 {a : UInt16} (hs : P.underlying t = some (.int .u16)) (hd : P.underlying t' = some (.int .u32)) (hx : ev ρ x = some (vU16 a)) (h : R (vU32 (UInt32.ofNat a.toNat)) w) :
    Op1 P n D ⟨dst, .convert t t' x, ty, pos, af, g⟩ ρ w R :=
  op_conv hs hd hx (by rw [wrapU32n]) h
theorem op_convU16U64 {a : UInt16} (hs : P.underlying t = some (.int .u16)) (hd : P.underlying t' = some (.int .u64)) (hx : ev ρ x = some (vU16 a)) (h : R (vU64 (UInt64.ofNat a.toNat)) w) :
    Op1 P n D ⟨dst, .convert t t' x, ty, pos, af, g⟩ ρ w R :=
  op_conv hs hd hx (by rw [wrapU64n]) h

/-! UInt32 -/

theorem toNatU32 (x : UInt32) : x.toNat < 4294967296 := x.toNat_lt
def shlU32 (x : UInt32) (s : Nat) : UInt32 := UInt32.ofNat (x.toNat <<< s)
def shrU32 (x : UInt32) (s : Nat) : UInt32 := UInt32.ofNat (x.toNat >>> s)
theorem bvU32 (c : UInt32) : BitVec.ofInt IntKind.u32.bits (c.toNat : Int) = c.toBitVec := by
  apply BitVec.eq_of_toNat_eq; simp [IntKind.bits, BitVec.toNat_ofInt]; try (have := toNatU32 c; omega)
theorem wbvU32 (r : BitVec 32) : IntKind.u32.wrap (r.toNat : Int) = (r.toNat : Int) := wrapU32 ⟨Int.natCast_nonneg _, Int.ofNat_lt.2 r.isLt⟩
theorem divU32 (a b : UInt32) : IntKind.u32.wrap ((a.toNat : Int).tdiv b.toNat) = ((a / b).toNat : Int) := by
  have h0 : ((a.toNat : Int).tdiv b.toNat) = ((a.toNat / b.toNat : Nat) : Int) := rfl
  have h1 : a.toNat / b.toNat < 4294967296 := Nat.lt_of_le_of_lt (Nat.div_le_self _ _) (toNatU32 a)
  rw [h0, wrapU32 ⟨Int.natCast_nonneg _, Int.ofNat_lt.2 h1⟩, UInt32.toNat_div]
theorem subU32 (a b : UInt32) : IntKind.u32.wrap ((a.toNat : Int) - (b.toNat : Int)) = ((a - b).toNat : Int) := by
  unfold IntKind.wrap; simp only [IntKind.bits, IntKind.signed]
  have h1 := toNatU32 a; have h2 := toNatU32 b
  rw [UInt32.toNat_sub]
  simp; omega
theorem shlwU32 (a : UInt32) (s : Nat) : IntKind.u32.wrap ((a.toNat : Int) * 2 ^ (min s 32)) = ((shlU32 a s).toNat : Int) := by
  have h1 : ((a.toNat : Int) * 2 ^ (min s 32)) = ((a.toNat * 2 ^ (min s 32) : Nat) : Int) := by simp
  rw [h1, wrapU32n]
  unfold shlU32
  rw [Nat.shiftLeft_eq]
  by_cases hs : s ≤ 32
  · rw [Nat.min_eq_left hs]
  · rw [Nat.min_eq_right (by omega)]
    have h2 : a.toNat * 2 ^ s % 2 ^ 32 = 0 := by
      obtain ⟨d, rfl⟩ : ∃ d, s = 32 + d := ⟨s - 32, by omega⟩
      rw [Nat.pow_add, ← Nat.mul_assoc, Nat.mul_comm (a.toNat), Nat.mul_assoc]
      exact Nat.mul_mod_right _ _
    simp only [UInt32.toNat_ofNat', h2]
    simp
theorem shrwU32 (a : UInt32) (s : Nat) : (a.toNat : Int).fdiv (2 ^ (min s 32)) = ((shrU32 a s).toNat : Int) := by
  have hl := toNatU32 a
  have h1 : (a.toNat : Int).fdiv (2 ^ (min s 32)) = ((a.toNat / 2 ^ (min s 32) : Nat) : Int) := by
    rw [Int.fdiv_eq_ediv_of_nonneg _ (by exact_mod_cast Nat.zero_le (2 ^ (min s 32)))]; simp
  rw [h1]
  unfold shrU32
  rw [Nat.shiftRight_eq_div_pow]
  have h3 : a.toNat / 2 ^ s < 4294967296 := Nat.lt_of_le_of_lt (Nat.div_le_self _ _) hl
  rw [UInt32.toNat_ofNat_of_lt' (by simpa [UInt32.size] using h3)]
  by_cases hs : s ≤ 32
  · rw [Nat.min_eq_left hs]
  · rw [Nat.min_eq_right (by omega)]
    have h4 : a.toNat / 2 ^ 32 = 0 := Nat.div_eq_of_lt (by omega)
    have h5 : a.toNat / 2 ^ s = 0 := Nat.div_eq_of_lt (Nat.lt_of_lt_of_le (by omega : a.toNat < 2 ^ 32) (Nat.pow_le_pow_right (by omega) (by omega)))
    rw [h4, h5]
theorem op_addU32 {a b : UInt32} (hx : ev ρ x = some (vU32 a)) (hy : ev ρ y = some (vU32 b)) (h : R (vU32 (a + b)) w) : Op1 P n D ⟨dst, .binOp .add t x y t', ty, pos, af, g⟩ ρ w R :=
  op_bin hx hy (run_add (by rw [← Int.natCast_add, wrapU32n, UInt32.ofNat_add, UInt32.ofNat_toNat, UInt32.ofNat_toNat])) h
theorem op_mulU32 {a b : UInt32} (hx : ev ρ x = some (vU32 a)) (hy : ev ρ y = some (vU32 b)) (h : R (vU32 (a * b)) w) : Op1 P n D ⟨dst, .binOp .mul t x y t', ty, pos, af, g⟩ ρ w R :=
  op_bin hx hy (run_mul (by rw [← Int.natCast_mul, wrapU32n, UInt32.ofNat_mul, UInt32.ofNat_toNat, UInt32.ofNat_toNat])) h
theorem op_subU32 {a b : UInt32} (hx : ev ρ x = some (vU32 a)) (hy : ev ρ y = some (vU32 b)) (h : R (vU32 (a - b)) w) : Op1 P n D ⟨dst, .binOp .sub t x y t', ty, pos, af, g⟩ ρ w R :=
  op_bin hx hy (run_sub (subU32 a b)) h
theorem nzU32 {b : UInt32} (hb : b ≠ 0) : (b.toNat : Int) ≠ 0 := fun e => hb (UInt32.toNat_inj.1 (by simpa using e))
theorem op_quoU32 {a b : UInt32} (hx : ev ρ x = some (vU32 a)) (hy : ev ρ y = some (vU32 b)) (hb : b ≠ 0) (h : R (vU32 (a / b)) w) : Op1 P n D ⟨dst, .binOp .quo t x y t', ty, pos, af, g⟩ ρ w R :=
  op_bin hx hy (run_quo (nzU32 hb) (divU32 a b)) h
theorem op_remU32 {a b : UInt32} (hx : ev ρ x = some (vU32 a)) (hy : ev ρ y = some (vU32 b)) (hb : b ≠ 0) (h : R (vU32 (a % b)) w) : Op1 P n D ⟨dst, .binOp .rem t x y t', ty, pos, af, g⟩ ρ w R :=
  op_bin hx hy (run_rem (nzU32 hb) (by rw [UInt32.toNat_mod]; rfl)) h
theorem op_andU32 {a b : UInt32} (hx : ev ρ x = some (vU32 a)) (hy : ev ρ y = some (vU32 b)) (h : R (vU32 (a &&& b)) w) : Op1 P n D ⟨dst, .binOp .and t x y t', ty, pos, af, g⟩ ρ w R :=
  op_bin hx hy (run_and (by rw [bvU32, bvU32]; exact wbvU32 _)) h
theorem op_orU32 {a b : UInt32} (hx : ev ρ x = some (vU32 a)) (hy : ev ρ y = some (vU32 b)) (h : R (vU32 (a ||| b)) w) : Op1 P n D ⟨dst, .binOp .or t x y t', ty, pos, af, g⟩ ρ w R :=
  op_bin hx hy (run_or (by rw [bvU32, bvU32]; exact wbvU32 _)) h
theorem op_xorU32 {a b : UInt32} (hx : ev ρ x = some (vU32 a)) (hy : ev ρ y = some (vU32 b)) (h : R (vU32 (a ^^^ b)) w) : Op1 P n D ⟨dst, .binOp .xor t x y t', ty, pos, af, g⟩ ρ w R :=
  op_bin hx hy (run_xor (by rw [bvU32, bvU32]; exact wbvU32 _)) h
theorem op_andNotU32 {a b : UInt32} (hx : ev ρ x = some (vU32 a)) (hy : ev ρ y = some (vU32 b)) (h : R (vU32 (a &&& ~~~b)) w) : Op1 P n D ⟨dst, .binOp .andNot t x y t', ty, pos, af, g⟩ ρ w R :=
  op_bin hx hy (run_andNot (by rw [bvU32, bvU32]; exact wbvU32 _)) h
theorem op_shlU32 {a : UInt32} {k : IntKind} {s : Nat} (hx : ev ρ x = some (vU32 a)) (hy : ev ρ y = some (.int k (s : Int))) (h : R (vU32 (shlU32 a s)) w) : Op1 P n D ⟨dst, .binOp .shl t x y t', ty, pos, af, g⟩ ρ w R :=
  op_bin hx hy (run_shl (shlwU32 a s)) h
theorem op_shrU32 {a : UInt32} {k : IntKind} {s : Nat} (hx : ev ρ x = some (vU32 a)) (hy : ev ρ y = some (.int k (s : Int))) (h : R (vU32 (shrU32 a s)) w) : Op1 P n D ⟨dst, .binOp .shr t x y t', ty, pos, af, g⟩ ρ w R :=
  op_bin hx hy (run_shr (shrwU32 a s)) h
theorem op_complU32 {a : UInt32} (hx : ev ρ x = some (vU32 a)) (h : R (vU32 (~~~a)) w) : Op1 P n D ⟨dst, .unOp .xor t x, ty, pos, af, g⟩ ρ w R :=
  Op1.val (fun b hb => by
    have e1 : BitVec.ofInt IntKind.u32.bits (IntKind.max .u32) = (BitVec.allOnes 32 : BitVec 32) := by apply BitVec.eq_of_toNat_eq; rfl
    have h1 : BitVec.ofInt IntKind.u32.bits (IntKind.max .u32) ^^^ BitVec.ofInt IntKind.u32.bits (a.toNat : Int) = (~~~a.toBitVec : BitVec 32) := by
      rw [bvU32, e1]; exact BitVec.allOnes_xor
    have h2 : (Op.unary .xor (.int .u32 (a.toNat : Int))).run P w = .ok (vU32 (~~~a)) w := run_compl rfl (by rw [h1]; exact wbvU32 _)
    simp only [execOp, hb.ev hx, Sem.run_bind, h2, Result.andThen_ok, Sem.run_pure]) h
theorem op_eqlU32 {a b : UInt32} (hx : ev ρ x = some (vU32 a)) (hy : ev ρ y = some (vU32 b)) (h : R (.bool (decide (a = b))) w) : Op1 P n D ⟨dst, .binOp .eql t x y t', ty, pos, af, g⟩ ρ w R :=
  op_bin hx hy (run_eql (decide_eq_decide.2 (by rw [← UInt32.toNat_inj]; omega))) h
theorem op_neqU32 {a b : UInt32} (hx : ev ρ x = some (vU32 a)) (hy : ev ρ y = some (vU32 b)) (h : R (.bool (decide (a ≠ b))) w) : Op1 P n D ⟨dst, .binOp .neq t x y t', ty, pos, af, g⟩ ρ w R :=
  op_bin hx hy (run_neq (decide_eq_decide.2 (by rw [ne_eq, ne_eq, ← UInt32.toNat_inj]; omega))) h
theorem op_lssU32 {a b : UInt32} (hx : ev ρ x = some (vU32 a)) (hy : ev ρ y = some (vU32 b)) (h : R (.bool (decide (a < b))) w) : Op1 P n D ⟨dst, .binOp .lss t x y t', ty, pos, af, g⟩ ρ w R :=
  op_bin hx hy (run_lss (decide_eq_decide.2 (by rw [UInt32.lt_iff_toNat_lt]; omega))) h
theorem op_leqU32 {a b : UInt32} (hx : ev ρ x = some (vU32 a)) (hy : ev ρ y = some (vU32 b)) (h : R (.bool (decide (a ≤ b))) w) : Op1 P n D ⟨dst, .binOp .leq t x y t', ty, pos, af, g⟩ ρ w R :=
  op_bin hx hy (run_leq (decide_eq_decide.2 (by rw [UInt32.le_iff_toNat_le]; omega))) h
theorem op_gtrU32 {a b : UInt32} (hx : ev ρ x = some (vU32 a)) (hy : ev ρ y = some (vU32 b)) (h : R (.bool (decide (a > b))) w) : Op1 P n D ⟨dst, .binOp .gtr t x y t', ty, pos, af, g⟩ ρ w R :=
  op_bin hx hy (run_gtr (decide_eq_decide.2 (by show _ < _ ↔ _ < _; rw [UInt32.lt_iff_toNat_lt]; omega))) h
theorem op_geqU32 {a b : UInt32} (hx : ev ρ x = some (vU32 a)) (hy : ev ρ y = some (vU32 b)) (h : R (.bool (decide (a ≥ b))) w) : Op1 P n D ⟨dst, .binOp .geq t x y t', ty, pos, af, g⟩ ρ w R :=
  op_bin hx hy (run_geq (decide_eq_decide.2 (by show _ ≤ _ ↔ _ ≤ _; rw [UInt32.le_iff_toNat_le]; omega))) h
theorem op_convU32N {a : UInt32} (hs : P.underlying t = some (.int .u32)) (hd : P.underlying t' = some (.int .i64)) (hx : ev ρ x = some (vU32 a)) (h : R (vN a.toNat) w) :
    Op1 P n D ⟨dst, .convert t t' x, ty, pos, af, g⟩ ρ w R :=
  op_conv hs hd hx (by rw [wrapN (by have := toNatU32 a; omega)]) h
theorem op_convNU32 {a : Nat} (hs : P.underlying t = some (.int .i64)) (hd : P.underlying t' = some (.int .u32)) (hx : ev ρ x = some (vN a)) (h : R (vU32 (UInt32.ofNat a)) w) :
    Op1 P n D ⟨dst, .convert t t' x, ty, pos, af, g⟩ ρ w R :=
  op_conv hs hd hx (by rw [wrapU32n]) h
theorem op_convU32U8 {a : UInt32} (hs : P.underlying t = some (.int .u32)) (hd : P.underlying t' = some (.int .u8)) (hx : ev ρ x = some (vU32 a)) (h : R (vU8 (UInt8.ofNat a.toNat)) w) :
    Op1 P n D ⟨dst, .convert t t' x, ty, pos, af, g⟩ ρ w R :=
  op_conv hs hd hx (by rw [wrapU8n]) h
theorem op_convU32U16 {a : UInt32} (hs : P.underlying t = some (.int .u32)) (hd : P.underlying t' = some (.int .u16)) (hx : ev ρ x = some (vU32 a)) (h : R (vU16 (UInt16.ofNat a.toNat)) w) :
    Op1 P n D ⟨dst, .convert t t' x, ty, pos, af, g⟩ ρ w R :=
  op_conv hs hd hx (by rw [wrapU16n]) h
theorem op_convU32U64 {a : UInt32} (hs : P.underlying t = some (.int .u32)) (hd : P.underlying t' = some (.int .u64)) (hx : ev ρ x = some (vU32 a)) (h : R (vU64 (UInt64.ofNat a.toNat)) w) :
    Op1 P n D ⟨dst, .convert t t' x, ty, pos, af, g⟩ ρ w R :=
  op_conv hs hd hx (by rw [wrapU64n]) h

/-! UInt64 -/

theorem toNatU64 (x : UInt64) : x.toNat < 18446744073709551616 := x.toNat_lt
def shlU64 (x : UInt64) (s : Nat) : UInt64 := UInt64.ofNat (x.toNat <<< s)
def shrU64 (x : UInt64) (s : Nat) : UInt64 := UInt64.ofNat (x.toNat >>> s)
theorem bvU64 (c : UInt64) : BitVec.ofInt IntKind.u64.bits (c.toNat : Int) = c.toBitVec := by
  apply BitVec.eq_of_toNat_eq; simp [IntKind.bits, BitVec.toNat_ofInt]; try (have := toNatU64 c; omega)
theorem wbvU64 (r : BitVec 64) : IntKind.u64.wrap (r.toNat : Int) = (r.toNat : Int) := wrapU64 ⟨Int.natCast_nonneg _, Int.ofNat_lt.2 r.isLt⟩
theorem divU64 (a b : UInt64) : IntKind.u64.wrap ((a.toNat : Int).tdiv b.toNat) = ((a / b).toNat : Int) := by
  have h0 : ((a.toNat : Int).tdiv b.toNat) = ((a.toNat / b.toNat : Nat) : Int) := rfl
  have h1 : a.toNat / b.toNat < 18446744073709551616 := Nat.lt_of_le_of_lt (Nat.div_le_self _ _) (toNatU64 a)
  rw [h0, wrapU64 ⟨Int.natCast_nonneg _, Int.ofNat_lt.2 h1⟩, UInt64.toNat_div]
theorem subU64 (a b : UInt64) : IntKind.u64.wrap ((a.toNat : Int) - (b.toNat : Int)) = ((a - b).toNat : Int) := by
  unfold IntKind.wrap; simp only [IntKind.bits, IntKind.signed]
  have h1 := toNatU64 a; have h2 := toNatU64 b
  rw [UInt64.toNat_sub]
  simp; omega
theorem shlwU64 (a : UInt64) (s : Nat) : IntKind.u64.wrap ((a.toNat : Int) * 2 ^ (min s 64)) = ((shlU64 a s).toNat : Int) := by
  have h1 : ((a.toNat : Int) * 2 ^ (min s 64)) = ((a.toNat * 2 ^ (min s 64) : Nat) : Int) := by simp
  rw [h1, wrapU64n]
  unfold shlU64
  rw [Nat.shiftLeft_eq]
  by_cases hs : s ≤ 64
  · rw [Nat.min_eq_left hs]
  · rw [Nat.min_eq_right (by omega)]
    have h2 : a.toNat * 2 ^ s % 2 ^ 64 = 0 := by
      obtain ⟨d, rfl⟩ : ∃ d, s = 64 + d := ⟨s - 64, by omega⟩
      rw [Nat.pow_add, ← Nat.mul_assoc, Nat.mul_comm (a.toNat), Nat.mul_assoc]
      exact Nat.mul_mod_right _ _
    simp only [UInt64.toNat_ofNat', h2]
    simp
theorem shrwU64 (a : UInt64) (s : Nat) : (a.toNat : Int).fdiv (2 ^ (min s 64)) = ((shrU64 a s).toNat : Int) := by
  have hl := toNatU64 a
  have h1 : (a.toNat : Int).fdiv (2 ^ (min s 64)) = ((a.toNat / 2 ^ (min s 64) : Nat) : Int) := by
    rw [Int.fdiv_eq_ediv_of_nonneg _ (by exact_mod_cast Nat.zero_le (2 ^ (min s 64)))]; simp
  rw [h1]
  unfold shrU64
  rw [Nat.shiftRight_eq_div_pow]
  have h3 : a.toNat / 2 ^ s < 18446744073709551616 := Nat.lt_of_le_of_lt (Nat.div_le_self _ _) hl
  rw [UInt64.toNat_ofNat_of_lt' (by simpa [UInt64.size] using h3)]
  by_cases hs : s ≤ 64
  · rw [Nat.min_eq_left hs]
  · rw [Nat.min_eq_right (by omega)]
    have h4 : a.toNat / 2 ^ 64 = 0 := Nat.div_eq_of_lt (by omega)
    have h5 : a.toNat / 2 ^ s = 0 := Nat.div_eq_of_lt (Nat.lt_of_lt_of_le (by omega : a.toNat < 2 ^ 64) (Nat.pow_le_pow_right (by omega) (by omega)))
    rw [h4, h5]
theorem op_addU64 {a b : UInt64} (hx : ev ρ x = some (vU64 a)) (hy : ev ρ y = some (vU64 b)) (h : R (vU64 (a + b)) w) : Op1 P n D ⟨dst, .binOp .add t x y t', ty, pos, af, g⟩ ρ w R :=
  op_bin hx hy (run_add (by rw [← Int.natCast_add, wrapU64n, UInt64.ofNat_add, UInt64.ofNat_toNat, UInt64.ofNat_toNat])) h
theorem op_mulU64 {a b : UInt64} (hx : ev ρ x = some (vU64 a)) (hy : ev ρ y = some (vU64 b)) (h : R (vU64 (a * b)) w) : Op1 P n D ⟨dst, .binOp .mul t x y t', ty, pos, af, g⟩ ρ w R :=
  op_bin hx hy (run_mul (by rw [← Int.natCast_mul, wrapU64n, UInt64.ofNat_mul, UInt64.ofNat_toNat, UInt64.ofNat_toNat])) h
theorem op_subU64 {a b : UInt64} (hx : ev ρ x = some (vU64 a)) (hy : ev ρ y = some (vU64 b)) (h : R (vU64 (a - b)) w) : Op1 P n D ⟨dst, .binOp .sub t x y t', ty, pos, af, g⟩ ρ w R :=
  op_bin hx hy (run_sub (subU64 a b)) h
theorem nzU64 {b : UInt64} (hb : b ≠ 0) : (b.toNat : Int) ≠ 0 := fun e => hb (UInt64.toNat_inj.1 (by simpa using e))
theorem op_quoU64 {a b : UInt64} (hx : ev ρ x = some (vU64 a)) (hy : ev ρ y = some (vU64 b)) (hb : b ≠ 0) (h : R (vU64 (a / b)) w) : Op1 P n D ⟨dst, .binOp .quo t x y t', ty, pos, af, g⟩ ρ w R :=
  op_bin hx hy (run_quo (nzU64 hb) (divU64 a b)) h
theorem op_remU64 {a b : UInt64} (hx : ev ρ x = some (vU64 a)) (hy : ev ρ y = some (vU64 b)) (hb : b ≠ 0) (h : R (vU64 (a % b)) w) : Op1 P n D ⟨dst, .binOp .rem t x y t', ty, pos, af, g⟩ ρ w R :=
  op_bin hx hy (run_rem (nzU64 hb) (by rw [UInt64.toNat_mod]; rfl)) h
theorem op_andU64 {a b : UInt64} (hx : ev ρ x = some (vU64 a)) (hy : ev ρ y = some (vU64 b)) (h : R (vU64 (a &&& b)) w) : Op1 P n D ⟨dst, .binOp .and t x y t', ty, pos, af, g⟩ ρ w R :=
  op_bin hx hy (run_and (by rw [bvU64, bvU64]; exact wbvU64 _)) h
theorem op_orU64 {a b : UInt64} (hx : ev ρ x = some (vU64 a)) (hy : ev ρ y = some (vU64 b)) (h : R (vU64 (a ||| b)) w) : Op1 P n D ⟨dst, .binOp .or t x y t', ty, pos, af, g⟩ ρ w R :=
  op_bin hx hy (run_or (by rw [bvU64, bvU64]; exact wbvU64 _)) h
theorem op_xorU64 {a b : UInt64} (hx : ev ρ x = some (vU64 a)) (hy : ev ρ y = some (vU64 b)) (h : R (vU64 (a ^^^ b)) w) : Op1 P n D ⟨dst, .binOp .xor t x y t', ty, pos, af, g⟩ ρ w R :=
  op_bin hx hy (run_xor (by rw [bvU64, bvU64]; exact wbvU64 _)) h
theorem op_andNotU64 {a b : UInt64} (hx : ev ρ x = some (vU64 a)) (hy : ev ρ y = some (vU64 b)) (h : R (vU64 (a &&& ~~~b)) w) : Op1 P n D ⟨dst, .binOp .andNot t x y t', ty, pos, af, g⟩ ρ w R :=
  op_bin hx hy (run_andNot (by rw [bvU64, bvU64]; exact wbvU64 _)) h
theorem op_shlU64 {a : UInt64} {k : IntKind} {s : Nat} (hx : ev ρ x = some (vU64 a)) (hy : ev ρ y = some (.int k (s : Int))) (h : R (vU64 (shlU64 a s)) w) : Op1 P n D ⟨dst, .binOp .shl t x y t', ty, pos, af, g⟩ ρ w R :=
  op_bin hx hy (run_shl (shlwU64 a s)) h
theorem op_shrU64 {a : UInt64} {k : IntKind} {s : Nat} (hx : ev ρ x = some (vU64 a)) (hy : ev ρ y = some (.int k (s : Int))) (h : R (vU64 (shrU64 a s)) w) : Op1 P n D ⟨dst, .binOp .shr t x y t', ty, pos, af, g⟩ ρ w R :=
  op_bin hx hy (run_shr (shrwU64 a s)) h
theorem op_complU64 {a : UInt64} (hx : ev ρ x = some (vU64 a)) (h : R (vU64 (~~~a)) w) : Op1 P n D ⟨dst, .unOp .xor t x, ty, pos, af, g⟩ ρ w R :=
  Op1.val (fun b hb => by
    have e1 : BitVec.ofInt IntKind.u64.bits (IntKind.max .u64) = (BitVec.allOnes 64 : BitVec 64) := by apply BitVec.eq_of_toNat_eq; rfl
    have h1 : BitVec.ofInt IntKind.u64.bits (IntKind.max .u64) ^^^ BitVec.ofInt IntKind.u64.bits (a.toNat : Int) = (~~~a.toBitVec : BitVec 64) := by
      rw [bvU64, e1]; exact BitVec.allOnes_xor
    have h2 : (Op.unary .xor (.int .u64 (a.toNat : Int))).run P w = .ok (vU64 (~~~a)) w := run_compl rfl (by rw [h1]; exact wbvU64 _)
    simp only [execOp, hb.ev hx, Sem.run_bind, h2, Result.andThen_ok, Sem.run_pure]) h
theorem op_eqlU64 {a b : UInt64} (hx : ev ρ x = some (vU64 a)) (hy : ev ρ y = some (vU64 b)) (h : R (.bool (decide (a = b))) w) : Op1 P n D ⟨dst, .binOp .eql t x y t', ty, pos, af, g⟩ ρ w R :=
  op_bin hx hy (run_eql (decide_eq_decide.2 (by rw [← UInt64.toNat_inj]; omega))) h
theorem op_neqU64 {a b : UInt64} (hx : ev ρ x = some (vU64 a)) (hy : ev ρ y = some (vU64 b)) (h : R (.bool (decide (a ≠ b))) w) : Op1 P n D ⟨dst, .binOp .neq t x y t', ty, pos, af, g⟩ ρ w R :=
  op_bin hx hy (run_neq (decide_eq_decide.2 (by rw [ne_eq, ne_eq, ← UInt64.toNat_inj]; omega))) h
theorem op_lssU64 {a b : UInt64} (hx : ev ρ x = some (vU64 a)) (hy : ev ρ y = some (vU64 b)) (h : R (.bool (decide (a < b))) w) : Op1 P n D ⟨dst, .binOp .lss t x y t', ty, pos, af, g⟩ ρ w R :=
  op_bin hx hy (run_lss (decide_eq_decide.2 (by rw [UInt64.lt_iff_toNat_lt]; omega))) h
theorem op_leqU64 {a b : UInt64} (hx : ev ρ x = some (vU64 a)) (hy : ev ρ y = some (vU64 b)) (h : R (.bool (decide (a ≤ b))) w) : Op1 P n D ⟨dst, .binOp .leq t x y t', ty, pos, af, g⟩ ρ w R :=
  op_bin hx hy (run_leq (decide_eq_decide.2 (by rw [UInt64.le_iff_toNat_le]; omega))) h
theorem op_gtrU64 {a b : UInt64} (hx : ev ρ x = some (vU64 a)) (hy : ev ρ y = some (vU64 b)) (h : R (.bool (decide (a > b))) w) : Op1 P n D ⟨dst, .binOp .gtr t x y t', ty, pos, af, g⟩ ρ w R :=
  op_bin hx hy (run_gtr (decide_eq_decide.2 (by show _ < _ ↔ _ < _; rw [UInt64.lt_iff_toNat_lt]; omega))) h
theorem op_geqU64 {a b : UInt64} (hx : ev ρ x = some (vU64 a)) (hy : ev ρ y = some (vU64 b)) (h : R (.bool (decide (a ≥ b))) w) : Op1 P n D ⟨dst, .binOp .geq t x y t', ty, pos, af, g⟩ ρ w R :=
  op_bin hx hy (run_geq (decide_eq_decide.2 (by show _ ≤ _ ↔ _ ≤ _; rw [UInt64.le_iff_toNat_le]; omega))) h
theorem op_convU64N {a : UInt64} (hs : P.underlying t = some (.int .u64)) (hd : P.underlying t' = some (.int .i64)) (hx : ev ρ x = some (vU64 a)) (hlt : a.toNat ≤ 9223372036854775807) (h : R (vN a.toNat) w) :
    Op1 P n D ⟨dst, .convert t t' x, ty, pos, af, g⟩ ρ w R :=
  op_conv hs hd hx (by rw [wrapN hlt]) h
theorem op_convNU64 {a : Nat} (hs : P.underlying t = some (.int .i64)) (hd : P.underlying t' = some (.int .u64)) (hx : ev ρ x = some (vN a)) (h : R (vU64 (UInt64.ofNat a)) w) :
    Op1 P n D ⟨dst, .convert t t' x, ty, pos, af, g⟩ ρ w R :=
  op_conv hs hd hx (by rw [wrapU64n]) h
theorem op_convU64U8 {a : UInt64} (hs : P.underlying t = some (.int .u64)) (hd : P.underlying t' = some (.int .u8)) (hx : ev ρ x = some (vU64 a)) (h : R (vU8 (UInt8.ofNat a.toNat)) w) :
    Op1 P n D ⟨dst, .convert t t' x, ty, pos, af, g⟩ ρ w R :=
  op_conv hs hd hx (by rw [wrapU8n]) h
theorem op_convU64U16 {a : UInt64} (hs : P.underlying t = some (.int .u64)) (hd : P.underlying t' = some (.int .u16)) (hx : ev ρ x = some (vU64 a)) (h : R (vU16 (UInt16.ofNat a.toNat)) w) :
    Op1 P n D ⟨dst, .convert t t' x, ty, pos, af, g⟩ ρ w R :=
  op_conv hs hd hx (by rw [wrapU16n]) h
theorem op_convU64U32 {a : UInt64} (hs : P.underlying t = some (.int .u64)) (hd : P.underlying t' = some (.int .u32)) (hx : ev ρ x = some (vU64 a)) (h : R (vU32 (UInt32.ofNat a.toNat)) w) :
    Op1 P n D ⟨dst, .convert t t' x, ty, pos, af, g⟩ ρ w R :=
  op_conv hs hd hx (by rw [wrapU32n]) h
end
end Go.Owl
