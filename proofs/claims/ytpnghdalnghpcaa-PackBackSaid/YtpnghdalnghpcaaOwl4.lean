/- One rule for each kind of operation: memory, texts, slices. -/
import Derived.Test.YtpnghdalnghpcaaOwl3
namespace Go.Owl

section
variable {P : Program} {n : Nat} {D : List Deferred} {ρ : Env} {w w0 : World} {R : Value → World → Prop} {dst : Option Tmp} {ty : TypeId} {pos : String} {af : Array Edge} {g : Option (Nat × Bool)}
variable {S : List Nat} {L : List Ent} {i : Nat} {t t' T : TypeId} {x y : Operand} {z : List Value} {sz by_ : Nat} {d : TypeDesc}

theorem run_isAgg (hu : P.underlying T = some d) : (isAgg T).run P w = .ok (!scal d) w := by
  simp only [isAgg, Sem.run_bind, run_underlying hu, Result.andThen_ok]
  cases d <;> rfl
theorem run_sizeOf (hz : tiB P T = some (z, sz, by_)) : (sizeOf T).run P w = .ok sz w := by
  obtain ⟨i, v, hi, hv, hc, hs, hb⟩ := tiB_spec hz
  simp [sizeOf, typeInfo, hi, hs]
theorem run_sizeOf' {i : TypeInfo} (hz : P.info? T = some i) : (sizeOf T).run P w = .ok i.size w := by
  simp [sizeOf, typeInfo, hz]

theorem op_alloc (H : Own S w0 w L) (hz : tiB P T = some (z, sz, by_)) (h : ∀ b w', Own S w0 w' (L ++ [.blk b z T]) → R (ptr b 0) w') :
    Op1 P n D ⟨dst, .alloc T, ty, pos, af, g⟩ ρ w R := by
  obtain ⟨i, v, hi, hv, hc, hs, hb⟩ := tiB_spec hz
  have hc' : v.cells = z.toArray := by rw [← hc]
  refine Op1.val (w' := w.alloc (.cells z.toArray T)) (v := ptr w.heap.size 0) (fun a ha => ?_) (h _ _ (H.alloc z T))
  simp [execOp, Instr.alloc, zeroValue, typeInfo, hi, hv, newVar, newRow, hc']

theorem op_box {v : Value} {cs : List Value} (H : Own S w0 w L) (hx : ev ρ x = some v) (hc : v.cells.toList = cs) (h : ∀ b w', Own S w0 w' (L ++ [.blk b cs T]) → R (ptr b 0) w') :
    Op1 P n D ⟨dst, .box T x, ty, pos, af, g⟩ ρ w R := by
  have hc' : v.cells = cs.toArray := by rw [← hc]
  refine Op1.val (w' := w.alloc (.cells cs.toArray T)) (v := ptr w.heap.size 0) (fun a ha => ?_) (h _ _ (H.alloc cs T))
  simp [execOp, Instr.box, newVar, newRow, ha.ev hx, hc']

theorem op_load {ad : Addr} {v : Value} (hx : ev ρ x = some (.pointer (some ad))) (hc : w.cell? ad = some v) (hu : P.underlying T = some d) (hs : scal d = true) (h : R v w) :
    Op1 P n D ⟨dst, .load T x, ty, pos, af, g⟩ ρ w R :=
  Op1.val (fun a ha => by simp [execOp, Instr.loadAt, Instr.sureAddr, ha.ev hx, loadVar, run_isAgg hu, hs, hc]) h

theorem run_loadVarS {b off : Nat} {vs : List Value} (hc : ∀ j u, vs[j]? = some u → w.cell? ⟨b, off + j, none⟩ = some u) (hu : P.underlying T = some d) (hs : scal d = false) (hz : tiB P T = some (z, sz, by_))
    (hl : vs.length = sz) : (loadVar T ⟨b, off, none⟩).run P w = .ok (.agg vs.toArray) w := by
  have h1 := run_loadCells_list (P := P) w ⟨b, off, none⟩ vs (fun j u hj => by rw [Addr.add_at]; exact hc j u hj)
  simp [loadVar, run_isAgg hu, hs, run_sizeOf hz, ← hl, h1]

theorem op_loadS {b off : Nat} {vs : List Value} (hx : ev ρ x = some (ptr b off)) (hc : ∀ j u, vs[j]? = some u → w.cell? ⟨b, off + j, none⟩ = some u) (hu : P.underlying T = some d) (hs : scal d = false)
    (hz : tiB P T = some (z, sz, by_)) (hl : vs.length = sz) (h : R (.agg vs.toArray) w) : Op1 P n D ⟨dst, .load T x, ty, pos, af, g⟩ ρ w R :=
  Op1.val (fun a ha => by simp [execOp, Instr.loadAt, Instr.sureAddr, ha.ev hx, run_loadVarS hc hu hs hz hl]) h

/-! What a heap's entry says of cells. -/
theorem Own.cell {b off : Nat} {cs : List Value} {v : Value} (H : Own S w0 w L) (hi : L[i]? = some (Ent.blk b cs t)) (hc : cs[off]? = some v) : w.cell? ⟨b, off, none⟩ = some v := by
  rw [(H.blk hi).cell]; exact hc
theorem Own.cells {b off : Nat} {cs vs : List Value} (H : Own S w0 w L) (hi : L[i]? = some (Ent.blk b cs t)) (hc : (cs.drop off).take vs.length = vs) : ∀ j u, vs[j]? = some u → w.cell? ⟨b, off + j, none⟩ = some u := by
  intro j u hj
  rw [(H.blk hi).cell]
  rw [← hc, List.getElem?_take] at hj
  split at hj
  · rw [List.getElem?_drop] at hj; exact hj
  · cases hj
theorem Arr.at {v u : Value} {m k : Nat} {xs : List Value} (hA : Arr w v sz m xs) (hc : xs[k]? = some u) : w.cell? (sp v k) = some u := by
  have hk : k < xs.length := (List.getElem?_eq_some_iff.1 hc).1
  rw [hA.cell k hk]; exact hc
theorem Arr.ats {v : Value} {m k : Nat} {xs vs : List Value} (hA : Arr w v sz m xs) (hc : (xs.drop k).take vs.length = vs) : ∀ j u, vs[j]? = some u → w.cell? ⟨sBlk v, sOff v + k + j, none⟩ = some u := by
  intro j u hj
  rw [← hc, List.getElem?_take] at hj
  split at hj
  · rw [List.getElem?_drop] at hj
    have := hA.at hj
    rw [sp, ← Nat.add_assoc] at this; exact this
  · cases hj
theorem Own.arr {v : Value} {m : Nat} {xs : List Value} (H : Own [] w0 w L) (hA : Arr w0 v sz m xs) : Arr w v sz m xs := hA.fr H.fr (by simp)
theorem Own.arrR {v : Value} {m : Nat} {xs : List Value} (H : Own S w0 w L) (hi : L[i]? = some (Ent.row v t sz m xs)) : Arr w v sz m xs := (H.row hi).arr

/-! Stores. -/
theorem run_storeB {b off : Nat} {cs : List Value} {v : Value} (hb : Blk w b cs t) (ho : off < cs.length) (h1 : v.oneCell' = true) (hz : tiB P T = some (z, 1, by_)) :
    (Instr.storeAt T (ptr b off) v).run P w = .ok () (w.setRow b (cs.set off v).toArray) := by
  have hv : v.cells = #[v] := by cases v <;> first | rfl | (simp [Value.oneCell'] at h1)
  have hst := run_storeCells_blk P b off t [v] 0 cs w hb (by simp; omega) (by simpa using h1)
  have e : cs.take (off + 0) ++ [v] ++ cs.drop (off + 0 + [v].length) = cs.set off v := by
    rw [List.set_eq_take_append_cons_drop]
    simp [ho]
  rw [e] at hst
  simp [Instr.storeAt, Instr.sureAddr, storeVar, run_sizeOf hz, hv, hst]
theorem run_storeBS {b off : Nat} {cs vs : List Value} (hb : Blk w b cs t) (ho : off + vs.length ≤ cs.length) (h1 : vs.all (·.oneCell') = true) (hz : tiB P T = some (z, vs.length, by_)) :
    (Instr.storeAt T (ptr b off) (.agg vs.toArray)).run P w = .ok () (w.setRow b (cs.take off ++ vs ++ cs.drop (off + vs.length)).toArray) := by
  have hst := run_storeCells_blk P b off t vs 0 cs w hb (by omega) (by simpa using h1)
  simp only [Nat.add_zero] at hst
  simp [Instr.storeAt, Instr.sureAddr, storeVar, run_sizeOf hz, Value.cells, hst]

theorem op_storeB {b off : Nat} {cs : List Value} {v : Value} (H : Own S w0 w L) (hx : ev ρ x = some (ptr b off)) (hy : ev ρ y = some v) (hi : L[i]? = some (Ent.blk b cs t)) (ho : Nat.blt off cs.length = true)
    (h1 : v.oneCell' = true) (hz : tiB P T = some (z, 1, by_)) (h : ∀ w', Own S w0 w' (L.set i (.blk b (cs.set off v) t)) → R undef w') : Op1 P n D ⟨dst, .store T x y, ty, pos, af, g⟩ ρ w R :=
  Op1.unit (fun a ha => by simp only [execOp, ha.ev hx, ha.ev hy, Sem.run_bind, run_storeB (H.blk hi) (by simpa [Nat.blt_eq] using ho) h1 hz, Result.andThen_ok, Sem.run_pure]) (h _ (H.setBlk hi _ (by simp)))
theorem op_storeBS {b off : Nat} {cs vs : List Value} (H : Own S w0 w L) (hx : ev ρ x = some (ptr b off)) (hy : ev ρ y = some (.agg vs.toArray)) (hi : L[i]? = some (Ent.blk b cs t)) (ho : Nat.ble (off + vs.length) cs.length = true)
    (h1 : vs.all (·.oneCell') = true) (hz : tiB P T = some (z, vs.length, by_)) (h : ∀ w', Own S w0 w' (L.set i (.blk b (cs.take off ++ vs ++ cs.drop (off + vs.length)) t)) → R undef w') :
    Op1 P n D ⟨dst, .store T x y, ty, pos, af, g⟩ ρ w R :=
  have ho' : off + vs.length ≤ cs.length := by simpa [Nat.ble_eq] using ho
  Op1.unit (fun a ha => by simp only [execOp, ha.ev hx, ha.ev hy, Sem.run_bind, run_storeBS (H.blk hi) ho' h1 hz, Result.andThen_ok, Sem.run_pure]) (h _ (H.setBlk hi _ (by simp; omega)))
/-- The whole block. -/
theorem op_storeBW {b : Nat} {cs vs : List Value} (H : Own S w0 w L) (hx : ev ρ x = some (ptr b 0)) (hy : ev ρ y = some (.agg vs.toArray)) (hi : L[i]? = some (Ent.blk b cs t)) (ho : Nat.beq vs.length cs.length = true)
    (h1 : vs.all (·.oneCell') = true) (hz : tiB P T = some (z, vs.length, by_)) (h : ∀ w', Own S w0 w' (L.set i (.blk b vs t)) → R undef w') : Op1 P n D ⟨dst, .store T x y, ty, pos, af, g⟩ ρ w R := by
  have ho' : vs.length = cs.length := by simpa using ho
  refine op_storeBS H hx hy hi (by simp [Nat.ble_eq, ho']) h1 hz (fun w' H' => h w' ?_)
  simpa [ho'] using H'

theorem RowOK.set {v u : Value} {m k : Nat} {xs : List Value} (hr : RowOK w v t sz m xs) (hk : k < xs.length) (h1 : u.oneCell' = true) (hz : tiB P T = some (z, 1, by_)) :
    ∃ w', (Instr.storeAt T (.pointer (some (sp v k))) u).run P w = .ok () w' ∧ RowOK w' v t sz m (xs.set k u) ∧ Fr v.ownBlock.toList w w' := by
  obtain ⟨hl, ⟨rfl, rfl⟩ | ⟨gb, cap, pre, junk, rfl, hb, hn, hc, hj⟩⟩ := hr
  · simp at hl; subst hl; simp at hk
  · refine ⟨_, run_storeB (off := pre.length + k) hb (by simp; omega) h1 hz, ⟨by simpa using hl, .inr ⟨gb, cap, pre, junk, rfl, ?_, hn, hc, by simpa using hj⟩⟩, Fr.setRow _ _ _⟩
    have e : (pre ++ (xs ++ junk)).set (pre.length + k) u = pre ++ (xs.set k u ++ junk) := by
      rw [List.set_append_right _ _ (by omega), Nat.add_sub_cancel_left, List.set_append_left _ _ hk]
    rw [e]
    exact hb.setRow _ (by simp)
theorem op_storeR {v u : Value} {m k : Nat} {xs : List Value} (H : Own S w0 w L) (hx : ev ρ x = some (.pointer (some (sp v k)))) (hy : ev ρ y = some u) (hi : L[i]? = some (Ent.row v t sz m xs)) (hk : k < xs.length)
    (h1 : u.oneCell' = true) (hz : tiB P T = some (z, 1, by_)) (h : ∀ w', Own S w0 w' (L.set i (.row v t sz m (xs.set k u))) → R undef w') : Op1 P n D ⟨dst, .store T x y, ty, pos, af, g⟩ ρ w R := by
  obtain ⟨w', h2, h3, h4⟩ := (H.row hi).set (P := P) hk h1 hz
  refine Op1.unit (w' := w') (fun a ha => by simp only [execOp, ha.ev hx, ha.ev hy, Sem.run_bind, h2, Result.andThen_ok, Sem.run_pure]) (h _ (H.upd hi h4 (fun b hb => ?_) h3 (fun b hb => .inl hb)))
  simpa [Ent.block] using hb

/-! Addresses, fields, indexes. -/
theorem run_fieldAt {s k off o : Nat} {fb : Nat} {bb : Bool} (hf : faB P s k = some (o, sz, bb)) : (Instr.fieldAt s (.pointer (some ⟨fb, off, none⟩)) k).run P w = .ok (ptr fb (off + o)) w := by
  obtain ⟨fs, f, i, d, h1, h2, h3, _, h4, h5, h6, _⟩ := faB_spec hf
  simp [Instr.fieldAt, run_underlying h1, h2, Instr.sureAddr, fieldPlace, run_sizeOf' h3, h4, h5, h6, Addr.add_at]
theorem op_fieldAddr {s k off o b : Nat} {bb : Bool} (hx : ev ρ x = some (ptr b off)) (hf : faB P s k = some (o, sz, bb)) (h : R (ptr b (off + o)) w) : Op1 P n D ⟨dst, .fieldAddr s x k, ty, pos, af, g⟩ ρ w R :=
  Op1.val (fun a ha => by simp only [execOp, ha.ev hx, Sem.run_bind, run_fieldAt hf, Result.andThen_ok, Sem.run_pure]) h
theorem op_fieldAddrS {s k m o : Nat} {v : Value} {bb : Bool} (hx : ev ρ x = some (.pointer (some (sp v m)))) (hf : faB P s k = some (o, sz, bb)) (h : R (.pointer (some (sp v (m + o)))) w) : Op1 P n D ⟨dst, .fieldAddr s x k, ty, pos, af, g⟩ ρ w R :=
  Op1.val (fun a ha => by
    simp only [execOp, ha.ev hx, Sem.run_bind, sp, run_fieldAt hf, Result.andThen_ok, Sem.run_pure, Nat.add_assoc]) h
theorem op_field1 {s k o : Nat} {cs : Array Value} {v : Value} (hx : ev ρ x = some (.agg cs)) (hf : faB P s k = some (o, sz, true)) (hc : cs.toList[o]? = some v) (h : R v w) : Op1 P n D ⟨dst, .field s x k, ty, pos, af, g⟩ ρ w R := by
  obtain ⟨fs, f, i, d, h1, h2, h3, h4, h5, h6, h7, h8⟩ := faB_spec hf
  have hc' : cs[o]? = some v := by simpa using hc
  exact Op1.val (fun a ha => by simp [execOp, ha.ev hx, Instr.field, run_underlying h1, h2, part, run_isAgg h4, h8, asAgg, h7, hc']) h
theorem op_fieldS {s k o : Nat} {cs : Array Value} (hx : ev ρ x = some (.agg cs)) (hf : faB P s k = some (o, sz, false)) (h : R (.agg ((cs.toList.drop o).take sz).toArray) w) : Op1 P n D ⟨dst, .field s x k, ty, pos, af, g⟩ ρ w R := by
  obtain ⟨fs, f, i, d, h1, h2, h3, h4, h5, h6, h7, h8⟩ := faB_spec hf
  refine Op1.val (fun a ha => ?_) h
  have e : cs.extract o (o + sz) = ((cs.toList.drop o).take sz).toArray := by apply Array.ext'; simp [List.drop_take]
  simp [execOp, ha.ev hx, Instr.field, run_underlying h1, h2, part, run_isAgg h4, h8, asAgg, h7, run_sizeOf' h3, h5, e]

theorem op_indexAddr {v : Value} {e : TypeId} {k : IntKind} {m q : Nat} {xs : List Value} (hu : P.underlying t = some (.slice e)) (hz : tiB P e = some (z, sz, by_)) (hx : ev ρ x = some v) (hA : Arr w v sz q xs)
    (hi : ev ρ y = some (.int k (m : Int))) (hm : m < q) (h : R (.pointer (some (sp v (m * sz)))) w) : Op1 P n D ⟨dst, .indexAddr t x y, ty, pos, af, g⟩ ρ w R := by
  obtain ⟨a0, cap, rfl, hn, hc, ha0, hsp⟩ := hA.form
  cases a0 with
  | none => have := (ha0 rfl).1; omega
  | some ad =>
    have hs0 := hsp (by omega) ad rfl
    refine Op1.val (fun a ha => ?_) h
    have e1 : ad.add (m * sz) = sp (.slice (some ad) q cap) (m * sz) := by
      obtain ⟨b, o, s⟩ := ad; simp at hs0; subst hs0; rw [Addr.add_at]; rfl
    have h1 : ((0 : Int) ≤ (m : Int) ∧ (m : Int) < (q : Int)) := by omega
    simp [execOp, ha.ev hx, ha.ev hi, Instr.indexAt, asIntOf, run_underlying hu, h1, hm, run_sizeOf hz, e1]
theorem op_indexAddrA {len off b m : Nat} {e : TypeId} {k : IntKind} (hu : P.underlying t = some (.array len e)) (hz : tiB P e = some (z, sz, by_)) (hx : ev ρ x = some (ptr b off))
    (hi : ev ρ y = some (.int k (m : Int))) (hm : m < len) (h : R (ptr b (off + m * sz)) w) : Op1 P n D ⟨dst, .indexAddr t x y, ty, pos, af, g⟩ ρ w R :=
  Op1.val (fun a ha => by simp [execOp, ha.ev hx, ha.ev hi, Instr.indexAt, asIntOf, run_underlying hu, hm, run_sizeOf hz, Instr.sureAddr, Addr.add_at]) h
theorem op_indexA {len m : Nat} {e : TypeId} {k : IntKind} {cs : Array Value} {v : Value} (hu : P.underlying t = some (.array len e)) (hz : tiB P e = some (z, sz, by_)) (hd : P.underlying e = some d) (hs : scal d = true)
    (hx : ev ρ x = some (.agg cs)) (hi : ev ρ y = some (.int k (m : Int))) (hm : m < len) (hc : cs.toList[m * sz]? = some v) (h : R v w) : Op1 P n D ⟨dst, .index t x y, ty, pos, af, g⟩ ρ w R :=
  Op1.val (fun a ha => by
    have hc' : cs[m * sz]? = some v := by simpa using hc
    simp [execOp, ha.ev hx, ha.ev hi, Instr.index, asIntOf, run_underlying hu, hm, run_sizeOf hz, part, run_isAgg hd, hs, hc']) h
theorem op_indexStr {m : Nat} {k : IntKind} {l : List UInt8} {c : UInt8} (hu : P.underlying t = some .string) (hx : ev ρ x = some (str l)) (hi : ev ρ y = some (.int k (m : Int))) (hc : l[m]? = some c) (h : R (vU8 c) w) :
    Op1 P n D ⟨dst, .index t x y, ty, pos, af, g⟩ ρ w R :=
  Op1.val (fun a ha => by
    have hm : m < l.length := (List.getElem?_eq_some_iff.1 hc).1
    have hcm : l[m] = c := (List.getElem?_eq_some_iff.1 hc).2
    have hsz : (ByteArray.mk l.toArray).size = l.length := by simp [ByteArray.size]
    have hc' : (ByteArray.mk l.toArray)[m]? = some c := by
      rw [ByteArray.getElem?_lt' _ _ (by rw [hsz]; exact hm)]
      exact congrArg some hcm
    simp [execOp, ha.ev hx, ha.ev hi, Instr.index, asIntOf, run_underlying hu, hc']) h

theorem op_indexStrD {m : Nat} {k : IntKind} {l : List UInt8} (hu : P.underlying t = some .string) (hx : ev ρ x = some (str l)) (hi : ev ρ y = some (.int k (m : Int))) (hm : m < l.length) (h : R (vU8 (l.getD m 0)) w) :
    Op1 P n D ⟨dst, .index t x y, ty, pos, af, g⟩ ρ w R :=
  op_indexStr hu hx hi (c := l.getD m 0) (by simp [List.getD, hm]) h
theorem get_map {α β : Type} (f : α → β) {l : List α} {m : Nat} (d : α) (hm : m < l.length) : (l.map f)[m]? = some (f (l.getD m d)) := by simp [List.getD, hm]

/-! Texts. -/
theorem size_str (l : List UInt8) : (ByteArray.mk l.toArray).size = l.length := by simp [ByteArray.size]
theorem op_addStr {a b : List UInt8} (hx : ev ρ x = some (str a)) (hy : ev ρ y = some (str b)) (hl : a.length + b.length ≤ 9223372036854775807) (h : R (str (a ++ b)) w) : Op1 P n D ⟨dst, .binOp .add t x y t', ty, pos, af, g⟩ ρ w R :=
  Op1.val (fun c ha => by
    have hg : (eqGuard .add t x y (str a) (str b)).run P w = .ok () w := rfl
    have h1 : ¬ (((a.length + b.length : Nat) : Int) > IntKind.i64.max) := by
      have : IntKind.i64.max = 9223372036854775807 := by decide
      omega
    have e : ByteArray.mk a.toArray ++ ByteArray.mk b.toArray = ByteArray.mk (a ++ b).toArray := by
      apply ByteArray.ext; simp [ByteArray.data_append]
    have h2 : (Op.stringOp .add ⟨a.toArray⟩ ⟨b.toArray⟩).run P w = .ok (str (a ++ b)) w := by
      simp only [Op.stringOp, size_str]
      rw [if_neg h1, e]; rfl
    simp only [execOp, ha.ev hx, ha.ev hy, Sem.run_bind, hg, Result.andThen_ok, binOp_string_add, h2, Sem.run_pure]) h
theorem op_eqlStr {a b : List UInt8} (hx : ev ρ x = some (str a)) (hy : ev ρ y = some (str b)) (h : R (.bool (decide (a = b))) w) : Op1 P n D ⟨dst, .binOp .eql t x y t', ty, pos, af, g⟩ ρ w R :=
  Op1.val (fun c ha => by
    have hg : (eqGuard .eql t x y (str a) (str b)).run P w = .ok () w := rfl
    have e : (a == b) = decide (a = b) := by rw [Bool.eq_iff_iff]; simp
    simp only [execOp, ha.ev hx, ha.ev hy, Sem.run_bind, hg, Result.andThen_ok, binOp_string_eql, ByteArray.toList_mk, Sem.run_pure, e]) h
theorem op_neqStr {a b : List UInt8} (hx : ev ρ x = some (str a)) (hy : ev ρ y = some (str b)) (h : R (.bool (decide (a ≠ b))) w) : Op1 P n D ⟨dst, .binOp .neq t x y t', ty, pos, af, g⟩ ρ w R :=
  Op1.val (fun c ha => by
    have hg : (eqGuard .neq t x y (str a) (str b)).run P w = .ok () w := rfl
    have e : (!(a == b)) = decide (a ≠ b) := by rw [Bool.eq_iff_iff]; simp
    simp only [execOp, ha.ev hx, ha.ev hy, Sem.run_bind, hg, Result.andThen_ok, binOp_string_neq, ByteArray.toList_mk, Sem.run_pure, e]) h
theorem op_eqlB {a b : Bool} (hu : P.underlying t = some .bool) (hx : ev ρ x = some (.bool a)) (hy : ev ρ y = some (.bool b)) (h : R (.bool (a == b)) w) : Op1 P n D ⟨dst, .binOp .eql t x y t', ty, pos, af, g⟩ ρ w R :=
  Op1.val (fun c ha => by
    have hg : (eqGuard .eql t x y (.bool a) (.bool b)).run P w = .ok () w := rfl
    simp only [execOp, ha.ev hx, ha.ev hy, Sem.run_bind, hg, Result.andThen_ok, run_eql_bool w t a b hu, Sem.run_pure]) h
theorem op_neqB {a b : Bool} (hu : P.underlying t = some .bool) (hx : ev ρ x = some (.bool a)) (hy : ev ρ y = some (.bool b)) (h : R (.bool (!(a == b))) w) : Op1 P n D ⟨dst, .binOp .neq t x y t', ty, pos, af, g⟩ ρ w R :=
  Op1.val (fun c ha => by
    have hg : (eqGuard .neq t x y (.bool a) (.bool b)).run P w = .ok () w := rfl
    simp only [execOp, ha.ev hx, ha.ev hy, Sem.run_bind, hg, Result.andThen_ok, run_neq_bool w t a b hu, Sem.run_pure]) h

theorem run_sliceBoundN {k : IntKind} {a q : Nat} {code : BoundsCode} (h : a ≤ q) : (Instr.sliceBound (.int k (a : Int)) q code).run P w = .ok a w := by
  have h1 : ((0 : Int) ≤ (a : Int) ∧ (a : Int) ≤ (q : Int)) := by omega
  simp [Instr.sliceBound, asIntOf, h1, h]
theorem op_sliceStr {k k' : IntKind} {lo hi : Operand} {a b : Nat} {l : List UInt8} (hu : P.underlying t = some .string) (hx : ev ρ x = some (str l)) (ha : ev ρ lo = some (.int k (a : Int))) (hb : ev ρ hi = some (.int k' (b : Int)))
    (hab : a ≤ b) (hbl : b ≤ l.length) (h : R (str ((l.drop a).take (b - a))) w) : Op1 P n D ⟨dst, .slice t x (some lo) (some hi) none, ty, pos, af, g⟩ ρ w R :=
  Op1.val (fun c hc => by
    simp [execOp, hc.ev hx, hc.ev ha, hc.ev hb, Instr.sliceAt, Instr.slice, run_underlying hu, Instr.sliceBounds, size_str, run_sliceBoundN hab, run_sliceBoundN hbl, ByteArray.extract_mk]) h
theorem op_sliceStrLo {k : IntKind} {lo : Operand} {a : Nat} {l : List UInt8} (hu : P.underlying t = some .string) (hx : ev ρ x = some (str l)) (ha : ev ρ lo = some (.int k (a : Int)))
    (hab : a ≤ l.length) (h : R (str (l.drop a)) w) : Op1 P n D ⟨dst, .slice t x (some lo) none none, ty, pos, af, g⟩ ρ w R :=
  Op1.val (fun c hc => by
    have e : List.take (l.length - a) (List.drop a l) = List.drop a l := by rw [List.take_of_length_le]; simp
    simp [execOp, hc.ev hx, hc.ev ha, Instr.sliceAt, Instr.slice, run_underlying hu, Instr.sliceBounds, size_str, run_sliceBoundN hab, ByteArray.extract_mk, e]) h
theorem op_sliceStrHi {k' : IntKind} {hi : Operand} {b : Nat} {l : List UInt8} (hu : P.underlying t = some .string) (hx : ev ρ x = some (str l)) (hb : ev ρ hi = some (.int k' (b : Int)))
    (hbl : b ≤ l.length) (h : R (str (l.take b)) w) : Op1 P n D ⟨dst, .slice t x none (some hi) none, ty, pos, af, g⟩ ρ w R :=
  Op1.val (fun c hc => by
    simp [execOp, hc.ev hx, hc.ev hb, Instr.sliceAt, Instr.slice, run_underlying hu, Instr.sliceBounds, size_str, run_sliceBoundN hbl, ByteArray.extract_mk]) h

theorem op_lenStr {l : List UInt8} {at_ : TypeId} (hu : P.underlying at_ = some .string) (hx : ev ρ x = some (str l)) (h : R (vN l.length) w) : Op1 P n D ⟨dst, .call { callee := .builtin .len, args := #[x], argTypes := #[at_] }, ty, pos, af, g⟩ ρ w R :=
  Op1.val (fun c hc => by simp [execOp, resolve, invoke, builtin, hc.ev hx, run_len_string w at_ ty _ hu, goInt, size_str]) h
theorem op_lenA {v : Value} {m : Nat} {xs : List Value} {at_ e : TypeId} (hu : P.underlying at_ = some (.slice e)) (hx : ev ρ x = some v) (hA : Arr w v sz m xs) (h : R (vN m) w) :
    Op1 P n D ⟨dst, .call { callee := .builtin .len, args := #[x], argTypes := #[at_] }, ty, pos, af, g⟩ ρ w R := by
  obtain ⟨a0, cap, rfl, hn, hc, ha0, hsp⟩ := hA.form
  exact Op1.val (fun c hc => by simp [execOp, resolve, invoke, builtin, hc.ev hx, Builtin.len_, run_underlying hu, goInt]) h

end
end Go.Owl
