/- Slices of slices. -/
import Derived.Test.YtpnghdalnghpcaaOwl8
namespace Go.Owl
def cutV (v : Value) (a b sz : Nat) : Value := match v with
  | .slice ad _ cap => .slice (if cap = a then ad else ad.map (·.add (a * sz))) (b - a) (cap - a)
  | v => v
/-- The cells of elements a to b. -/
def cutL (xs : List Value) (a b sz : Nat) : List Value := (xs.drop (a * sz)).take ((b - a) * sz)
section
variable {P : Program} {n : Nat} {D : List Deferred} {ρ : Env} {w w0 : World} {R : Value → World → Prop} {dst : Option Tmp} {ty : TypeId} {pos : String} {af : Array Edge} {g : Option (Nat × Bool)}
variable {S : List Nat} {L : List Ent} {i : Nat} {t t' T T' : TypeId} {x y : Operand} {z : List Value} {sz by_ : Nat} {d : TypeDesc}

theorem cutL_length {xs : List Value} {q a b : Nat} (hl : xs.length = q * sz) (hab : a ≤ b) (hb : b ≤ q) : (cutL xs a b sz).length = (b - a) * sz := by
  unfold cutL
  rw [List.length_take, List.length_drop, hl]
  have h1 : a * sz + (b - a) * sz ≤ q * sz := by rw [← Nat.add_mul]; exact Nat.mul_le_mul_right _ (by omega)
  omega

theorem Arr.cut {v : Value} {q : Nat} {xs : List Value} (hA : Arr w v sz q xs) {a b : Nat} (hab : a ≤ b) (hb : b ≤ q) : Arr w (cutV v a b sz) sz (b - a) (cutL xs a b sz) := by
  obtain ⟨a0, cap, rfl, hn, hc, ha0, hsp⟩ := hA.form
  have hlen := cutL_length (sz := sz) hA.len hab hb
  refine ⟨⟨_, _, rfl, by omega, by omega, fun h => ?_, fun hne ad h => ?_⟩, hlen, fun j hj => ?_⟩
  · by_cases hca : cap = a
    · rw [if_pos hca] at h; have := ha0 h; omega
    · rw [if_neg hca] at h
      cases a0 with
      | none => have := ha0 rfl; omega
      | some ad => cases h
  · by_cases hca : cap = a
    · rw [if_pos hca] at h; exact hsp (by omega) ad h
    · rw [if_neg hca] at h
      cases a0 with
      | none => cases h
      | some ad0 =>
        obtain ⟨bb, oo, ss⟩ := ad0
        have := hsp (by omega) _ rfl
        simp at this; subst this
        simp only [Option.map_some, Option.some.injEq] at h
        rw [← h, Addr.add_at]
  · rw [hlen] at hj
    have hjs : a * sz + j < xs.length := by
      rw [hA.len]
      have h1 : a * sz + (b - a) * sz ≤ q * sz := by rw [← Nat.add_mul]; exact Nat.mul_le_mul_right _ (by omega)
      omega
    have hca : cap ≠ a := by
      intro e
      have : b - a = 0 := by omega
      rw [this] at hj; omega
    have h1 := hA.cell (a * sz + j) hjs
    have e : (cutL xs a b sz)[j]? = xs[a * sz + j]? := by unfold cutL; rw [List.getElem?_take, if_pos hj, List.getElem?_drop]
    rw [e, ← h1]
    cases a0 with
    | none =>
      have := (ha0 rfl).1
      have : b - a = 0 := by omega
      rw [this] at hj; omega
    | some ad0 =>
      obtain ⟨bb, oo, ss⟩ := ad0
      have hq0 : q ≠ 0 := by
        intro e; rw [hA.len, e, Nat.zero_mul] at hjs; omega
      have := hsp hq0 _ rfl
      simp at this; subst this
      simp only [cutV, if_neg hca, Option.map_some, Addr.add_at, sp, sBlk, sOff, Nat.add_assoc]

theorem RowOK.cut {v : Value} {q : Nat} {xs : List Value} (hr : RowOK w v t sz q xs) {a b : Nat} (hab : a ≤ b) (hb : b ≤ q) : RowOK w (cutV v a b sz) t sz (b - a) (cutL xs a b sz) := by
  have hlen := cutL_length (sz := sz) hr.1 hab hb
  obtain ⟨hl, ⟨rfl, rfl⟩ | ⟨gb, cap, pre, junk, rfl, hk, hn, hc, hj⟩⟩ := hr
  · have ha : a = 0 := by omega
    have hb' : b = 0 := by omega
    subst ha; subst hb'
    exact ⟨hlen, .inl ⟨rfl, rfl⟩⟩
  · refine ⟨hlen, .inr ?_⟩
    have h1 : a * sz + (b - a) * sz ≤ q * sz := by rw [← Nat.add_mul]; exact Nat.mul_le_mul_right _ (by omega)
    by_cases hca : cap = a
    · have e0 : b - a = 0 := by omega
      have ex : cutL xs a b sz = [] := List.eq_nil_of_length_eq_zero (by rw [hlen, e0]; simp)
      refine ⟨gb, cap - a, pre, xs ++ junk, by simp [cutV, hca], by rw [ex]; simpa using hk, by omega, by omega, ?_⟩
      rw [hca]; simp
    · refine ⟨gb, cap - a, pre ++ xs.take (a * sz), xs.drop (a * sz + (b - a) * sz) ++ junk, ?_, ?_, by omega, by omega, ?_⟩
      · simp only [cutV, if_neg hca, Option.map_some, Addr.add_at]
        congr 3
        simp; omega
      · have e : pre ++ xs.take (a * sz) ++ (cutL xs a b sz ++ (xs.drop (a * sz + (b - a) * sz) ++ junk)) = pre ++ (xs ++ junk) := by
          have e2 : cutL xs a b sz ++ xs.drop (a * sz + (b - a) * sz) = xs.drop (a * sz) := by
            unfold cutL; rw [← List.drop_drop, List.take_append_drop]
          rw [List.append_assoc, ← List.append_assoc (cutL xs a b sz), e2, ← List.append_assoc (xs.take (a * sz)), List.take_append_drop]
        rw [e]; exact hk
      · have h2 : (cap - a) * sz = cap * sz - a * sz := Nat.sub_mul _ _ _
        rw [hlen, List.length_append, List.length_drop, h2]
        omega

theorem Own.cut {v : Value} {q : Nat} {xs : List Value} (H : Own S w0 w L) (hi : L[i]? = some (Ent.row v t sz q xs)) {a b : Nat} (hab : a ≤ b) (hb : b ≤ q) : Own S w0 w (L.set i (.row (cutV v a b sz) t sz (b - a) (cutL xs a b sz))) := by
  refine H.upd hi (Fr.refl [] w) (fun b hb => by cases hb) ((H.row hi).cut hab hb) (fun bb hbb => .inl ?_)
  obtain ⟨hl, ⟨rfl, rfl⟩ | ⟨gb, cap, pre, junk, rfl, hk, hn, hc, hj⟩⟩ := H.row hi
  · simp only [Ent.block, cutV] at hbb ⊢
    split at hbb <;> simp [Value.ownBlock] at hbb
  · simp only [Ent.block, cutV] at hbb ⊢
    split at hbb
    · simpa [Value.ownBlock] using hbb
    · simpa [Value.ownBlock, Addr.add_at] using hbb

theorem run_cut {v : Value} {q : Nat} {xs : List Value} {e : TypeId} (hu : P.underlying t = some (.slice e)) (hz : tiB P e = some (z, sz, by_)) (hA : Arr w v sz q xs) {lo hi : Option Value} {a b : Nat} (hab : a ≤ b) (hb : b ≤ q)
    (hlo : (lo = none ∧ a = 0) ∨ ∃ k, lo = some (.int k (a : Int))) (hhi : (hi = none ∧ b = q) ∨ ∃ k, hi = some (.int k (b : Int))) : (Instr.sliceAt t v lo hi none).run P w = .ok (cutV v a b sz) w := by
  obtain ⟨a0, cap, rfl, hn, hc, ha0, hsp⟩ := hA.form
  have hbc : b ≤ cap := by omega
  rcases hlo with ⟨rfl, rfl⟩ | ⟨k, rfl⟩ <;> rcases hhi with ⟨rfl, rfl⟩ | ⟨k', rfl⟩ <;>
    simp [Instr.sliceAt, Instr.slice, run_underlying hu, Instr.sliceBounds, run_sliceBoundN hbc, run_sliceBoundN hab, run_sizeOf hz, cutV]

theorem op_cut {v : Value} {q : Nat} {xs : List Value} {e : TypeId} {k k' : IntKind} {lo hi : Operand} {a b : Nat} (hu : P.underlying t = some (.slice e)) (hz : tiB P e = some (z, sz, by_)) (hx : ev ρ x = some v) (hA : Arr w v sz q xs)
    (ha : ev ρ lo = some (.int k (a : Int))) (hb : ev ρ hi = some (.int k' (b : Int))) (hab : a ≤ b) (hbq : b ≤ q) (h : R (cutV v a b sz) w) : Op1 P n D ⟨dst, .slice t x (some lo) (some hi) none, ty, pos, af, g⟩ ρ w R :=
  Op1.val (fun c hc => by simp only [execOp, hc.ev hx, Option.map_some, Option.map_none, hc.ev ha, hc.ev hb, Sem.run_bind, run_cut hu hz hA hab hbq (.inr ⟨k, rfl⟩) (.inr ⟨k', rfl⟩), Result.andThen_ok, Sem.run_pure]) h
theorem op_cutLo {v : Value} {q : Nat} {xs : List Value} {e : TypeId} {k : IntKind} {lo : Operand} {a : Nat} (hu : P.underlying t = some (.slice e)) (hz : tiB P e = some (z, sz, by_)) (hx : ev ρ x = some v) (hA : Arr w v sz q xs)
    (ha : ev ρ lo = some (.int k (a : Int))) (hab : a ≤ q) (h : R (cutV v a q sz) w) : Op1 P n D ⟨dst, .slice t x (some lo) none none, ty, pos, af, g⟩ ρ w R :=
  Op1.val (fun c hc => by simp only [execOp, hc.ev hx, Option.map_some, Option.map_none, hc.ev ha, Sem.run_bind, run_cut hu hz hA hab (Nat.le_refl q) (.inr ⟨k, rfl⟩) (.inl ⟨rfl, rfl⟩), Result.andThen_ok, Sem.run_pure]) h
theorem op_cutHi {v : Value} {q : Nat} {xs : List Value} {e : TypeId} {k' : IntKind} {hi : Operand} {b : Nat} (hu : P.underlying t = some (.slice e)) (hz : tiB P e = some (z, sz, by_)) (hx : ev ρ x = some v) (hA : Arr w v sz q xs)
    (hb : ev ρ hi = some (.int k' (b : Int))) (hbq : b ≤ q) (h : R (cutV v 0 b sz) w) : Op1 P n D ⟨dst, .slice t x none (some hi) none, ty, pos, af, g⟩ ρ w R :=
  Op1.val (fun c hc => by simp only [execOp, hc.ev hx, Option.map_some, Option.map_none, hc.ev hb, Sem.run_bind, run_cut hu hz hA (Nat.zero_le b) hbq (.inl ⟨rfl, rfl⟩) (.inr ⟨k', rfl⟩), Result.andThen_ok, Sem.run_pure]) h

theorem op_indexAddr1 {v : Value} {e : TypeId} {k : IntKind} {m q : Nat} {xs : List Value} (hu : P.underlying t = some (.slice e)) (hz : tiB P e = some (z, 1, by_)) (hx : ev ρ x = some v) (hA : Arr w v 1 q xs)
    (hi : ev ρ y = some (.int k (m : Int))) (hm : m < q) (h : R (.pointer (some (sp v m))) w) : Op1 P n D ⟨dst, .indexAddr t x y, ty, pos, af, g⟩ ρ w R :=
  op_indexAddr hu hz hx hA hi hm (by rw [Nat.mul_one]; exact h)
theorem op_indexAddrA1 {len off b m : Nat} {e : TypeId} {k : IntKind} (hu : P.underlying t = some (.array len e)) (hz : tiB P e = some (z, 1, by_)) (hx : ev ρ x = some (ptr b off))
    (hi : ev ρ y = some (.int k (m : Int))) (hm : m < len) (h : R (ptr b (off + m)) w) : Op1 P n D ⟨dst, .indexAddr t x y, ty, pos, af, g⟩ ρ w R :=
  op_indexAddrA hu hz hx hi hm (by rw [Nat.mul_one]; exact h)
theorem op_indexA1 {len m : Nat} {e : TypeId} {k : IntKind} {cs : List Value} {v : Value} (hu : P.underlying t = some (.array len e)) (hz : tiB P e = some (z, 1, by_)) (hd : P.underlying e = some d) (hs : scal d = true)
    (hx : ev ρ x = some (.agg cs.toArray)) (hi : ev ρ y = some (.int k (m : Int))) (hm : m < len) (hc : cs[m]? = some v) (h : R v w) : Op1 P n D ⟨dst, .index t x y, ty, pos, af, g⟩ ρ w R :=
  op_indexA hu hz hd hs hx hi hm (by rw [Nat.mul_one]; exact hc) h
theorem cutL_map {α : Type} (f : α → Value) (l : List α) (a b : Nat) : cutL (l.map f) a b 1 = ((l.drop a).take (b - a)).map f := by
  unfold cutL; simp [List.map_take, List.map_drop]
end
end Go.Owl
