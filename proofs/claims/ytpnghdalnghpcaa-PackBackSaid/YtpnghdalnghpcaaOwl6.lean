/- Rules for what is appended, converted, cut, copied. -/
import Derived.Test.YtpnghdalnghpcaaOwl5
namespace Go.Owl

section
variable {P : Program} {n : Nat} {D : List Deferred} {ρ : Env} {w w0 : World} {R : Value → World → Prop} {dst : Option Tmp} {ty : TypeId} {pos : String} {af : Array Edge} {g : Option (Nat × Bool)}
variable {S : List Nat} {L : List Ent} {i : Nat} {t t' T T' : TypeId} {x y : Operand} {z : List Value} {sz by_ : Nat} {d : TypeDesc}

/-- What may be appended. -/
structure Src (P : Program) (w : World) (T : TypeId) (sz : Nat) (u : Value) (m : Nat) (ys : List Value) : Prop where
  und : ∃ d, P.underlying T = some d ∧ (∀ k, d ≠ .int k)
  len : ∀ w', (Builtin.lenOf u).run P w' = .ok m w'
  size : ys.length = m * sz
  cells : ∀ w' : World, w'.heap = w.heap → (Builtin.firstCells sz m u).run P w' = .ok ys.toArray w'

theorem Src.ofArr {u : Value} {m : Nat} {ys : List Value} {e : TypeId} (hu : P.underlying T = some (.slice e)) (hA : Arr w u sz m ys) : Src P w T sz u m ys := by
  obtain ⟨a0, cap, rfl, hn, hc, ha0, hsp⟩ := hA.form
  refine ⟨⟨_, hu, fun k h => by cases h⟩, fun w' => by simp [Builtin.lenOf], hA.len, fun w' hw => ?_⟩
  cases a0 with
  | none =>
    have : ys = [] := List.eq_nil_of_length_eq_zero (by rw [hA.len, (ha0 rfl).1]; simp)
    subst this
    simp [Builtin.firstCells]
  | some ad =>
    by_cases hm0 : m = 0
    · subst hm0
      have : ys = [] := List.eq_nil_of_length_eq_zero (by rw [hA.len]; simp)
      subst this
      exact run_firstCells_some w' sz 0 ad 0 cap [] (by simp) (fun j v hj => by simp at hj)
    have hs0 := hsp hm0 ad rfl
    obtain ⟨b, o, s⟩ := ad
    simp at hs0; subst hs0
    refine run_firstCells_some w' sz m ⟨b, o, none⟩ m cap ys hA.len (fun j v hj => ?_)
    rw [Addr.add_at]
    have hj' : j < ys.length := (List.getElem?_eq_some_iff.1 hj).1
    have h1 := hA.cell j hj'
    rw [← hj, ← h1]
    exact World.cell?_of_block (w := w) (by rw [hw])

theorem Src.ofStr {l : List UInt8} (hu : P.underlying T = some .string) : Src P w T 1 (str l) l.length (l.map vU8) := by
  refine ⟨⟨_, hu, fun k h => by cases h⟩, fun w' => by simp [Builtin.lenOf, size_str], by simp, fun w' _ => ?_⟩
  simp only [Builtin.firstCells, ByteArray.extract_mk]
  simp

theorem notInt {d : TypeDesc} (h : ∀ k, d ≠ .int k) : (match d with | TypeDesc.int _ => true | _ => false) = false := by
  cases d <;> first | rfl | exact absurd rfl (h _)

theorem run_append_row {v u : Value} {q m : Nat} {xs ys : List Value} (hu : P.underlying T = some (.slice t)) (hz : tiB P t = some (z, sz, by_)) (hzl : z.length = sz) (hr : RowOK w v t sz q xs) (hs : Src P w T' sz u m ys)
    (h1 : ∀ c ∈ ys, c.oneCell' = true) (h63 : q + m ≤ maxLen) (hby : (q + m) * by_ ≤ 140737488355328) :
    ∃ v' w', (Builtin.append_ #[T, T'] ty #[v, u]).run P w = .ok v' w' ∧ RowOK w' v' t sz (q + m) (xs ++ ys) ∧ Fr v.ownBlock.toList w w' ∧ (∀ b, v'.ownBlock = some b → v.ownBlock = some b ∨ w.heap.size ≤ b) := by
  obtain ⟨ti, zv, hti, htz, hcz, htsz, htby⟩ := tiB_spec hz
  obtain ⟨dd, hdd, hni⟩ := hs.und
  have hint := notInt hni
  have hlen : (xs ++ ys).length = (q + m) * sz := by rw [List.length_append, hr.1, hs.size, Nat.add_mul]
  have hmx : (q + m : Nat) ≤ 9223372036854775807 := by unfold maxLen at h63; omega
  have hzs : zv.cells.size = sz := by rw [← hzl, ← hcz]; simp
  -- the head of the run
  have key : ∀ base cap, v = .slice base q cap → (base = none → q = 0 ∧ cap = 0) →
      (q + m ≤ cap → ∀ a, base = some a → ∃ w', (storeCells (a.add (q * sz)) ys).run P w = .ok () w' ∧ RowOK w' (.slice base (q + m) cap) t sz (q + m) (xs ++ ys) ∧ Fr v.ownBlock.toList w w') →
      (Builtin.firstCells sz q v).run P w.drew = .ok xs.toArray w.drew →
      ∃ v' w', (Builtin.append_ #[T, T'] ty #[v, u]).run P w = .ok v' w' ∧ RowOK w' v' t sz (q + m) (xs ++ ys) ∧ Fr v.ownBlock.toList w w' ∧ (∀ b, v'.ownBlock = some b → v.ownBlock = some b ∨ w.heap.size ≤ b) := by
    intro base cap hv hbase hroom hold
    subst hv
    have hl0 := hs.len w
    by_cases hc : q + m ≤ cap
    · cases base with
      | none =>
        have := hbase rfl
        have hq : q = 0 := this.1
        have hm : m = 0 := by omega
        subst hq; subst hm
        have hxs : xs = [] := List.eq_nil_of_length_eq_zero (by rw [hr.1]; simp)
        have hys : ys = [] := List.eq_nil_of_length_eq_zero (by rw [hs.size]; simp)
        subst hxs; subst hys
        refine ⟨.slice none 0 cap, w, ?_, by simpa using hr, Fr.refl _ _, fun b hb => .inl hb⟩
        simp [Builtin.append_, run_underlying hu, run_underlying hdd, run_sizeOf hz, hint, hl0, hs.cells w rfl]
      | some a =>
        obtain ⟨w', h2, h3, h4⟩ := hroom hc a rfl
        refine ⟨_, w', ?_, h3, h4, fun b hb => .inl hb⟩
        simp [Builtin.append_, run_underlying hu, run_underlying hdd, run_sizeOf hz, hint, hl0, hs.cells w rfl, hc, h2]
    · have hge := grownCap_ge w (q + m) cap t
      have hcm : grownCap w (q + m) cap t ≤ maxLen := grownCap_le_maxLen w (q + m) cap t h63
      have hfit : ¬ (281474976710656 < Builtin.nextslicecap (q + m) cap * ti.bytes) := by
        have := growslice_fits (need := q + m) (old := cap) (bytes := ti.bytes) (by omega) (by rw [htby]; exact hby)
        omega
      have h63' : ¬ (9223372036854775807 < ((q : Int) + (m : Int))) := by omega
      have hn := hs.cells w.drew rfl
      refine ⟨.slice (some ⟨w.heap.size, 0, none⟩) (q + m) (grownCap w (q + m) cap t), w.drew.alloc (.cells (xs.toArray ++ ys.toArray ++ Builtin.zeroCells zv.cells (grownCap w (q + m) cap t - (q + m))) t), ?_, ?_, ?_, ?_⟩
      · simp [Builtin.append_, run_underlying hu, run_underlying hdd, run_sizeOf hz, hint, hl0, hc, h63', typeInfo, zeroValue, hti, htz, hfit, Question.forced, hold, hn, newRow, grownCap]
        refine congrArg (fun c => World.alloc w.drew (Obj.cells c t)) ?_
        apply Array.ext'; simp
      · refine ⟨hlen, .inr ⟨w.heap.size, _, [], (Builtin.zeroCells zv.cells (grownCap w (q + m) cap t - (q + m))).toList, rfl, ?_, hge, hcm, ?_⟩⟩
        · have hb := Blk.alloc w.drew (xs ++ ys ++ (Builtin.zeroCells zv.cells (grownCap w (q + m) cap t - (q + m))).toList) t
          have e : (xs ++ ys ++ (Builtin.zeroCells zv.cells (grownCap w (q + m) cap t - (q + m))).toList).toArray = xs.toArray ++ ys.toArray ++ Builtin.zeroCells zv.cells (grownCap w (q + m) cap t - (q + m)) := by
            apply Array.ext'; simp
          rw [e] at hb
          simpa using hb
        · have h9 : (Builtin.zeroCells zv.cells (grownCap w (q + m) cap t - (q + m))).toList.length = (grownCap w (q + m) cap t - (q + m)) * sz := by
            rw [Array.length_toList, size_zeroCells, hzs]
          rw [h9, hlen, ← Nat.add_mul]
          exact Nat.le_of_eq (congrArg (· * sz) (by omega))
      · exact ((Fr.drew w).trans (Fr.alloc _ _)).nil
      · intro b hb
        simp only [Value.ownBlock, Option.some.injEq] at hb
        right; omega
  rcases hr.2 with ⟨rfl, rfl⟩ | ⟨gb, cap, pre, junk, rfl, hb, hn, hc, hj⟩
  · have hxs : xs = [] := List.eq_nil_of_length_eq_zero (by rw [hr.1]; simp)
    subst hxs
    exact key none 0 rfl (fun _ => ⟨rfl, rfl⟩) (fun _ a ha => by cases ha) (by simp [Builtin.firstCells])
  · refine key (some ⟨gb, pre.length, none⟩) cap rfl (fun h => by cases h) (fun hroom a ha => ?_) ?_
    · injection ha with ha; subst ha
      have hfit : (q + m) * sz ≤ xs.length + junk.length := Nat.le_trans (Nat.mul_le_mul_right _ hroom) hj
      have hys : ys.length ≤ junk.length := by rw [Nat.add_mul, ← hr.1, ← hs.size] at hfit; omega
      have hst := run_storeCells_blk P gb (pre.length + q * sz) t ys 0 _ w hb (by simp; rw [← hr.1]; omega) h1
      rw [← Addr.add_at] at hst
      have e : List.take (pre.length + q * sz + 0) (pre ++ (xs ++ junk)) ++ ys ++ List.drop (pre.length + q * sz + 0 + ys.length) (pre ++ (xs ++ junk)) = pre ++ ((xs ++ ys) ++ junk.drop ys.length) := by
        rw [← hr.1, Nat.add_zero, Nat.add_assoc]
        rw [List.take_length_add_append, List.drop_length_add_append, List.take_left', List.drop_append]
        · simp
        · rfl
      rw [e] at hst
      refine ⟨_, hst, ⟨hlen, .inr ⟨gb, cap, pre, junk.drop ys.length, rfl, hb.setRow _ (by simp; omega), hroom, hc, ?_⟩⟩, Fr.setRow _ _ _⟩
      simp only [List.length_append, List.length_drop]; omega
    · refine run_firstCells_some w.drew sz q ⟨gb, pre.length, none⟩ q cap xs hr.1 (fun j u hj => ?_)
      have hA := hr.arr.at hj
      rw [Addr.add_at]
      exact hA

theorem op_append {v u : Value} {q m : Nat} {xs ys : List Value} (H : Own S w0 w L) (hu : P.underlying T = some (.slice t)) (hz : tiB P t = some (z, sz, by_)) (hzl : z.length = sz) (hx : ev ρ x = some v) (hy : ev ρ y = some u)
    (hi : L[i]? = some (Ent.row v t sz q xs)) (hs : Src P w T' sz u m ys) (h1 : ∀ c ∈ ys, c.oneCell' = true) (h63 : q + m ≤ 9223372036854775807) (hby : (q + m) * by_ ≤ 140737488355328)
    (h : ∀ v' w', Own S w0 w' (L.set i (.row v' t sz (q + m) (xs ++ ys))) → R v' w') : Op1 P n D ⟨dst, .call { callee := .builtin .append, args := #[x, y], argTypes := #[T, T'] }, ty, pos, af, g⟩ ρ w R := by
  obtain ⟨v', w', h2, h3, h4, h5⟩ := run_append_row (ty := ty) hu hz hzl (H.row hi) hs h1 (by unfold maxLen; omega) hby
  refine Op1.val (w' := w') (v := v') (fun a ha => ?_) (h _ _ (H.upd hi h4 (fun b hb => by simpa [Ent.block] using hb) h3 h5))
  simp [execOp, resolve, invoke, builtin, ha.ev hx, ha.ev hy, h2]

/-! Conversions. -/
theorem op_bytesStr {v : Value} {m : Nat} {xs : List Value} {l : List UInt8} {e : TypeId} (hu : P.underlying t = some (.slice e)) (he : P.underlying e = some (.int .u8)) (hd : P.underlying t' = some .string) (hx : ev ρ x = some v)
    (hA : Arr w v 1 m xs) (hl : xs = l.map vU8) (h : R (str l) w) : Op1 P n D ⟨dst, .convert t t' x, ty, pos, af, g⟩ ρ w R := by
  obtain ⟨a0, cap, rfl, hn, hc, ha0, hsp⟩ := hA.form
  refine Op1.val (fun a ha => ?_) h
  cases a0 with
  | none =>
    have h0 : xs = [] := List.eq_nil_of_length_eq_zero (by rw [hA.len, (ha0 rfl).1])
    have hl0 : l = [] := by
      rw [h0] at hl
      exact List.map_eq_nil_iff.1 hl.symm
    subst hl0
    have e1 : (convert t t' (.slice none m cap)).run P w = .ok (str []) w := by
      rw [run_convert_bytes_string w t t' e none m cap hu he hd]
      simp only [Conv.bytesToString, Sem.run_pure]
      rfl
    simp [execOp, ha.ev hx, e1]
  | some ad =>
    by_cases hm0 : m = 0
    · subst hm0
      have h0 : xs = [] := List.eq_nil_of_length_eq_zero (by rw [hA.len])
      have hl0 : l = [] := by
        rw [h0] at hl
        exact List.map_eq_nil_iff.1 hl.symm
      subst hl0
      have h1 : (loadCells ad 0).run P w = .ok (([] : List Int).map (Value.int .u8)).toArray w := run_loadCells_list (P := P) w ad [] (fun j u hj => by simp at hj)
      have e1 : (convert t t' (.slice (some ad) 0 cap)).run P w = .ok (str []) w := by
        rw [run_convert_bytes_string w t t' e _ 0 cap hu he hd, run_bytesToString w _ 0 cap _ h1, foldl_push_bytes]
        rfl
      simp [execOp, ha.ev hx, e1]
    have hs0 := hsp hm0 ad rfl
    obtain ⟨b, o, s⟩ := ad
    simp at hs0; subst hs0
    have hm : m = l.length := by have := hA.len; rw [hl] at this; simpa using this.symm
    have h1 : (loadCells ⟨b, o, none⟩ m).run P w = .ok ((l.map fun c => (c.toNat : Int)).map (Value.int .u8)).toArray w := by
      have h2 := run_loadCells_list (P := P) w ⟨b, o, none⟩ xs (fun j u hj => by rw [Addr.add_at]; exact hA.at hj)
      rw [hA.len, Nat.mul_one] at h2
      rw [h2, hl]; simp [Function.comp_def]
    have e1 : (convert t t' (.slice (some ⟨b, o, none⟩) m cap)).run P w = .ok (str l) w := by
      rw [run_convert_bytes_string w t t' e _ m cap hu he hd, run_bytesToString w _ m cap _ h1, foldl_push_bytes]
      simp only [List.map_map]
      have e2 : ((fun n : Int => UInt8.ofNat n.toNat) ∘ fun c : UInt8 => (c.toNat : Int)) = id := by funext c; simp
      rw [e2]
      simp
    simp [execOp, ha.ev hx, e1]

theorem op_strBytes {l : List UInt8} {e : TypeId} (H : Own S w0 w L) (hu : P.underlying t = some .string) (he : P.underlying e = some (.int .u8)) (hd : P.underlying t' = some (.slice e)) (hx : ev ρ x = some (str l)) (hl : l.length ≤ 9223372036854775807)
    (h : ∀ v w', Own S w0 w' (L ++ [.row v e 1 l.length (l.map vU8)]) → R v w') : Op1 P n D ⟨dst, .convert t t' x, ty, pos, af, g⟩ ρ w R := by
  have hcap := grownCap_ge w l.length 0 e
  have hcm := grownCap_le_maxLen w l.length 0 e (by unfold maxLen; omega)
  let cs : List Value := l.map vU8 ++ List.replicate (grownCap w l.length 0 e - l.length) (.int .u8 0)
  have hcs : cs.length = grownCap w l.length 0 e := by simp only [cs, List.length_append, List.length_map, List.length_replicate]; omega
  let w' : World := (w.drew.alloc (.cells cs.toArray e)).freeze ⟨w.heap.size, cs.length, none⟩ 1
  have hheap : ∀ k, w'.heap[k]? = if k = w.heap.size then some (.cells cs.toArray e (cs.length, cs.length + 1)) else w.heap[k]? := by
    intro k
    have h1 : (w.drew.alloc (.cells cs.toArray e)).heap = w.heap.push (.cells cs.toArray e) := rfl
    simp only [w', World.freeze, Nat.one_ne_zero, if_false, h1, Array.getElem?_modify]
    by_cases hk : k = w.heap.size
    · subst hk; simp
    · rw [if_neg (fun e => hk e.symm), if_neg hk, Array.getElem?_push, if_neg hk]
  have hsize : w'.heap.size = w.heap.size + 1 := by
    simp [w', World.freeze]
  have hf : Fr [] w w' := by
    refine ⟨by simp only [w', World.freeze, Nat.one_ne_zero, if_false]; rfl, by simp only [w', World.freeze, Nat.one_ne_zero, if_false]; rfl, by simp only [w', World.freeze, Nat.one_ne_zero, if_false]; rfl, by omega, fun k hk _ => by rw [hheap, if_neg (by omega)]⟩
  refine Op1.val (w' := w') (v := .slice (some ⟨w.heap.size, 0, none⟩) l.length (grownCap w l.length 0 e)) (fun a ha => ?_) (h _ _ (H.new hf ⟨by simp, .inr ⟨w.heap.size, _, [], List.replicate (grownCap w l.length 0 e - l.length) (.int .u8 0), rfl, ⟨(cs.length, cs.length + 1), .inr (Nat.le_of_eq (by simp [cs])), by rw [hheap, if_pos rfl]; rfl⟩, hcap, hcm, by simp; omega⟩⟩ (fun b hb => ?_)))
  · have e1 : (convert t t' (str l)).run P w = .ok (.slice (some ⟨w.heap.size, 0, none⟩) l.length (grownCap w l.length 0 e)) w' := by
      have e3 : (Array.map (fun b : UInt8 => Value.int .u8 (b.toNat : Int)) l.toArray) ++ Array.replicate (grownCap w l.length 0 e - l.length) (.int .u8 0) = cs.toArray := by apply Array.ext'; simp [cs]
      have e2 : (Conv.stringToBytes e ⟨l.toArray⟩).run P w = .ok (.slice (some ⟨w.heap.size, 0, none⟩) l.length (grownCap w l.length 0 e)) w' := by
        unfold Conv.stringToBytes
        have hsh : (w.drew.alloc (.cells cs.toArray e)).shape? w.heap.size = some (e, cs.length) := by
          have := heap_alloc_new w.drew (.cells cs.toArray e)
          have h5 : (w.drew.alloc (.cells cs.toArray e)).heap[w.heap.size]? = some (.cells cs.toArray e) := this
          unfold World.shape?
          rw [h5]
          rfl
        simp only [size_str, Sem.run_bind, run_choose, Question.forced, Bool.false_eq_true, if_false, Result.andThen_ok, newRow, run_newObj, Sem.run_pure]
        have e4 : (Question.appendCap l.length 0 e).cut (w.tape w.drawn (Question.appendCap l.length 0 e)) = grownCap w l.length 0 e := rfl
        simp only [e4]
        rw [e3]
        have h7 : (markStringish ⟨w.heap.size, 0, none⟩).run P (w.drew.alloc (.cells cs.toArray e)) = .ok () w' := by
          simp only [markStringish, Sem.run_bind, run_shape, hsh, Result.andThen_ok, run_freeze]
          rfl
        exact (congrArg (fun r => Result.andThen r _) h7)
      simp [convert, run_underlying hu, run_underlying hd, run_underlying he, e2]
    simp [execOp, ha.ev hx, e1]
  · simp only [Ent.block, Value.ownBlock, Option.some.injEq] at hb; omega
end
end Go.Owl
