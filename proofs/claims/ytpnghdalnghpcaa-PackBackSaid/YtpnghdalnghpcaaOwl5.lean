/- Rules for what is built, converted, appended, cut. -/
import Derived.Test.YtpnghdalnghpcaaOwl4
namespace Go.Owl

/-! Building. -/
def fillL (place : Nat → Option (Nat × Nat)) : List Value → List (Nat × Value) → Option (List Value)
  | cells, [] => some cells
  | cells, (i, v) :: rest =>
    match place i with
    | none => none
    | some (off, size) =>
      if Nat.beq v.cells.size size && Nat.ble (off + size) cells.length then fillL place (cells.take off ++ (v.cells.toList ++ cells.drop (off + size))) rest else none

theorem foldl_sets (off : Nat) : ∀ (vs : List Value) (k : Nat) (arr : Array Value), off + k + vs.length ≤ arr.size →
    (vs.zipIdx k).foldl (fun (cs : Array Value) (p : Value × Nat) => cs.setIfInBounds (off + p.2) p.1) arr = (arr.toList.take (off + k) ++ (vs ++ arr.toList.drop (off + k + vs.length))).toArray
  | [], k, arr, _ => by simp
  | v :: vs, k, arr, h => by
    simp only [List.length_cons] at h
    simp only [List.zipIdx_cons, List.foldl_cons]
    rw [foldl_sets off vs (k + 1) _ (by simp; omega)]
    apply Array.ext'
    have hl : off + k < arr.toList.length := by simp; omega
    simp only [Array.toList_setIfInBounds]
    have e1 : List.take (off + (k + 1)) (arr.toList.set (off + k) v) = List.take (off + k) arr.toList ++ [v] := by
      rw [← Nat.add_assoc, List.take_add_one, List.take_set_of_le (by omega)]
      simp at hl; simp [hl]
    have e2 : List.drop (off + (k + 1) + vs.length) (arr.toList.set (off + k) v) = List.drop (off + k + (v :: vs).length) arr.toList := by
      rw [List.drop_set_of_lt (by omega)]
      congr 1
      simp; omega
    rw [e1, e2]
    simp

theorem fill_of {place : Nat → Option (Nat × Nat)} : ∀ {parts : List (Nat × Value)} {cells cs : List Value}, fillL place cells parts = some cs → Instr.fill place cells.toArray parts = some cs.toArray
  | [], cells, cs, h => by simp only [fillL, Option.some.injEq] at h; subst h; rfl
  | (i, v) :: rest, cells, cs, h => by
    simp only [fillL] at h
    simp only [Instr.fill]
    cases hp : place i with
    | none => rw [hp] at h; cases h
    | some os =>
      obtain ⟨off, size⟩ := os
      rw [hp] at h
      simp only at h ⊢
      split at h
      · rename_i hc
        rw [Bool.and_eq_true, Nat.ble_eq] at hc
        have hc0 : v.cells.size = size := Nat.eq_of_beq_eq_true hc.1
        have hc : v.cells.size = size ∧ off + size ≤ cells.length := ⟨hc0, hc.2⟩
        have h1 : ¬ (v.cells.size ≠ size || decide (off + v.cells.size > cells.toArray.size)) = true := by simp [hc.1]; omega
        rw [if_neg h1]
        have h2 := foldl_sets off v.cells.toList 0 cells.toArray (by simp [hc.1]; omega)
        have h3 : (v.cells.zipIdx.foldl (fun (cs : Array Value) (p : Value × Nat) => cs.setIfInBounds (off + p.2) p.1) cells.toArray) = (cells.take off ++ (v.cells.toList ++ cells.drop (off + size))).toArray := by
          rw [← Array.foldl_toList]
          simp only [Array.toList_zipIdx]
          rw [h2]
          simp [hc.1]
        rw [h3]
        exact fill_of h
      · cases h

def plB (P : Program) (t : TypeId) : Option (List (Nat × Nat)) :=
  match P.underlying t with
  | some (.struct fs) => fs.toList.mapM fun f => match P.info? f.type with
    | some i => some (f.offset, i.size)
    | none => none
  | _ => none

def evP (ρ : Env) : List (Nat × Operand) → Option (List (Nat × Value))
  | [] => some []
  | (i, x) :: l => match ev ρ x, evP ρ l with
    | some v, some vs => some ((i, v) :: vs)
    | _, _ => none

section
variable {P : Program} {n : Nat} {D : List Deferred} {ρ : Env} {w w0 : World} {R : Value → World → Prop} {dst : Option Tmp} {ty : TypeId} {pos : String} {af : Array Edge} {g : Option (Nat × Bool)}
variable {S : List Nat} {L : List Ent} {i : Nat} {t t' T : TypeId} {x y : Operand} {z : List Value} {sz by_ : Nat} {d : TypeDesc}

theorem Agr.evP {a : Act} (h : Agr n D ρ a) : ∀ {l : List (Nat × Operand)} {vs : List (Nat × Value)}, Owl.evP ρ l = some vs → l.map (fun (p : Nat × Operand) => (p.1, a.eval p.2)) = vs
  | [], vs, hx => by simp [Owl.evP] at hx; simp [← hx]
  | (i, x) :: l, vs, hx => by
    simp only [Owl.evP] at hx
    split at hx
    · rename_i v ws h1 h2
      injection hx with hx
      rw [← hx, List.map_cons, h.ev h1, h.evP h2]
    · cases hx

theorem run_zeroValue (hz : tiB P T = some (z, sz, by_)) : ∃ v, (zeroValue T).run P w = .ok v w ∧ v.cells.toList = z := by
  obtain ⟨i, v, hi, hv, hc, hs, hb⟩ := tiB_spec hz
  exact ⟨v, by simp [zeroValue, typeInfo, hi, hv], hc⟩

theorem mapM_places {fs : List Field} : ∀ {pl : List (Nat × Nat)}, (fs.mapM fun f => match P.info? f.type with
    | some i => some (f.offset, i.size)
    | none => none) = some pl → (List.mapM (m := Sem) (fun (f : Field) => do pure (f.offset, ← sizeOf f.type)) fs).run P w = .ok pl w := by
  induction fs with
  | nil => intro pl h; simp at h; subst h; simp
  | cons f fs ih =>
    intro pl h
    simp only [List.mapM_cons] at h
    cases hi : P.info? f.type with
    | none => simp [hi] at h
    | some i =>
      simp only [hi] at h
      cases hr : (fs.mapM fun f => match P.info? f.type with
        | some i => some (f.offset, i.size)
        | none => none) with
      | none => simp [hr] at h
      | some pl' =>
        simp [hr] at h
        subst h
        have := ih hr
        simp only [List.mapM_cons, Sem.run_bind, run_sizeOf' hi, Result.andThen_ok, Sem.run_pure, this]

theorem op_build {parts : Array (Nat × Operand)} {pl : List (Nat × Nat)} {pvs : List (Nat × Value)} {cs : List Value} (hz : tiB P T = some (z, sz, by_)) (hp : plB P T = some pl) (hv : evP ρ parts.toList = some pvs)
    (hf : fillL (pl[·]?) z pvs = some cs) (h : R (.agg cs.toArray) w) : Op1 P n D ⟨dst, .build T parts, ty, pos, af, g⟩ ρ w R := by
  unfold plB at hp
  split at hp
  · rename_i fs hu
    refine Op1.val (fun a ha => ?_) h
    obtain ⟨v, h1, h2⟩ := run_zeroValue (P := P) (w := w) hz
    have h3 : (parts.map fun (p : Nat × Operand) => (p.1, a.eval p.2)).toList = pvs := by rw [Array.toList_map]; exact ha.evP hv
    have h4 : Instr.fill (pl[·]?) v.cells pvs = some cs.toArray := by
      have : v.cells = z.toArray := by rw [← h2]
      rw [this]; exact fill_of hf
    have h5 : (fs.mapM (m := Sem) fun (f : Field) => do pure (f.offset, ← sizeOf f.type)).run P w = .ok pl.toArray w := by
      have e : fs = fs.toList.toArray := by simp
      rw [e, List.mapM_toArray, Sem.run_map, mapM_places hp]
      rfl
    have h6 : (Instr.build T (parts.map fun (p : Nat × Operand) => (p.1, a.eval p.2))).run P w = .ok (.agg cs.toArray) w := by
      unfold Instr.build
      simp only [Sem.run_bind, h1, Result.andThen_ok, run_underlying hu, h5, h3]
      have h7 : Instr.fill (fun (x : Nat) => pl.toArray[x]?) v.cells pvs = some cs.toArray := by
        have : (fun (x : Nat) => pl.toArray[x]?) = (fun (x : Nat) => pl[x]?) := by funext x; simp
        rw [this]; exact h4
      simp only [h7]
      rfl
    simp only [execOp, Sem.run_bind, Sem.run_pure]
    exact (congrArg (fun r => Result.andThen r _) h6)
  · cases hp

theorem op_buildA {parts : Array (Nat × Operand)} {len : Nat} {e : TypeId} {z' : List Value} {sz' by' : Nat} {pvs : List (Nat × Value)} {cs : List Value} (hz : tiB P T = some (z, sz, by_)) (hu : P.underlying T = some (.array len e))
    (he : tiB P e = some (z', sz', by')) (hv : evP ρ parts.toList = some pvs)
    (hf : fillL (fun i => some (i * sz', sz')) z pvs = some cs) (h : R (.agg cs.toArray) w) : Op1 P n D ⟨dst, .build T parts, ty, pos, af, g⟩ ρ w R := by
  refine Op1.val (fun a ha => ?_) h
  obtain ⟨v, h1, h2⟩ := run_zeroValue (P := P) (w := w) hz
  have h3 : (parts.map fun (p : Nat × Operand) => (p.1, a.eval p.2)).toList = pvs := by rw [Array.toList_map]; exact ha.evP hv
  have h4 : Instr.fill (fun i => some (i * sz', sz')) v.cells pvs = some cs.toArray := by
    have : v.cells = z.toArray := by rw [← h2]
    rw [this]; exact fill_of hf
  have h6 : (Instr.build T (parts.map fun (p : Nat × Operand) => (p.1, a.eval p.2))).run P w = .ok (.agg cs.toArray) w := by
    unfold Instr.build
    simp only [Sem.run_bind, h1, Result.andThen_ok, run_underlying hu, run_sizeOf he, h3, h4]
    rfl
  simp only [execOp, Sem.run_bind, Sem.run_pure]
  exact (congrArg (fun r => Result.andThen r _) h6)

/-- n copies of the cells of a zero. -/
def zeros (z : List Value) : Nat → List Value
  | 0 => []
  | k + 1 => z ++ zeros z k
theorem zeros_length (z : List Value) : ∀ k, (zeros z k).length = k * z.length
  | 0 => by simp [zeros]
  | k + 1 => by simp [zeros, zeros_length z k, Nat.add_mul]; omega
theorem zeros_get (z : List Value) : ∀ k j, j < k * z.length → (zeros z k)[j]? = z[j % z.length]?
  | 0, j, h => by simp at h
  | k + 1, j, h => by
    simp only [zeros]
    by_cases hj : j < z.length
    · rw [List.getElem?_append_left hj, Nat.mod_eq_of_lt hj]
    · rw [List.getElem?_append_right (by omega), zeros_get z k (j - z.length) (by rw [Nat.add_mul] at h; omega)]
      congr 1
      exact (Nat.mod_eq_sub_mod (by omega)).symm
theorem range_zeros (zc : Array Value) (k q : Nat) (hq : q = k * zc.size) : (Array.range q).map (fun i => zc[i % zc.size]!) = (zeros zc.toList k).toArray := by
  subst hq
  apply Array.ext'
  apply List.ext_getElem?
  intro j
  simp only [Array.toList_map, Array.toList_range, List.getElem?_map]
  by_cases hj : j < k * zc.size
  · rw [List.getElem?_range hj, zeros_get _ _ _ (by simpa using hj)]
    have hs : j % zc.size < zc.size := Nat.mod_lt _ (Nat.pos_of_ne_zero (by intro e; rw [e] at hj; simp at hj))
    simp [hs]
  · have h1 : (List.range (k * zc.size))[j]? = none := by rw [List.getElem?_eq_none]; simp; omega
    have h2 : (zeros zc.toList k)[j]? = none := by rw [List.getElem?_eq_none]; rw [zeros_length]; simp; omega
    rw [h1]; simp [h2]

theorem op_buildSlice {len : Nat} {parts : Array (Nat × Operand)} {e : TypeId} {pvs : List (Nat × Value)} {cs : List Value} (H : Own S w0 w L) (hu : P.underlying T = some (.slice e)) (hz : tiB P e = some (z, sz, by_)) (hzl : z.length = sz)
    (hv : evP ρ parts.toList = some pvs) (hf : fillL (fun i => some (i * sz, sz)) (zeros z len) pvs = some cs) (hcl : cs.length = len * sz) (hle : len * sz ≤ 16777216) (hlen : len ≤ 16777216)
    (h : ∀ b w', Own S w0 w' (L ++ [.row (.slice (some ⟨b, 0, none⟩) len len) e sz len cs]) → R (.slice (some ⟨b, 0, none⟩) len len) w') : Op1 P n D ⟨dst, .buildSlice T len parts, ty, pos, af, g⟩ ρ w R := by
  refine Op1.val (w' := w.alloc (.cells cs.toArray e)) (v := .slice (some ⟨w.heap.size, 0, none⟩) len len) (fun a ha => ?_) (h _ _ ?_)
  · have h3 : (parts.map fun (p : Nat × Operand) => (p.1, a.eval p.2)).toList = pvs := by rw [Array.toList_map]; exact ha.evP hv
    obtain ⟨v, h1, h2⟩ := run_zeroValue (P := P) (w := w) hz
    have hvs : v.cells.size = sz := by rw [← hzl, ← h2]; simp
    have h4 : ∀ zc : Array Value, (if len * sz = 0 then zc = #[] else zc = v.cells) → Instr.fill (fun i => some (i * sz, sz)) ((Array.range (len * sz)).map (fun i => zc[i % zc.size]!)) pvs = some cs.toArray := by
      intro zc hzc
      by_cases h0 : len * sz = 0
      · have e0 : zeros z len = [] := List.eq_nil_of_length_eq_zero (by rw [zeros_length, hzl]; exact h0)
        rw [e0] at hf
        simp only [h0]
        have h9 : (Array.range 0).map (fun i => zc[i % zc.size]!) = ([] : List Value).toArray := by apply Array.ext'; simp [Array.range]
        rw [h9]
        exact fill_of hf
      · rw [if_neg h0] at hzc
        subst hzc
        rw [range_zeros v.cells len (len * sz) (by rw [hvs]), h2]
        exact fill_of hf
    have h6 : (Instr.buildSlice T len (parts.map fun (p : Nat × Operand) => (p.1, a.eval p.2))).run P w = .ok (.slice (some ⟨w.heap.size, 0, none⟩) len len) (w.alloc (.cells cs.toArray e)) := by
      unfold Instr.buildSlice
      have hle' : ¬ (len * sz > 2 ^ 24) := by omega
      simp only [Sem.run_bind, run_underlying hu, Result.andThen_ok, run_sizeOf hz, hle', if_false, h3]
      by_cases h0 : len * sz = 0
      · have h4' := h4 #[] (by simp [h0])
        simp only [h0, if_true, Sem.run_pure, Result.andThen_ok]
        rw [h0] at h4'
        simp only [h4', Sem.run_bind, Sem.run_pure, newRow, run_newObj, Result.andThen_ok]
        rfl
      · have h4' := h4 v.cells (by simp [h0])
        simp only [h0, if_false, Sem.run_bind, h1, Sem.run_pure, Result.andThen_ok]
        simp only [h4', Sem.run_bind, Sem.run_pure, newRow, run_newObj, Result.andThen_ok]
        rfl
    simp only [execOp, Sem.run_bind, Sem.run_pure]
    exact (congrArg (fun r => Result.andThen r _) h6)
  · refine H.new (Fr.alloc _ _) ⟨by simpa using hcl, .inr ⟨w.heap.size, len, [], [], rfl, ?_, Nat.le_refl _, by unfold maxLen; omega, by simp [hcl]⟩⟩ (fun b hb => ?_)
    · simpa using Blk.alloc w cs e
    · simp only [Ent.block, Value.ownBlock, Option.some.injEq] at hb; omega

end
end Go.Owl
