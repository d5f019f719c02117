/- Many instructions' bytes. -/
import Derived.Test.YtfdlkkhhakjgeaaSpecInsn
namespace Go.Spec
open Go.Owl
structure I5 where
  op : UInt8
  d : UInt8
  a : UInt8
  b : UInt8
  imm : UInt32
def i5 (x : I5) : List Value := [vU8 x.op, vU8 x.d, vU8 x.a, vU8 x.b, vU32 x.imm]
def I5.zero : I5 := ⟨0, 0, 0, 0, 0⟩
def encX (x : I5) : List UInt8 := encS x.op x.d x.a x.b x.imm
def encXE (x : I5) : Nat := encE x.op x.d x.a x.b x.imm
def allTo (l : List I5) : Nat → List UInt8
  | 0 => []
  | k + 1 => allTo l k ++ encX (l.getD k I5.zero)
def allBad (l : List I5) : Bool := l.any (fun x => decide (encXE x ≠ 0))
def allE (l : List I5) : Nat := if allBad l then 2 else 0
def allS (l : List I5) : List UInt8 := if allBad l then [] else allTo l l.length
theorem encXE_2 {x : I5} (h : encXE x ≠ 0) : encXE x = 2 := by
  unfold encXE encE at *; split <;> simp_all
theorem encX_len {x : I5} (h : encXE x = 0) : (encX x).length = 8 := by
  unfold encXE encE at h; unfold encX encS
  split
  · simp [le4]
  · simp_all
theorem allTo_len {l : List I5} : ∀ k, (∀ j, j < k → encXE (l.getD j I5.zero) = 0) → (allTo l k).length = 8 * k
  | 0, _ => rfl
  | k + 1, h => by rw [allTo, List.length_append, allTo_len k (fun j hj => h j (by omega)), encX_len (h k (by omega))]; omega
theorem allBad_out {l : List I5} {k : Nat} (h : k < l.length) (hb : encXE (l.getD k I5.zero) ≠ 0) : allBad l = true := by
  refine List.any_eq_true.2 ⟨l.getD k I5.zero, ?_, by simpa using hb⟩
  rw [List.getD, List.getElem?_eq_getElem h]; exact List.getElem_mem h
theorem allBad_no {l : List I5} (h : ∀ k, k < l.length → encXE (l.getD k I5.zero) = 0) : allBad l = false := by
  refine List.any_eq_false.2 fun x hx => ?_
  obtain ⟨k, hk, rfl⟩ := List.getElem_of_mem hx
  have := h k hk
  rw [List.getD, List.getElem?_eq_getElem hk] at this
  simpa using this
theorem allS_out {l : List I5} {k : Nat} (h : k < l.length) (hb : encXE (l.getD k I5.zero) ≠ 0) : allS l = [] ∧ allE l = encXE (l.getD k I5.zero) := by
  unfold allS allE; rw [allBad_out h hb, encXE_2 hb]; exact ⟨rfl, rfl⟩
theorem allS_no {l : List I5} (h : ∀ k, k < l.length → encXE (l.getD k I5.zero) = 0) : allS l = allTo l l.length ∧ allE l = 0 := by
  unfold allS allE; rw [allBad_no h]; exact ⟨rfl, rfl⟩
theorem next_all {P : Nat → Prop} {k : Nat} (h : ∀ j, j < k → P j) (hk : P k) : ∀ j, j < k + 1 → P j := fun j hj => by
  rcases Nat.lt_or_ge j k with h1 | h1
  · exact h j h1
  · rw [show j = k by omega]; exact hk
end Go.Spec
