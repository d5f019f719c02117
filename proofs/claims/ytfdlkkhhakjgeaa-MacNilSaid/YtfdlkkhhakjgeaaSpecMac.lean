/- Sums that need a key, in plain Lean. -/
import Derived.Test.YtfdlkkhhakjgeaaSpecHash
namespace Go.Spec
open Go.Owl
def keyB (key : List UInt8) : List UInt8 := if key.length > 64 then sha key else key
def blockM (key : List UInt8) : List UInt8 := keyB key ++ List.replicate (64 - (keyB key).length) 0
theorem keyB_le (key : List UInt8) : (keyB key).length ≤ 64 := by
  unfold keyB; split
  · rw [sha_length]; decide
  · omega
theorem blockM_length (key : List UInt8) : (blockM key).length = 64 := by
  have := keyB_le key
  unfold blockM; rw [List.length_append, List.length_replicate]; omega
def xorL (s : List UInt8) (c : UInt8) : List UInt8 := s.map (fun x => x ^^^ c)
theorem xorL_length (s : List UInt8) (c : UInt8) : (xorL s c).length = s.length := by simp [xorL]
def xorTo (s : List UInt8) (c : UInt8) (k : Nat) : List UInt8 := xorL (s.take k) c ++ s.drop k
theorem xorTo_length (s : List UInt8) (c : UInt8) (k : Nat) : (xorTo s c k).length = s.length := by simp [xorTo, xorL]; omega
theorem xorTo_get (s : List UInt8) (c : UInt8) {k : Nat} (h : k < s.length) : (xorTo s c k).getD k 0 = s.getD k 0 := by
  rw [xorTo, List.getD, List.getElem?_append_right (by rw [xorL_length, List.length_take]; omega), xorL_length, List.length_take, List.getElem?_drop, List.getD]
  congr 2; omega
theorem xorTo_step (s : List UInt8) (c : UInt8) {k : Nat} (h : k < s.length) : (xorTo s c k).set k ((xorTo s c k).getD k 0 ^^^ c) = xorTo s c (k + 1) := by
  rw [xorTo_get s c h]
  have e : s.take (k + 1) = s.take k ++ [s[k]] := by rw [List.take_add_one, List.getElem?_eq_getElem h]; rfl
  have e2 : s.drop k = s[k] :: s.drop (k + 1) := List.drop_eq_getElem_cons h
  have e3 : s.getD k 0 = s[k] := by simp [List.getD, h]
  have hl : (xorL (s.take k) c).length = k := by rw [xorL_length, List.length_take]; omega
  rw [xorTo, xorTo, e, e2, List.set_append_right _ _ (by omega), hl, Nat.sub_self, List.set_cons_zero, e3]
  simp [xorL, -List.take_append_getElem]
theorem xorTo_end (s : List UInt8) (c : UInt8) : xorTo s c s.length = xorL s c := by simp [xorTo]
def withTo (s : List UInt8) (c : UInt8) : Nat → List UInt8
  | 0 => []
  | k + 1 => withTo s c k ++ [s.getD k 0 ^^^ c]
theorem withTo_eq (s : List UInt8) (c : UInt8) : ∀ k, k ≤ s.length → withTo s c k = xorL (s.take k) c
  | 0, _ => by simp [withTo, xorL]
  | k + 1, h => by
    have e : s.take (k + 1) = s.take k ++ [s[k]] := by rw [List.take_add_one, List.getElem?_eq_getElem (by omega)]; rfl
    rw [withTo, withTo_eq s c k (by omega), e]
    simp [xorL, List.getD, show k < s.length by omega, -List.take_append_getElem]
theorem withTo_end (s : List UInt8) (c : UInt8) : withTo s c s.length = xorL s c := by rw [withTo_eq s c _ (Nat.le_refl _), List.take_length]
def mac (key text : List UInt8) : List UInt8 := sha (xorL (blockM key) 92 ++ sha (xorL (blockM key) 54 ++ text))
theorem mac_length (key text : List UInt8) : (mac key text).length = 32 := sha_length _
/-- How far two texts differ. -/
def orTo (s t : List UInt8) : Nat → UInt8
  | 0 => 0
  | k + 1 => orTo s t k ||| (s.getD k 0 ^^^ t.getD k 0)
theorem or_zero {a b : UInt8} : a ||| b = 0 ↔ a = 0 ∧ b = 0 := by
  constructor
  · intro h
    have h1 := congrArg UInt8.toNat h
    rw [UInt8.toNat_or] at h1
    have h2 : a.toNat ≤ a.toNat ||| b.toNat := Nat.left_le_or
    have h3 : b.toNat ≤ a.toNat ||| b.toNat := Nat.right_le_or
    have h0 : (0 : UInt8).toNat = 0 := rfl
    rw [h0] at h1
    exact ⟨UInt8.toNat_inj.1 (by rw [h0]; omega), UInt8.toNat_inj.1 (by rw [h0]; omega)⟩
  · rintro ⟨rfl, rfl⟩; rfl
theorem orTo_zero (s t : List UInt8) : ∀ k, orTo s t k = 0 ↔ ∀ j, j < k → s.getD j 0 = t.getD j 0
  | 0 => by simp [orTo]
  | k + 1 => by
    rw [orTo, or_zero, orTo_zero s t k]
    constructor
    · rintro ⟨h1, h2⟩ j hj
      rcases Nat.lt_or_ge j k with h | h
      · exact h1 j h
      · have e : j = k := by omega
        subst e
        exact UInt8.xor_eq_zero_iff.1 h2
    · intro h
      exact ⟨fun j hj => h j (by omega), UInt8.xor_eq_zero_iff.2 (h k (by omega))⟩
theorem orTo_eq {s t : List UInt8} (hl : s.length = t.length) : decide (orTo s t t.length = 0) = decide (s = t) := by
  refine decide_eq_decide.2 ⟨fun h => ?_, fun h => ?_⟩
  · have h1 := (orTo_zero s t t.length).1 h
    refine List.ext_getElem hl fun i h2 h3 => ?_
    have := h1 i h3
    simpa [List.getD, h2, h3] using this
  · subst h; exact (orTo_zero s s _).2 (fun j _ => rfl)
theorem ne_of_length {s t : List UInt8} (h : s.length ≠ t.length) : decide (s = t) = false := decide_eq_false (fun e => h (by rw [e]))
theorem keyB_sha {key : List UInt8} (h : key.length > 64) (text : List UInt8) : mac (sha key) text = mac key text := by
  have e : blockM (sha key) = blockM key := by
    unfold blockM keyB
    rw [if_neg (by rw [sha_length]; decide), if_pos h]
  unfold mac; rw [e]
theorem keyB_pad {key : List UInt8} {n : Nat} (h : key.length + n ≤ 64) (text : List UInt8) : mac (key ++ List.replicate n 0) text = mac key text := by
  have e : blockM (key ++ List.replicate n 0) = blockM key := by
    unfold blockM keyB
    rw [if_neg (by simp; omega), if_neg (by omega), List.append_assoc, List.length_append, List.length_replicate]
    congr 1
    rw [List.replicate_append_replicate]
    congr 1; omega
  unfold mac; rw [e]
end Go.Spec
