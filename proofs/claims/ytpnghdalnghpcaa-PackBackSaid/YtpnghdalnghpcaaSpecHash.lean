/- A hash by the text that was written to it. -/
import Derived.Test.YtpnghdalnghpcaaSpecSha
namespace Go.Spec
open Go.Owl
/-- j blocks of d, and what is left. -/
def brest (d : List UInt8) : Nat → List UInt8
  | 0 => d
  | j + 1 => (brest d j).drop 64
def bst (h : St) (d : List UInt8) : Nat → St
  | 0 => h
  | j + 1 => blockS (bst h d j) ((brest d j).take 64)
theorem brest_eq (d : List UInt8) : ∀ j, brest d j = d.drop (64 * j)
  | 0 => by simp [brest]
  | j + 1 => by rw [brest, brest_eq d j, List.drop_drop]; congr 1
theorem brest_length (d : List UInt8) (j : Nat) : (brest d j).length = d.length - 64 * j := by rw [brest_eq, List.length_drop]
theorem bst_add (h : St) (d : List UInt8) (i : Nat) : ∀ j, bst h d (i + j) = bst (bst h d i) (brest d i) j ∧ brest d (i + j) = brest (brest d i) j
  | 0 => ⟨rfl, rfl⟩
  | j + 1 => by rw [← Nat.add_assoc, bst, brest, (bst_add h d i j).1, (bst_add h d i j).2]; exact ⟨rfl, rfl⟩
theorem brest_append (d e : List UInt8) (j : Nat) (hl : 64 * j ≤ d.length) : brest (d ++ e) j = brest d j ++ e := by
  rw [brest_eq, brest_eq, List.drop_append_of_le_length hl]
theorem bst_append (h : St) (d e : List UInt8) : ∀ j, 64 * j ≤ d.length → bst h (d ++ e) j = bst h d j
  | 0, _ => rfl
  | j + 1, hl => by
    rw [bst, bst, bst_append h d e j (by omega), brest_append d e j (by omega), List.take_append_of_le_length (by rw [brest_length]; omega)]
def hst (all : List UInt8) : St := bst firstS all (all.length / 64)
def hrest (all : List UInt8) : List UInt8 := brest all (all.length / 64)
theorem hrest_length (all : List UInt8) : (hrest all).length = all.length % 64 := by unfold hrest; rw [brest_length]; omega
theorem mEnd (a s : List UInt8) (j : Nat) (h : (brest (hrest a ++ s) j).length < 64) (hj : 64 * j ≤ (hrest a).length + s.length) : bst (hst a) (hrest a ++ s) j = hst (a ++ s) ∧ brest (hrest a ++ s) j = hrest (a ++ s) := by
  rw [brest_length, List.length_append, hrest_length] at h
  rw [hrest_length] at hj
  have e : (a ++ s).length / 64 = a.length / 64 + j := by rw [List.length_append]; omega
  have hb := bst_add firstS (a ++ s) (a.length / 64) j
  have h1 := brest_append a s (a.length / 64) (by omega)
  have h2 := bst_append firstS a s (a.length / 64) (by omega)
  constructor
  · unfold hst hrest; rw [e, hb.1, h1, h2]
  · unfold hrest; rw [e, hb.2, h1]
/-- All that was written when k texts are. -/
def acc (all : List UInt8) (ls : List (List UInt8)) : Nat → List UInt8
  | 0 => all
  | k + 1 => acc all ls k ++ ls.getD k []
theorem acc_take (all : List UInt8) (ls : List (List UInt8)) : ∀ k, k ≤ ls.length → acc all ls k = all ++ (ls.take k).flatten
  | 0, _ => by simp [acc]
  | k + 1, h => by
    have e : ls.take (k + 1) = ls.take k ++ [ls[k]'(by omega)] := by rw [List.take_add_one, List.getElem?_eq_getElem (by omega)]; rfl
    rw [acc, acc_take all ls k (by omega), e, List.flatten_append]
    simp [List.getD, show k < ls.length by omega, -List.take_append_getElem]
theorem acc_end (all : List UInt8) (ls : List (List UInt8)) : acc all ls ls.length = all ++ ls.flatten := by rw [acc_take _ _ _ (Nat.le_refl _), List.take_length]
theorem acc_mono (all : List UInt8) (ls : List (List UInt8)) (k : Nat) : ∀ d, (acc all ls k).length ≤ (acc all ls (k + d)).length
  | 0 => Nat.le_refl _
  | d + 1 => by
    have := acc_mono all ls k d
    rw [← Nat.add_assoc, acc, List.length_append]; omega
theorem acc_len (all : List UInt8) (ls : List (List UInt8)) (k : Nat) (h : k ≤ ls.length) : (acc all ls k).length ≤ (all ++ ls.flatten).length := by
  rw [← acc_end]
  have := acc_mono all ls k (ls.length - k)
  rwa [show k + (ls.length - k) = ls.length by omega] at this
theorem acc_len1 (all : List UInt8) (ls : List (List UInt8)) (k : Nat) (h : k < ls.length) : (acc all ls k).length + (ls.getD k []).length ≤ (all ++ ls.flatten).length := by
  have := acc_len all ls (k + 1) h
  rwa [acc, List.length_append] at this
/-- The bits' number, the first j bytes. -/
def lenTo (n : Nat) : Nat → List UInt8
  | 0 => []
  | j + 1 => lenTo n j ++ [UInt8.ofNat (shrU64 ((8 : UInt64) * UInt64.ofNat n) (56 - 8 * j)).toNat]
theorem lenTo_length (n : Nat) : ∀ j, (lenTo n j).length = j
  | 0 => rfl
  | j + 1 => by simp [lenTo, lenTo_length n j]
def pads (n : Nat) : List UInt8 := [128] ++ List.replicate (padZ n) 0 ++ lenTo n 8
theorem pads_length (n : Nat) : (n + (pads n).length) % 64 = 0 := by
  simp [pads, lenTo_length, padZ]; omega
def outTo (v : St) : Nat → List UInt8
  | 0 => []
  | k + 1 => outTo v k ++ hb (v.vals.getD k 0)
theorem outTo_length (v : St) : ∀ k, (outTo v k).length = 4 * k
  | 0 => rfl
  | k + 1 => by rw [outTo, List.length_append, outTo_length v k]; simp [hb]; omega
def sha (s : List UInt8) : List UInt8 := outTo (hst (s ++ pads s.length)) 8
theorem sha_length (s : List UInt8) : (sha s).length = 32 := outTo_length _ _
theorem sumEnd (all : List UInt8) (j : Nat) (h : (brest (hrest all ++ pads all.length) j).length = 0) (hj : 64 * j ≤ (hrest all).length + (pads all.length).length) : bst (hst all) (hrest all ++ pads all.length) j = hst (all ++ pads all.length) :=
  (mEnd all (pads all.length) j (by omega) hj).1
theorem padStep (X : List UInt8) (k : Nat) : X ++ [128] ++ List.replicate k 0 ++ [0] = X ++ [128] ++ List.replicate (k + 1) 0 := by
  rw [List.replicate_succ']; simp
theorem lenStep (X A : List UInt8) (n j : Nat) : X ++ (A ++ lenTo n j) ++ [UInt8.ofNat (shrU64 ((8 : UInt64) * UInt64.ofNat n) (56 - 8 * j)).toNat] = X ++ (A ++ lenTo n (j + 1)) := by
  simp [lenTo]
theorem padAll (all : List UInt8) : (hrest all ++ pads all.length).length % 64 = 0 := by
  have := pads_length all.length
  rw [List.length_append, hrest_length]; omega
end Go.Spec
