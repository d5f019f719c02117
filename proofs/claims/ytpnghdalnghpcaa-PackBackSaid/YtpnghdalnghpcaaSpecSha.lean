/- SHA-256 in plain Lean. -/
import Derived.Test.YtpnghdalnghpcaaOwl11
namespace Go.Spec
open Go.Owl
def rot (x : UInt32) (n : Nat) : UInt32 := shrU32 x n ||| shlU32 x (32 - n)
structure St where
  a : UInt32
  b : UInt32
  c : UInt32
  d : UInt32
  e : UInt32
  f : UInt32
  g : UInt32
  h : UInt32
def St.vals (v : St) : List UInt32 := [v.a, v.b, v.c, v.d, v.e, v.f, v.g, v.h]
/-- Four bytes, the highest first. -/
def be4 (b : List UInt8) (t : Nat) : UInt32 := ((shlU32 (UInt32.ofNat (b.getD (4 * t) 0).toNat) 24 ||| shlU32 (UInt32.ofNat (b.getD (4 * t + 1) 0).toNat) 16) ||| shlU32 (UInt32.ofNat (b.getD (4 * t + 2) 0).toNat) 8) ||| UInt32.ofNat (b.getD (4 * t + 3) 0).toNat
def mix (w : List UInt32) (t : Nat) : UInt32 :=
  ((w.getD (t - 16) 0 + ((rot (w.getD (t - 15) 0) 7 ^^^ rot (w.getD (t - 15) 0) 18) ^^^ shrU32 (w.getD (t - 15) 0) 3)) + w.getD (t - 7) 0) + ((rot (w.getD (t - 2) 0) 17 ^^^ rot (w.getD (t - 2) 0) 19) ^^^ shrU32 (w.getD (t - 2) 0) 10)
/-- The first k numbers W of a block. -/
def wl (b : List UInt8) : Nat → List UInt32
  | 0 => []
  | k + 1 => wl b k ++ [if k < 16 then be4 b k else mix (wl b k) k]
theorem wl_length (b : List UInt8) : ∀ k, (wl b k).length = k
  | 0 => rfl
  | k + 1 => by simp [wl, wl_length b k]
def keyL : List UInt32 := [
  0x428a2f98, 0x71374491, 0xb5c0fbcf, 0xe9b5dba5, 0x3956c25b, 0x59f111f1, 0x923f82a4, 0xab1c5ed5,
  0xd807aa98, 0x12835b01, 0x243185be, 0x550c7dc3, 0x72be5d74, 0x80deb1fe, 0x9bdc06a7, 0xc19bf174,
  0xe49b69c1, 0xefbe4786, 0x0fc19dc6, 0x240ca1cc, 0x2de92c6f, 0x4a7484aa, 0x5cb0a9dc, 0x76f988da,
  0x983e5152, 0xa831c66d, 0xb00327c8, 0xbf597fc7, 0xc6e00bf3, 0xd5a79147, 0x06ca6351, 0x14292967,
  0x27b70a85, 0x2e1b2138, 0x4d2c6dfc, 0x53380d13, 0x650a7354, 0x766a0abb, 0x81c2c92e, 0x92722c85,
  0xa2bfe8a1, 0xa81a664b, 0xc24b8b70, 0xc76c51a3, 0xd192e819, 0xd6990624, 0xf40e3585, 0x106aa070,
  0x19a4c116, 0x1e376c08, 0x2748774c, 0x34b0bcb5, 0x391c0cb3, 0x4ed8aa4a, 0x5b9cca4f, 0x682e6ff3,
  0x748f82ee, 0x78a5636f, 0x84c87814, 0x8cc70208, 0x90befffa, 0xa4506ceb, 0xbef9a3f7, 0xc67178f2]
def firstS : St := ⟨0x6a09e667, 0xbb67ae85, 0x3c6ef372, 0xa54ff53a, 0x510e527f, 0x9b05688c, 0x1f83d9ab, 0x5be0cd19⟩
def t1of (v : St) (k w : UInt32) : UInt32 := (((v.h + ((rot v.e 6 ^^^ rot v.e 11) ^^^ rot v.e 25)) + ((v.e &&& v.f) ^^^ (v.g &&& ~~~v.e))) + k) + w
def t2of (v : St) : UInt32 := ((rot v.a 2 ^^^ rot v.a 13) ^^^ rot v.a 22) + (((v.a &&& v.b) ^^^ (v.a &&& v.c)) ^^^ (v.b &&& v.c))
def stepS (v : St) (k w : UInt32) : St := ⟨t1of v k w + t2of v, v.a, v.b, v.c, v.d + t1of v k w, v.e, v.f, v.g⟩
def rounds (h : St) (w : List UInt32) : Nat → St
  | 0 => h
  | t + 1 => stepS (rounds h w t) (keyL.getD t 0) (w.getD t 0)
def addS (v h : St) : St := ⟨v.a + h.a, v.b + h.b, v.c + h.c, v.d + h.d, v.e + h.e, v.f + h.f, v.g + h.g, v.h + h.h⟩
def blockS (h : St) (b : List UInt8) : St := addS (rounds h (wl b 64) 64) h
def padZ (n : Nat) : Nat := (119 - n % 64) % 64
def hb (x : UInt32) : List UInt8 := [UInt8.ofNat (shrU32 x 24).toNat, UInt8.ofNat (shrU32 x 16).toNat, UInt8.ofNat (shrU32 x 8).toNat, UInt8.ofNat x.toNat]
/-- The array W while it is filled. -/
def wC (b : List UInt8) (k : Nat) : List Value := (wl b k).map vU32 ++ List.replicate (64 - k) (vU32 0)
theorem wC_length (b : List UInt8) (k : Nat) (h : k ≤ 64) : (wC b k).length = 64 := by simp [wC, wl_length]; omega
theorem wC_get (b : List UInt8) {k j : Nat} (h : j < k) : (wC b k)[0 + j]? = some (vU32 ((wl b k).getD j 0)) := by
  rw [Nat.zero_add, wC, List.getElem?_append_left (by simpa [wl_length] using h)]
  simp [List.getD, wl_length, h]
theorem wC_set (b : List UInt8) {k : Nat} (h : k < 64) : wC b (k + 1) = (wC b k).set (0 + k) (vU32 (if k < 16 then be4 b k else mix (wl b k) k)) := by
  rw [Nat.zero_add, wC, wC, List.set_append, List.length_map, wl_length, if_neg (Nat.lt_irrefl k), Nat.sub_self, show 64 - k = (64 - (k + 1)) + 1 by omega, List.replicate_succ, List.set_cons_zero]
  simp [wl]
theorem wC_end (b : List UInt8) : wC b 64 = (wl b 64).map vU32 := by simp [wC]
theorem one_U32 (l : List UInt32) : (l.map vU32).all (·.oneCell') = true := by simp [Value.oneCell']
theorem get_map0 {α β : Type} (f : α → β) {l : List α} {m : Nat} (d : α) (hm : m < l.length) : (l.map f)[0 + m]? = some (f (l.getD m d)) := by rw [Nat.zero_add]; exact get_map f d hm
def addTo (v h : St) (k : Nat) : List UInt32 := List.zipWith (· + ·) (v.vals.take k) (h.vals.take k) ++ v.vals.drop k
theorem addTo_length (v h : St) : ∀ k, k ≤ 8 → (addTo v h k).length = 8 := fun k hk => by simp [addTo, St.vals]; omega
theorem addTo_set (v h : St) : ∀ k, k < 8 → addTo v h (k + 1) = (addTo v h k).set k ((addTo v h k).getD k 0 + h.vals.getD k 0) := fun k hk => by
  rcases (by omega : k = 0 ∨ k = 1 ∨ k = 2 ∨ k = 3 ∨ k = 4 ∨ k = 5 ∨ k = 6 ∨ k = 7) with rfl | rfl | rfl | rfl | rfl | rfl | rfl | rfl <;> rfl
theorem addTo_end (v h : St) : addTo v h 8 = (addS v h).vals := rfl
theorem addTo_map (v h : St) {k : Nat} (hk : k < 8) : (addTo v h (k + 1)).map vU32 = ((addTo v h k).map vU32).set (0 + k) (vU32 ((addTo v h k).getD k 0 + h.vals.getD k 0)) := by
  rw [addTo_set v h k hk, Nat.zero_add, List.map_set]
theorem keyL_length : keyL.length = 64 := rfl
theorem vals_length (h : St) : h.vals.length = 8 := rfl
end Go.Spec
