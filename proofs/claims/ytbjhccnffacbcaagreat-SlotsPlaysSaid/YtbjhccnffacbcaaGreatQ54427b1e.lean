/- General lemmas and walks: SpecInsn, LawInsn, SpecRef4, SpecSha, SpecHash, SpecRef2, SpecRoots, SpecMac, LawSha, SpecPack, SpecDem, SpecSlot, SpecSlot2, SpecSlot3, SpecSlot4, SpecDem0, SpecSlot5, SpecSlot6. No condition but what each theorem names. -/
import Derived.Test.YtbjhccnffacbcaaGreatQe5eb1a5d
import Derived.Test.YtbjhccnffacbcaaGreatQ5ea2df34
import Derived.Test.YtbjhccnffacbcaaGreatQ76ffd70d
/-! from SpecInsn -/
/- What the instructions' functions say, in plain Lean. -/
namespace Go.Spec
open Go.Owl

def le4 (v : UInt32) : List UInt8 := [UInt8.ofNat v.toNat, UInt8.ofNat (shrU32 v 8).toNat, UInt8.ofNat (shrU32 v 16).toNat, UInt8.ofNat (shrU32 v 24).toNat]
theorem le4_length (v : UInt32) : (le4 v).length = 4 := rfl
def getTo (s : List UInt8) : Nat → UInt32
  | 0 => 0
  | k + 1 => getTo s k ||| shlU32 (UInt32.ofNat (s.getD k 0).toNat) (8 * k)
def getE (s : List UInt8) : Nat := if s.length < 1 ∨ 4 < s.length then 2 else 0
def getV (s : List UInt8) : UInt32 := if s.length < 1 ∨ 4 < s.length then 0 else getTo s s.length

end Go.Spec
/-! from LawInsn -/
/- Plain laws of the instructions' bytes. -/
namespace Go.Spec
open Go.Owl

theorem u32_le4 (v : UInt32) : ((0 ||| shlU32 (UInt32.ofNat (UInt8.ofNat v.toNat).toNat) 0 ||| shlU32 (UInt32.ofNat (UInt8.ofNat (shrU32 v 8).toNat).toNat) 8
    ||| shlU32 (UInt32.ofNat (UInt8.ofNat (shrU32 v 16).toNat).toNat) 16) ||| shlU32 (UInt32.ofNat (UInt8.ofNat (shrU32 v 24).toNat).toNat) 24) = v := by
  apply UInt32.toNat_inj.mp
  simp only [shlU32, shrU32, UInt32.toNat_or, UInt32.toNat_ofNat', UInt8.toNat_ofNat', UInt32.toNat_zero]
  have hv := v.toNat_lt
  generalize v.toNat = n at *
  apply Nat.eq_of_testBit_eq
  intro i
  simp only [Nat.testBit_or, Nat.testBit_mod_two_pow, Nat.testBit_shiftLeft, Nat.testBit_shiftRight, Nat.zero_testBit]
  by_cases h32 : i < 32
  · rcases (by omega : i < 8 ∨ (8 ≤ i ∧ i < 16) ∨ (16 ≤ i ∧ i < 24) ∨ 24 ≤ i) with h | h | h | h
    · simp [h, h32, show ¬ 8 ≤ i by omega, show ¬ 16 ≤ i by omega, show ¬ 24 ≤ i by omega]
    · simp [h, h32, show ¬ i < 8 by omega, show i - 8 < 8 by omega, show i - 8 < 32 by omega, show 8 + (i - 8) = i by omega, show ¬ 16 ≤ i by omega, show ¬ 24 ≤ i by omega]
    · simp [h, h32, show ¬ i < 8 by omega, show ¬ i - 8 < 8 by omega, show 8 ≤ i by omega, show i - 16 < 8 by omega, show i - 16 < 32 by omega, show 16 + (i - 16) = i by omega, show ¬ 24 ≤ i by omega]
    · simp [h, h32, show ¬ i < 8 by omega, show ¬ i - 8 < 8 by omega, show 8 ≤ i by omega, show 16 ≤ i by omega, show ¬ i - 16 < 8 by omega, show i - 24 < 8 by omega, show i - 24 < 32 by omega, show 24 + (i - 24) = i by omega]
  · rw [Nat.testBit_lt_two_pow (Nat.lt_of_lt_of_le hv (Nat.pow_le_pow_right (by decide) (by omega : 32 ≤ i)))]
    simp [h32]
theorem getV_le4 (v : UInt32) : getV (le4 v) = v := by
  have := u32_le4 v
  simpa [getV, le4, getTo] using this
end Go.Spec
/-! from SpecRef4 -/
/- What the reference of layer 4 says, in plain Lean, and that it says the same. -/
namespace Go.Spec
open Go.Owl

theorem op_all {p : UInt8 → Bool} (h : ((List.range 256).all fun k => p (UInt8.ofNat k)) = true) (op : UInt8) : p op = true := by
  have := List.all_eq_true.mp h op.toNat (List.mem_range.mpr op.toNat_lt)
  simpa using this
def rV (v : UInt32) : Nat → UInt32
  | 0 => v
  | k + 1 => rV v k / 256
def rB (v : UInt32) : Nat → List UInt8
  | 0 => []
  | k + 1 => rB v k ++ [UInt8.ofNat (rV v k % 256).toNat]
theorem rB_length (v : UInt32) : ∀ k, (rB v k).length = k
  | 0 => rfl
  | k + 1 => by simp [rB, rB_length v k]
theorem rB4 (v : UInt32) : rB v 4 = le4 v := by
  have hv := v.toNat_lt
  simp only [rB, rV, le4, shrU32, List.nil_append, List.cons_append, List.cons.injEq, and_true]
  refine ⟨?_, ?_, ?_, ?_⟩ <;> (apply UInt8.toNat_inj.mp; simp [Nat.shiftRight_eq_div_pow]; try omega)
def gF : List UInt8 → UInt32
  | [] => 0
  | c :: l => 256 * gF l + UInt32.ofNat c.toNat
theorem gF_drop (s : List UInt8) (m : Nat) (h : m < s.length) : gF (s.drop m) = 256 * gF (s.drop (m + 1)) + UInt32.ofNat (s.getD m 0).toNat := by
  rw [List.drop_eq_getElem_cons h]; simp [gF, List.getD, h]
def gFV (s : List UInt8) : UInt32 := if s.length < 1 ∨ 4 < s.length then 0 else gF s
theorem b16 (b : UInt8) : b % 16 = b &&& 15 ∧ b / 16 = shrU8 b 4 := by
  have := op_all (p := fun b => b % 16 == b &&& 15 && b / 16 == shrU8 b 4) (by decide +kernel) b
  simpa using this
end Go.Spec
/-! from SpecSha -/
/- SHA-256 in plain Lean. -/
namespace Go.Spec
open Go.Owl
def rot (x : UInt32) (n : Nat) : UInt32 := shrU32 x n ||| shlU32 x (32 - n)
structure St where
  a : UInt32
  b : UInt32
  c : UInt32
  d : UInt32
  e : UInt32
  f : UInt32
  g : UInt32
  h : UInt32
def St.vals (v : St) : List UInt32 := [v.a, v.b, v.c, v.d, v.e, v.f, v.g, v.h]
/-- Four bytes, the highest first. -/
def be4 (b : List UInt8) (t : Nat) : UInt32 := ((shlU32 (UInt32.ofNat (b.getD (4 * t) 0).toNat) 24 ||| shlU32 (UInt32.ofNat (b.getD (4 * t + 1) 0).toNat) 16) ||| shlU32 (UInt32.ofNat (b.getD (4 * t + 2) 0).toNat) 8) ||| UInt32.ofNat (b.getD (4 * t + 3) 0).toNat
def mix (w : List UInt32) (t : Nat) : UInt32 :=
  ((w.getD (t - 16) 0 + ((rot (w.getD (t - 15) 0) 7 ^^^ rot (w.getD (t - 15) 0) 18) ^^^ shrU32 (w.getD (t - 15) 0) 3)) + w.getD (t - 7) 0) + ((rot (w.getD (t - 2) 0) 17 ^^^ rot (w.getD (t - 2) 0) 19) ^^^ shrU32 (w.getD (t - 2) 0) 10)
/-- The first k numbers W of a block. -/
def wl (b : List UInt8) : Nat → List UInt32
  | 0 => []
  | k + 1 => wl b k ++ [if k < 16 then be4 b k else mix (wl b k) k]
theorem wl_length (b : List UInt8) : ∀ k, (wl b k).length = k
  | 0 => rfl
  | k + 1 => by simp [wl, wl_length b k]
def keyL : List UInt32 := [
  0x428a2f98, 0x71374491, 0xb5c0fbcf, 0xe9b5dba5, 0x3956c25b, 0x59f111f1, 0x923f82a4, 0xab1c5ed5,
  0xd807aa98, 0x12835b01, 0x243185be, 0x550c7dc3, 0x72be5d74, 0x80deb1fe, 0x9bdc06a7, 0xc19bf174,
  0xe49b69c1, 0xefbe4786, 0x0fc19dc6, 0x240ca1cc, 0x2de92c6f, 0x4a7484aa, 0x5cb0a9dc, 0x76f988da,
  0x983e5152, 0xa831c66d, 0xb00327c8, 0xbf597fc7, 0xc6e00bf3, 0xd5a79147, 0x06ca6351, 0x14292967,
  0x27b70a85, 0x2e1b2138, 0x4d2c6dfc, 0x53380d13, 0x650a7354, 0x766a0abb, 0x81c2c92e, 0x92722c85,
  0xa2bfe8a1, 0xa81a664b, 0xc24b8b70, 0xc76c51a3, 0xd192e819, 0xd6990624, 0xf40e3585, 0x106aa070,
  0x19a4c116, 0x1e376c08, 0x2748774c, 0x34b0bcb5, 0x391c0cb3, 0x4ed8aa4a, 0x5b9cca4f, 0x682e6ff3,
  0x748f82ee, 0x78a5636f, 0x84c87814, 0x8cc70208, 0x90befffa, 0xa4506ceb, 0xbef9a3f7, 0xc67178f2]
def firstS : St := ⟨0x6a09e667, 0xbb67ae85, 0x3c6ef372, 0xa54ff53a, 0x510e527f, 0x9b05688c, 0x1f83d9ab, 0x5be0cd19⟩
def t1of (v : St) (k w : UInt32) : UInt32 := (((v.h + ((rot v.e 6 ^^^ rot v.e 11) ^^^ rot v.e 25)) + ((v.e &&& v.f) ^^^ (v.g &&& ~~~v.e))) + k) + w
def t2of (v : St) : UInt32 := ((rot v.a 2 ^^^ rot v.a 13) ^^^ rot v.a 22) + (((v.a &&& v.b) ^^^ (v.a &&& v.c)) ^^^ (v.b &&& v.c))
def stepS (v : St) (k w : UInt32) : St := ⟨t1of v k w + t2of v, v.a, v.b, v.c, v.d + t1of v k w, v.e, v.f, v.g⟩
def rounds (h : St) (w : List UInt32) : Nat → St
  | 0 => h
  | t + 1 => stepS (rounds h w t) (keyL.getD t 0) (w.getD t 0)
def addS (v h : St) : St := ⟨v.a + h.a, v.b + h.b, v.c + h.c, v.d + h.d, v.e + h.e, v.f + h.f, v.g + h.g, v.h + h.h⟩
def blockS (h : St) (b : List UInt8) : St := addS (rounds h (wl b 64) 64) h
def padZ (n : Nat) : Nat := (119 - n % 64) % 64
def hb (x : UInt32) : List UInt8 := [UInt8.ofNat (shrU32 x 24).toNat, UInt8.ofNat (shrU32 x 16).toNat, UInt8.ofNat (shrU32 x 8).toNat, UInt8.ofNat x.toNat]
/-- The array W while it is filled. -/
def wC (b : List UInt8) (k : Nat) : List Value := (wl b k).map vU32 ++ List.replicate (64 - k) (vU32 0)
theorem wC_length (b : List UInt8) (k : Nat) (h : k ≤ 64) : (wC b k).length = 64 := by simp [wC, wl_length]; omega
theorem wC_get (b : List UInt8) {k j : Nat} (h : j < k) : (wC b k)[0 + j]? = some (vU32 ((wl b k).getD j 0)) := by
  rw [Nat.zero_add, wC, List.getElem?_append_left (by simpa [wl_length] using h)]
  simp [List.getD, wl_length, h]
theorem wC_set (b : List UInt8) {k : Nat} (h : k < 64) : wC b (k + 1) = (wC b k).set (0 + k) (vU32 (if k < 16 then be4 b k else mix (wl b k) k)) := by
  rw [Nat.zero_add, wC, wC, List.set_append, List.length_map, wl_length, if_neg (Nat.lt_irrefl k), Nat.sub_self, show 64 - k = (64 - (k + 1)) + 1 by omega, List.replicate_succ, List.set_cons_zero]
  simp [wl]
theorem wC_end (b : List UInt8) : wC b 64 = (wl b 64).map vU32 := by simp [wC]
theorem one_U32 (l : List UInt32) : (l.map vU32).all (·.oneCell') = true := by simp [Value.oneCell']
theorem get_map0 {α β : Type} (f : α → β) {l : List α} {m : Nat} (d : α) (hm : m < l.length) : (l.map f)[0 + m]? = some (f (l.getD m d)) := by rw [Nat.zero_add]; exact get_map f d hm
def addTo (v h : St) (k : Nat) : List UInt32 := List.zipWith (· + ·) (v.vals.take k) (h.vals.take k) ++ v.vals.drop k
theorem addTo_length (v h : St) : ∀ k, k ≤ 8 → (addTo v h k).length = 8 := fun k hk => by simp [addTo, St.vals]; omega
theorem addTo_set (v h : St) : ∀ k, k < 8 → addTo v h (k + 1) = (addTo v h k).set k ((addTo v h k).getD k 0 + h.vals.getD k 0) := fun k hk => by
  rcases (by omega : k = 0 ∨ k = 1 ∨ k = 2 ∨ k = 3 ∨ k = 4 ∨ k = 5 ∨ k = 6 ∨ k = 7) with rfl | rfl | rfl | rfl | rfl | rfl | rfl | rfl <;> rfl
theorem addTo_end (v h : St) : addTo v h 8 = (addS v h).vals := rfl
theorem addTo_map (v h : St) {k : Nat} (hk : k < 8) : (addTo v h (k + 1)).map vU32 = ((addTo v h k).map vU32).set (0 + k) (vU32 ((addTo v h k).getD k 0 + h.vals.getD k 0)) := by
  rw [addTo_set v h k hk, Nat.zero_add, List.map_set]
theorem keyL_length : keyL.length = 64 := rfl
theorem vals_length (h : St) : h.vals.length = 8 := rfl
end Go.Spec
/-! from SpecHash -/
/- A hash by the text that was written to it. -/
namespace Go.Spec
open Go.Owl
/-- j blocks of d, and what is left. -/
def brest (d : List UInt8) : Nat → List UInt8
  | 0 => d
  | j + 1 => (brest d j).drop 64
def bst (h : St) (d : List UInt8) : Nat → St
  | 0 => h
  | j + 1 => blockS (bst h d j) ((brest d j).take 64)
theorem brest_eq (d : List UInt8) : ∀ j, brest d j = d.drop (64 * j)
  | 0 => by simp [brest]
  | j + 1 => by rw [brest, brest_eq d j, List.drop_drop]; congr 1
theorem brest_length (d : List UInt8) (j : Nat) : (brest d j).length = d.length - 64 * j := by rw [brest_eq, List.length_drop]
theorem bst_add (h : St) (d : List UInt8) (i : Nat) : ∀ j, bst h d (i + j) = bst (bst h d i) (brest d i) j ∧ brest d (i + j) = brest (brest d i) j
  | 0 => ⟨rfl, rfl⟩
  | j + 1 => by rw [← Nat.add_assoc, bst, brest, (bst_add h d i j).1, (bst_add h d i j).2]; exact ⟨rfl, rfl⟩
theorem brest_append (d e : List UInt8) (j : Nat) (hl : 64 * j ≤ d.length) : brest (d ++ e) j = brest d j ++ e := by
  rw [brest_eq, brest_eq, List.drop_append_of_le_length hl]
theorem bst_append (h : St) (d e : List UInt8) : ∀ j, 64 * j ≤ d.length → bst h (d ++ e) j = bst h d j
  | 0, _ => rfl
  | j + 1, hl => by
    rw [bst, bst, bst_append h d e j (by omega), brest_append d e j (by omega), List.take_append_of_le_length (by rw [brest_length]; omega)]
def hst (all : List UInt8) : St := bst firstS all (all.length / 64)
def hrest (all : List UInt8) : List UInt8 := brest all (all.length / 64)
theorem hrest_length (all : List UInt8) : (hrest all).length = all.length % 64 := by unfold hrest; rw [brest_length]; omega
theorem mEnd (a s : List UInt8) (j : Nat) (h : (brest (hrest a ++ s) j).length < 64) (hj : 64 * j ≤ (hrest a).length + s.length) : bst (hst a) (hrest a ++ s) j = hst (a ++ s) ∧ brest (hrest a ++ s) j = hrest (a ++ s) := by
  rw [brest_length, List.length_append, hrest_length] at h
  rw [hrest_length] at hj
  have e : (a ++ s).length / 64 = a.length / 64 + j := by rw [List.length_append]; omega
  have hb := bst_add firstS (a ++ s) (a.length / 64) j
  have h1 := brest_append a s (a.length / 64) (by omega)
  have h2 := bst_append firstS a s (a.length / 64) (by omega)
  constructor
  · unfold hst hrest; rw [e, hb.1, h1, h2]
  · unfold hrest; rw [e, hb.2, h1]
/-- All that was written when k texts are. -/
def acc (all : List UInt8) (ls : List (List UInt8)) : Nat → List UInt8
  | 0 => all
  | k + 1 => acc all ls k ++ ls.getD k []
theorem acc_take (all : List UInt8) (ls : List (List UInt8)) : ∀ k, k ≤ ls.length → acc all ls k = all ++ (ls.take k).flatten
  | 0, _ => by simp [acc]
  | k + 1, h => by
    have e : ls.take (k + 1) = ls.take k ++ [ls[k]'(by omega)] := by rw [List.take_add_one, List.getElem?_eq_getElem (by omega)]; rfl
    rw [acc, acc_take all ls k (by omega), e, List.flatten_append]
    simp [List.getD, show k < ls.length by omega, -List.take_append_getElem]
theorem acc_end (all : List UInt8) (ls : List (List UInt8)) : acc all ls ls.length = all ++ ls.flatten := by rw [acc_take _ _ _ (Nat.le_refl _), List.take_length]
theorem acc_mono (all : List UInt8) (ls : List (List UInt8)) (k : Nat) : ∀ d, (acc all ls k).length ≤ (acc all ls (k + d)).length
  | 0 => Nat.le_refl _
  | d + 1 => by
    have := acc_mono all ls k d
    rw [← Nat.add_assoc, acc, List.length_append]; omega
theorem acc_len (all : List UInt8) (ls : List (List UInt8)) (k : Nat) (h : k ≤ ls.length) : (acc all ls k).length ≤ (all ++ ls.flatten).length := by
  rw [← acc_end]
  have := acc_mono all ls k (ls.length - k)
  rwa [show k + (ls.length - k) = ls.length by omega] at this
theorem acc_len1 (all : List UInt8) (ls : List (List UInt8)) (k : Nat) (h : k < ls.length) : (acc all ls k).length + (ls.getD k []).length ≤ (all ++ ls.flatten).length := by
  have := acc_len all ls (k + 1) h
  rwa [acc, List.length_append] at this
/-- The bits' number, the first j bytes. -/
def lenTo (n : Nat) : Nat → List UInt8
  | 0 => []
  | j + 1 => lenTo n j ++ [UInt8.ofNat (shrU64 ((8 : UInt64) * UInt64.ofNat n) (56 - 8 * j)).toNat]
theorem lenTo_length (n : Nat) : ∀ j, (lenTo n j).length = j
  | 0 => rfl
  | j + 1 => by simp [lenTo, lenTo_length n j]
def pads (n : Nat) : List UInt8 := [128] ++ List.replicate (padZ n) 0 ++ lenTo n 8
theorem pads_length (n : Nat) : (n + (pads n).length) % 64 = 0 := by
  simp [pads, lenTo_length, padZ]; omega
def outTo (v : St) : Nat → List UInt8
  | 0 => []
  | k + 1 => outTo v k ++ hb (v.vals.getD k 0)
theorem outTo_length (v : St) : ∀ k, (outTo v k).length = 4 * k
  | 0 => rfl
  | k + 1 => by rw [outTo, List.length_append, outTo_length v k]; simp [hb]; omega
def sha (s : List UInt8) : List UInt8 := outTo (hst (s ++ pads s.length)) 8
theorem sha_length (s : List UInt8) : (sha s).length = 32 := outTo_length _ _
theorem sumEnd (all : List UInt8) (j : Nat) (h : (brest (hrest all ++ pads all.length) j).length = 0) (hj : 64 * j ≤ (hrest all).length + (pads all.length).length) : bst (hst all) (hrest all ++ pads all.length) j = hst (all ++ pads all.length) :=
  (mEnd all (pads all.length) j (by omega) hj).1
theorem padStep (X : List UInt8) (k : Nat) : X ++ [128] ++ List.replicate k 0 ++ [0] = X ++ [128] ++ List.replicate (k + 1) 0 := by
  rw [List.replicate_succ']; simp
theorem lenStep (X A : List UInt8) (n j : Nat) : X ++ (A ++ lenTo n j) ++ [UInt8.ofNat (shrU64 ((8 : UInt64) * UInt64.ofNat n) (56 - 8 * j)).toNat] = X ++ (A ++ lenTo n (j + 1)) := by
  simp [lenTo]
theorem padAll (all : List UInt8) : (hrest all ++ pads all.length).length % 64 = 0 := by
  have := pads_length all.length
  rw [List.length_append, hrest_length]; omega
end Go.Spec
/-! from SpecRef2 -/
/- The reference's sums: numbers as roots. -/
namespace Go.Spec
open Go.Owl
def mulV (ai bj o : UInt32) (c : UInt64) : UInt64 := (UInt64.ofNat ai.toNat * UInt64.ofNat bj.toNat + UInt64.ofNat o.toNat) + c
def mulIn (ai : UInt32) (b : List UInt32) (i : Nat) (out : List UInt32) : Nat → List UInt32 × UInt64
  | 0 => (out, 0)
  | j + 1 =>
    ((mulIn ai b i out j).1.set (i + j) (UInt32.ofNat (mulV ai (b.getD j 0) ((mulIn ai b i out j).1.getD (i + j) 0) (mulIn ai b i out j).2 % (4294967296 : UInt64)).toNat),
      shrU64 (mulV ai (b.getD j 0) ((mulIn ai b i out j).1.getD (i + j) 0) (mulIn ai b i out j).2) 32)
def mulOut (a b : List UInt32) : Nat → List UInt32
  | 0 => List.replicate (a.length + b.length) 0
  | i + 1 => (mulIn (a.getD i 0) b i (mulOut a b i) b.length).1.set (i + b.length) (UInt32.ofNat (mulIn (a.getD i 0) b i (mulOut a b i) b.length).2.toNat)
def mulL (a b : List UInt32) : List UInt32 := mulOut a b a.length
theorem mulIn_length (ai : UInt32) (b : List UInt32) (i : Nat) (out : List UInt32) : ∀ j, (mulIn ai b i out j).1.length = out.length
  | 0 => rfl
  | j + 1 => by rw [mulIn, List.length_set, mulIn_length ai b i out j]
theorem mulOut_length (a b : List UInt32) : ∀ i, (mulOut a b i).length = a.length + b.length
  | 0 => by simp [mulOut]
  | i + 1 => by rw [mulOut, List.length_set, mulIn_length, mulOut_length a b i]
/-- Some number of a from place k on is not 0. -/
def anyN (a : List UInt32) (k m : Nat) : Bool := ((a.drop k).take m).any (fun x => decide (x ≠ 0))
def aboveB (a : List UInt32) (p : UInt32) (n : Nat) : Bool :=
  anyN a (n + 1) (a.length - (n + 1)) || (if a.length ≤ n ∨ a.getD n 0 ≠ p then decide (a.length > n) && decide (a.getD n 0 > p) else anyN a 0 n)
theorem anyN_out (a : List UInt32) (k m i : Nat) (h1 : k ≤ i) (h2 : i < k + m) (h3 : i < a.length) (h : a.getD i 0 ≠ 0) : anyN a k m = true := by
  unfold anyN
  rw [List.any_eq_true]
  refine ⟨a.getD i 0, ?_, by simpa using h⟩
  rw [List.mem_iff_getElem?]
  refine ⟨i - k, ?_⟩
  rw [List.getElem?_take, if_pos (by omega), List.getElem?_drop, show k + (i - k) = i by omega]
  simp [List.getD, h3]
theorem anyN_no (a : List UInt32) (k m : Nat) (h : ∀ i, k ≤ i → i < k + m → i < a.length → a.getD i 0 = 0) : anyN a k m = false := by
  unfold anyN
  rw [List.any_eq_false]
  intro x hx
  rw [List.mem_iff_getElem?] at hx
  obtain ⟨j, hj⟩ := hx
  rw [List.getElem?_take] at hj
  split at hj
  · rw [List.getElem?_drop] at hj
    have hl : k + j < a.length := (List.getElem?_eq_some_iff.1 hj).1
    have := h (k + j) (by omega) (by omega) hl
    rw [List.getD, hj] at this
    simpa using this
  · cases hj
def powTo (one : List UInt32) : Nat → List UInt32
  | 0 => one
  | k + 1 => mulL (powTo one k) one
def oneOf (y : UInt64) : List UInt32 := [UInt32.ofNat (y % (4294967296 : UInt64)).toNat, UInt32.ofNat (shrU64 y 32).toNat]
def rootY (x : UInt64) (j : Nat) : UInt64 := x + shlU64 1 (UInt64.ofNat (36 - j)).toNat
def rootTo (p : UInt32) (n : Nat) : Nat → UInt64
  | 0 => 0
  | j + 1 => if (!aboveB (powTo (oneOf (rootY (rootTo p n j) j)) (n - 1)) p n) = true then rootY (rootTo p n j) j else rootTo p n j
def rootV (p : UInt32) (n : Nat) : UInt32 := UInt32.ofNat (rootTo p n 37 % (4294967296 : UInt64)).toNat
/-- Is a number divided by none of the first k of a list? -/
def isPr (l : List UInt32) (p : UInt32) : Nat → Bool
  | 0 => true
  | k + 1 => isPr l p k && decide (p % l.getD k 0 ≠ 0)
def prL : Nat → List UInt32
  | 0 => []
  | j + 1 => if isPr (prL j) (2 + UInt32.ofNat j) (prL j).length = true then prL j ++ [2 + UInt32.ofNat j] else prL j
theorem prL_mono (j : Nat) : ∀ d, ∃ t, prL (j + d) = prL j ++ t
  | 0 => ⟨[], by simp⟩
  | d + 1 => by
    obtain ⟨t, ht⟩ := prL_mono j d
    rw [← Nat.add_assoc, prL]
    split
    · exact ⟨t ++ [2 + UInt32.ofNat (j + d)], by rw [ht, List.append_assoc]⟩
    · exact ⟨t, ht⟩
theorem prL_310 : (prL 310).length = 64 := by decide +kernel
theorem prL_lt (j : Nat) (h : (prL j).length < 64) : j < 310 := by
  rcases Nat.lt_or_ge j 310 with h1 | h1
  · exact h1
  · obtain ⟨t, ht⟩ := prL_mono 310 (j - 310)
    rw [show 310 + (j - 310) = j by omega] at ht
    rw [ht, List.length_append, prL_310] at h; omega
theorem prL_pre (j : Nat) (h : j ≤ 310) : prL j = (prL 310).take (prL j).length := by
  obtain ⟨t, ht⟩ := prL_mono j (310 - j)
  rw [show j + (310 - j) = 310 by omega] at ht
  rw [ht, List.take_left']
  rfl
theorem prL_le1 (j : Nat) : (prL (j + 1)).length ≤ (prL j).length + 1 := by
  rw [prL]; split <;> simp
def prs (many : Nat) : List UInt32 := (prL 310).take many
def rootsTo (many n : Nat) : Nat → List UInt32
  | 0 => []
  | k + 1 => rootsTo many n k ++ [rootV ((prs many).getD k 0) n]
theorem u64_nat {m : Nat} (h : m < 2 ^ 64) : (UInt64.ofNat m).toNat = m := by rw [UInt64.toNat_ofNat']; exact Nat.mod_eq_of_lt h
theorem u64_32 {m : Nat} (h : m ≤ 32) : ((32 : UInt64) - UInt64.ofNat m).toNat = 32 - m := by
  rw [UInt64.toNat_sub_of_le, u64_nat (by omega)]
  · rfl
  · rw [UInt64.le_iff_toNat_le, u64_nat (by omega)]; exact h
theorem aboveB_1 {a : List UInt32} {p : UInt32} {n i : Nat} (h1 : n < i) (h2 : i < a.length) (h : a.getD i 0 ≠ 0) : aboveB a p n = true := by
  rw [aboveB, anyN_out a (n + 1) _ i (by omega) (by omega) h2 h, Bool.true_or]
theorem aboveB_2 {a : List UInt32} {p : UInt32} {n : Nat} (hz : anyN a (n + 1) (a.length - (n + 1)) = false) (hl : n < a.length) (h : a.getD n 0 ≠ p) : aboveB a p n = decide (a.getD n 0 > p) := by
  rw [aboveB, hz, Bool.false_or, if_pos (.inr h)]; simp [hl]
theorem aboveB_3 {a : List UInt32} {p : UInt32} {n : Nat} (hz : anyN a (n + 1) (a.length - (n + 1)) = false) (hl : n < a.length) (h : a.getD n 0 = p) : aboveB a p n = anyN a 0 n := by
  rw [aboveB, hz, Bool.false_or, if_neg (fun h' => h'.elim (fun h1 => by omega) (fun h2 => h2 h))]
theorem prL_nz : ∀ x ∈ prL 310, x ≠ 0 := by decide +kernel
theorem prL_gnz (j : Nat) (hj : j ≤ 310) {k : Nat} (hk : k < (prL j).length) : (prL j).getD k 0 ≠ 0 := by
  obtain ⟨t, ht⟩ := prL_mono j (310 - j)
  rw [show j + (310 - j) = 310 by omega] at ht
  refine prL_nz _ ?_
  rw [ht, List.mem_append]; left
  rw [List.getD, List.getElem?_eq_getElem hk]
  exact List.getElem_mem hk
theorem u32_next (j : Nat) : (2 : UInt32) + UInt32.ofNat j + 1 = 2 + UInt32.ofNat (j + 1) := by
  rw [UInt32.ofNat_add, UInt32.add_assoc]; rfl
theorem prL_end (j : Nat) (h : j ≤ 310) {n : Nat} (hn : (prL j).length = n) : prL j = prs n := by
  have := prL_pre j h
  rw [hn] at this; exact this
theorem refStep (v : St) (k w : UInt32) : [(v.h + ((rot v.e 6 ^^^ rot v.e 11) ^^^ rot v.e 25) + ((v.e &&& v.f) ^^^ (~~~v.e &&& v.g)) + k + w) + (((rot v.a 2 ^^^ rot v.a 13) ^^^ rot v.a 22) + (((v.a &&& v.b) ^^^ (v.a &&& v.c)) ^^^ (v.b &&& v.c))), v.a, v.b, v.c,
    v.d + (v.h + ((rot v.e 6 ^^^ rot v.e 11) ^^^ rot v.e 25) + ((v.e &&& v.f) ^^^ (~~~v.e &&& v.g)) + k + w), v.e, v.f, v.g] = (stepS v k w).vals := by
  rw [UInt32.and_comm (~~~v.e) v.g]; rfl
theorem wl_lo (b : List UInt8) {j : Nat} (h : j < 16) : wl b j ++ [be4 b j] = wl b (j + 1) := by rw [wl, if_pos h]
theorem wl_hi (b : List UInt8) {t : Nat} (h : ¬ t < 16) : wl b t ++ [mix (wl b t) t] = wl b (t + 1) := by rw [wl, if_neg h]
theorem fillStep (X : List UInt8) (k : Nat) : X ++ [128] ++ List.replicate k 0 ++ [0] = X ++ [128] ++ List.replicate (k + 1) 0 := padStep X k
theorem lenStepW (X A : List UInt8) (n j : Nat) (h : j < 8) : X ++ (A ++ lenTo n j) ++ [UInt8.ofNat (shrU64 ((8 : UInt64) * UInt64.ofNat n) (UInt64.ofNat (56 - 8 * j)).toNat).toNat] = X ++ (A ++ lenTo n (j + 1)) := by
  rw [u64_nat (by omega)]; exact lenStep X A n j
end Go.Spec
/-! from SpecRoots -/
/- The roots of the first primes are the numbers. -/
namespace Go.Spec
theorem roots8 : rootsTo 8 2 8 = firstS.vals := by decide +kernel
theorem roots64 : rootsTo 64 3 64 = keyL := by decide +kernel
end Go.Spec
/-! from SpecMac -/
/- Sums that need a key, in plain Lean. -/
namespace Go.Spec
open Go.Owl
def keyB (key : List UInt8) : List UInt8 := if key.length > 64 then sha key else key
def blockM (key : List UInt8) : List UInt8 := keyB key ++ List.replicate (64 - (keyB key).length) 0
theorem keyB_le (key : List UInt8) : (keyB key).length ≤ 64 := by
  unfold keyB; split
  · rw [sha_length]; decide
  · omega
theorem blockM_length (key : List UInt8) : (blockM key).length = 64 := by
  have := keyB_le key
  unfold blockM; rw [List.length_append, List.length_replicate]; omega
def xorL (s : List UInt8) (c : UInt8) : List UInt8 := s.map (fun x => x ^^^ c)
theorem xorL_length (s : List UInt8) (c : UInt8) : (xorL s c).length = s.length := by simp [xorL]
def xorTo (s : List UInt8) (c : UInt8) (k : Nat) : List UInt8 := xorL (s.take k) c ++ s.drop k
theorem xorTo_get (s : List UInt8) (c : UInt8) {k : Nat} (h : k < s.length) : (xorTo s c k).getD k 0 = s.getD k 0 := by
  rw [xorTo, List.getD, List.getElem?_append_right (by rw [xorL_length, List.length_take]; omega), xorL_length, List.length_take, List.getElem?_drop, List.getD]
  congr 2; omega
theorem xorTo_step (s : List UInt8) (c : UInt8) {k : Nat} (h : k < s.length) : (xorTo s c k).set k ((xorTo s c k).getD k 0 ^^^ c) = xorTo s c (k + 1) := by
  rw [xorTo_get s c h]
  have e : s.take (k + 1) = s.take k ++ [s[k]] := by rw [List.take_add_one, List.getElem?_eq_getElem h]; rfl
  have e2 : s.drop k = s[k] :: s.drop (k + 1) := List.drop_eq_getElem_cons h
  have e3 : s.getD k 0 = s[k] := by simp [List.getD, h]
  have hl : (xorL (s.take k) c).length = k := by rw [xorL_length, List.length_take]; omega
  rw [xorTo, xorTo, e, e2, List.set_append_right _ _ (by omega), hl, Nat.sub_self, List.set_cons_zero, e3]
  simp [xorL, -List.take_append_getElem]
theorem xorTo_end (s : List UInt8) (c : UInt8) : xorTo s c s.length = xorL s c := by simp [xorTo]
def withTo (s : List UInt8) (c : UInt8) : Nat → List UInt8
  | 0 => []
  | k + 1 => withTo s c k ++ [s.getD k 0 ^^^ c]
theorem withTo_eq (s : List UInt8) (c : UInt8) : ∀ k, k ≤ s.length → withTo s c k = xorL (s.take k) c
  | 0, _ => by simp [withTo, xorL]
  | k + 1, h => by
    have e : s.take (k + 1) = s.take k ++ [s[k]] := by rw [List.take_add_one, List.getElem?_eq_getElem (by omega)]; rfl
    rw [withTo, withTo_eq s c k (by omega), e]
    simp [xorL, List.getD, show k < s.length by omega, -List.take_append_getElem]
theorem withTo_end (s : List UInt8) (c : UInt8) : withTo s c s.length = xorL s c := by rw [withTo_eq s c _ (Nat.le_refl _), List.take_length]
def mac (key text : List UInt8) : List UInt8 := sha (xorL (blockM key) 92 ++ sha (xorL (blockM key) 54 ++ text))
theorem mac_length (key text : List UInt8) : (mac key text).length = 32 := sha_length _
end Go.Spec
/-! from LawSha -/
/- Texts, some of a list at a time. -/
namespace Go.Spec
end Go.Spec
/-! from SpecPack -/
/- Numbers, texts, lists as bytes, and readers of them, in plain Lean. -/
namespace Go.Spec
open Go.Owl
/-- The number of bytes, the lowest first. -/
def natLE : List UInt8 → Nat
  | [] => 0
  | c :: l => c.toNat + 256 * natLE l
theorem natLE_lt : ∀ l : List UInt8, natLE l < 256 ^ l.length
  | [] => by simp [natLE]
  | c :: l => by
    have := natLE_lt l; have := c.toNat_lt
    rw [natLE, List.length_cons, Nat.pow_succ]; omega
theorem natLE_snoc (c : UInt8) : ∀ l : List UInt8, natLE (l ++ [c]) = natLE l + 256 ^ l.length * c.toNat
  | [] => by simp [natLE]
  | d :: l => by rw [List.cons_append, natLE, natLE_snoc c l, natLE, List.length_cons, Nat.pow_succ, Nat.mul_add]; rw [Nat.mul_comm (256 ^ l.length) 256, Nat.mul_assoc]; omega
theorem gF_nat : ∀ l : List UInt8, l.length ≤ 4 → (gF l).toNat = natLE l
  | [], _ => rfl
  | c :: l, h => by
    have ih := gF_nat l (by simp at h; omega)
    have hb := natLE_lt (c :: l)
    have hc := c.toNat_lt
    have h4 : (256 : Nat) ^ (c :: l).length ≤ 256 ^ 4 := Nat.pow_le_pow_right (by decide) h
    rw [natLE] at hb ⊢
    rw [gF, UInt32.toNat_add, UInt32.toNat_mul, ih, UInt32.toNat_ofNat']
    show (256 * natLE l % 2 ^ 32 + c.toNat % 2 ^ 32) % 2 ^ 32 = _
    omega
theorem getTo_nat (s : List UInt8) : ∀ k, k ≤ s.length → k ≤ 4 → (getTo s k).toNat = natLE (s.take k)
  | 0, _, _ => by simp [getTo, natLE]
  | k + 1, h, h4 => by
    have ih := getTo_nat s k (by omega) (by omega)
    have hk : k < s.length := by omega
    have e : s.take (k + 1) = s.take k ++ [s[k]] := by rw [List.take_add_one, List.getElem?_eq_getElem hk]; rfl
    have hl : (s.take k).length = k := by rw [List.length_take]; omega
    have hb := natLE_lt (s.take k)
    rw [hl] at hb
    have hg : s.getD k 0 = s[k] := by simp [List.getD, hk]
    rw [e, natLE_snoc, hl, getTo, UInt32.toNat_or, ih, hg]
    have hc := (s[k]).toNat_lt
    generalize s[k] = c at *
    have e2 : (shlU32 (UInt32.ofNat c.toNat) (8 * k)).toNat = c.toNat <<< (8 * k) := by
      rw [shlU32, UInt32.toNat_ofNat', UInt32.toNat_ofNat', Nat.mod_eq_of_lt (by omega : c.toNat < 2 ^ 32)]
      refine Nat.mod_eq_of_lt ?_
      rw [Nat.shiftLeft_eq]
      calc c.toNat * 2 ^ (8 * k) < 2 ^ 8 * 2 ^ (8 * k) := Nat.mul_lt_mul_of_pos_right hc (Nat.two_pow_pos _)
        _ = 2 ^ (8 + 8 * k) := (Nat.pow_add 2 8 (8 * k)).symm
        _ ≤ 2 ^ 32 := Nat.pow_le_pow_right (by decide) (by omega)
    rw [e2]
    have e3 : (256 : Nat) ^ k = 2 ^ (8 * k) := by rw [Nat.pow_mul]
    rw [e3] at hb ⊢
    rw [Nat.or_comm, ← Nat.shiftLeft_add_eq_or_of_lt hb, Nat.shiftLeft_eq, Nat.mul_comm (2 ^ (8 * k))]
    omega
theorem getV_nat {s : List UInt8} (h1 : 1 ≤ s.length) (h4 : s.length ≤ 4) : (getV s).toNat = natLE s := by
  rw [getV, if_neg (by omega), getTo_nat s _ (Nat.le_refl _) h4, List.take_length]
theorem gFV_getV (s : List UInt8) : gFV s = getV s := by
  by_cases h : s.length < 1 ∨ 4 < s.length
  · rw [gFV, getV, if_pos h, if_pos h]
  · apply UInt32.toNat_inj.1
    rw [getV_nat (by omega) (by omega), gFV, if_neg h, gF_nat s (by omega)]
structure Rd where
  s : List UInt8
  at_ : Nat
  f : Nat
  h : at_ ≤ s.length
def Rd.rest (r : Rd) : List UInt8 := r.s.drop r.at_
def Rd.bad (r : Rd) (e : Nat) : Rd := ⟨r.s, r.at_, e, r.h⟩
def Rd.on (r : Rd) (k : Nat) (hk : ¬ k > r.s.length - r.at_) : Rd := ⟨r.s, r.at_ + k, r.f, by have := r.h; omega⟩
/-- The next n bytes, of a reader that is not spoilt. -/
def rawR (r : Rd) (n : Nat) : (List UInt8 × Nat) × Rd := if h : n > r.s.length - r.at_ then (([], 6), r.bad 6) else ((r.rest.take n, 0), r.on n h)
def takeR (r : Rd) (n : Int) : (List UInt8 × Nat) × Rd := if r.f ≠ 0 then (([], r.f), r) else if n < 0 then (([], 2), r.bad 2) else rawR r n.toNat
def numR (r : Rd) (n : Int) : (UInt32 × Nat) × Rd :=
  if r.f ≠ 0 then ((0, r.f), r) else if n < 1 ∨ n > 4 then ((0, 2), r.bad 2) else if (rawR r n.toNat).1.2 ≠ 0 then ((0, (rawR r n.toNat).1.2), (rawR r n.toNat).2) else ((getV (rawR r n.toNat).1.1, 0), (rawR r n.toNat).2)
def textR (r : Rd) : (List UInt8 × Nat) × Rd :=
  if (numR r 2).1.2 ≠ 0 then (([], (numR r 2).1.2), (numR r 2).2)
  else if (rawR (numR r 2).2 (numR r 2).1.1.toNat).1.2 ≠ 0 then ((rawR (numR r 2).2 (numR r 2).1.1.toNat).1, ⟨r.s, r.at_, (rawR (numR r 2).2 (numR r 2).1.1.toNat).2.f, r.h⟩)
  else rawR (numR r 2).2 (numR r 2).1.1.toNat
/-- k texts; the first error. -/
def txR (r : Rd) : Nat → Rd
  | 0 => r
  | k + 1 => (textR (txR r k)).2
def txL (r : Rd) : Nat → List (List UInt8)
  | 0 => []
  | k + 1 => txL r k ++ [(textR (txR r k)).1.1]
/-- The first of n texts that fails. -/
def txBad (r : Rd) : Nat → Option Nat
  | 0 => none
  | k + 1 => match txBad r k with
    | some j => some j
    | none => if (textR (txR r k)).1.2 ≠ 0 then some k else none
def textsR (r : Rd) : (List (List UInt8) × Nat) × Rd :=
  if (numR r 2).1.2 ≠ 0 then (([], (numR r 2).1.2), (numR r 2).2)
  else if (numR r 2).1.1 > 4096 then (([], 7), r.bad 7)
  else match txBad (numR r 2).2 (numR r 2).1.1.toNat with
    | some j => (([], (textR (txR (numR r 2).2 j)).1.2), ⟨r.s, r.at_, (textR (txR (numR r 2).2 j)).2.f, r.h⟩)
    | none => ((txL (numR r 2).2 (numR r 2).1.1.toNat, 0), txR (numR r 2).2 (numR r 2).1.1.toNat)
theorem rawR_1 {r : Rd} {n : Nat} (h : n > r.s.length - r.at_) : rawR r n = (([], 6), r.bad 6) := by unfold rawR; rw [dif_pos h]
theorem rawR_2 {r : Rd} {n : Nat} (h : ¬ n > r.s.length - r.at_) : rawR r n = ((r.rest.take n, 0), r.on n h) := by unfold rawR; rw [dif_neg h]
def Like (a b : Rd) : Prop := a.rest = b.rest ∧ a.f = b.f
theorem Like.left {a b : Rd} (h : Like a b) : a.s.length - a.at_ = b.s.length - b.at_ := by
  have := congrArg List.length h.1
  rwa [Rd.rest, Rd.rest, List.length_drop, List.length_drop] at this
theorem Like.bad {a b : Rd} (h : Like a b) (e : Nat) : Like (a.bad e) (b.bad e) := ⟨h.1, rfl⟩
theorem Like.raw {a b : Rd} (h : Like a b) (n : Nat) : (rawR a n).1 = (rawR b n).1 ∧ Like (rawR a n).2 (rawR b n).2 := by
  by_cases hn : n > a.s.length - a.at_
  · rw [rawR_1 hn, rawR_1 (by rw [← h.left]; exact hn)]
    exact ⟨rfl, h.bad 6⟩
  · rw [rawR_2 hn, rawR_2 (by rw [← h.left]; exact hn)]
    refine ⟨by rw [h.1], ?_, h.2⟩
    have := congrArg (List.drop n) h.1
    rwa [Rd.rest, Rd.rest, List.drop_drop, List.drop_drop] at this
theorem Like.take {a b : Rd} (h : Like a b) (n : Int) : (takeR a n).1 = (takeR b n).1 ∧ Like (takeR a n).2 (takeR b n).2 := by
  unfold takeR
  rw [h.2]
  split
  · exact ⟨rfl, h⟩
  · split
    · exact ⟨rfl, h.bad 2⟩
    · exact h.raw _
theorem Like.num {a b : Rd} (h : Like a b) (n : Int) : (numR a n).1 = (numR b n).1 ∧ Like (numR a n).2 (numR b n).2 := by
  unfold numR
  rw [h.2, (h.raw _).1]
  split
  · exact ⟨rfl, h⟩
  · split
    · exact ⟨rfl, h.bad 2⟩
    · split
      · exact ⟨rfl, (h.raw _).2⟩
      · exact ⟨rfl, (h.raw _).2⟩
theorem Like.text {a b : Rd} (h : Like a b) : (textR a).1 = (textR b).1 ∧ Like (textR a).2 (textR b).2 := by
  have h1 := h.num 2
  have h2 := h1.2.raw (numR b 2).1.1.toNat
  unfold textR
  rw [h1.1, h2.1]
  split
  · exact ⟨rfl, h1.2⟩
  · split
    · exact ⟨rfl, h.1, h2.2.2⟩
    · exact h2
theorem Like.tx {a b : Rd} (h : Like a b) : ∀ k, txL a k = txL b k ∧ Like (txR a k) (txR b k)
  | 0 => ⟨rfl, h⟩
  | k + 1 => by
    have ih := h.tx k
    have h1 := ih.2.text
    exact ⟨by rw [txL, txL, ih.1, h1.1], h1.2⟩
theorem Like.txBad {a b : Rd} (h : Like a b) : ∀ k, Spec.txBad a k = Spec.txBad b k
  | 0 => rfl
  | k + 1 => by rw [Spec.txBad, Spec.txBad, h.txBad k, ((h.tx k).2.text).1]
theorem Like.texts {a b : Rd} (h : Like a b) : (textsR a).1 = (textsR b).1 ∧ Like (textsR a).2 (textsR b).2 := by
  have h1 := h.num 2
  unfold textsR
  rw [h1.1, h1.2.txBad]
  split
  · exact ⟨rfl, h1.2⟩
  · split
    · exact ⟨rfl, h.bad 7⟩
    · split
      · rename_i j _
        have h3 := ((h1.2.tx j).2.text)
        exact ⟨by rw [h3.1], h.1, h3.2.2⟩
      · exact ⟨by rw [(h1.2.tx _).1], (h1.2.tx _).2⟩
structure Stp where
  d : Int
  n : Int
def Stp.zero : Stp := ⟨0, 0⟩
end Go.Spec
/-! from SpecDem -/
/- Manifests: which may be. Plain Lean. -/
namespace Go.Owl
end Go.Owl
namespace Go.Spec
open Go.Owl
structure Xt where
  id : UInt32
  bl : UInt32
deriving DecidableEq
def Xt.zero : Xt := ⟨0, 0⟩
structure Sg where
  a : UInt32
  p : UInt8
  b : List UInt8
deriving DecidableEq
def Sg.zero : Sg := ⟨0, 0, []⟩
section
variable {α : Type} {p : α → Bool} {l : List α} {d : α} {k : Nat} {r : α → α → Bool}
/-- The first that is so. -/
def fidx (p : α → Bool) (l : List α) : Int := match l.findIdx? p with
  | some k => (k : Int)
  | none => -1
theorem getD_at (h : k < l.length) : l.getD k d = l[k] := by rw [List.getD, List.getElem?_eq_getElem h]; rfl
theorem fidx_no (h : ∀ j, j < l.length → p (l.getD j d) = false) : fidx p l = -1 := by
  have e : l.findIdx? p = none := by
    rw [List.findIdx?_eq_none_iff]
    intro x hx
    obtain ⟨j, hj, rfl⟩ := List.getElem_of_mem hx
    have h1 := h j hj
    rw [getD_at hj] at h1
    exact h1
  rw [fidx, e]
theorem fidx_any : decide (fidx p l ≥ 0) = l.any p := by
  rw [← List.findIdx?_isSome, fidx]
  cases l.findIdx? p with
  | none => rfl
  | some k => simp
theorem any_no (h : ∀ j, j < l.length → p (l.getD j d) = false) : l.any p = false := by
  rw [← fidx_any, fidx_no h]; rfl
theorem any_yes (hk : k < l.length) (hp : p (l.getD k d) = true) : l.any p = true := by
  rw [List.any_eq_true]
  exact ⟨l[k], List.getElem_mem hk, by rw [getD_at hk] at hp; exact hp⟩
end
end Go.Spec
/-! from SpecSlot -/
/- Slots with versions: what the functions of layer 44 say. Plain Lean. -/
namespace Go.Spec
open Go.Owl
abbrev Tx := List UInt8
def magicS : Tx := [65, 83, 76, 49]
def num8 (v n : UInt32) : Tx := le4 v ++ le4 n
theorem num8_len (v n : UInt32) : (num8 v n).length = 8 := rfl
def pad64 (t : Tx) : Tx := t ++ List.replicate (64 - t.length) 0
theorem pad64_len {t : Tx} (h : t.length ≤ 64) : (pad64 t).length = 64 := by rw [pad64, List.length_append, List.length_replicate]; omega
def rawH (key : Tx) (v : UInt32) (t : Tx) : Tx := (magicS ++ num8 v (UInt32.ofNat t.length)) ++ mac key (num8 v (UInt32.ofNat t.length) ++ t)
theorem rawH_len (key : Tx) (v : UInt32) (t : Tx) : (rawH key v t).length = 44 := by rw [rawH, List.length_append, mac_length]; rfl
def hdrS (key : Tx) (v : UInt32) (t : Tx) : Tx := pad64 (rawH key v t)
theorem hdrS_len (key : Tx) (v : UInt32) (t : Tx) : (hdrS key v t).length = 64 := pad64_len (by rw [rawH_len]; decide)
def catB (B : List Tx) (a : Nat) : Nat → Tx
  | 0 => []
  | k + 1 => catB B a k ++ B.getD (a + k) []
theorem catB_len {B : List Tx} {a : Nat} : ∀ {k}, (∀ j, a ≤ j → j < a + k → (B.getD j []).length = 64) → (catB B a k).length = 64 * k
  | 0, _ => rfl
  | k + 1, h => by
    rw [catB, List.length_append, catB_len (k := k) (fun j h1 h2 => h j h1 (by omega)), h (a + k) (by omega) (by omega)]; omega
theorem catB_congr {B C : List Tx} {a : Nat} : ∀ {k}, (∀ j, a ≤ j → j < a + k → B.getD j [] = C.getD j []) → catB B a k = catB C a k
  | 0, _ => rfl
  | k + 1, h => by rw [catB, catB, catB_congr (k := k) (fun j h1 h2 => h j h1 (by omega)), h (a + k) (by omega) (by omega)]
structure Sl where
  v : UInt32
  t : Tx
  is : Bool
def Sl.no : Sl := ⟨0, [], false⟩
def pickS (key head all : Tx) (v z : UInt32) : Sl := if z > UInt32.ofNat all.length ∨ head ≠ hdrS key v (all.take z.toNat) then Sl.no else ⟨v, all.take z.toNat, true⟩
def slV (h : Tx) : UInt32 := getV ((h.drop 4).take (8 - 4))
def slZ (h : Tx) : UInt32 := getV ((h.drop 8).take (12 - 8))
def slotN (B : List Tx) (each : Nat) (key : Tx) (n : Nat) : Sl := pickS key (B.getD n []) (catB B (2 + n * each) each) (slV (B.getD n [])) (slZ (B.getD n []))
def slotI (B : List Tx) (each : Nat) (key : Tx) (n : Int) : Sl := if n < 0 ∨ n > 1 then Sl.no else slotN B each key n.toNat
theorem pickS_no {key head all : Tx} {v z : UInt32} (h : (pickS key head all v z).is = false) : pickS key head all v z = Sl.no := by
  unfold pickS at h ⊢; split
  · rfl
  · rename_i h1; rw [if_neg h1] at h; cases h
/-- Which slot is the current one, and whether there is one. -/
def curN (a b : Sl) : Nat := if b.is = true ∧ (a.is = false ∨ b.v > a.v) then 1 else 0
def curIs (a b : Sl) : Bool := if b.is = true ∧ (a.is = false ∨ b.v > a.v) then true else a.is
def curS (B : List Tx) (each : Nat) (key : Tx) : Sl := slotN B each key (curN (slotN B each key 0) (slotN B each key 1))
def curOf (a b : Sl) : Sl := if curN a b = 1 then b else a
theorem curS_of (B : List Tx) (each : Nat) (key : Tx) : curS B each key = curOf (slotN B each key 0) (slotN B each key 1) := by
  unfold curS curOf curN; split <;> simp_all
theorem curIs_eq (a b : Sl) : curIs a b = (curOf a b).is := by
  unfold curIs curOf curN; split
  · rename_i h; simp [h.1]
  · simp
/-- Blocks, and how many may yet be written; below 0: all. -/
structure Sst where
  B : List Tx
  left : Int
def wr1 (s : Sst) (p : Nat × Tx) : Sst := ⟨s.B.set p.1 (pad64 p.2), if s.left > 0 then s.left - 1 else s.left⟩
def wrA (s : Sst) : List (Nat × Tx) → Sst × Bool
  | [] => (s, true)
  | p :: l => if s.left = 0 then (s, false) else wrA (wr1 s p) l
def pcT (t : Tx) (k : Nat) : Tx := (t.drop (k * 64)).take 64
def pcs (t : Tx) (a : Nat) : Nat → List (Nat × Tx)
  | 0 => []
  | k + 1 => pcs t a k ++ [(a + k, pcT t k)]
def cntS (t : Tx) : Nat := (t.length + 63) / 64
def wrs (each : Nat) (key : Tx) (v : UInt32) (t : Tx) (at_ : Nat) : List (Nat × Tx) := ((at_, []) :: pcs t (2 + at_ * each) (cntS t)) ++ [(at_, hdrS key v t)]
def atS (a b : Sl) : Nat := if curIs a b = true ∧ curN a b = 0 then 1 else 0
def updE (s : Sst) (each : Nat) (key : Tx) (v : UInt32) (t : Tx) : Sst × Nat :=
  let a := slotN s.B each key 0
  let b := slotN s.B each key 1
  if v ≤ (curOf a b).v then (s, 440) else if t.length > each * 64 then (s, 5) else
    ((wrA s (wrs each key v t (atS a b))).1, if (wrA s (wrs each key v t (atS a b))).2 then 0 else 441)
theorem pcs_len (t : Tx) (a : Nat) : ∀ k, (pcs t a k).length = k
  | 0 => rfl
  | k + 1 => by rw [pcs, List.length_append, pcs_len t a k]; rfl
theorem pcs_get (t : Tx) (a : Nat) : ∀ {k j}, j < k → (pcs t a k)[j]? = some (a + j, pcT t j)
  | k + 1, j, h => by
    rw [pcs]
    rcases Nat.lt_or_ge j k with h1 | h1
    · rw [List.getElem?_append_left (by rw [pcs_len]; exact h1), pcs_get t a h1]
    · have : j = k := by omega
      subst this
      rw [List.getElem?_append_right (by rw [pcs_len]; exact Nat.le_refl _), pcs_len, Nat.sub_self]; rfl
theorem wrs_len (each : Nat) (key : Tx) (v : UInt32) (t : Tx) (n : Nat) : (wrs each key v t n).length = cntS t + 2 := by
  rw [wrs, List.length_append, List.length_cons, pcs_len]; rfl
theorem pcT_len (t : Tx) (k : Nat) : (pcT t k).length ≤ 64 := by rw [pcT, List.length_take]; omega
theorem pcT_min (t : Tx) {k : Nat} : (t.drop (k * 64)).take (min t.length ((k + 1) * 64) - k * 64) = pcT t k := by
  rw [pcT]
  rcases Nat.lt_or_ge t.length ((k + 1) * 64) with h | h
  · rw [Nat.min_eq_left (by omega), List.take_of_length_le (by rw [List.length_drop]; exact Nat.le_refl _), List.take_of_length_le (by rw [List.length_drop]; omega)]
  · rw [Nat.min_eq_right h]; congr 1; omega
/-- Every text that is written, and where. -/
theorem wrs_mem {each : Nat} {key : Tx} {v : UInt32} {t : Tx} {n : Nat} {p : Nat × Tx} (h : p ∈ wrs each key v t n) : (p.1 = n ∧ p.2.length ≤ 64) ∨ (2 + n * each ≤ p.1 ∧ p.1 < 2 + n * each + cntS t ∧ p.2.length ≤ 64) := by
  rw [wrs, List.mem_append, List.mem_cons] at h
  rcases h with (rfl | h) | h
  · exact .inl ⟨rfl, by show 0 ≤ 64; omega⟩
  · obtain ⟨j, hj, rfl⟩ := List.getElem_of_mem h
    rw [pcs_len] at hj
    have e := pcs_get t (2 + n * each) hj
    rw [List.getElem?_eq_getElem (by rw [pcs_len]; exact hj), Option.some.injEq] at e
    rw [e]
    exact .inr ⟨Nat.le_add_right _ _, by show 2 + n * each + j < _; omega, pcT_len t j⟩
  · rw [List.mem_singleton] at h; subst h
    exact .inl ⟨rfl, by rw [hdrS_len]; exact Nat.le_refl _⟩
theorem cntS_le {t : Tx} {each : Nat} (h : ¬ t.length > each * 64) : cntS t ≤ each := by unfold cntS; omega
theorem wrA_step {s s' : Sst} {l : List (Nat × Tx)} {k : Nat} {p : Nat × Tx} (h : wrA s l = wrA s' (l.drop k)) (hk : l[k]? = some p) (hl : s'.left ≠ 0) : wrA s l = wrA (wr1 s' p) (l.drop (k + 1)) := by
  have hlt := (List.getElem?_eq_some_iff.1 hk).1
  rw [h, List.drop_eq_getElem_cons hlt, wrA, if_neg hl, (List.getElem?_eq_some_iff.1 hk).2]
theorem wrA_stop {s s' : Sst} {l : List (Nat × Tx)} {k : Nat} (h : wrA s l = wrA s' (l.drop k)) (hk : k < l.length) (hl : s'.left = 0) : wrA s l = (s', false) := by
  rw [h, List.drop_eq_getElem_cons hk, wrA, if_pos hl]
theorem wrA_done {s s' : Sst} {l : List (Nat × Tx)} (h : wrA s l = wrA s' (l.drop l.length)) : wrA s l = (s', true) := by
  rw [h, List.drop_length]; rfl
theorem wr1_len (s : Sst) (p : Nat × Tx) : (wr1 s p).B.length = s.B.length := by simp [wr1]
theorem set_all {B : List Tx} {i : Nat} {x : Tx} (h : ∀ b ∈ B, b.length = 64) (hx : x.length = 64) : ∀ b ∈ B.set i x, b.length = 64 := fun b hb => by
  rcases List.mem_or_eq_of_mem_set hb with h1 | h1
  · exact h b h1
  · rw [h1]; exact hx
theorem wrA_all : ∀ (l : List (Nat × Tx)) (s : Sst), (∀ p ∈ l, p.2.length ≤ 64) → (∀ b ∈ s.B, b.length = 64) → (wrA s l).1.B.length = s.B.length ∧ ∀ b ∈ (wrA s l).1.B, b.length = 64
  | [], s, _, h => ⟨rfl, h⟩
  | p :: l, s, hp, h => by
    rw [wrA]; split
    · exact ⟨rfl, h⟩
    · have := wrA_all l (wr1 s p) (fun q hq => hp q (List.mem_cons_of_mem _ hq)) (set_all h (pad64_len (hp p (List.mem_cons_self ..))))
      rw [wr1_len] at this
      exact this
theorem updE_all {s : Sst} {each : Nat} {key : Tx} {v : UInt32} {t : Tx} (h : ∀ b ∈ s.B, b.length = 64) : (updE s each key v t).1.B.length = s.B.length ∧ ∀ b ∈ (updE s each key v t).1.B, b.length = 64 := by
  unfold updE
  dsimp only
  split
  · exact ⟨rfl, h⟩
  · split
    · exact ⟨rfl, h⟩
    · exact wrA_all _ _ (fun p hp => (wrs_mem hp).elim (fun h => h.2) (fun h => h.2.2)) h
theorem sl_le {z : UInt32} {n : Nat} (h : ¬ z > UInt32.ofNat n) (hn : n < 2 ^ 32) : z.toNat ≤ n := by
  rw [gt_iff_lt, UInt32.lt_iff_toNat_lt, UInt32.toNat_ofNat', Nat.mod_eq_of_lt hn] at h
  omega
theorem cur1 {a b : Sl} (h : b.is = true) (h2 : a.is = false ∨ b.v > a.v) : curN a b = 1 ∧ curIs a b = true := ⟨if_pos ⟨h, h2⟩, if_pos ⟨h, h2⟩⟩
theorem cur0 {a b : Sl} (h : b.is = false ∨ (a.is = true ∧ ¬ b.v > a.v)) : curN a b = 0 ∧ curIs a b = a.is := by
  have hn : ¬ (b.is = true ∧ (a.is = false ∨ b.v > a.v)) := by
    rintro ⟨h1, h2⟩
    rcases h with h | ⟨h3, h4⟩
    · rw [h] at h1; cases h1
    · rcases h2 with h2 | h2
      · rw [h3] at h2; cases h2
      · exact h4 h2
  exact ⟨if_neg hn, if_neg hn⟩
theorem curN_lt (a b : Sl) : curN a b < 2 := by unfold curN; split <;> decide
theorem curS_no {B : List Tx} {each : Nat} {key : Tx} (h : curIs (slotN B each key 0) (slotN B each key 1) = false) : curS B each key = Sl.no := by
  rw [curIs_eq, ← curS_of] at h
  exact pickS_no h
/-- A write, if it may be. -/
def wrX (s : Sst) (p : Nat × Tx) : Sst := if s.left = 0 then s else wr1 s p
theorem wrX_0 {B : List Tx} {left : Int} {p : Nat × Tx} (h : left = 0) : wrX ⟨B, left⟩ p = ⟨B, left⟩ := if_pos h
theorem wrX_1 {B : List Tx} {left : Int} {p : Nat × Tx} (h : ¬ left = 0) (h2 : left > 0) : wrX ⟨B, left⟩ p = ⟨B.set p.1 (pad64 p.2), left - 1⟩ := by
  rw [wrX, if_neg h, wr1, if_pos h2]
theorem wrX_2 {B : List Tx} {left : Int} {p : Nat × Tx} (h : ¬ left = 0) (h2 : ¬ left > 0) : wrX ⟨B, left⟩ p = ⟨B.set p.1 (pad64 p.2), left⟩ := by
  rw [wrX, if_neg h, wr1, if_neg h2]
/-- A machine: may it be? -/
def hardE (pg : UInt32) (he : List UInt32) : Nat := if pg > 4096 ∨ he.length > 16 ∨ he.any (fun x => decide (x > 1024)) = true then 2 else 0
def bAt (B : List Tx) (n j : Nat) : Tx := if j < n then B.getD j [] else []
def bE (n j : Nat) : Nat := if j < n then 0 else 2
theorem hard_made {nb : UInt32} (h : nb.toNat ≤ 1024) : hardE 40 [1, nb] = 0 := by
  refine if_neg ?_
  rintro (h1 | h1 | h1)
  · exact absurd h1 (by decide)
  · exact absurd h1 (by show ¬ 2 > 16; decide)
  · have h2 : ¬ nb > 1024 := by
      rw [gt_iff_lt, UInt32.lt_iff_toNat_lt]
      have : (1024 : UInt32).toNat = 1024 := rfl
      omega
    simp [h2] at h1
theorem bE_0 {n j : Nat} (h : ¬ bE n j ≠ 0) : j < n := by
  unfold bE at h; split at h
  · assumption
  · exact absurd (by decide) h
theorem bE_1 {n j : Nat} (h : bE n j ≠ 0) : ¬ j < n := by
  unfold bE at h; split at h
  · exact absurd rfl h
  · assumption
end Go.Spec
/-! from SpecSlot2 -/
/- Slots with versions: where an update is torn. Plain Lean. -/
namespace Go.Spec
open Go.Owl
theorem slget_set (B : List Tx) (i j : Nat) (x : Tx) (hi : i < B.length) : (B.set i x).getD j [] = if j = i then x else B.getD j [] := by
  simp only [List.getD, List.getElem?_set]
  by_cases h : i = j
  · subst h; simp [hi]
  · rw [if_neg h, if_neg (fun e => h e.symm)]
theorem all_get {B : List Tx} (h : ∀ b ∈ B, b.length = 64) {j : Nat} (hj : j < B.length) : (B.getD j []).length = 64 := by
  rw [List.getD, List.getElem?_eq_getElem hj]; exact h _ (List.getElem_mem _)
theorem hdr_le {key : Tx} {v : UInt32} {t : Tx} : slV (hdrS key v t) = v ∧ slZ (hdrS key v t) = UInt32.ofNat t.length :=
  ⟨getV_le4 v, getV_le4 _⟩
theorem hdr_ne (key : Tx) (v : UInt32) (t : Tx) : pad64 [] ≠ hdrS key v t := fun h => by
  have h2 : (pad64 []).head? = (hdrS key v t).head? := by rw [h]
  have e : (hdrS key v t).head? = some 65 := rfl
  have e0 : (pad64 []).head? = some 0 := by decide
  rw [e, e0] at h2
  exact absurd (Option.some.inj h2) (by decide)
theorem slot_blank {B : List Tx} {each n : Nat} {key : Tx} (h : B.getD n [] = pad64 []) : slotN B each key n = Sl.no := by
  rw [slotN, h, pickS, if_pos (.inr (hdr_ne _ _ _))]
theorem slot_congr {B C : List Tx} {each n : Nat} {key : Tx} (h : B.getD n [] = C.getD n []) (h2 : ∀ j, 2 + n * each ≤ j → j < 2 + n * each + each → B.getD j [] = C.getD j []) : slotN B each key n = slotN C each key n := by
  rw [slotN, slotN, h, catB_congr h2]
/-- Blocks behind writes. -/
def wB (B : List Tx) : List (Nat × Tx) → List Tx
  | [] => B
  | p :: l => wB (B.set p.1 (pad64 p.2)) l
theorem wB_len : ∀ (l : List (Nat × Tx)) (B : List Tx), (wB B l).length = B.length
  | [], _ => rfl
  | p :: l, B => by rw [wB, wB_len l, List.length_set]
theorem wB_app : ∀ (l m : List (Nat × Tx)) (B : List Tx), wB B (l ++ m) = wB (wB B l) m
  | [], _, _ => rfl
  | p :: l, m, B => wB_app l m _
theorem wB_other {j : Nat} : ∀ (l : List (Nat × Tx)) (B : List Tx), (∀ p ∈ l, p.1 ≠ j) → (wB B l).getD j [] = B.getD j []
  | [], _, _ => rfl
  | p :: l, B, h => by
    rw [wB, wB_other l _ (fun q hq => h q (List.mem_cons_of_mem _ hq))]
    have := h p (List.mem_cons_self ..)
    simp only [List.getD, List.getElem?_set]
    rw [if_neg this]
theorem wrA_cases : ∀ (l : List (Nat × Tx)) (s : Sst), ∃ k, k ≤ l.length ∧ (wrA s l).1.B = wB s.B (l.take k) ∧ ((wrA s l).2 = true → k = l.length) ∧ ((wrA s l).2 = false → k < l.length)
  | [], s => ⟨0, Nat.le_refl _, rfl, fun _ => rfl, fun h => (by cases h)⟩
  | p :: l, s => by
    rw [wrA]; split
    · exact ⟨0, Nat.zero_le _, rfl, fun h => (by cases h), fun _ => Nat.succ_pos _⟩
    · obtain ⟨k, h1, h2, h3, h4⟩ := wrA_cases l (wr1 s p)
      exact ⟨k + 1, Nat.succ_le_succ h1, h2, fun h => congrArg Nat.succ (h3 h), fun h => Nat.succ_lt_succ (h4 h)⟩
theorem wrA_free : ∀ (l : List (Nat × Tx)) (s : Sst), s.left < 0 → (wrA s l).2 = true
  | [], _, _ => rfl
  | p :: l, s, h => by
    rw [wrA, if_neg (by omega)]
    refine wrA_free l _ ?_
    show (if s.left > 0 then s.left - 1 else s.left) < 0
    rw [if_neg (by omega)]; exact h
theorem pcs_mem {t : Tx} {a k : Nat} {p : Nat × Tx} (h : p ∈ pcs t a k) : a ≤ p.1 ∧ p.1 < a + k := by
  obtain ⟨j, hj, rfl⟩ := List.getElem_of_mem h
  rw [pcs_len] at hj
  have e := pcs_get t a hj
  rw [List.getElem?_eq_getElem (by rw [pcs_len]; exact hj), Option.some.injEq] at e
  rw [e]; exact ⟨Nat.le_add_right _ _, by show a + j < _; omega⟩
theorem wB_pcs {t : Tx} {a : Nat} : ∀ {k : Nat} {B : List Tx}, a + k ≤ B.length → ∀ j, j < k → (wB B (pcs t a k)).getD (a + j) [] = pad64 (pcT t j)
  | k + 1, B, hB, j, hj => by
    rw [pcs, wB_app, wB, wB]
    rw [slget_set _ _ _ _ (by rw [wB_len]; omega)]
    split
    · rename_i h; have : j = k := by omega
      rw [this]
    · rename_i h
      exact wB_pcs (by omega) j (by show j < k; have : j ≠ k := fun e => h (by rw [e]); omega)
/-- The blocks of a text's pieces, one behind the other. -/
theorem catB_pcs {B : List Tx} {t : Tx} {a : Nat} : ∀ {k : Nat}, k ≤ cntS t → (∀ j, j < k → B.getD (a + j) [] = pad64 (pcT t j)) → catB B a k = t.take (64 * k) ++ List.replicate (64 * k - t.length) 0
  | 0, _, _ => by simp [catB]
  | k + 1, hk, h => by
    have hlt : 64 * k < t.length := by unfold cntS at hk; omega
    rw [catB, catB_pcs (k := k) (by omega) (fun j hj => h j (by omega)), h k (by omega), show 64 * k - t.length = 0 by omega, List.replicate_zero, List.append_nil, pad64, pcT]
    rw [← List.append_assoc]
    have e : t.take (64 * k) ++ (t.drop (k * 64)).take 64 = t.take (64 * (k + 1)) := by
      rw [Nat.mul_comm k 64, ← List.take_add]; congr 1
    rw [e]
    congr 2
    rw [List.length_take, List.length_drop]; omega
theorem catB_take {B : List Tx} {a : Nat} {n : Nat} : ∀ {m k : Nat}, m ≤ k → n ≤ (catB B a m).length → (catB B a k).take n = (catB B a m).take n
  | m, k, h, hn => by
    induction k with
    | zero => have : m = 0 := by omega
              rw [this]
    | succ k ih =>
      rcases Nat.lt_or_ge m (k + 1) with h1 | h1
      · have hl : ∀ j, (catB B a m).length ≤ (catB B a (m + j)).length := fun j => by
          induction j with
          | zero => exact Nat.le_refl _
          | succ j ihj => rw [← Nat.add_assoc, catB, List.length_append]; omega
        have h2 := hl (k - m)
        rw [show m + (k - m) = k by omega] at h2
        rw [catB, List.take_append_of_le_length (by omega), ih (by omega)]
      · have : m = k + 1 := by omega
        rw [this]
section
variable {each n : Nat} {key t : Tx} {v : UInt32} {B : List Tx}
/-- The other slot stays. -/
theorem torn_other {k m : Nat} (hn : n = 0 ∧ m = 1 ∨ n = 1 ∧ m = 0) (ht : ¬ t.length > each * 64) : slotN (wB B ((wrs each key v t n).take k)) each key m = slotN B each key m := by
  have hc := cntS_le ht
  have hm : ∀ p ∈ (wrs each key v t n).take k, p.1 = n ∨ (2 + n * each ≤ p.1 ∧ p.1 < 2 + n * each + cntS t) := fun p hp => (wrs_mem (List.mem_of_mem_take hp)).imp (fun h => h.1) (fun h => ⟨h.1, h.2.1⟩)
  refine slot_congr (wB_other _ _ fun p hp => ?_) (fun j h1 h2 => wB_other _ _ fun p hp => ?_)
  · rcases hm p hp with h | h <;> rcases hn with ⟨rfl, rfl⟩ | ⟨rfl, rfl⟩ <;> omega
  · rcases hm p hp with h | h <;> rcases hn with ⟨rfl, rfl⟩ | ⟨rfl, rfl⟩ <;> omega
/-- A slot that was begun has nothing. -/
theorem torn_none {k : Nat} (hn : n = 0 ∨ n = 1) (hB : n < B.length) (h0 : 0 < k) (hk : k < (wrs each key v t n).length) : slotN (wB B ((wrs each key v t n).take k)) each key n = Sl.no := by
  refine slot_blank ?_
  obtain ⟨k, rfl⟩ : ∃ q, k = q + 1 := ⟨k - 1, by omega⟩
  rw [wrs_len] at hk
  rw [wrs, List.take_append_of_le_length (by rw [List.length_cons, pcs_len]; omega), List.take_succ_cons, wB]
  rw [wB_other _ _ (fun p hp => by have := pcs_mem (List.mem_of_mem_take hp); rcases hn with rfl | rfl <;> omega), slget_set _ _ _ _ hB, if_pos rfl]
/-- A slot that was written whole has it. -/
theorem torn_whole (hn : n = 0 ∨ n = 1) (hB : 2 + n * each + each ≤ B.length) (hl : ∀ b ∈ B, b.length = 64) (ht : ¬ t.length > each * 64) (h32 : each * 64 < 2 ^ 32) : slotN (wB B (wrs each key v t n)) each key n = ⟨v, t, true⟩ := by
  have hc := cntS_le ht
  have e1 : (wB B (wrs each key v t n)).getD n [] = hdrS key v t := by
    have hp : pad64 (hdrS key v t) = hdrS key v t := by rw [pad64, hdrS_len]; simp
    rw [wrs, wB_app, wB, wB, slget_set _ _ _ _ (by rw [wB_len]; rcases hn with rfl | rfl <;> omega), if_pos rfl, hp]
  have e2 : ∀ j, j < cntS t → (wB B (wrs each key v t n)).getD (2 + n * each + j) [] = pad64 (pcT t j) := fun j hj => by
    rw [wrs, wB_app, wB, wB, slget_set _ _ _ _ (by rw [wB_len]; rcases hn with rfl | rfl <;> omega), if_neg (by rcases hn with rfl | rfl <;> omega), wB]
    exact wB_pcs (by rw [List.length_set]; omega) j hj
  have hall : ∀ b ∈ wB B (wrs each key v t n), b.length = 64 := by
    have key2 : ∀ (l : List (Nat × Tx)) (B : List Tx), (∀ p ∈ l, p.2.length ≤ 64) → (∀ b ∈ B, b.length = 64) → ∀ b ∈ wB B l, b.length = 64 := by
      intro l
      induction l with
      | nil => intro B _ h; exact h
      | cons p l ih => intro B hp h; exact ih _ (fun q hq => hp q (List.mem_cons_of_mem _ hq)) (set_all h (pad64_len (hp p (List.mem_cons_self ..))))
    exact key2 _ _ (fun p hp => (wrs_mem hp).elim (fun h => h.2) (fun h => h.2.2)) hl
  have e3 : (catB (wB B (wrs each key v t n)) (2 + n * each) each).length = 64 * each := catB_len (fun j h1 h2 => all_get hall (by rw [wB_len]; omega))
  have hcl : t.length ≤ 64 * cntS t := by unfold cntS; omega
  have hct := catB_pcs (Nat.le_refl _) e2
  have e4 : (catB (wB B (wrs each key v t n)) (2 + n * each) each).take t.length = t := by
    rw [catB_take hc (by rw [hct, List.length_append, List.length_take, List.length_replicate]; omega), hct, List.take_append_of_le_length (by rw [List.length_take]; omega), List.take_take, Nat.min_eq_left hcl, List.take_length]
  have hz : (UInt32.ofNat t.length).toNat = t.length := by rw [UInt32.toNat_ofNat']; exact Nat.mod_eq_of_lt (by omega)
  rw [slotN, e1, hdr_le.1, hdr_le.2, pickS, if_neg, hz, e4]
  rintro (h | h)
  · rw [e3, gt_iff_lt, UInt32.lt_iff_toNat_lt, hz, UInt32.toNat_ofNat', Nat.mod_eq_of_lt (by omega)] at h
    omega
  · rw [hz, e4] at h; exact h rfl
end
end Go.Spec
/-! from SpecSlot3 -/
/- Slots with versions: what is the current one behind an update, wherever it is torn; two keys. Plain Lean. -/
namespace Go.Spec
open Go.Owl
theorem slot_no {B : List Tx} {each n : Nat} {key : Tx} (h : (slotN B each key n).is = false) : slotN B each key n = Sl.no := pickS_no h
theorem cur_none {a b : Sl} (ha : a.is = false → a = Sl.no) (n : Nat) (hn : atS a b = n) : (if n = 0 then curOf Sl.no b else curOf a Sl.no) = curOf a b := by
  subst hn
  by_cases h : b.is = true ∧ (a.is = false ∨ b.v > a.v)
  · have h1 : curN a b = 1 := if_pos h
    have h2 : atS a b = 0 := by unfold atS; rw [if_neg (by rw [h1]; omega)]
    rw [h2, if_pos rfl]
    unfold curOf; rw [if_pos h1, if_pos (show curN Sl.no b = 1 from if_pos ⟨h.1, .inl rfl⟩)]
  · have h1 : curN a b = 0 := if_neg h
    have h3 : curIs a b = a.is := if_neg h
    cases h4 : a.is with
    | true =>
      have h2 : atS a b = 1 := by unfold atS; rw [if_pos ⟨h3.trans h4, h1⟩]
      rw [h2, if_neg (by decide)]
      have e1 : curOf a Sl.no = a := if_neg (by rw [show curN a Sl.no = 0 from if_neg (fun h => by cases h.1)]; decide)
      have e2 : curOf a b = a := if_neg (by rw [h1]; decide)
      rw [e1, e2]
    | false =>
      have h2 : atS a b = 0 := by unfold atS; rw [if_neg (fun h => by rw [h3, h4] at h; cases h.1)]
      rw [h2, if_pos rfl, ha h4]
theorem cur_new {a b x : Sl} (n : Nat) (hn : atS a b = n) (hx : x.is = true) (hv : ¬ x.v ≤ (curOf a b).v) : (if n = 0 then curOf x b else curOf a x) = x := by
  subst hn
  by_cases h : b.is = true ∧ (a.is = false ∨ b.v > a.v)
  · have h1 : curN a b = 1 := if_pos h
    have h2 : atS a b = 0 := by unfold atS; rw [if_neg (by rw [h1]; omega)]
    have h5 : curOf a b = b := if_pos h1
    rw [h5] at hv
    rw [h2, if_pos rfl]
    unfold curOf
    rw [if_neg]
    rw [show curN x b = 0 from if_neg (fun h6 => ?_)]
    · decide
    · rcases h6.2 with h7 | h7
      · rw [hx] at h7; cases h7
      · rw [gt_iff_lt, UInt32.lt_iff_toNat_lt] at h7
        rw [UInt32.le_iff_toNat_le] at hv
        omega
  · have h1 : curN a b = 0 := if_neg h
    have h3 : curIs a b = a.is := if_neg h
    have h5 : curOf a b = a := if_neg (by rw [h1]; decide)
    rw [h5] at hv
    cases h4 : a.is with
    | true =>
      have h2 : atS a b = 1 := by unfold atS; rw [if_pos ⟨h3.trans h4, h1⟩]
      rw [h2, if_neg (by decide)]
      exact if_pos (if_pos ⟨hx, .inr (by rw [gt_iff_lt, UInt32.lt_iff_toNat_lt]; rw [UInt32.le_iff_toNat_le] at hv; omega)⟩)
    | false =>
      have h2 : atS a b = 0 := by unfold atS; rw [if_neg (fun h => by rw [h3, h4] at h; cases h.1)]
      have h6 : b.is = false := by
        cases h7 : b.is with
        | true => exact absurd ⟨h7, .inl h4⟩ h
        | false => rfl
      rw [h2, if_pos rfl]
      exact if_neg (by rw [show curN x b = 0 from if_neg (fun h => by rw [h6] at h; cases h.1)]; decide)
theorem atS_lt (a b : Sl) : atS a b = 0 ∨ atS a b = 1 := by unfold atS; split <;> simp
section
variable {each : Nat} {key t : Tx} {v : UInt32} {s : Sst}
structure Fit (B : List Tx) (each : Nat) : Prop where
  len : 2 + each + each ≤ B.length
  one : 1 ≤ each
  all : ∀ b ∈ B, b.length = 64
  sz : each * 64 < 2 ^ 32
/-- Behind an update. -/
theorem upd_cur (hf : Fit s.B each) :
    ((updE s each key v t).2 = 440 ↔ v ≤ (curS s.B each key).v) ∧ ((updE s each key v t).2 = 0 → curS (updE s each key v t).1.B each key = ⟨v, t, true⟩) ∧
    ((updE s each key v t).2 ≠ 0 → curS (updE s each key v t).1.B each key = curS s.B each key) ∧ ((updE s each key v t).2 = 441 → ¬ t.length > each * 64) ∧
    (s.left < 0 → ¬ v ≤ (curS s.B each key).v → ¬ t.length > each * 64 → (updE s each key v t).2 = 0) := by
  have hc := curS_of s.B each key
  unfold updE
  dsimp only
  rw [← hc]
  split
  · rename_i h1
    exact ⟨⟨fun _ => h1, fun _ => rfl⟩, fun h => (by cases h), fun _ => rfl, fun h => (by cases h), fun _ h => absurd h1 h⟩
  · rename_i h1
    split
    · rename_i h2
      exact ⟨⟨fun h => (by cases h), fun h => absurd h h1⟩, fun h => (by cases h), fun _ => rfl, fun h => (by cases h), fun _ _ h => absurd h2 h⟩
    · rename_i h2
      obtain ⟨k, hk, hB, hT, hF⟩ := wrA_cases (wrs each key v t (atS (slotN s.B each key 0) (slotN s.B each key 1))) s
      have hat := atS_lt (slotN s.B each key 0) (slotN s.B each key 1)
      generalize hn : atS (slotN s.B each key 0) (slotN s.B each key 1) = n at *
      have hnl : 2 + n * each + each ≤ s.B.length := by have := hf.len; rcases hat with rfl | rfl <;> omega
      have hnB : n < s.B.length := by have := hf.one; rcases hat with rfl | rfl <;> omega
      refine ⟨⟨fun h => ?_, fun h => absurd h h1⟩, fun h => ?_, fun h => ?_, fun _ => h2, fun h3 _ _ => ?_⟩
      · exfalso; revert h; split <;> (intro h; cases h)
      · have hb : (wrA s (wrs each key v t n)).2 = true := by
          cases hb : (wrA s (wrs each key v t n)).2 with
          | true => rfl
          | false => rw [hb] at h; cases h
        rw [hB, hT hb, List.take_length, curS_of]
        have h5 := torn_whole (key := key) (v := v) hat hnl hf.all h2 hf.sz
        have h6 := cur_new (x := ⟨v, t, true⟩) n hn rfl (by rw [← hc]; exact h1)
        rcases hat with rfl | rfl
        · have h7 := torn_other (key := key) (v := v) (B := s.B) (k := (wrs each key v t 0).length) (.inl ⟨rfl, rfl⟩) h2
          rw [List.take_length] at h7
          rw [h5, h7]; simpa using h6
        · have h7 := torn_other (key := key) (v := v) (B := s.B) (k := (wrs each key v t 1).length) (.inr ⟨rfl, rfl⟩) h2
          rw [List.take_length] at h7
          rw [h5, h7]; simpa using h6
      · have hb : (wrA s (wrs each key v t n)).2 = false := by
          cases hb : (wrA s (wrs each key v t n)).2 with
          | false => rfl
          | true => rw [hb] at h; exact absurd rfl h
        rw [hB]
        rcases Nat.eq_zero_or_pos k with h0 | h0
        · subst h0; rfl
        · rw [curS_of, hc]
          have h5 := torn_none (key := key) (v := v) (t := t) (each := each) hat hnB h0 (hF hb)
          have h6 := cur_none (b := slotN s.B each key 1) (slot_no (B := s.B) (each := each) (n := 0) (key := key)) n hn
          rcases hat with rfl | rfl
          · rw [h5, torn_other (.inl ⟨rfl, rfl⟩) h2]; simpa using h6
          · rw [h5, torn_other (.inr ⟨rfl, rfl⟩) h2]; simpa using h6
      · rw [wrA_free _ _ h3]; rfl
end
end Go.Spec
/-! from SpecSlot4 -/
/- Slots with versions: the steps of an update as functions with what they captured. Plain Lean. -/
namespace Go.Spec
open Go.Owl
theorem updE_1 {B : List Tx} {left : Int} {each : Nat} {key : Tx} {v : UInt32} {t : Tx} (h : v ≤ (curS B each key).v) : updE ⟨B, left⟩ each key v t = (⟨B, left⟩, 440) := by
  rw [curS_of] at h; exact if_pos h
theorem updE_2 {B : List Tx} {left : Int} {each : Nat} {key : Tx} {v : UInt32} {t : Tx} (h : ¬ v ≤ (curS B each key).v) (h2 : t.length > each * 64) : updE ⟨B, left⟩ each key v t = (⟨B, left⟩, 5) := by
  rw [curS_of] at h; exact (if_neg h).trans (if_pos h2)
theorem updE_3 {B : List Tx} {left : Int} {each : Nat} {key : Tx} {v : UInt32} {t : Tx} {n : Nat} (h : ¬ v ≤ (curS B each key).v) (h2 : ¬ t.length > each * 64) (hn : n = atS (slotN B each key 0) (slotN B each key 1)) :
    updE ⟨B, left⟩ each key v t = ((wrA ⟨B, left⟩ (wrs each key v t n)).1, if (wrA ⟨B, left⟩ (wrs each key v t n)).2 = true then 0 else 441) := by
  subst hn
  rw [curS_of] at h; exact (if_neg h).trans (if_neg h2)
theorem wrX_step {s : Sst} {p : Nat × Tx} (h : s.left ≠ 0) : wrX s p = wr1 s p := if_neg h
theorem wrX_stop {s : Sst} {p : Nat × Tx} (h : s.left = 0) : wrX s p = s := if_pos h
theorem wrX_len (s : Sst) (p : Nat × Tx) : (wrX s p).B.length = s.B.length := by
  unfold wrX; split
  · rfl
  · exact wr1_len s p
theorem wrX_left {s : Sst} (p : Nat × Tx) (h : s.left < 2 ^ 63) : (wrX s p).left < 2 ^ 63 := by
  unfold wrX; split
  · exact h
  · show (if s.left > 0 then s.left - 1 else s.left) < 2 ^ 63
    split <;> omega
abbrev KPt := Nat × Nat × Nat
def stepsL (f1 f2 f3 c3 c10 c13 : Nat) (KP : List KPt) : List Cl :=
  [⟨f1, [ptr c3 0, ptr c10 0]⟩] ++ KP.map (fun p => (⟨f2, [ptr c3 0, ptr c10 0, ptr p.2.1 0, ptr p.2.2 0]⟩ : Cl)) ++ [⟨f3, [ptr c3 0, ptr c10 0, ptr c13 0]⟩]
section
variable {f1 f2 f3 c3 c10 c13 at_ each k : Nat} {KP : List KPt} {key t : Tx} {v : UInt32} {c : Cl}
theorem steps_len (h : KP.map Prod.fst = List.range (cntS t)) : (stepsL f1 f2 f3 c3 c10 c13 KP).length = (wrs each key v t at_).length := by
  have h1 : KP.length = cntS t := by have := congrArg List.length h; simpa using this
  rw [wrs_len, stepsL, List.length_append, List.length_append, List.length_map, h1]
  simp only [List.length_cons, List.length_nil]
  omega
theorem steps_cases (h : KP.map Prod.fst = List.range (cntS t)) (hk : (stepsL f1 f2 f3 c3 c10 c13 KP)[k]? = some c) :
    (k = 0 ∧ c = ⟨f1, [ptr c3 0, ptr c10 0]⟩ ∧ (wrs each key v t at_)[k]? = some (at_, [])) ∨
    (∃ p ∈ KP, k = p.1 + 1 ∧ p.1 < cntS t ∧ c = ⟨f2, [ptr c3 0, ptr c10 0, ptr p.2.1 0, ptr p.2.2 0]⟩ ∧ (wrs each key v t at_)[k]? = some (2 + at_ * each + p.1, pcT t p.1)) ∨
    (k = cntS t + 1 ∧ c = ⟨f3, [ptr c3 0, ptr c10 0, ptr c13 0]⟩ ∧ (wrs each key v t at_)[k]? = some (at_, hdrS key v t)) := by
  have h1 : KP.length = cntS t := by have := congrArg List.length h; simpa using this
  have hlt := (List.getElem?_eq_some_iff.1 hk).1
  rw [steps_len (each := each) (key := key) (v := v) (at_ := at_) h, wrs_len] at hlt
  rcases Nat.eq_zero_or_pos k with h0 | h0
  · subst h0
    refine .inl ⟨rfl, ?_, rfl⟩
    exact (Option.some.inj hk).symm
  · obtain ⟨i, rfl⟩ : ∃ i, k = i + 1 := ⟨k - 1, by omega⟩
    rcases Nat.lt_or_ge i (cntS t) with hi | hi
    · right; left
      have e1 : (stepsL f1 f2 f3 c3 c10 c13 KP)[i + 1]? = (KP.map (fun p => (⟨f2, [ptr c3 0, ptr c10 0, ptr p.2.1 0, ptr p.2.2 0]⟩ : Cl)))[i]? := by
        rw [stepsL, List.append_assoc, List.cons_append, List.nil_append, List.getElem?_cons_succ, List.getElem?_append_left (by rw [List.length_map]; omega)]
      rw [e1, List.getElem?_map, List.getElem?_eq_getElem (by omega), Option.map_some] at hk
      have e2 : (KP[i]'(by omega)).1 = i := by
        have := congrArg (fun l : List Nat => l[i]?) h
        simp only [List.getElem?_map, List.getElem?_range hi] at this
        rw [List.getElem?_eq_getElem (by omega)] at this
        exact Option.some.inj this
      refine ⟨KP[i]'(by omega), List.getElem_mem _, by rw [e2], by rw [e2]; exact hi, (Option.some.inj hk).symm, ?_⟩
      rw [e2, wrs, List.cons_append, List.getElem?_cons_succ, List.getElem?_append_left (by rw [pcs_len]; exact hi), pcs_get _ _ hi]
    · have hi2 : i = cntS t := by omega
      subst hi2
      right; right
      have e1 : (stepsL f1 f2 f3 c3 c10 c13 KP)[cntS t + 1]? = some ⟨f3, [ptr c3 0, ptr c10 0, ptr c13 0]⟩ := by
        rw [stepsL, List.append_assoc, List.cons_append, List.nil_append, List.getElem?_cons_succ, List.getElem?_append_right (by rw [List.length_map]; omega), List.length_map, h1, Nat.sub_self]
        rfl
      rw [e1] at hk
      refine ⟨rfl, (Option.some.inj hk).symm, ?_⟩
      rw [wrs, List.cons_append, List.getElem?_cons_succ, List.getElem?_append_right (by rw [pcs_len]; exact Nat.le_refl _), pcs_len, Nat.sub_self]
      rfl
theorem steps_mem (hc : c ∈ stepsL f1 f2 f3 c3 c10 c13 KP) : c.f = f1 ∨ c.f = f2 ∨ c.f = f3 := by
  rw [stepsL, List.mem_append, List.mem_append] at hc
  rcases hc with (hc | hc) | hc
  · rw [List.mem_singleton] at hc; subst hc; exact .inl rfl
  · obtain ⟨p, _, rfl⟩ := List.mem_map.1 hc; exact .inr (.inl rfl)
  · rw [List.mem_singleton] at hc; subst hc; exact .inr (.inr rfl)
end
end Go.Spec
/-! from SpecDem0 -/
/- Manifests: which are the same, which may be. Plain Lean. -/
namespace Go.Owl
section
variable {S : List Nat} {w0 w : World} {L : List Ent} {i : Nat}
theorem Own.rowFresh {v : Value} {t : TypeId} {sz n : Nat} {xs : List Value} (H : Own [] w0 w L) (hi : L[i]? = some (Ent.row v t sz n xs)) : ∀ b ∈ footA v xs, w0.heap.size ≤ b := by
  intro b hb
  obtain ⟨hl, ⟨rfl, rfl⟩ | ⟨g, cap, pre, junk, rfl, hk, hr⟩⟩ := H.row hi
  · have hx : xs = [] := List.eq_nil_of_length_eq_zero (by simpa using hl)
    subst hx; simp [footA] at hb
  · have hb' : b = g := by
      simp only [footA] at hb
      split at hb
      · cases hb
      · simpa [sBlk] using hb
    rcases H.own i _ hi g rfl with h | h
    · omega
    · cases h
end
end Go.Owl
namespace Go.Spec
open Go.Owl
section
variable {pg pg' : UInt32} {c c' : Bool} {xs xs' : List Xt} {ps ps' : List UInt16}
end
end Go.Spec
/-! from SpecSlot5 -/
/- Slots with versions: what the laws of layer 44 look at. Plain Lean. -/
namespace Go.Spec
open Go.Owl
structure SOK (B : List Tx) (n : Nat) : Prop where
  len : B.length = n
  all : ∀ b ∈ B, b.length = 64
theorem SOK.upd {B : List Tx} {n each : Nat} {left : Int} {key t : Tx} {v : UInt32} (h : SOK B n) : SOK (updE ⟨B, left⟩ each key v t).1.B n :=
  ⟨(updE_all (s := ⟨B, left⟩) h.all).1.trans h.len, (updE_all (s := ⟨B, left⟩) h.all).2⟩
theorem SOK.new (n : Nat) : SOK (List.replicate n (List.replicate 64 0)) n := ⟨List.length_replicate, fun b hb => by rw [List.eq_of_mem_replicate hb]; exact List.length_replicate⟩
theorem wrA_left : ∀ (l : List (Nat × Tx)) {s : Sst}, s.left < 2 ^ 63 → (wrA s l).1.left < 2 ^ 63
  | [], _, h => h
  | p :: l, s, h => by
    rw [wrA]; split
    · exact h
    · refine wrA_left l ?_
      show (if s.left > 0 then s.left - 1 else s.left) < 2 ^ 63
      split <;> omega
theorem updE_left {B : List Tx} {each : Nat} {left : Int} {key t : Tx} {v : UInt32} (h : left < 2 ^ 63) : (updE ⟨B, left⟩ each key v t).1.left < 2 ^ 63 := by
  unfold updE
  dsimp only
  split
  · exact h
  · split
    · exact h
    · exact wrA_left _ h
theorem max_left {n : Int} (h : n < 2 ^ 63) : max n (-1) < 2 ^ 63 := by omega
theorem SOK.fit {B : List Tx} {n each : Nat} (h : SOK B n) (hc : 2 + each + each ≤ n) (h1 : 1 ≤ each) (hm : n < 2 ^ 20) : Fit B each := ⟨by rw [h.len]; exact hc, h1, h.all, by omega⟩
/-- Acts of a script. -/
structure Ak where
  d : Int
  n : Int
  v : UInt32
  t : Tx
def Ak.zero : Ak := ⟨0, 0, 0, []⟩
def akc (a : Ak) : List Value := [vI a.d, vI a.n, vU32 a.v, str a.t]
def hvN (key : Tx) (l : List Ak) : Nat → Nat
  | 0 => key.length
  | k + 1 => hvN key l k + (l.getD k Ak.zero).t.length
def heavy44 (key : Tx) (l : List Ak) : Bool := if l.length > 40 then true else decide (hvN key l (min l.length 100) > 6000)
def AkFit (l : List Ak) : Prop := ∀ k, (l.getD k Ak.zero).t.length < 2 ^ 48 ∧ (l.getD k Ak.zero).n < 2 ^ 63
theorem hvN_le {key : Tx} {l : List Ak} (hk : key.length < 2 ^ 48) (h : AkFit l) : ∀ k, hvN key l k < (k + 1) * 2 ^ 48
  | 0 => by simpa [hvN] using hk
  | k + 1 => by have := hvN_le hk h k; have := (h k).1; rw [hvN]; omega
theorem hvN_mono {key : Tx} {l : List Ak} : ∀ {j k : Nat}, j < k → (l.getD j Ak.zero).t.length + key.length ≤ hvN key l k
  | j, k + 1, h => by
    rw [hvN]
    rcases Nat.lt_or_ge j k with h1 | h1
    · have := hvN_mono (key := key) (l := l) h1; omega
    · have : j = k := by omega
      subst this
      have h2 : ∀ q, key.length ≤ hvN key l q := by
        intro q
        induction q with
        | zero => exact Nat.le_refl _
        | succ q ih => rw [hvN]; omega
      have := h2 j; omega
theorem heavy_no {key : Tx} {l : List Ak} (h : heavy44 key l = false) : l.length ≤ 40 ∧ key.length ≤ 6000 ∧ ∀ k, (l.getD k Ak.zero).t.length ≤ 6000 := by
  unfold heavy44 at h
  split at h
  · cases h
  · rename_i h1
    have h2 := of_decide_eq_false h
    rw [show min l.length 100 = l.length by omega] at h2
    have h3 : ∀ q, key.length ≤ hvN key l q := by
      intro q
      induction q with
      | zero => exact Nat.le_refl _
      | succ q ih => rw [hvN]; omega
    refine ⟨by omega, by have := h3 l.length; omega, fun k => ?_⟩
    rcases Nat.lt_or_ge k l.length with hk | hk
    · have := hvN_mono (key := key) (l := l) hk; omega
    · have : l.getD k Ak.zero = Ak.zero := by simp [List.getD, List.getElem?_eq_none hk]
      rw [this]; exact Nat.zero_le _
/-- What each slot has behind an update. -/
theorem upd_slots {s : Sst} {each : Nat} {key t : Tx} {v : UInt32} (hf : Fit s.B each) {n m : Nat} (hn : n = atS (slotN s.B each key 0) (slotN s.B each key 1)) (hm : n = 0 ∧ m = 1 ∨ n = 1 ∧ m = 0) :
    slotN (updE s each key v t).1.B each key m = slotN s.B each key m ∧ ((updE s each key v t).2 = 0 → slotN (updE s each key v t).1.B each key n = ⟨v, t, true⟩) := by
  subst hn
  unfold updE
  dsimp only
  split
  · exact ⟨rfl, fun h => by cases h⟩
  · split
    · exact ⟨rfl, fun h => by cases h⟩
    · rename_i h2
      obtain ⟨k, hk, hB, hT, hF⟩ := wrA_cases (wrs each key v t (atS (slotN s.B each key 0) (slotN s.B each key 1))) s
      have hat := atS_lt (slotN s.B each key 0) (slotN s.B each key 1)
      generalize atS (slotN s.B each key 0) (slotN s.B each key 1) = n at *
      refine ⟨by rw [hB]; exact torn_other hm h2, fun h => ?_⟩
      have hb : (wrA s (wrs each key v t n)).2 = true := by
        cases hb : (wrA s (wrs each key v t n)).2 with
        | true => rfl
        | false => rw [hb] at h; cases h
      rw [hB, hT hb, List.take_length]
      exact torn_whole hat (by have := hf.len; rcases hat with rfl | rfl <;> omega) hf.all h2 hf.sz
theorem slot_new {n each k : Nat} {key : Tx} (hk : k < n) : slotN (List.replicate n (List.replicate 64 0)) each key k = Sl.no :=
  slot_blank (by rw [List.getD, List.getElem?_replicate, if_pos hk]; rfl)
theorem cur_new0 {n each : Nat} {key : Tx} (hn : 2 ≤ n) : curS (List.replicate n (List.replicate 64 0)) each key = Sl.no := by
  rw [curS_of, slot_new (by omega), slot_new (by omega)]; rfl
theorem wrA_two {s : Sst} {p q r : Nat × Tx} {l : List (Nat × Tx)} (h : s.left = 2) : (wrA s (p :: q :: r :: l)).2 = false := by
  rw [wrA, if_neg (by omega), wrA, if_neg, wrA, if_pos]
  · simp [wr1, h]
  · simp [wr1, h]
/-- The chapter's example. -/
theorem al44 {n each : Nat} {key : Tx} (hn : n = 6) (he : each = (n - 2) / 2) :
    ((updE ⟨List.replicate n (List.replicate 64 0), -1⟩ each key 1 [97]).2 = 0) ∧
    ((updE (updE ⟨List.replicate n (List.replicate 64 0), -1⟩ each key 1 [97]).1 each key 1 [98]).2 = 440) ∧
    ((updE ⟨(updE (updE ⟨List.replicate n (List.replicate 64 0), -1⟩ each key 1 [97]).1 each key 1 [98]).1.B, max 2 (-1)⟩ each key 2 [98]).2 = 441) ∧
    (curS (updE ⟨(updE (updE ⟨List.replicate n (List.replicate 64 0), -1⟩ each key 1 [97]).1 each key 1 [98]).1.B, max 2 (-1)⟩ each key 2 [98]).1.B each key = ⟨1, [97], true⟩) ∧
    ((updE ⟨(updE ⟨(updE (updE ⟨List.replicate n (List.replicate 64 0), -1⟩ each key 1 [97]).1 each key 1 [98]).1.B, max 2 (-1)⟩ each key 2 [98]).1.B, max (-1) (-1)⟩ each key 2 [98]).2 = 0) ∧
    (slotN (updE ⟨(updE ⟨(updE (updE ⟨List.replicate n (List.replicate 64 0), -1⟩ each key 1 [97]).1 each key 1 [98]).1.B, max 2 (-1)⟩ each key 2 [98]).1.B, max (-1) (-1)⟩ each key 2 [98]).1.B each key 1 = ⟨2, [98], true⟩) := by
  have he2 : each = 2 := by omega
  have hok := SOK.new n
  have fit : ∀ {B : List Tx}, SOK B n → Fit B each := fun h => h.fit (by omega) (by omega) (by omega)
  have h97 : ¬ ([97] : Tx).length > each * 64 := by rw [he2]; decide
  have h98 : ¬ ([98] : Tx).length > each * 64 := by rw [he2]; decide
  have c0 : curS (List.replicate n (List.replicate 64 0)) each key = Sl.no := cur_new0 (by omega)
  generalize hB : List.replicate n (List.replicate 64 (0 : UInt8)) = B at hok c0
  have u1 := upd_cur (s := ⟨B, -1⟩) (key := key) (v := 1) (t := [97]) (fit hok)
  have s0 : slotN B each key 0 = Sl.no := by rw [← hB]; exact slot_new (by omega)
  have s1 : slotN B each key 1 = Sl.no := by rw [← hB]; exact slot_new (by omega)
  have a1 : (updE ⟨B, -1⟩ each key 1 [97]).2 = 0 := u1.2.2.2.2 (by show (-1 : Int) < 0; decide) (by show ¬ (1 : UInt32) ≤ (curS B each key).v; rw [c0]; decide) h97
  have c1 := u1.2.1 a1
  have p1 := upd_slots (s := ⟨B, -1⟩) (key := key) (v := 1) (t := [97]) (fit hok) (n := 0) (m := 1) (by show 0 = atS (slotN B each key 0) (slotN B each key 1); rw [s0, s1]; rfl) (.inl ⟨rfl, rfl⟩)
  have q1 := p1.2 a1
  have ok1 : SOK (updE ⟨B, -1⟩ each key 1 [97]).1.B n := hok.upd
  generalize (updE ⟨B, -1⟩ each key 1 [97]).1 = S1 at *
  have u2 := upd_cur (s := S1) (key := key) (v := 1) (t := [98]) (fit ok1)
  have a2 : (updE S1 each key 1 [98]).2 = 440 := u2.1.2 (by rw [c1]; decide)
  have e2 : (updE S1 each key 1 [98]).1 = S1 := by
    have := updE_1 (B := S1.B) (left := S1.left) (each := each) (key := key) (v := 1) (t := [98]) (by rw [c1]; decide)
    exact congrArg Prod.fst this
  rw [e2]
  have hx2 : max (2 : Int) (-1) = 2 := by decide
  have u3 := upd_cur (s := ⟨S1.B, 2⟩) (key := key) (v := 2) (t := [98]) (fit ok1)
  have a3 : (updE ⟨S1.B, 2⟩ each key 2 [98]).2 = 441 := by
    rw [updE_3 (n := atS (slotN S1.B each key 0) (slotN S1.B each key 1)) (by rw [c1]; decide) h98 rfl]
    show (if (wrA ⟨S1.B, 2⟩ (wrs each key 2 [98] (atS (slotN S1.B each key 0) (slotN S1.B each key 1)))).2 = true then 0 else 441) = 441
    rw [if_neg]
    have : (wrA ⟨S1.B, 2⟩ (wrs each key 2 [98] (atS (slotN S1.B each key 0) (slotN S1.B each key 1)))).2 = false := wrA_two rfl
    rw [this]; decide
  have c3 := (u3.2.2.1 (by rw [a3]; decide)).trans c1
  have at3 : 1 = atS (slotN S1.B each key 0) (slotN S1.B each key 1) := by
    have h9 : slotN S1.B each key 1 = Sl.no := p1.1.trans s1
    rw [q1, h9]; rfl
  have p3 := upd_slots (s := ⟨S1.B, 2⟩) (key := key) (v := 2) (t := [98]) (fit ok1) (n := 1) (m := 0) at3 (.inr ⟨rfl, rfl⟩)
  have q3 : slotN (updE ⟨S1.B, 2⟩ each key 2 [98]).1.B each key 0 = ⟨1, [97], true⟩ := p3.1.trans q1
  have ok3 : SOK (updE ⟨S1.B, 2⟩ each key 2 [98]).1.B n := ok1.upd
  rw [hx2]
  have hx1 : max (-1 : Int) (-1) = -1 := by decide
  rw [hx1]
  generalize (updE ⟨S1.B, 2⟩ each key 2 [98]).1.B = B3 at *
  have u4 := upd_cur (s := ⟨B3, -1⟩) (key := key) (v := 2) (t := [98]) (fit ok3)
  have a4 : (updE ⟨B3, -1⟩ each key 2 [98]).2 = 0 := u4.2.2.2.2 (by show (-1 : Int) < 0; decide) (by show ¬ (2 : UInt32) ≤ (curS B3 each key).v; rw [c3]; decide) h98
  have at4 : 1 = atS (slotN B3 each key 0) (slotN B3 each key 1) := by
    have h9 := c3
    rw [curS_of] at h9
    have hN : curN (slotN B3 each key 0) (slotN B3 each key 1) = 0 := by
      unfold curN
      split
      · rename_i h8
        exfalso
        have h7 : curOf (slotN B3 each key 0) (slotN B3 each key 1) = slotN B3 each key 1 := if_pos (if_pos h8)
        rw [h7] at h9
        rcases h8.2 with h6 | h6
        · rw [q3] at h6; cases h6
        · rw [q3, h9] at h6; exact absurd h6 (by decide)
      · rfl
    have hI : curIs (slotN B3 each key 0) (slotN B3 each key 1) = true := by rw [curIs_eq, h9]
    exact (if_pos ⟨hI, hN⟩).symm
  have p4 := upd_slots (s := ⟨B3, -1⟩) (key := key) (v := 2) (t := [98]) (fit ok3) (n := 1) (m := 0) at4 (.inr ⟨rfl, rfl⟩)
  subst hB
  exact ⟨a1, a2, a3, c3, a4, p4.2 a4⟩
theorem rhead_len {key : Tx} {v : UInt32} {t : Tx} :
    ((64 : Nat) : Int) - ((([65, 83, 76, 49] ++ (rB v 4 ++ rB (UInt32.ofNat t.length) 4) ++ mac key ((rB v 4 ++ rB (UInt32.ofNat t.length) 4) ++ t)).length : Nat) : Int) = ((20 : Nat) : Int) := by
  rw [List.length_append, List.length_append, List.length_append, rB_length, rB_length, mac_length]; rfl
theorem rhead_eq {key : Tx} {v : UInt32} {t : Tx} :
    ([65, 83, 76, 49] ++ (rB v 4 ++ rB (UInt32.ofNat t.length) 4) ++ mac key ((rB v 4 ++ rB (UInt32.ofNat t.length) 4) ++ t)) ++ List.replicate 20 0 = hdrS key v t := by
  rw [rB4, rB4]
  show rawH key v t ++ List.replicate 20 0 = pad64 (rawH key v t)
  rw [pad64, rawH_len]
theorem ak_n {n : Int} (h : -9223372036854775808 ≤ n ∧ n ≤ 9223372036854775807) : n < 2 ^ 63 := by omega
theorem ak_fit {l : List Ak} (h : ∀ x ∈ l, x.t.length ≤ 140737488351232 ∧ x.n < 2 ^ 63) : AkFit l := fun k => by
  rcases Nat.lt_or_ge k l.length with hk | hk
  · have e : l.getD k Ak.zero = l[k] := by rw [List.getD, List.getElem?_eq_getElem hk]; rfl
    rw [e]
    have := h _ (List.getElem_mem hk)
    exact ⟨by omega, this.2⟩
  · have e : l.getD k Ak.zero = Ak.zero := by rw [List.getD, List.getElem?_eq_none hk]; rfl
    rw [e]; exact ⟨by decide, by decide⟩
end Go.Spec
/-! from SpecSlot6 -/
/- Slots with versions: the document's own slots, and how they are played. Plain Lean. -/
namespace Go.Spec
open Go.Owl
/-- Which slot the document has as the current one; below 0: none. -/
def rcur (a b : Sl) : Int := if a.is = true ∧ (b.is = false ∨ a.v ≥ b.v) then 0 else if b.is = true then 1 else -1
theorem rcur_at (a b : Sl) : rcur a b = 0 ↔ (curIs a b = true ∧ curN a b = 0) := by
  by_cases h : b.is = true ∧ (a.is = false ∨ b.v > a.v)
  · have h1 := cur1 h.1 h.2
    rw [h1.1, h1.2]
    refine ⟨fun h9 => ?_, fun h9 => absurd h9.2 (by decide)⟩
    exfalso
    unfold rcur at h9
    rw [if_neg, if_pos h.1] at h9
    · exact absurd h9 (by decide)
    · rintro ⟨h2, h3⟩
      rcases h3 with h3 | h3
      · rw [h.1] at h3; cases h3
      · rcases h.2 with h4 | h4
        · rw [h2] at h4; cases h4
        · rw [ge_iff_le, UInt32.le_iff_toNat_le] at h3
          rw [gt_iff_lt, UInt32.lt_iff_toNat_lt] at h4
          omega
  · have h1 : curN a b = 0 := if_neg h
    have h2 : curIs a b = a.is := if_neg h
    rw [h1, h2]
    cases ha : a.is with
    | true =>
      refine ⟨fun _ => ⟨rfl, rfl⟩, fun _ => ?_⟩
      refine if_pos ⟨ha, ?_⟩
      cases hb : b.is with
      | false => exact .inl rfl
      | true =>
        right
        rw [ge_iff_le, UInt32.le_iff_toNat_le]
        have : ¬ b.v > a.v := fun h9 => h ⟨hb, .inr h9⟩
        rw [gt_iff_lt, UInt32.lt_iff_toNat_lt] at this
        omega
    | false =>
      refine ⟨fun h9 => ?_, fun h9 => absurd h9.1 (by decide)⟩
      exfalso
      unfold rcur at h9
      rw [if_neg (fun h8 => by rw [ha] at h8; cases h8.1)] at h9
      split at h9 <;> exact absurd h9 (by decide)
theorem rcur_slot (B : List Tx) (each : Nat) (key : Tx) : slotI B each key (rcur (slotN B each key 0) (slotN B each key 1)) = curS B each key := by
  have h0 := rcur_at (slotN B each key 0) (slotN B each key 1)
  by_cases h : rcur (slotN B each key 0) (slotN B each key 1) = 0
  · have h1 := h0.1 h
    rw [h, curS, h1.2]; rfl
  · unfold rcur at h ⊢
    split
    · rename_i h2; rw [if_pos h2] at h; exact absurd rfl h
    · rename_i h2
      split
      · rename_i h3
        have h4 : curN (slotN B each key 0) (slotN B each key 1) = 1 := by
          refine if_pos ⟨h3, ?_⟩
          cases h5 : (slotN B each key 0).is with
          | false => exact .inl rfl
          | true =>
            right
            rw [gt_iff_lt, UInt32.lt_iff_toNat_lt]
            have h6 : ¬ (slotN B each key 0).v ≥ (slotN B each key 1).v := fun h9 => h2 ⟨h5, .inr h9⟩
            rw [ge_iff_le, UInt32.le_iff_toNat_le] at h6
            omega
        rw [curS, h4]; rfl
      · rename_i h3
        have h3 : (slotN B each key 1).is = false := by
          cases h9 : (slotN B each key 1).is with
          | false => rfl
          | true => exact absurd h9 h3
        have h5 : (slotN B each key 0).is = false := by
          cases h9 : (slotN B each key 0).is with
          | false => rfl
          | true => exact absurd ⟨h9, .inl h3⟩ h2
        have h6 : curIs (slotN B each key 0) (slotN B each key 1) = false := by
          rw [(cur0 (.inl h3)).2, h5]
        rw [curS_no h6]; rfl
theorem atS_rcur {a b : Sl} (h : rcur a b = 0) : atS a b = 1 := if_pos ((rcur_at a b).1 h)
theorem atS_rcur0 {a b : Sl} (h : ¬ rcur a b = 0) : atS a b = 0 := if_neg (fun h2 => h ((rcur_at a b).2 h2))
def blk64 (t : Tx) : Tx := pad64 (t.take 64)
theorem blk64_len (t : Tx) : (blk64 t).length = 64 := pad64_len (by rw [List.length_take]; omega)
theorem blk_step {t : Tx} {i : Nat} (h : i < 64) (h2 : i < t.length) : (t.take i ++ List.replicate (64 - i) 0).set i (t.getD i 0) = t.take (i + 1) ++ List.replicate (64 - (i + 1)) 0 := by
  rw [List.set_append_right _ _ (by rw [List.length_take]; omega), List.length_take, Nat.min_eq_left (by omega), Nat.sub_self]
  obtain ⟨q, hq⟩ : ∃ q, 64 - i = q + 1 := ⟨63 - i, by omega⟩
  rw [hq, List.replicate_succ, List.set_cons_zero, show 64 - (i + 1) = q by omega, List.take_add_one, List.getElem?_eq_getElem h2, List.append_assoc]
  rw [List.getD, List.getElem?_eq_getElem h2]; rfl
theorem blk_end {t : Tx} {i : Nat} (h : i ≤ 64) (h2 : i ≤ t.length) (h3 : ¬ (i < 64 ∧ i < t.length)) : t.take i ++ List.replicate (64 - i) 0 = blk64 t := by
  have e : t.take i = t.take 64 := by
    rcases Nat.lt_or_ge i 64 with h4 | h4
    · have : i = t.length := by omega
      rw [this, List.take_length, List.take_of_length_le (by omega)]
    · rw [show i = 64 by omega]
  rw [blk64, pad64, e, List.length_take]
  congr 2; omega
theorem SOK.set {B : List Tx} {n i : Nat} {x : Tx} (h : SOK B n) (hx : x.length = 64) : SOK (B.set i x) n := ⟨by rw [List.length_set]; exact h.len, set_all h.all hx⟩
theorem nb_lt (bl : UInt8) : (UInt32.ofNat (bl % 16).toNat).toNat ≤ 15 := by
  rw [UInt32.toNat_ofNat', UInt8.toNat_mod]
  have : (16 : UInt8).toNat = 16 := rfl
  rw [this]
  omega
theorem nb_ge {n : UInt32} (h : ¬ n < 4) : 4 ≤ n.toNat := by
  rw [UInt32.lt_iff_toNat_lt] at h
  have : (4 : UInt32).toNat = 4 := rfl
  omega
theorem nb_lt4 {n : UInt32} (h : n < 4) : n.toNat < 4 := h
theorem u32I_nat {i : Int} {n : Nat} (h : 0 ≤ i) (h2 : i < n) (h3 : n < 2 ^ 32) : u32I i = UInt32.ofNat i.toNat := by
  unfold u32I; congr 2; omega
theorem slI_out {B : List Tx} {each : Nat} {key : Tx} {i : Int} (h : i < 0 ∨ i > 1) : slotI B each key i = Sl.no := if_pos h
theorem slI_in {B : List Tx} {each : Nat} {key : Tx} {i : Int} (h : ¬ (i < 0 ∨ i > 1)) : slotI B each key i = slotN B each key i.toNat := if_neg h
/-- A text's rest behind so many pieces. -/
theorem srest_min {t : Tx} {i : Nat} : (t.drop (i * 64)).take (min (t.drop (i * 64)).length 64) = pcT t i := by
  rw [pcT]
  rcases Nat.lt_or_ge (t.drop (i * 64)).length 64 with h | h
  · rw [Nat.min_eq_left (by omega), List.take_of_length_le (Nat.le_refl _), List.take_of_length_le (by omega)]
  · rw [Nat.min_eq_right h]
theorem srest_drop {t : Tx} {i : Nat} : (t.drop (i * 64)).drop (min (t.drop (i * 64)).length 64) = t.drop ((i + 1) * 64) := by
  rw [List.drop_drop, List.length_drop]
  rcases Nat.lt_or_ge (t.length - i * 64) 64 with h | h
  · rw [Nat.min_eq_left (by omega), List.drop_of_length_le (by omega), List.drop_of_length_le (by omega)]
  · rw [Nat.min_eq_right h]; congr 1; omega
theorem srest_lt {t : Tx} {i : Nat} (h : (t.drop (i * 64)).length > 0) : i < cntS t := by rw [List.length_drop] at h; unfold cntS; omega
theorem srest_end {t : Tx} {i : Nat} (h : ¬ (t.drop (i * 64)).length > 0) (h2 : i ≤ cntS t) : i = cntS t := by rw [List.length_drop] at h; unfold cntS at h2 ⊢; omega
section
variable {each at_ : Nat} {key t : Tx} {v : UInt32}
theorem wrs_first : (wrs each key v t at_)[0]? = some (at_, []) := rfl
theorem wrs_mid {i : Nat} (h : i < cntS t) : (wrs each key v t at_)[i + 1]? = some (2 + at_ * each + i, pcT t i) := by
  rw [wrs, List.cons_append, List.getElem?_cons_succ, List.getElem?_append_left (by rw [pcs_len]; exact h), pcs_get _ _ h]
theorem wrs_last : (wrs each key v t at_)[cntS t + 1]? = some (at_, hdrS key v t) := by
  rw [wrs, List.cons_append, List.getElem?_cons_succ, List.getElem?_append_right (by rw [pcs_len]; exact Nat.le_refl _), pcs_len, Nat.sub_self]; rfl
/-- One write more. -/
theorem wr_next {s s' : Sst} {k : Nat} {p : Nat × Tx} (h : wrA s (wrs each key v t at_) = wrA s' ((wrs each key v t at_).drop k)) (hk : (wrs each key v t at_)[k]? = some p) (hl : ¬ s'.left = 0) : wrA s (wrs each key v t at_) = wrA (wrX s' p) ((wrs each key v t at_).drop (k + 1)) := by
  rw [wrX_step hl]; exact wrA_step h hk hl
theorem wr_stop {s s' : Sst} {k : Nat} {p : Nat × Tx} (h : wrA s (wrs each key v t at_) = wrA s' ((wrs each key v t at_).drop k)) (hk : (wrs each key v t at_)[k]? = some p) (hl : s'.left = 0) : wrA s (wrs each key v t at_) = (wrX s' p, false) := by
  rw [wrX_stop hl]; exact wrA_stop h (List.getElem?_eq_some_iff.1 hk).1 hl
theorem wr_end {s s' : Sst} (h : wrA s (wrs each key v t at_) = wrA s' ((wrs each key v t at_).drop (cntS t + 1 + 1))) : wrA s (wrs each key v t at_) = (s', true) := by
  refine wrA_done ?_
  rw [wrs_len]; exact h
end
end Go.Spec
