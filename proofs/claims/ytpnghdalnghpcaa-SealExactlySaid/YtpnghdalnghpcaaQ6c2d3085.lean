/- General lemmas and walks: SpecDem, SpecImg, SpecInsn, LawInsn, SpecRef4, SpecSha, SpecHash, LawSha, SpecPack, LawPack, SpecMac, SpecLog, SpecImg2, SpecImg3, SpecImg4, SpecImg5, SpecImg6, SpecImg7, SpecImg8, SpecImg9, SpecImg10, SpecRef2, SpecRoots, SpecImg11, SpecImg12, SpecImg13, SpecSeal, SpecSeal2. No condition but what each theorem names. -/
import Derived.Test.YtpnghdalnghpcaaQ3756f02f
import Derived.Test.YtpnghdalnghpcaaQ47192277
/-! from SpecDem -/
/- Manifests: which may be. Plain Lean. -/
namespace Go.Owl
theorem Arr.lenM {β : Type} {f : β → Value} {w : World} {v : Value} {q : Nat} {l : List β} (hA : Arr w v 1 q (l.map f)) : Arr w v 1 l.length (l.map f) := by
  have h := hA.len
  rw [List.length_map, Nat.mul_one] at h
  rw [h]; exact hA
end Go.Owl
namespace Go.Spec
open Go.Owl
structure Xt where
  id : UInt32
  bl : UInt32
deriving DecidableEq
def Xt.zero : Xt := ⟨0, 0⟩
def xtc (x : Xt) : List Value := [vU32 x.id, vU32 x.bl]
structure Sg where
  a : UInt32
  p : UInt8
  b : List UInt8
deriving DecidableEq
def Sg.zero : Sg := ⟨0, 0, []⟩
def sgc (x : Sg) : List Value := [vU32 x.a, vU8 x.p, str x.b]
section
variable {α : Type} {p : α → Bool} {l : List α} {d : α} {k : Nat} {r : α → α → Bool}
/-- The first that is so. -/
def fidx (p : α → Bool) (l : List α) : Int := match l.findIdx? p with
  | some k => (k : Int)
  | none => -1
theorem getD_at (h : k < l.length) : l.getD k d = l[k] := by rw [List.getD, List.getElem?_eq_getElem h]; rfl
theorem fidx_yes (hk : k < l.length) (h : ∀ j, j < k → p (l.getD j d) = false) (hp : p (l.getD k d) = true) : fidx p l = (k : Int) := by
  have e : l.findIdx? p = some k := by
    rw [List.findIdx?_eq_some_iff_getElem]
    refine ⟨hk, by rw [getD_at hk] at hp; exact hp, fun j hj => ?_⟩
    have h1 := h j hj
    rw [getD_at (by omega)] at h1
    simp [h1]
  rw [fidx, e]
theorem fidx_no (h : ∀ j, j < l.length → p (l.getD j d) = false) : fidx p l = -1 := by
  have e : l.findIdx? p = none := by
    rw [List.findIdx?_eq_none_iff]
    intro x hx
    obtain ⟨j, hj, rfl⟩ := List.getElem_of_mem hx
    have h1 := h j hj
    rw [getD_at hj] at h1
    exact h1
  rw [fidx, e]
theorem fidx_any : decide (fidx p l ≥ 0) = l.any p := by
  rw [← List.findIdx?_isSome, fidx]
  cases l.findIdx? p with
  | none => rfl
  | some k => simp
/-- Each two side by side are so. -/
def ris (r : α → α → Bool) : List α → Bool
  | a :: b :: l => r a b && ris r (b :: l)
  | _ => true
theorem ris_no : ∀ {l : List α} {k : Nat}, k + 1 < l.length → r (l.getD k d) (l.getD (k + 1) d) = false → ris r l = false
  | [], _, h, _ => by simp at h
  | [_], _, h, _ => by simp at h
  | a :: b :: l, 0, _, h => by
    have h1 : r a b = false := h
    rw [ris, h1]; rfl
  | a :: b :: l, k + 1, hk, h => by
    rw [ris, ris_no (l := b :: l) (k := k) (by simpa using hk) h, Bool.and_false]
theorem ris_yes : ∀ {l : List α}, (∀ k, k + 1 < l.length → r (l.getD k d) (l.getD (k + 1) d) = true) → ris r l = true
  | [], _ => rfl
  | [_], _ => rfl
  | a :: b :: l, h => by
    have h1 : r a b = true := h 0 (by simp)
    rw [ris, h1, Bool.true_and]
    exact ris_yes (l := b :: l) fun k hk => h (k + 1) (by simpa using hk)
theorem any_yes (hk : k < l.length) (hp : p (l.getD k d) = true) : l.any p = true := by
  rw [List.any_eq_true]
  exact ⟨l[k], List.getElem_mem hk, by rw [getD_at hk] at hp; exact hp⟩
theorem allPrev {P : Nat → Prop} (h : ∀ j, j < k → P j) (h2 : P k) : ∀ j, j < k + 1 → P j := fun j hj => by
  rcases Nat.lt_or_ge j k with h3 | h3
  · exact h j h3
  · rw [show j = k by omega]; exact h2
end
def xtBad (x : Xt) : Bool := decide (x.id ≥ 16) || (decide (x.bl < 1) || decide (x.bl > 1024))
def xtLt (x y : Xt) : Bool := decide (x.id < y.id)
def u16Lt (x y : UInt16) : Bool := decide (x < y)
def u16Is (y x : UInt16) : Bool := decide (y = x)
def u8Is (y x : UInt8) : Bool := decide (y = x)
def mfMay (pg : UInt32) (xs : List Xt) (ps : List UInt16) : Bool := !(xs.any xtBad) && (ris xtLt xs && (ris u16Lt ps && (!(ps.any (u16Is 0)) && (!decide (ps.length > 16) && !decide (pg > 1024)))))
def mfE (pg : UInt32) (xs : List Xt) (ps : List UInt16) : Nat := if mfMay pg xs ps then 0 else 2
theorem mfE_no {pg : UInt32} {xs : List Xt} {ps : List UInt16} (h : mfMay pg xs ps = false) : mfE pg xs ps = 2 := if_neg (by rw [h]; decide)
end Go.Spec
/-! from SpecImg -/
/- Images: which may be, which bytes and pages they have. Plain Lean. -/
namespace Go.Spec
open Go.Owl
def sgEnd (x : Sg) : UInt64 := UInt64.ofNat x.a.toNat + UInt64.ofNat x.b.length
def permOk (p : UInt8) : Bool := [1, 3, 5].any (u8Is p)
def sgBad (fr : UInt64) (x : Sg) : Bool := !(permOk x.p) || (decide (x.a % 256 ≠ 0) || (decide (UInt64.ofNat x.a.toNat < fr) || (decide (x.b = []) || decide (sgEnd x > 131072))))
def sgNext (x : Sg) : UInt64 := (sgEnd x + 256 - 1) / 256 * 256
def sgBegins (en : UInt32) (x : Sg) : Bool := decide (x.p &&& 4 ≠ 0) && (decide (en ≥ x.a) && decide (UInt64.ofNat en.toNat + 8 ≤ sgEnd x))
def ckTo (en : UInt32) (sg : List Sg) : Nat → UInt64 × Bool
  | 0 => (256, false)
  | k + 1 => (sgNext (sg.getD k Sg.zero), (ckTo en sg k).2 || sgBegins en (sg.getD k Sg.zero))
theorem ckTo_2 (en : UInt32) (sg : List Sg) (k : Nat) : (ckTo en sg (k + 1)).2 = ((ckTo en sg k).2 || sgBegins en (sg.getD k Sg.zero)) := rfl
def imHead (pg : UInt32) (xs : List Xt) (ps : List UInt16) (en : UInt32) (sg : List Sg) : Bool := decide (mfE pg xs ps ≠ 0) || (decide (sg.length < 1) || (decide (sg.length > 8) || decide (en % 8 ≠ 0)))
def imMay (pg : UInt32) (xs : List Xt) (ps : List UInt16) (en : UInt32) (sg : List Sg) : Bool :=
  !(imHead pg xs ps en sg) && ((List.range sg.length).all (fun k => !(sgBad (ckTo en sg k).1 (sg.getD k Sg.zero))) && (ckTo en sg sg.length).2)
def imE (pg : UInt32) (xs : List Xt) (ps : List UInt16) (en : UInt32) (sg : List Sg) : Nat := if imMay pg xs ps en sg then 0 else 2
section
variable {pg en : UInt32} {xs : List Xt} {ps : List UInt16} {sg : List Sg} {k : Nat}
theorem im_head (h : imHead pg xs ps en sg = true) : imE pg xs ps en sg = 2 := by
  rw [imE, imMay, h]; rfl
theorem im_bad (hk : k < sg.length) (h : sgBad (ckTo en sg k).1 (sg.getD k Sg.zero) = true) : imE pg xs ps en sg = 2 := by
  rw [imE, if_neg]
  intro hm
  rw [imMay, Bool.and_eq_true, Bool.and_eq_true, List.all_eq_true] at hm
  have h1 := hm.2.1 k (List.mem_range.2 hk)
  rw [h] at h1; cases h1
theorem im_end (h : imHead pg xs ps en sg = false) (hb : ∀ j, j < sg.length → sgBad (ckTo en sg j).1 (sg.getD j Sg.zero) = false) : imE pg xs ps en sg = if (ckTo en sg sg.length).2 then 0 else 2 := by
  have ha : (List.range sg.length).all (fun k => !(sgBad (ckTo en sg k).1 (sg.getD k Sg.zero))) = true := by
    rw [List.all_eq_true]
    intro j hj
    rw [hb j (List.mem_range.1 hj)]; rfl
  rw [imE, imMay, h, ha]; rfl
end
end Go.Spec
/-! from SpecInsn -/
/- What the instructions' functions say, in plain Lean. -/
namespace Go.Spec
open Go.Owl

def le4 (v : UInt32) : List UInt8 := [UInt8.ofNat v.toNat, UInt8.ofNat (shrU32 v 8).toNat, UInt8.ofNat (shrU32 v 16).toNat, UInt8.ofNat (shrU32 v 24).toNat]
def getTo (s : List UInt8) : Nat → UInt32
  | 0 => 0
  | k + 1 => getTo s k ||| shlU32 (UInt32.ofNat (s.getD k 0).toNat) (8 * k)
def getE (s : List UInt8) : Nat := if s.length < 1 ∨ 4 < s.length then 2 else 0
def getV (s : List UInt8) : UInt32 := if s.length < 1 ∨ 4 < s.length then 0 else getTo s s.length

end Go.Spec
/-! from LawInsn -/
/- Plain laws of the instructions' bytes. -/
namespace Go.Spec
open Go.Owl

end Go.Spec
/-! from SpecRef4 -/
/- What the reference of layer 4 says, in plain Lean, and that it says the same. -/
namespace Go.Spec
open Go.Owl

theorem op_all {p : UInt8 → Bool} (h : ((List.range 256).all fun k => p (UInt8.ofNat k)) = true) (op : UInt8) : p op = true := by
  have := List.all_eq_true.mp h op.toNat (List.mem_range.mpr op.toNat_lt)
  simpa using this
def rV (v : UInt32) : Nat → UInt32
  | 0 => v
  | k + 1 => rV v k / 256
def rB (v : UInt32) : Nat → List UInt8
  | 0 => []
  | k + 1 => rB v k ++ [UInt8.ofNat (rV v k % 256).toNat]
theorem rB_length (v : UInt32) : ∀ k, (rB v k).length = k
  | 0 => rfl
  | k + 1 => by simp [rB, rB_length v k]
theorem rB4 (v : UInt32) : rB v 4 = le4 v := by
  have hv := v.toNat_lt
  simp only [rB, rV, le4, shrU32, List.nil_append, List.cons_append, List.cons.injEq, and_true]
  refine ⟨?_, ?_, ?_, ?_⟩ <;> (apply UInt8.toNat_inj.mp; simp [Nat.shiftRight_eq_div_pow]; try omega)
theorem b16 (b : UInt8) : b % 16 = b &&& 15 ∧ b / 16 = shrU8 b 4 := by
  have := op_all (p := fun b => b % 16 == b &&& 15 && b / 16 == shrU8 b 4) (by decide +kernel) b
  simpa using this
end Go.Spec
/-! from SpecSha -/
/- SHA-256 in plain Lean. -/
namespace Go.Spec
open Go.Owl
def rot (x : UInt32) (n : Nat) : UInt32 := shrU32 x n ||| shlU32 x (32 - n)
structure St where
  a : UInt32
  b : UInt32
  c : UInt32
  d : UInt32
  e : UInt32
  f : UInt32
  g : UInt32
  h : UInt32
def St.vals (v : St) : List UInt32 := [v.a, v.b, v.c, v.d, v.e, v.f, v.g, v.h]
/-- Four bytes, the highest first. -/
def be4 (b : List UInt8) (t : Nat) : UInt32 := ((shlU32 (UInt32.ofNat (b.getD (4 * t) 0).toNat) 24 ||| shlU32 (UInt32.ofNat (b.getD (4 * t + 1) 0).toNat) 16) ||| shlU32 (UInt32.ofNat (b.getD (4 * t + 2) 0).toNat) 8) ||| UInt32.ofNat (b.getD (4 * t + 3) 0).toNat
def mix (w : List UInt32) (t : Nat) : UInt32 :=
  ((w.getD (t - 16) 0 + ((rot (w.getD (t - 15) 0) 7 ^^^ rot (w.getD (t - 15) 0) 18) ^^^ shrU32 (w.getD (t - 15) 0) 3)) + w.getD (t - 7) 0) + ((rot (w.getD (t - 2) 0) 17 ^^^ rot (w.getD (t - 2) 0) 19) ^^^ shrU32 (w.getD (t - 2) 0) 10)
/-- The first k numbers W of a block. -/
def wl (b : List UInt8) : Nat → List UInt32
  | 0 => []
  | k + 1 => wl b k ++ [if k < 16 then be4 b k else mix (wl b k) k]
theorem wl_length (b : List UInt8) : ∀ k, (wl b k).length = k
  | 0 => rfl
  | k + 1 => by simp [wl, wl_length b k]
def keyL : List UInt32 := [
  0x428a2f98, 0x71374491, 0xb5c0fbcf, 0xe9b5dba5, 0x3956c25b, 0x59f111f1, 0x923f82a4, 0xab1c5ed5,
  0xd807aa98, 0x12835b01, 0x243185be, 0x550c7dc3, 0x72be5d74, 0x80deb1fe, 0x9bdc06a7, 0xc19bf174,
  0xe49b69c1, 0xefbe4786, 0x0fc19dc6, 0x240ca1cc, 0x2de92c6f, 0x4a7484aa, 0x5cb0a9dc, 0x76f988da,
  0x983e5152, 0xa831c66d, 0xb00327c8, 0xbf597fc7, 0xc6e00bf3, 0xd5a79147, 0x06ca6351, 0x14292967,
  0x27b70a85, 0x2e1b2138, 0x4d2c6dfc, 0x53380d13, 0x650a7354, 0x766a0abb, 0x81c2c92e, 0x92722c85,
  0xa2bfe8a1, 0xa81a664b, 0xc24b8b70, 0xc76c51a3, 0xd192e819, 0xd6990624, 0xf40e3585, 0x106aa070,
  0x19a4c116, 0x1e376c08, 0x2748774c, 0x34b0bcb5, 0x391c0cb3, 0x4ed8aa4a, 0x5b9cca4f, 0x682e6ff3,
  0x748f82ee, 0x78a5636f, 0x84c87814, 0x8cc70208, 0x90befffa, 0xa4506ceb, 0xbef9a3f7, 0xc67178f2]
def firstS : St := ⟨0x6a09e667, 0xbb67ae85, 0x3c6ef372, 0xa54ff53a, 0x510e527f, 0x9b05688c, 0x1f83d9ab, 0x5be0cd19⟩
def t1of (v : St) (k w : UInt32) : UInt32 := (((v.h + ((rot v.e 6 ^^^ rot v.e 11) ^^^ rot v.e 25)) + ((v.e &&& v.f) ^^^ (v.g &&& ~~~v.e))) + k) + w
def t2of (v : St) : UInt32 := ((rot v.a 2 ^^^ rot v.a 13) ^^^ rot v.a 22) + (((v.a &&& v.b) ^^^ (v.a &&& v.c)) ^^^ (v.b &&& v.c))
def stepS (v : St) (k w : UInt32) : St := ⟨t1of v k w + t2of v, v.a, v.b, v.c, v.d + t1of v k w, v.e, v.f, v.g⟩
def rounds (h : St) (w : List UInt32) : Nat → St
  | 0 => h
  | t + 1 => stepS (rounds h w t) (keyL.getD t 0) (w.getD t 0)
def addS (v h : St) : St := ⟨v.a + h.a, v.b + h.b, v.c + h.c, v.d + h.d, v.e + h.e, v.f + h.f, v.g + h.g, v.h + h.h⟩
def blockS (h : St) (b : List UInt8) : St := addS (rounds h (wl b 64) 64) h
def padZ (n : Nat) : Nat := (119 - n % 64) % 64
def hb (x : UInt32) : List UInt8 := [UInt8.ofNat (shrU32 x 24).toNat, UInt8.ofNat (shrU32 x 16).toNat, UInt8.ofNat (shrU32 x 8).toNat, UInt8.ofNat x.toNat]
/-- The array W while it is filled. -/
def wC (b : List UInt8) (k : Nat) : List Value := (wl b k).map vU32 ++ List.replicate (64 - k) (vU32 0)
theorem wC_length (b : List UInt8) (k : Nat) (h : k ≤ 64) : (wC b k).length = 64 := by simp [wC, wl_length]; omega
theorem wC_get (b : List UInt8) {k j : Nat} (h : j < k) : (wC b k)[0 + j]? = some (vU32 ((wl b k).getD j 0)) := by
  rw [Nat.zero_add, wC, List.getElem?_append_left (by simpa [wl_length] using h)]
  simp [List.getD, wl_length, h]
theorem wC_set (b : List UInt8) {k : Nat} (h : k < 64) : wC b (k + 1) = (wC b k).set (0 + k) (vU32 (if k < 16 then be4 b k else mix (wl b k) k)) := by
  rw [Nat.zero_add, wC, wC, List.set_append, List.length_map, wl_length, if_neg (Nat.lt_irrefl k), Nat.sub_self, show 64 - k = (64 - (k + 1)) + 1 by omega, List.replicate_succ, List.set_cons_zero]
  simp [wl]
theorem wC_end (b : List UInt8) : wC b 64 = (wl b 64).map vU32 := by simp [wC]
theorem one_U32 (l : List UInt32) : (l.map vU32).all (·.oneCell') = true := by simp [Value.oneCell']
theorem get_map0 {α β : Type} (f : α → β) {l : List α} {m : Nat} (d : α) (hm : m < l.length) : (l.map f)[0 + m]? = some (f (l.getD m d)) := by rw [Nat.zero_add]; exact get_map f d hm
def addTo (v h : St) (k : Nat) : List UInt32 := List.zipWith (· + ·) (v.vals.take k) (h.vals.take k) ++ v.vals.drop k
theorem addTo_length (v h : St) : ∀ k, k ≤ 8 → (addTo v h k).length = 8 := fun k hk => by simp [addTo, St.vals]; omega
theorem addTo_set (v h : St) : ∀ k, k < 8 → addTo v h (k + 1) = (addTo v h k).set k ((addTo v h k).getD k 0 + h.vals.getD k 0) := fun k hk => by
  rcases (by omega : k = 0 ∨ k = 1 ∨ k = 2 ∨ k = 3 ∨ k = 4 ∨ k = 5 ∨ k = 6 ∨ k = 7) with rfl | rfl | rfl | rfl | rfl | rfl | rfl | rfl <;> rfl
theorem addTo_end (v h : St) : addTo v h 8 = (addS v h).vals := rfl
theorem addTo_map (v h : St) {k : Nat} (hk : k < 8) : (addTo v h (k + 1)).map vU32 = ((addTo v h k).map vU32).set (0 + k) (vU32 ((addTo v h k).getD k 0 + h.vals.getD k 0)) := by
  rw [addTo_set v h k hk, Nat.zero_add, List.map_set]
theorem keyL_length : keyL.length = 64 := rfl
theorem vals_length (h : St) : h.vals.length = 8 := rfl
end Go.Spec
/-! from SpecHash -/
/- A hash by the text that was written to it. -/
namespace Go.Spec
open Go.Owl
/-- j blocks of d, and what is left. -/
def brest (d : List UInt8) : Nat → List UInt8
  | 0 => d
  | j + 1 => (brest d j).drop 64
def bst (h : St) (d : List UInt8) : Nat → St
  | 0 => h
  | j + 1 => blockS (bst h d j) ((brest d j).take 64)
theorem brest_eq (d : List UInt8) : ∀ j, brest d j = d.drop (64 * j)
  | 0 => by simp [brest]
  | j + 1 => by rw [brest, brest_eq d j, List.drop_drop]; congr 1
theorem brest_length (d : List UInt8) (j : Nat) : (brest d j).length = d.length - 64 * j := by rw [brest_eq, List.length_drop]
theorem bst_add (h : St) (d : List UInt8) (i : Nat) : ∀ j, bst h d (i + j) = bst (bst h d i) (brest d i) j ∧ brest d (i + j) = brest (brest d i) j
  | 0 => ⟨rfl, rfl⟩
  | j + 1 => by rw [← Nat.add_assoc, bst, brest, (bst_add h d i j).1, (bst_add h d i j).2]; exact ⟨rfl, rfl⟩
theorem brest_append (d e : List UInt8) (j : Nat) (hl : 64 * j ≤ d.length) : brest (d ++ e) j = brest d j ++ e := by
  rw [brest_eq, brest_eq, List.drop_append_of_le_length hl]
theorem bst_append (h : St) (d e : List UInt8) : ∀ j, 64 * j ≤ d.length → bst h (d ++ e) j = bst h d j
  | 0, _ => rfl
  | j + 1, hl => by
    rw [bst, bst, bst_append h d e j (by omega), brest_append d e j (by omega), List.take_append_of_le_length (by rw [brest_length]; omega)]
def hst (all : List UInt8) : St := bst firstS all (all.length / 64)
def hrest (all : List UInt8) : List UInt8 := brest all (all.length / 64)
theorem hrest_length (all : List UInt8) : (hrest all).length = all.length % 64 := by unfold hrest; rw [brest_length]; omega
theorem mEnd (a s : List UInt8) (j : Nat) (h : (brest (hrest a ++ s) j).length < 64) (hj : 64 * j ≤ (hrest a).length + s.length) : bst (hst a) (hrest a ++ s) j = hst (a ++ s) ∧ brest (hrest a ++ s) j = hrest (a ++ s) := by
  rw [brest_length, List.length_append, hrest_length] at h
  rw [hrest_length] at hj
  have e : (a ++ s).length / 64 = a.length / 64 + j := by rw [List.length_append]; omega
  have hb := bst_add firstS (a ++ s) (a.length / 64) j
  have h1 := brest_append a s (a.length / 64) (by omega)
  have h2 := bst_append firstS a s (a.length / 64) (by omega)
  constructor
  · unfold hst hrest; rw [e, hb.1, h1, h2]
  · unfold hrest; rw [e, hb.2, h1]
/-- All that was written when k texts are. -/
def acc (all : List UInt8) (ls : List (List UInt8)) : Nat → List UInt8
  | 0 => all
  | k + 1 => acc all ls k ++ ls.getD k []
theorem acc_take (all : List UInt8) (ls : List (List UInt8)) : ∀ k, k ≤ ls.length → acc all ls k = all ++ (ls.take k).flatten
  | 0, _ => by simp [acc]
  | k + 1, h => by
    have e : ls.take (k + 1) = ls.take k ++ [ls[k]'(by omega)] := by rw [List.take_add_one, List.getElem?_eq_getElem (by omega)]; rfl
    rw [acc, acc_take all ls k (by omega), e, List.flatten_append]
    simp [List.getD, show k < ls.length by omega, -List.take_append_getElem]
theorem acc_end (all : List UInt8) (ls : List (List UInt8)) : acc all ls ls.length = all ++ ls.flatten := by rw [acc_take _ _ _ (Nat.le_refl _), List.take_length]
theorem acc_mono (all : List UInt8) (ls : List (List UInt8)) (k : Nat) : ∀ d, (acc all ls k).length ≤ (acc all ls (k + d)).length
  | 0 => Nat.le_refl _
  | d + 1 => by
    have := acc_mono all ls k d
    rw [← Nat.add_assoc, acc, List.length_append]; omega
theorem acc_len (all : List UInt8) (ls : List (List UInt8)) (k : Nat) (h : k ≤ ls.length) : (acc all ls k).length ≤ (all ++ ls.flatten).length := by
  rw [← acc_end]
  have := acc_mono all ls k (ls.length - k)
  rwa [show k + (ls.length - k) = ls.length by omega] at this
theorem acc_len1 (all : List UInt8) (ls : List (List UInt8)) (k : Nat) (h : k < ls.length) : (acc all ls k).length + (ls.getD k []).length ≤ (all ++ ls.flatten).length := by
  have := acc_len all ls (k + 1) h
  rwa [acc, List.length_append] at this
/-- The bits' number, the first j bytes. -/
def lenTo (n : Nat) : Nat → List UInt8
  | 0 => []
  | j + 1 => lenTo n j ++ [UInt8.ofNat (shrU64 ((8 : UInt64) * UInt64.ofNat n) (56 - 8 * j)).toNat]
theorem lenTo_length (n : Nat) : ∀ j, (lenTo n j).length = j
  | 0 => rfl
  | j + 1 => by simp [lenTo, lenTo_length n j]
def pads (n : Nat) : List UInt8 := [128] ++ List.replicate (padZ n) 0 ++ lenTo n 8
theorem pads_length (n : Nat) : (n + (pads n).length) % 64 = 0 := by
  simp [pads, lenTo_length, padZ]; omega
def outTo (v : St) : Nat → List UInt8
  | 0 => []
  | k + 1 => outTo v k ++ hb (v.vals.getD k 0)
theorem outTo_length (v : St) : ∀ k, (outTo v k).length = 4 * k
  | 0 => rfl
  | k + 1 => by rw [outTo, List.length_append, outTo_length v k]; simp [hb]; omega
def sha (s : List UInt8) : List UInt8 := outTo (hst (s ++ pads s.length)) 8
theorem sha_length (s : List UInt8) : (sha s).length = 32 := outTo_length _ _
theorem sumEnd (all : List UInt8) (j : Nat) (h : (brest (hrest all ++ pads all.length) j).length = 0) (hj : 64 * j ≤ (hrest all).length + (pads all.length).length) : bst (hst all) (hrest all ++ pads all.length) j = hst (all ++ pads all.length) :=
  (mEnd all (pads all.length) j (by omega) hj).1
theorem padStep (X : List UInt8) (k : Nat) : X ++ [128] ++ List.replicate k 0 ++ [0] = X ++ [128] ++ List.replicate (k + 1) 0 := by
  rw [List.replicate_succ']; simp
theorem lenStep (X A : List UInt8) (n j : Nat) : X ++ (A ++ lenTo n j) ++ [UInt8.ofNat (shrU64 ((8 : UInt64) * UInt64.ofNat n) (56 - 8 * j)).toNat] = X ++ (A ++ lenTo n (j + 1)) := by
  simp [lenTo]
theorem padAll (all : List UInt8) : (hrest all ++ pads all.length).length % 64 = 0 := by
  have := pads_length all.length
  rw [List.length_append, hrest_length]; omega
end Go.Spec
/-! from LawSha -/
/- Texts, some of a list at a time. -/
namespace Go.Spec
end Go.Spec
/-! from SpecPack -/
/- Numbers, texts, lists as bytes, and readers of them, in plain Lean. -/
namespace Go.Spec
open Go.Owl
theorem rV_nat (v : UInt32) : ∀ k, (rV v k).toNat = v.toNat / 256 ^ k
  | 0 => by simp [rV]
  | k + 1 => by
    rw [rV, UInt32.toNat_div, rV_nat v k, Nat.pow_succ, ← Nat.div_div_eq_div_mul]; rfl
theorem shrU32_nat (v : UInt32) (s : Nat) : (shrU32 v s).toNat = v.toNat / 2 ^ s := by
  have h := v.toNat_lt
  rw [shrU32, UInt32.toNat_ofNat', Nat.shiftRight_eq_div_pow, Nat.mod_eq_of_lt (Nat.lt_of_le_of_lt (Nat.div_le_self _ _) h)]
theorem rV_shr (v : UInt32) (k : Nat) : shrU32 v (8 * k) = rV v k := by
  apply UInt32.toNat_inj.1
  rw [rV_nat, shrU32_nat, Nat.pow_mul]
theorem rV_4 (v : UInt32) : rV v 4 = 0 := by
  apply UInt32.toNat_inj.1
  rw [rV_nat]
  exact Nat.div_eq_of_lt v.toNat_lt
theorem rB_take (v : UInt32) {k : Nat} (h : k ≤ 4) : (le4 v).take k = rB v k := by
  rw [← rB4]
  rcases (by omega : k = 0 ∨ k = 1 ∨ k = 2 ∨ k = 3 ∨ k = 4) with rfl | rfl | rfl | rfl | rfl <;> rfl
def numE (v : UInt32) (n : Int) : Nat := if n < 1 ∨ n > 4 then 2 else if rV v n.toNat ≠ 0 then 5 else 0
def numS (v : UInt32) (n : Int) : List UInt8 := if numE v n = 0 then rB v n.toNat else []
theorem numE_len (v : UInt32) (n : Int) : (numS v n).length ≤ 4 := by
  unfold numS; split
  · rename_i h
    rw [rB_length]
    unfold numE at h
    split at h
    · cases h
    · omega
  · simp
/-- The number of bytes, the lowest first. -/
def natLE : List UInt8 → Nat
  | [] => 0
  | c :: l => c.toNat + 256 * natLE l
theorem natLE_lt : ∀ l : List UInt8, natLE l < 256 ^ l.length
  | [] => by simp [natLE]
  | c :: l => by
    have := natLE_lt l; have := c.toNat_lt
    rw [natLE, List.length_cons, Nat.pow_succ]; omega
theorem natLE_snoc (c : UInt8) : ∀ l : List UInt8, natLE (l ++ [c]) = natLE l + 256 ^ l.length * c.toNat
  | [] => by simp [natLE]
  | d :: l => by rw [List.cons_append, natLE, natLE_snoc c l, natLE, List.length_cons, Nat.pow_succ, Nat.mul_add]; rw [Nat.mul_comm (256 ^ l.length) 256, Nat.mul_assoc]; omega
theorem getTo_nat (s : List UInt8) : ∀ k, k ≤ s.length → k ≤ 4 → (getTo s k).toNat = natLE (s.take k)
  | 0, _, _ => by simp [getTo, natLE]
  | k + 1, h, h4 => by
    have ih := getTo_nat s k (by omega) (by omega)
    have hk : k < s.length := by omega
    have e : s.take (k + 1) = s.take k ++ [s[k]] := by rw [List.take_add_one, List.getElem?_eq_getElem hk]; rfl
    have hl : (s.take k).length = k := by rw [List.length_take]; omega
    have hb := natLE_lt (s.take k)
    rw [hl] at hb
    have hg : s.getD k 0 = s[k] := by simp [List.getD, hk]
    rw [e, natLE_snoc, hl, getTo, UInt32.toNat_or, ih, hg]
    have hc := (s[k]).toNat_lt
    generalize s[k] = c at *
    have e2 : (shlU32 (UInt32.ofNat c.toNat) (8 * k)).toNat = c.toNat <<< (8 * k) := by
      rw [shlU32, UInt32.toNat_ofNat', UInt32.toNat_ofNat', Nat.mod_eq_of_lt (by omega : c.toNat < 2 ^ 32)]
      refine Nat.mod_eq_of_lt ?_
      rw [Nat.shiftLeft_eq]
      calc c.toNat * 2 ^ (8 * k) < 2 ^ 8 * 2 ^ (8 * k) := Nat.mul_lt_mul_of_pos_right hc (Nat.two_pow_pos _)
        _ = 2 ^ (8 + 8 * k) := (Nat.pow_add 2 8 (8 * k)).symm
        _ ≤ 2 ^ 32 := Nat.pow_le_pow_right (by decide) (by omega)
    rw [e2]
    have e3 : (256 : Nat) ^ k = 2 ^ (8 * k) := by rw [Nat.pow_mul]
    rw [e3] at hb ⊢
    rw [Nat.or_comm, ← Nat.shiftLeft_add_eq_or_of_lt hb, Nat.shiftLeft_eq, Nat.mul_comm (2 ^ (8 * k))]
    omega
theorem getV_nat {s : List UInt8} (h1 : 1 ≤ s.length) (h4 : s.length ≤ 4) : (getV s).toNat = natLE s := by
  rw [getV, if_neg (by omega), getTo_nat s _ (Nat.le_refl _) h4, List.take_length]
theorem natLE_rB (v : UInt32) : ∀ k, natLE (rB v k) = v.toNat % 256 ^ k
  | 0 => by simp [rB, natLE, Nat.mod_one]
  | k + 1 => by
    rw [rB, natLE_snoc, natLE_rB v k, rB_length]
    have e : (UInt8.ofNat (rV v k % 256).toNat).toNat = v.toNat / 256 ^ k % 256 := by
      rw [UInt8.toNat_ofNat', UInt32.toNat_mod, rV_nat]
      exact Nat.mod_eq_of_lt (Nat.mod_lt _ (by decide))
    rw [e, Nat.pow_succ, Nat.mod_mul]
theorem rB_natLE : ∀ (l : List UInt8) (v : UInt32), v.toNat = natLE l → rB v l.length = l := by
  intro l v h
  have key : ∀ k, k ≤ l.length → rB v k = l.take k := by
    intro k
    induction k with
    | zero => intro _; rfl
    | succ k ih =>
      intro hk
      have hk' : k < l.length := hk
      have e : l.take (k + 1) = l.take k ++ [l[k]] := by rw [List.take_add_one, List.getElem?_eq_getElem hk']; rfl
      rw [rB, ih (by omega), e]
      congr 2
      apply UInt8.toNat_inj.1
      rw [UInt8.toNat_ofNat', UInt32.toNat_mod, rV_nat, h]
      have h2 : ∀ (m : List UInt8) (j : Nat) (hj : j < m.length), natLE m / 256 ^ j % 256 = (m[j]).toNat := by
        intro m
        induction m with
        | nil => intro j hj; simp at hj
        | cons c m ihm =>
          intro j hj
          have hc := c.toNat_lt
          cases j with
          | zero => simp [natLE]
          | succ j =>
            have := ihm j (by simpa using hj)
            rw [natLE, Nat.pow_succ', ← Nat.div_div_eq_div_mul, show (c.toNat + 256 * natLE m) / 256 = natLE m by omega]
            simpa using this
      rw [show (256 : UInt32).toNat = 256 from rfl, h2 l k hk']
      exact Nat.mod_eq_of_lt (l[k]).toNat_lt
  rw [key _ (Nat.le_refl _), List.take_length]
structure Rd where
  s : List UInt8
  at_ : Nat
  f : Nat
  h : at_ ≤ s.length
def Rd.rest (r : Rd) : List UInt8 := r.s.drop r.at_
def Rd.bad (r : Rd) (e : Nat) : Rd := ⟨r.s, r.at_, e, r.h⟩
def Rd.on (r : Rd) (k : Nat) (hk : ¬ k > r.s.length - r.at_) : Rd := ⟨r.s, r.at_ + k, r.f, by have := r.h; omega⟩
/-- The next n bytes, of a reader that is not spoilt. -/
def rawR (r : Rd) (n : Nat) : (List UInt8 × Nat) × Rd := if h : n > r.s.length - r.at_ then (([], 6), r.bad 6) else ((r.rest.take n, 0), r.on n h)
def takeR (r : Rd) (n : Int) : (List UInt8 × Nat) × Rd := if r.f ≠ 0 then (([], r.f), r) else if n < 0 then (([], 2), r.bad 2) else rawR r n.toNat
def numR (r : Rd) (n : Int) : (UInt32 × Nat) × Rd :=
  if r.f ≠ 0 then ((0, r.f), r) else if n < 1 ∨ n > 4 then ((0, 2), r.bad 2) else if (rawR r n.toNat).1.2 ≠ 0 then ((0, (rawR r n.toNat).1.2), (rawR r n.toNat).2) else ((getV (rawR r n.toNat).1.1, 0), (rawR r n.toNat).2)
def textR (r : Rd) : (List UInt8 × Nat) × Rd :=
  if (numR r 2).1.2 ≠ 0 then (([], (numR r 2).1.2), (numR r 2).2)
  else if (rawR (numR r 2).2 (numR r 2).1.1.toNat).1.2 ≠ 0 then ((rawR (numR r 2).2 (numR r 2).1.1.toNat).1, ⟨r.s, r.at_, (rawR (numR r 2).2 (numR r 2).1.1.toNat).2.f, r.h⟩)
  else rawR (numR r 2).2 (numR r 2).1.1.toNat
/-- k texts; the first error. -/
def txR (r : Rd) : Nat → Rd
  | 0 => r
  | k + 1 => (textR (txR r k)).2
def txL (r : Rd) : Nat → List (List UInt8)
  | 0 => []
  | k + 1 => txL r k ++ [(textR (txR r k)).1.1]
/-- The first of n texts that fails. -/
def txBad (r : Rd) : Nat → Option Nat
  | 0 => none
  | k + 1 => match txBad r k with
    | some j => some j
    | none => if (textR (txR r k)).1.2 ≠ 0 then some k else none
def textsR (r : Rd) : (List (List UInt8) × Nat) × Rd :=
  if (numR r 2).1.2 ≠ 0 then (([], (numR r 2).1.2), (numR r 2).2)
  else if (numR r 2).1.1 > 4096 then (([], 7), r.bad 7)
  else match txBad (numR r 2).2 (numR r 2).1.1.toNat with
    | some j => (([], (textR (txR (numR r 2).2 j)).1.2), ⟨r.s, r.at_, (textR (txR (numR r 2).2 j)).2.f, r.h⟩)
    | none => ((txL (numR r 2).2 (numR r 2).1.1.toNat, 0), txR (numR r 2).2 (numR r 2).1.1.toNat)
def endR (r : Rd) : Nat × Rd := if r.f ≠ 0 then (r.f, r) else if r.s.length - r.at_ > 0 then (7, r.bad 7) else (0, r)
theorem rawR_1 {r : Rd} {n : Nat} (h : n > r.s.length - r.at_) : rawR r n = (([], 6), r.bad 6) := by unfold rawR; rw [dif_pos h]
theorem rawR_2 {r : Rd} {n : Nat} (h : ¬ n > r.s.length - r.at_) : rawR r n = ((r.rest.take n, 0), r.on n h) := by unfold rawR; rw [dif_neg h]
theorem rawR_s (r : Rd) (n : Nat) : (rawR r n).2.s = r.s := by unfold rawR; split <;> rfl
theorem rawR_f {r : Rd} {n : Nat} (h : r.f = 0) : (rawR r n).2.f = (rawR r n).1.2 := by
  unfold rawR; split
  · rfl
  · exact h
theorem rawR_at {r : Rd} {n : Nat} (h : (rawR r n).1.2 = 0) : (rawR r n).2.at_ = r.at_ + n ∧ n ≤ r.s.length - r.at_ := by
  unfold rawR at h ⊢; split at h
  · cases h
  · rename_i h1; rw [dif_neg h1]; exact ⟨rfl, by omega⟩
theorem rawR_len {r : Rd} {n : Nat} (h : (rawR r n).1.2 = 0) : (rawR r n).1.1.length = n := by
  unfold rawR at h ⊢; split at h
  · cases h
  · rename_i h1; rw [dif_neg h1]; show (r.rest.take n).length = n; rw [List.length_take, Rd.rest, List.length_drop]; omega
theorem takeR_s (r : Rd) (n : Int) : (takeR r n).2.s = r.s := by
  unfold takeR; split
  · rfl
  · split
    · rfl
    · exact rawR_s _ _
theorem numR_s (r : Rd) (n : Int) : (numR r n).2.s = r.s := by
  unfold numR; split
  · rfl
  · split
    · rfl
    · split <;> exact rawR_s _ _
theorem numR_0 {r : Rd} {n : Nat} (h : (numR r n).1.2 = 0) : r.f = 0 ∧ 1 ≤ n ∧ n ≤ 4 ∧ (rawR r n).1.2 = 0 ∧ (numR r n).2 = (rawR r n).2 ∧ (numR r n).1.1 = getV (rawR r n).1.1 := by
  unfold numR at h ⊢
  split at h
  · rename_i h1; exact absurd h h1
  · rename_i h1
    split at h
    · cases h
    · rename_i h2
      split at h
      · rename_i h3; exact absurd h h3
      · rename_i h3
        have e : ((n : Int)).toNat = n := rfl
        rw [e] at h3
        rw [if_neg h1, if_neg h2, e, if_neg h3]
        exact ⟨by omega, by omega, by omega, by omega, rfl, rfl⟩
theorem takeR_1 {r : Rd} {n : Int} (h : r.f ≠ 0) : takeR r n = (([], r.f), r) := by rw [takeR, if_pos h]
theorem takeR_3 {r : Rd} {n : Nat} (h : r.f = 0) : takeR r n = rawR r n := by rw [takeR, if_neg (by omega), if_neg (by omega)]; rfl
def Like (a b : Rd) : Prop := a.rest = b.rest ∧ a.f = b.f
theorem Like.left {a b : Rd} (h : Like a b) : a.s.length - a.at_ = b.s.length - b.at_ := by
  have := congrArg List.length h.1
  rwa [Rd.rest, Rd.rest, List.length_drop, List.length_drop] at this
theorem Like.bad {a b : Rd} (h : Like a b) (e : Nat) : Like (a.bad e) (b.bad e) := ⟨h.1, rfl⟩
theorem Like.raw {a b : Rd} (h : Like a b) (n : Nat) : (rawR a n).1 = (rawR b n).1 ∧ Like (rawR a n).2 (rawR b n).2 := by
  by_cases hn : n > a.s.length - a.at_
  · rw [rawR_1 hn, rawR_1 (by rw [← h.left]; exact hn)]
    exact ⟨rfl, h.bad 6⟩
  · rw [rawR_2 hn, rawR_2 (by rw [← h.left]; exact hn)]
    refine ⟨by rw [h.1], ?_, h.2⟩
    have := congrArg (List.drop n) h.1
    rwa [Rd.rest, Rd.rest, List.drop_drop, List.drop_drop] at this
theorem Like.take {a b : Rd} (h : Like a b) (n : Int) : (takeR a n).1 = (takeR b n).1 ∧ Like (takeR a n).2 (takeR b n).2 := by
  unfold takeR
  rw [h.2]
  split
  · exact ⟨rfl, h⟩
  · split
    · exact ⟨rfl, h.bad 2⟩
    · exact h.raw _
theorem Like.num {a b : Rd} (h : Like a b) (n : Int) : (numR a n).1 = (numR b n).1 ∧ Like (numR a n).2 (numR b n).2 := by
  unfold numR
  rw [h.2, (h.raw _).1]
  split
  · exact ⟨rfl, h⟩
  · split
    · exact ⟨rfl, h.bad 2⟩
    · split
      · exact ⟨rfl, (h.raw _).2⟩
      · exact ⟨rfl, (h.raw _).2⟩
theorem Like.text {a b : Rd} (h : Like a b) : (textR a).1 = (textR b).1 ∧ Like (textR a).2 (textR b).2 := by
  have h1 := h.num 2
  have h2 := h1.2.raw (numR b 2).1.1.toNat
  unfold textR
  rw [h1.1, h2.1]
  split
  · exact ⟨rfl, h1.2⟩
  · split
    · exact ⟨rfl, h.1, h2.2.2⟩
    · exact h2
theorem Like.tx {a b : Rd} (h : Like a b) : ∀ k, txL a k = txL b k ∧ Like (txR a k) (txR b k)
  | 0 => ⟨rfl, h⟩
  | k + 1 => by
    have ih := h.tx k
    have h1 := ih.2.text
    exact ⟨by rw [txL, txL, ih.1, h1.1], h1.2⟩
theorem Like.txBad {a b : Rd} (h : Like a b) : ∀ k, Spec.txBad a k = Spec.txBad b k
  | 0 => rfl
  | k + 1 => by rw [Spec.txBad, Spec.txBad, h.txBad k, ((h.tx k).2.text).1]
theorem Like.texts {a b : Rd} (h : Like a b) : (textsR a).1 = (textsR b).1 ∧ Like (textsR a).2 (textsR b).2 := by
  have h1 := h.num 2
  unfold textsR
  rw [h1.1, h1.2.txBad]
  split
  · exact ⟨rfl, h1.2⟩
  · split
    · exact ⟨rfl, h.bad 7⟩
    · split
      · rename_i j _
        have h3 := ((h1.2.tx j).2.text)
        exact ⟨by rw [h3.1], h.1, h3.2.2⟩
      · exact ⟨by rw [(h1.2.tx _).1], (h1.2.tx _).2⟩
structure Stp where
  d : Int
  n : Int
def Stp.zero : Stp := ⟨0, 0⟩
theorem rest0 (S : List UInt8) (E : Nat) (h : 0 ≤ S.length) : (Rd.mk S 0 E h).rest = S := List.drop_zero
end Go.Spec
/-! from LawPack -/
/- What was packed is read; of what is read the bytes are those that it was read of. -/
namespace Go.Spec
/-- From r to r': n bytes further, t is left. -/
def On (r r' : Rd) (n : Nat) (t : List UInt8) : Prop := r'.rest = t ∧ r'.f = 0 ∧ r'.s = r.s ∧ r'.at_ = r.at_ + n
theorem On.trans {a b c : Rd} {n m : Nat} {t u : List UInt8} (h : On a b n t) (k : On b c m u) : On a c (n + m) u :=
  ⟨k.1, k.2.1, k.2.2.1.trans h.2.2.1, by rw [k.2.2.2, h.2.2.2, Nat.add_assoc]⟩
theorem rest_len (r : Rd) : r.rest.length = r.s.length - r.at_ := by rw [Rd.rest, List.length_drop]
theorem rB_get {v : UInt32} {n : Nat} (h1 : 1 ≤ n) (h4 : n ≤ 4) (hv : rV v n = 0) : getV (rB v n) = v := by
  apply UInt32.toNat_inj.1
  have h0 := congrArg UInt32.toNat hv
  rw [rV_nat, show (0 : UInt32).toNat = 0 from rfl, Nat.div_eq_zero_iff_lt (Nat.pow_pos (by decide))] at h0
  rw [getV_nat (by rw [rB_length]; exact h1) (by rw [rB_length]; exact h4), natLE_rB, Nat.mod_eq_of_lt h0]
theorem raw_on {r : Rd} {x t : List UInt8} {n : Nat} (hf : r.f = 0) (h : r.rest = x ++ t) (hn : x.length = n) : (rawR r n).1 = (x, 0) ∧ On r (rawR r n).2 n t := by
  have hl := rest_len r
  rw [h, List.length_append] at hl
  rw [rawR_2 (by omega)]
  refine ⟨by rw [h, List.take_left' hn], ?_, hf, rfl, rfl⟩
  show r.s.drop (r.at_ + n) = t
  rw [← List.drop_drop]
  have e : r.s.drop r.at_ = x ++ t := h
  rw [e, List.drop_left' hn]
theorem num_on {r : Rd} {v : UInt32} {n : Nat} {t : List UInt8} (hf : r.f = 0) (h : r.rest = rB v n ++ t) (h1 : 1 ≤ n) (h4 : n ≤ 4) (hv : rV v n = 0) : (numR r n).1 = (v, 0) ∧ On r (numR r n).2 n t := by
  have hr := raw_on hf h (rB_length v n)
  rw [numR, if_neg (by omega), if_neg (by omega), Int.toNat_natCast, hr.1, if_neg (by simp), rB_get h1 h4 hv]
  exact ⟨rfl, hr.2⟩
theorem raw_inv {r : Rd} {n : Nat} (hf : r.f = 0) (h : (rawR r n).1.2 = 0) : r.rest = (rawR r n).1.1 ++ (rawR r n).2.rest ∧ (rawR r n).1.1.length = n ∧ On r (rawR r n).2 n (rawR r n).2.rest := by
  have hl := rawR_len h
  have ha := rawR_at h
  refine ⟨?_, hl, rfl, (rawR_f hf).trans h, rawR_s _ _, ha.1⟩
  rw [rawR_2 (by omega)]
  show r.rest = r.rest.take n ++ r.s.drop (r.at_ + n)
  rw [← List.drop_drop]; exact (List.take_append_drop n r.rest).symm
theorem num_inv {r : Rd} {n : Nat} (h : (numR r n).1.2 = 0) : r.rest = rB (numR r n).1.1 n ++ (numR r n).2.rest ∧ On r (numR r n).2 n (numR r n).2.rest ∧ (numR r n).1.1.toNat < 256 ^ n := by
  obtain ⟨hf, h1, h4, hr, e2, e1⟩ := numR_0 h
  obtain ⟨k1, k2, k3⟩ := raw_inv hf hr
  have hn : (numR r n).1.1.toNat = natLE (rawR r n).1.1 := by rw [e1, getV_nat (by omega) (by omega)]
  have hb := rB_natLE _ _ hn
  rw [k2] at hb
  refine ⟨by rw [e2, hb]; exact k1, by rw [e2]; exact k3, ?_⟩
  rw [hn]; have := natLE_lt (rawR r n).1.1; rwa [k2] at this
abbrev r0 (s : List UInt8) : Rd := ⟨s, 0, 0, Nat.zero_le _⟩
end Go.Spec
/-! from SpecMac -/
/- Sums that need a key, in plain Lean. -/
namespace Go.Spec
open Go.Owl
def keyB (key : List UInt8) : List UInt8 := if key.length > 64 then sha key else key
def blockM (key : List UInt8) : List UInt8 := keyB key ++ List.replicate (64 - (keyB key).length) 0
theorem keyB_le (key : List UInt8) : (keyB key).length ≤ 64 := by
  unfold keyB; split
  · rw [sha_length]; decide
  · omega
theorem blockM_length (key : List UInt8) : (blockM key).length = 64 := by
  have := keyB_le key
  unfold blockM; rw [List.length_append, List.length_replicate]; omega
def xorL (s : List UInt8) (c : UInt8) : List UInt8 := s.map (fun x => x ^^^ c)
theorem xorL_length (s : List UInt8) (c : UInt8) : (xorL s c).length = s.length := by simp [xorL]
def xorTo (s : List UInt8) (c : UInt8) (k : Nat) : List UInt8 := xorL (s.take k) c ++ s.drop k
theorem xorTo_get (s : List UInt8) (c : UInt8) {k : Nat} (h : k < s.length) : (xorTo s c k).getD k 0 = s.getD k 0 := by
  rw [xorTo, List.getD, List.getElem?_append_right (by rw [xorL_length, List.length_take]; omega), xorL_length, List.length_take, List.getElem?_drop, List.getD]
  congr 2; omega
theorem xorTo_step (s : List UInt8) (c : UInt8) {k : Nat} (h : k < s.length) : (xorTo s c k).set k ((xorTo s c k).getD k 0 ^^^ c) = xorTo s c (k + 1) := by
  rw [xorTo_get s c h]
  have e : s.take (k + 1) = s.take k ++ [s[k]] := by rw [List.take_add_one, List.getElem?_eq_getElem h]; rfl
  have e2 : s.drop k = s[k] :: s.drop (k + 1) := List.drop_eq_getElem_cons h
  have e3 : s.getD k 0 = s[k] := by simp [List.getD, h]
  have hl : (xorL (s.take k) c).length = k := by rw [xorL_length, List.length_take]; omega
  rw [xorTo, xorTo, e, e2, List.set_append_right _ _ (by omega), hl, Nat.sub_self, List.set_cons_zero, e3]
  simp [xorL, -List.take_append_getElem]
theorem xorTo_end (s : List UInt8) (c : UInt8) : xorTo s c s.length = xorL s c := by simp [xorTo]
def mac (key text : List UInt8) : List UInt8 := sha (xorL (blockM key) 92 ++ sha (xorL (blockM key) 54 ++ text))
theorem mac_length (key text : List UInt8) : (mac key text).length = 32 := sha_length _
/-- How far two texts differ. -/
def orTo (s t : List UInt8) : Nat → UInt8
  | 0 => 0
  | k + 1 => orTo s t k ||| (s.getD k 0 ^^^ t.getD k 0)
theorem or_zero {a b : UInt8} : a ||| b = 0 ↔ a = 0 ∧ b = 0 := by
  constructor
  · intro h
    have h1 := congrArg UInt8.toNat h
    rw [UInt8.toNat_or] at h1
    have h2 : a.toNat ≤ a.toNat ||| b.toNat := Nat.left_le_or
    have h3 : b.toNat ≤ a.toNat ||| b.toNat := Nat.right_le_or
    have h0 : (0 : UInt8).toNat = 0 := rfl
    rw [h0] at h1
    exact ⟨UInt8.toNat_inj.1 (by rw [h0]; omega), UInt8.toNat_inj.1 (by rw [h0]; omega)⟩
  · rintro ⟨rfl, rfl⟩; rfl
theorem orTo_zero (s t : List UInt8) : ∀ k, orTo s t k = 0 ↔ ∀ j, j < k → s.getD j 0 = t.getD j 0
  | 0 => by simp [orTo]
  | k + 1 => by
    rw [orTo, or_zero, orTo_zero s t k]
    constructor
    · rintro ⟨h1, h2⟩ j hj
      rcases Nat.lt_or_ge j k with h | h
      · exact h1 j h
      · have e : j = k := by omega
        subst e
        exact UInt8.xor_eq_zero_iff.1 h2
    · intro h
      exact ⟨fun j hj => h j (by omega), UInt8.xor_eq_zero_iff.2 (h k (by omega))⟩
theorem orTo_eq {s t : List UInt8} (hl : s.length = t.length) : decide (orTo s t t.length = 0) = decide (s = t) := by
  refine decide_eq_decide.2 ⟨fun h => ?_, fun h => ?_⟩
  · have h1 := (orTo_zero s t t.length).1 h
    refine List.ext_getElem hl fun i h2 h3 => ?_
    have := h1 i h3
    simpa [List.getD, h2, h3] using this
  · subst h; exact (orTo_zero s s _).2 (fun j _ => rfl)
theorem ne_of_length {s t : List UInt8} (h : s.length ≠ t.length) : decide (s = t) = false := decide_eq_false (fun e => h (by rw [e]))
end Go.Spec
/-! from SpecLog -/
/- Acts, their texts, logs of them, in plain Lean. -/
namespace Go.Spec
open Go.Owl
structure Ac where
  d : UInt8
  n : Int
  m : Int
  t : List UInt8
deriving DecidableEq
def Ac.zero : Ac := ⟨0, 0, 0, []⟩
theorem endR_0 {r : Rd} (h : (endR r).1 = 0) : r.f = 0 ∧ r.rest = [] := by
  unfold endR at h
  split at h
  · rename_i h1; exact absurd h h1
  · rename_i h1
    split at h
    · cases h
    · rename_i h2
      refine ⟨by omega, List.eq_nil_of_length_eq_zero ?_⟩
      rw [rest_len]; omega
theorem endR_on {r : Rd} (hf : r.f = 0) (h : r.rest = []) : (endR r).1 = 0 := by
  have := rest_len r
  rw [h] at this
  simp at this
  rw [endR, if_neg (by omega), if_neg (by omega)]
theorem numR_ff {r : Rd} {n : Int} (h : (numR r n).2.f = 0) : (numR r n).1.2 = 0 ∧ r.f = 0 := by
  unfold numR at h ⊢
  split at h
  · rename_i h1; exact absurd h h1
  · rename_i h1
    rw [if_neg h1]
    split at h
    · cases h
    · rename_i h2
      rw [if_neg h2]
      split at h
      · rename_i h3
        rw [if_pos h3]
        rw [rawR_f (by omega)] at h
        exact ⟨h, by omega⟩
      · rename_i h3; rw [if_neg h3]; exact ⟨rfl, by omega⟩
theorem Like.trans {a b c : Rd} (h : Like a b) (k : Like b c) : Like a c := ⟨h.1.trans k.1, h.2.trans k.2⟩
end Go.Spec
/-! from SpecImg2 -/
/- Images' bytes. Plain Lean. -/
namespace Go.Spec
open Go.Owl
def numsTo (l : List UInt32) (n : Int) : Nat → List UInt8
  | 0 => []
  | k + 1 => numsTo l n k ++ numS (l.getD k 0) n
theorem numsTo_len (l : List UInt32) (n : Int) : ∀ k, (numsTo l n k).length ≤ 4 * k
  | 0 => Nat.zero_le _
  | k + 1 => by
    have h1 := numsTo_len l n k; have h2 := numE_len (l.getD k 0) n
    rw [numsTo, List.length_append]; omega
def putX (xs : List Xt) : Nat → List UInt8
  | 0 => []
  | k + 1 => (putX xs k ++ numS (xs.getD k Xt.zero).id 1) ++ numS (xs.getD k Xt.zero).bl 2
def putP (ps : List UInt16) : Nat → List UInt8
  | 0 => []
  | k + 1 => putP ps k ++ numS (UInt32.ofNat (ps.getD k 0).toNat) 2
def putS (sg : List Sg) : Nat → List UInt8
  | 0 => []
  | k + 1 => (((putS sg k ++ numS (sg.getD k Sg.zero).a 4) ++ numS (UInt32.ofNat (sg.getD k Sg.zero).p.toNat) 1) ++ numS (UInt32.ofNat (sg.getD k Sg.zero).b.length) 4) ++ (sg.getD k Sg.zero).b
theorem putX_len (xs : List Xt) : ∀ k, (putX xs k).length ≤ 8 * k
  | 0 => Nat.zero_le _
  | k + 1 => by
    have h1 := putX_len xs k; have h2 := numE_len (xs.getD k Xt.zero).id 1; have h3 := numE_len (xs.getD k Xt.zero).bl 2
    rw [putX, List.length_append, List.length_append]; omega
theorem putP_len (ps : List UInt16) : ∀ k, (putP ps k).length ≤ 4 * k
  | 0 => Nat.zero_le _
  | k + 1 => by
    have h1 := putP_len ps k; have h2 := numE_len (UInt32.ofNat (ps.getD k 0).toNat) 2
    rw [putP, List.length_append]; omega
theorem getS_mem {l : List Sg} {B : Nat} (h : ∀ x ∈ l, x.b.length ≤ B) (k : Nat) : (l.getD k Sg.zero).b.length ≤ B := by
  rcases Nat.lt_or_ge k l.length with hk | hk
  · rw [getD_at hk]; exact h _ (List.getElem_mem hk)
  · rw [List.getD, List.getElem?_eq_none hk]; exact Nat.zero_le _
theorem putS_len {sg : List Sg} {B : Nat} (h : ∀ x ∈ sg, x.b.length ≤ B) : ∀ k, (putS sg k).length ≤ (B + 12) * k
  | 0 => Nat.zero_le _
  | k + 1 => by
    have h0 := putS_len h k; have h1 := numE_len (sg.getD k Sg.zero).a 4; have h2 := numE_len (UInt32.ofNat (sg.getD k Sg.zero).p.toNat) 1; have h3 := numE_len (UInt32.ofNat (sg.getD k Sg.zero).b.length) 4; have h4 := getS_mem h k
    rw [putS, List.length_append, List.length_append, List.length_append, List.length_append, Nat.mul_succ]; omega
def conN (c : Bool) : UInt32 := if c then 1 else 0
def imP1 (pg : UInt32) (xs : List Xt) : List UInt8 := ([65, 73, 77, 49] ++ numS pg 4) ++ numS (UInt32.ofNat xs.length) 1
def imP2 (pg : UInt32) (xs : List Xt) (ps : List UInt16) : List UInt8 := (imP1 pg xs ++ putX xs xs.length) ++ numS (UInt32.ofNat ps.length) 1
def imP3 (pg : UInt32) (xs : List Xt) (ps : List UInt16) (con : Bool) (en : UInt32) (sg : List Sg) : List UInt8 := (((imP2 pg xs ps ++ putP ps ps.length) ++ numS (conN con) 1) ++ numS en 4) ++ numS (UInt32.ofNat sg.length) 1
def imS (pg : UInt32) (xs : List Xt) (ps : List UInt16) (con : Bool) (en : UInt32) (sg : List Sg) : List UInt8 := imP3 pg xs ps con en sg ++ putS sg sg.length
def imB (pg : UInt32) (xs : List Xt) (ps : List UInt16) (con : Bool) (en : UInt32) (sg : List Sg) : List UInt8 := if imE pg xs ps en sg = 0 then imS pg xs ps con en sg else []
theorem imP1_len (pg : UInt32) (xs : List Xt) : (imP1 pg xs).length ≤ 12 := by
  have h1 := numE_len pg 4; have h2 := numE_len (UInt32.ofNat xs.length) 1
  rw [imP1, List.length_append, List.length_append]; show 4 + _ + _ ≤ 12; omega
theorem imP2_len (pg : UInt32) (xs : List Xt) (ps : List UInt16) : (imP2 pg xs ps).length ≤ 16 + 8 * xs.length := by
  have h1 := imP1_len pg xs; have h2 := putX_len xs xs.length; have h3 := numE_len (UInt32.ofNat ps.length) 1
  rw [imP2, List.length_append, List.length_append]; omega
theorem imP3_len (pg : UInt32) (xs : List Xt) (ps : List UInt16) (con : Bool) (en : UInt32) (sg : List Sg) : (imP3 pg xs ps con en sg).length ≤ 28 + 8 * xs.length + 4 * ps.length := by
  have h1 := imP2_len pg xs ps; have h2 := putP_len ps ps.length; have h3 := numE_len (conN con) 1; have h4 := numE_len en 4; have h5 := numE_len (UInt32.ofNat sg.length) 1
  rw [imP3, List.length_append, List.length_append, List.length_append, List.length_append]; omega
theorem imP3_ne (pg : UInt32) (xs : List Xt) (ps : List UInt16) (con : Bool) (en : UInt32) (sg : List Sg) (x : List UInt8) : (imP3 pg xs ps con en sg ++ x).length ≠ 0 := by
  rw [imP3, imP2, imP1]
  simp only [List.length_append]
  intro h
  have h4 : ([65, 73, 77, 49] : List UInt8).length = 4 := rfl
  omega
end Go.Spec
/-! from SpecImg3 -/
/- Which images are the same. Plain Lean. -/
namespace Go.Spec
open Go.Owl
theorem list_eqD {α : Type} {d : α} {a b : List α} (hl : a.length = b.length) (h : ∀ j, j < a.length → a.getD j d = b.getD j d) : a = b := by
  refine List.ext_getElem hl fun i h1 h2 => ?_
  have := h i h1
  rwa [getD_at h1, getD_at h2] at this
theorem xt_eq {x y : Xt} (h : (decide (x.id = y.id) && decide (x.bl = y.bl)) = true) : x = y := by
  simp only [Bool.and_eq_true, decide_eq_true_eq] at h
  cases x; cases y; simp_all
theorem xt_ne {x y : Xt} (h : (decide (x.id = y.id) && decide (x.bl = y.bl)) = false) : x ≠ y := by
  rintro rfl; simp at h
theorem sg_eq {x y : Sg} (h : (decide (x.a = y.a) && (decide (x.p = y.p) && decide (x.b = y.b))) = true) : x = y := by
  simp only [Bool.and_eq_true, decide_eq_true_eq] at h
  cases x; cases y; simp_all
theorem sg_ne {x y : Sg} (h : (decide (x.a = y.a) && (decide (x.p = y.p) && decide (x.b = y.b))) = false) : x ≠ y := by
  rintro rfl; simp at h
def sameM (pg : UInt32) (c : Bool) (xs : List Xt) (ps : List UInt16) (pg' : UInt32) (c' : Bool) (xs' : List Xt) (ps' : List UInt16) : Bool := decide (pg = pg') && ((c == c') && (decide (xs = xs') && decide (ps = ps')))
def sameI (pg : UInt32) (c : Bool) (xs : List Xt) (ps : List UInt16) (en : UInt32) (sg : List Sg) (pg' : UInt32) (c' : Bool) (xs' : List Xt) (ps' : List UInt16) (en' : UInt32) (sg' : List Sg) : Bool :=
  sameM pg c xs ps pg' c' xs' ps' && (decide (en = en') && decide (sg = sg'))
section
variable {pg pg' en en' : UInt32} {c c' : Bool} {xs xs' : List Xt} {ps ps' : List UInt16} {sg sg' : List Sg}
theorem sameM_iff : sameM pg c xs ps pg' c' xs' ps' = true ↔ pg = pg' ∧ c = c' ∧ xs = xs' ∧ ps = ps' := by simp [sameM]
theorem sameM_no (h : ¬(pg = pg' ∧ c = c' ∧ xs = xs' ∧ ps = ps')) : sameM pg c xs ps pg' c' xs' ps' = false := by
  rw [← sameM_iff] at h; simpa using h
theorem sameI_iff : sameI pg c xs ps en sg pg' c' xs' ps' en' sg' = true ↔ (pg = pg' ∧ c = c' ∧ xs = xs' ∧ ps = ps') ∧ en = en' ∧ sg = sg' := by
  rw [sameI, Bool.and_eq_true, sameM_iff]; simp
theorem sameI_no (h : ¬((sameM pg c xs ps pg' c' xs' ps' = true) ∧ en = en' ∧ sg = sg')) : sameI pg c xs ps en sg pg' c' xs' ps' en' sg' = false := by
  cases hs : sameI pg c xs ps en sg pg' c' xs' ps' en' sg' with
  | false => rfl
  | true => exact absurd (by rw [sameI_iff] at hs; rw [sameM_iff]; exact hs) h
end
def sumS (l : List Sg) : Nat → Nat
  | 0 => 0
  | k + 1 => sumS l k + (l.getD k Sg.zero).b.length
theorem sumS_le {l : List Sg} {B : Nat} (h : ∀ x ∈ l, x.b.length ≤ B) : ∀ k, sumS l k ≤ k * B
  | 0 => by simp [sumS]
  | k + 1 => by rw [sumS, Nat.add_mul, Nat.one_mul]; exact Nat.add_le_add (sumS_le h k) (getS_mem h k)
theorem sumS_get (l : List Sg) : ∀ {k j : Nat}, j < k → (l.getD j Sg.zero).b.length ≤ sumS l k
  | 0, _, h => by omega
  | k + 1, j, h => by
    rw [sumS]
    rcases Nat.lt_or_ge j k with h1 | h1
    · have := sumS_get l h1; omega
    · rw [show j = k by omega]; omega
def large16 (xs : List Xt) (ps : List UInt16) (sg : List Sg) : Bool := decide (1 + xs.length + ps.length > 600) || (decide (sg.length > 15) || decide (sumS sg (min sg.length 20) > 262144))
theorem large16_no {xs : List Xt} {ps : List UInt16} {sg : List Sg} (h : large16 xs ps sg = false) : xs.length ≤ 600 ∧ ps.length ≤ 600 ∧ sg.length ≤ 15 ∧ ∀ x ∈ sg, x.b.length ≤ 262144 := by
  simp only [large16, Bool.or_eq_false_iff, decide_eq_false_iff_not] at h
  obtain ⟨h1, h2, h3⟩ := h
  refine ⟨by omega, by omega, by omega, fun x hx => ?_⟩
  obtain ⟨j, hj, rfl⟩ := List.getElem_of_mem hx
  have h4 := sumS_get sg (k := min sg.length 20) (j := j) (by omega)
  rw [getD_at hj] at h4
  omega
end Go.Spec
/-! from SpecImg4 -/
/- Pages of segments; which images the document's answer takes. Plain Lean. -/
namespace Go.Spec
open Go.Owl
end Go.Spec
/-! from SpecImg5 -/
/- Pages by the program. Plain Lean. -/
namespace Go.Spec
open Go.Owl
theorem im_all {pg en : UInt32} {xs : List Xt} {ps : List UInt16} {sg : List Sg} (h : imE pg xs ps en sg = 0) : ∀ j, j < sg.length → sgBad (ckTo en sg j).1 (sg.getD j Sg.zero) = false := by
  intro j hj
  rw [imE] at h
  split at h
  · rename_i hm
    rw [imMay, Bool.and_eq_true, Bool.and_eq_true, List.all_eq_true] at hm
    have h1 := hm.2.1 j (List.mem_range.2 hj)
    simpa using h1
  · cases h
theorem sgEnd_nat {x : Sg} (hl : x.b.length < 2 ^ 47) : (sgEnd x).toNat = x.a.toNat + x.b.length := by
  have ha := x.a.toNat_lt
  rw [sgEnd, UInt64.toNat_add, UInt64.toNat_ofNat', UInt64.toNat_ofNat']
  rw [Nat.mod_eq_of_lt (a := x.a.toNat) (by omega), Nat.mod_eq_of_lt (a := x.b.length) (by omega), Nat.mod_eq_of_lt (by omega)]
theorem sgBad_end {f : UInt64} {x : Sg} (h : sgBad f x = false) (hl : x.b.length < 2 ^ 47) : x.a.toNat + x.b.length ≤ 131072 := by
  simp only [sgBad, Bool.or_eq_false_iff, decide_eq_false_iff_not] at h
  have h1 := h.2.2.2.2
  rw [gt_iff_lt, UInt64.lt_iff_toNat_lt, sgEnd_nat hl, show (131072 : UInt64).toNat = 131072 from rfl] at h1
  omega
end Go.Spec
/-! from SpecImg6 -/
/- Reading images. Plain Lean. -/
namespace Go.Spec
open Go.Owl
/-- The next segment. -/
def segR (r : Rd) : Sg × Rd :=
  if (numR (numR (numR r 4).2 1).2 4).1.1 ≤ 131072 then
    (⟨(numR r 4).1.1, UInt8.ofNat (numR (numR r 4).2 1).1.1.toNat, (takeR (numR (numR (numR r 4).2 1).2 4).2 ((numR (numR (numR r 4).2 1).2 4).1.1.toNat : Nat)).1.1⟩, (takeR (numR (numR (numR r 4).2 1).2 4).2 ((numR (numR (numR r 4).2 1).2 4).1.1.toNat : Nat)).2)
  else (⟨(numR r 4).1.1, UInt8.ofNat (numR (numR r 4).2 1).1.1.toNat, []⟩, (numR (numR (numR r 4).2 1).2 4).2)
theorem segR_yes {r : Rd} (h : (numR (numR (numR r 4).2 1).2 4).1.1 ≤ 131072) : segR r =
    (⟨(numR r 4).1.1, UInt8.ofNat (numR (numR r 4).2 1).1.1.toNat, (takeR (numR (numR (numR r 4).2 1).2 4).2 ((numR (numR (numR r 4).2 1).2 4).1.1.toNat : Nat)).1.1⟩, (takeR (numR (numR (numR r 4).2 1).2 4).2 ((numR (numR (numR r 4).2 1).2 4).1.1.toNat : Nat)).2) := if_pos h
theorem segR_no {r : Rd} (h : ¬ (numR (numR (numR r 4).2 1).2 4).1.1 ≤ 131072) : segR r = (⟨(numR r 4).1.1, UInt8.ofNat (numR (numR r 4).2 1).1.1.toNat, []⟩, (numR (numR (numR r 4).2 1).2 4).2) := if_neg h
end Go.Spec
/-! from SpecImg7 -/
/- Reading images, part by part. Plain Lean. -/
namespace Go.Spec
open Go.Owl
def xsD (r : Rd) : Nat → Rd
  | 0 => r
  | k + 1 => (numR (numR (xsD r k) 1).2 2).2
def xsL (r : Rd) : Nat → List Xt
  | 0 => []
  | k + 1 => xsL r k ++ [Xt.mk (numR (xsD r k) 1).1.1 (numR (numR (xsD r k) 1).2 2).1.1]
def psD (r : Rd) : Nat → Rd
  | 0 => r
  | k + 1 => (numR (psD r k) 2).2
def psL (r : Rd) : Nat → List UInt16
  | 0 => []
  | k + 1 => psL r k ++ [UInt16.ofNat (numR (psD r k) 2).1.1.toNat]
def sgD (r : Rd) : Nat → Rd
  | 0 => r
  | k + 1 => (segR (sgD r k)).2
def sgL (r : Rd) : Nat → List Sg
  | 0 => []
  | k + 1 => sgL r k ++ [(segR (sgD r k)).1]
theorem xsD_s (r : Rd) (k : Nat) : xsD r (k + 1) = (numR (numR (xsD r k) 1).2 2).2 := rfl
theorem xsL_s (r : Rd) (k : Nat) : xsL r (k + 1) = xsL r k ++ [Xt.mk (numR (xsD r k) 1).1.1 (numR (numR (xsD r k) 1).2 2).1.1] := rfl
theorem psD_s (r : Rd) (k : Nat) : psD r (k + 1) = (numR (psD r k) 2).2 := rfl
theorem psL_s (r : Rd) (k : Nat) : psL r (k + 1) = psL r k ++ [UInt16.ofNat (numR (psD r k) 2).1.1.toNat] := rfl
theorem sgD_s (r : Rd) (k : Nat) : sgD r (k + 1) = (segR (sgD r k)).2 := rfl
theorem sgL_s (r : Rd) (k : Nat) : sgL r (k + 1) = sgL r k ++ [(segR (sgD r k)).1] := rfl
theorem xsD_0 (r : Rd) : xsD r 0 = r := rfl
theorem psD_0 (r : Rd) : psD r 0 = r := rfl
theorem sgD_0 (r : Rd) : sgD r 0 = r := rfl
theorem xsL_len (r : Rd) : ∀ k, (xsL r k).length = k
  | 0 => rfl
  | k + 1 => by rw [xsL_s, List.length_append, xsL_len r k]; rfl
theorem psL_len (r : Rd) : ∀ k, (psL r k).length = k
  | 0 => rfl
  | k + 1 => by rw [psL_s, List.length_append, psL_len r k]; rfl
theorem sgL_len (r : Rd) : ∀ k, (sgL r k).length = k
  | 0 => rfl
  | k + 1 => by rw [sgL_s, List.length_append, sgL_len r k]; rfl
theorem segR_s (r : Rd) : (segR r).2.s = r.s := by
  rw [segR]; split
  · show (takeR _ _).2.s = _
    rw [takeR_s, numR_s, numR_s, numR_s]
  · show (numR _ _).2.s = _
    rw [numR_s, numR_s, numR_s]
theorem xsD_t (r : Rd) : ∀ k, (xsD r k).s = r.s
  | 0 => rfl
  | k + 1 => by rw [xsD_s, numR_s, numR_s, xsD_t r k]
theorem psD_t (r : Rd) : ∀ k, (psD r k).s = r.s
  | 0 => rfl
  | k + 1 => by rw [psD_s, numR_s, psD_t r k]
theorem sgD_t (r : Rd) : ∀ k, (sgD r k).s = r.s
  | 0 => rfl
  | k + 1 => by rw [sgD_s, segR_s, sgD_t r k]
def g1 (s : List UInt8) : (List UInt8 × Nat) × Rd := takeR (Rd.mk s 0 0 (Nat.zero_le _)) 4
def g2 (s : List UInt8) : (UInt32 × Nat) × Rd := numR (g1 s).2 4
def g3 (s : List UInt8) : (UInt32 × Nat) × Rd := numR (g2 s).2 1
def g4 (s : List UInt8) : Rd := xsD (g3 s).2 (g3 s).1.1.toNat
def gX (s : List UInt8) : List Xt := xsL (g3 s).2 (g3 s).1.1.toNat
def g5 (s : List UInt8) : (UInt32 × Nat) × Rd := numR (g4 s) 1
def g6 (s : List UInt8) : Rd := psD (g5 s).2 (g5 s).1.1.toNat
def gP (s : List UInt8) : List UInt16 := psL (g5 s).2 (g5 s).1.1.toNat
def g7 (s : List UInt8) : (UInt32 × Nat) × Rd := numR (g6 s) 1
def g8 (s : List UInt8) : (UInt32 × Nat) × Rd := numR (g7 s).2 4
def g9 (s : List UInt8) : (UInt32 × Nat) × Rd := numR (g8 s).2 1
def g10 (s : List UInt8) : Rd := sgD (g9 s).2 (g9 s).1.1.toNat
def gS (s : List UInt8) : List Sg := sgL (g9 s).2 (g9 s).1.1.toNat
theorem gX_len (s : List UInt8) : (gX s).length = (g3 s).1.1.toNat := xsL_len _ _
theorem gP_len (s : List UInt8) : (gP s).length = (g5 s).1.1.toNat := psL_len _ _
theorem gS_len (s : List UInt8) : (gS s).length = (g9 s).1.1.toNat := sgL_len _ _
theorem g1_t (s : List UInt8) : (g1 s).2.s = s := by rw [g1, takeR_s]
theorem g2_t (s : List UInt8) : (g2 s).2.s = s := by rw [g2, numR_s, g1_t]
theorem g3_t (s : List UInt8) : (g3 s).2.s = s := by rw [g3, numR_s, g2_t]
theorem g4_t (s : List UInt8) : (g4 s).s = s := by rw [g4, xsD_t, g3_t]
theorem g5_t (s : List UInt8) : (g5 s).2.s = s := by rw [g5, numR_s, g4_t]
theorem g6_t (s : List UInt8) : (g6 s).s = s := by rw [g6, psD_t, g5_t]
theorem g7_t (s : List UInt8) : (g7 s).2.s = s := by rw [g7, numR_s, g6_t]
theorem g8_t (s : List UInt8) : (g8 s).2.s = s := by rw [g8, numR_s, g7_t]
theorem g9_t (s : List UInt8) : (g9 s).2.s = s := by rw [g9, numR_s, g8_t]
theorem g10_t (s : List UInt8) : (g10 s).s = s := by rw [g10, sgD_t, g9_t]
def gBad (s : List UInt8) : Bool := decide ((endR (g10 s)).1 ≠ 0) || (decide ((g1 s).1.1 ≠ [65, 73, 77, 49]) || (decide ((g7 s).1.1 > 1) || decide (imE (g2 s).1.1 (gX s) (gP s) (g8 s).1.1 (gS s) ≠ 0)))
/-- The image that bytes are, as the program answers. -/
structure Im where
  pg : UInt32
  xs : List Xt
  ps : List UInt16
  c : Bool
  en : UInt32
  sg : List Sg
def Im.zero : Im := ⟨0, [], [], false, 0, []⟩
def imG (s : List UInt8) : Im := if gBad s then Im.zero else ⟨(g2 s).1.1, gX s, gP s, decide ((g7 s).1.1 = 1), (g8 s).1.1, gS s⟩
def imGE (s : List UInt8) : Nat := if gBad s then 7 else 0
theorem get_bad {s : List UInt8} (h : gBad s = true) : imG s = Im.zero ∧ imGE s = 7 := by rw [imG, imGE, h]; exact ⟨rfl, rfl⟩
theorem get_good {s : List UInt8} (h : gBad s = false) : imG s = ⟨(g2 s).1.1, gX s, gP s, decide ((g7 s).1.1 = 1), (g8 s).1.1, gS s⟩ ∧ imGE s = 0 := by rw [imG, imGE, h]; exact ⟨rfl, rfl⟩
theorem u32_gt {n : UInt32} {k : Nat} (h : k ≤ n.toNat) : n - UInt32.ofNat k > 0 ↔ k < n.toNat := by
  have hn := n.toNat_lt
  rw [gt_iff_lt, UInt32.lt_iff_toNat_lt, UInt32.toNat_sub_of_le _ _ (by rw [UInt32.le_iff_toNat_le, UInt32.toNat_ofNat']; omega), UInt32.toNat_ofNat', Nat.mod_eq_of_lt (by omega), show (0 : UInt32).toNat = 0 from rfl]
  omega
theorem u32_dec {n : UInt32} {k : Nat} (h : k < n.toNat) : n - UInt32.ofNat k - 1 = n - UInt32.ofNat (k + 1) := by
  have hn := n.toNat_lt
  have e1 : (n - UInt32.ofNat k).toNat = n.toNat - k := by
    rw [UInt32.toNat_sub_of_le _ _ (by rw [UInt32.le_iff_toNat_le, UInt32.toNat_ofNat']; omega), UInt32.toNat_ofNat', Nat.mod_eq_of_lt (by omega)]
  apply UInt32.toNat_inj.1
  rw [UInt32.toNat_sub_of_le _ _ (by rw [UInt32.le_iff_toNat_le, e1]; show 1 ≤ _; omega), e1, UInt32.toNat_sub_of_le _ _ (by rw [UInt32.le_iff_toNat_le, UInt32.toNat_ofNat']; omega), UInt32.toNat_ofNat', Nat.mod_eq_of_lt (by omega)]
  show n.toNat - k - 1 = _
  omega
theorem u32_sub0 (n : UInt32) : n = n - UInt32.ofNat 0 := by rw [show UInt32.ofNat 0 = 0 from rfl, UInt32.sub_zero]
end Go.Spec
/-! from SpecImg8 -/
/- What was put is read; what was read is what was put. Plain Lean. -/
namespace Go.Spec
open Go.Owl
def At (r : Rd) (t : List UInt8) : Prop := r.f = 0 ∧ r.rest = t
theorem numS_ok {v : UInt32} {n : Nat} (hv : rV v n = 0) (h1 : 1 ≤ n) (h4 : n ≤ 4) : numS v (n : Int) = rB v n := by
  have e : numE v (n : Int) = 0 := by
    unfold numE; rw [if_neg (by omega), if_neg (by rw [Int.toNat_natCast, hv]; simp)]
  rw [numS, if_pos e, Int.toNat_natCast]
theorem at_num {r : Rd} {v : UInt32} {t : List UInt8} {n : Nat} (h1 : 1 ≤ n) (h4 : n ≤ 4) (hv : rV v n = 0) (h : At r (numS v (n : Int) ++ t)) : (numR r (n : Int)).1.1 = v ∧ At (numR r (n : Int)).2 t := by
  rw [numS_ok hv h1 h4] at h
  have h2 := num_on h.1 h.2 h1 h4 hv
  exact ⟨by rw [h2.1], h2.2.2.1, h2.2.1⟩
theorem at_num1 {r : Rd} {v : UInt32} {t : List UInt8} (hv : rV v 1 = 0) (h : At r (numS v 1 ++ t)) : (numR r 1).1.1 = v ∧ At (numR r 1).2 t := at_num (n := 1) (by decide) (by decide) hv h
theorem at_num2 {r : Rd} {v : UInt32} {t : List UInt8} (hv : rV v 2 = 0) (h : At r (numS v 2 ++ t)) : (numR r 2).1.1 = v ∧ At (numR r 2).2 t := at_num (n := 2) (by decide) (by decide) hv h
theorem at_num4 {r : Rd} {v : UInt32} {t : List UInt8} (h : At r (numS v 4 ++ t)) : (numR r 4).1.1 = v ∧ At (numR r 4).2 t := at_num (n := 4) (by decide) (by decide) (rV_4 v) h
theorem at_take {r : Rd} {x t : List UInt8} {n : Nat} (hn : x.length = n) (h : At r (x ++ t)) : (takeR r (n : Int)).1.1 = x ∧ At (takeR r (n : Int)).2 t := by
  rw [takeR_3 h.1]
  have h2 := raw_on h.1 h.2 hn
  exact ⟨by rw [h2.1], h2.2.2.1, h2.2.1⟩
theorem inv_num {r : Rd} {t : List UInt8} {n : Nat} (h : At (numR r (n : Int)).2 t) : At r (numS (numR r (n : Int)).1.1 (n : Int) ++ t) ∧ rV (numR r (n : Int)).1.1 n = 0 := by
  obtain ⟨he, hf⟩ := numR_ff h.1
  obtain ⟨k1, _, k3⟩ := num_inv he
  obtain ⟨_, b1, b4, _⟩ := numR_0 he
  have hv : rV (numR r (n : Int)).1.1 n = 0 := by
    apply UInt32.toNat_inj.1
    rw [rV_nat]; exact Nat.div_eq_of_lt k3
  refine ⟨⟨hf, ?_⟩, hv⟩
  rw [numS_ok hv b1 b4, k1, h.2]
theorem inv_num1 {r : Rd} {t : List UInt8} (h : At (numR r 1).2 t) : At r (numS (numR r 1).1.1 1 ++ t) ∧ rV (numR r 1).1.1 1 = 0 := inv_num (n := 1) h
theorem inv_num2 {r : Rd} {t : List UInt8} (h : At (numR r 2).2 t) : At r (numS (numR r 2).1.1 2 ++ t) ∧ rV (numR r 2).1.1 2 = 0 := inv_num (n := 2) h
theorem inv_num4 {r : Rd} {t : List UInt8} (h : At (numR r 4).2 t) : At r (numS (numR r 4).1.1 4 ++ t) := (inv_num (n := 4) h).1
theorem inv_take {r : Rd} {t : List UInt8} {n : Nat} (h : At (takeR r (n : Int)).2 t) : At r ((takeR r (n : Int)).1.1 ++ t) ∧ (takeR r (n : Int)).1.1.length = n := by
  by_cases hf : r.f = 0
  · rw [takeR_3 hf] at h ⊢
    have he : (rawR r n).1.2 = 0 := (rawR_f hf).symm.trans h.1
    obtain ⟨k1, k2, _⟩ := raw_inv hf he
    exact ⟨⟨hf, by rw [k1, h.2]⟩, k2⟩
  · rw [takeR_1 hf] at h
    exact absurd h.1 hf
theorem rV1_lt {v : UInt32} (h : v.toNat < 256) : rV v 1 = 0 := by
  apply UInt32.toNat_inj.1; rw [rV_nat]; exact Nat.div_eq_of_lt (by simpa using h)
theorem rV2_lt {v : UInt32} (h : v.toNat < 65536) : rV v 2 = 0 := by
  apply UInt32.toNat_inj.1; rw [rV_nat]; exact Nat.div_eq_of_lt (by simpa using h)
theorem lt_rV1 {v : UInt32} (h : rV v 1 = 0) : v.toNat < 256 := by
  have := congrArg UInt32.toNat h
  rw [rV_nat] at this
  have h2 : v.toNat / 256 = 0 := this
  omega
theorem lt_rV2 {v : UInt32} (h : rV v 2 = 0) : v.toNat < 65536 := by
  have := congrArg UInt32.toNat h
  rw [rV_nat] at this
  have h2 : v.toNat / 65536 = 0 := this
  omega
theorem putX_pre (xs : List Xt) (i : Nat) : ∀ d, ∃ u, putX xs (i + d) = putX xs i ++ u
  | 0 => ⟨[], by rw [List.append_nil]; rfl⟩
  | d + 1 => by
    obtain ⟨u, hu⟩ := putX_pre xs i d
    refine ⟨u ++ (numS (xs.getD (i + d) Xt.zero).id 1 ++ numS (xs.getD (i + d) Xt.zero).bl 2), ?_⟩
    show (putX xs (i + d) ++ numS (xs.getD (i + d) Xt.zero).id 1) ++ numS (xs.getD (i + d) Xt.zero).bl 2 = _
    rw [hu]; simp only [List.append_assoc]
theorem putX_one (xs : List Xt) {i j : Nat} (h : i < j) : ∃ v, putX xs j = putX xs i ++ (numS (xs.getD i Xt.zero).id 1 ++ (numS (xs.getD i Xt.zero).bl 2 ++ v)) := by
  obtain ⟨v, hv⟩ := putX_pre xs (i + 1) (j - (i + 1))
  rw [show i + 1 + (j - (i + 1)) = j by omega] at hv
  exact ⟨v, by rw [hv, putX]; simp only [List.append_assoc]⟩
theorem take_getD {α : Type} {l : List α} {k : Nat} {d : α} (h : k < l.length) : l.take (k + 1) = l.take k ++ [l.getD k d] := by
  rw [List.take_add_one, List.getElem?_eq_getElem h, getD_at h]; rfl
theorem at_xs {r : Rd} {xs : List Xt} {t : List UInt8} (hv : ∀ j, j < xs.length → rV (xs.getD j Xt.zero).id 1 = 0 ∧ rV (xs.getD j Xt.zero).bl 2 = 0) (h : At r (putX xs xs.length ++ t)) :
    ∀ k, k ≤ xs.length → xsL r k = xs.take k ∧ ∃ u, putX xs xs.length = putX xs k ++ u ∧ At (xsD r k) (u ++ t)
  | 0, _ => ⟨rfl, _, rfl, h⟩
  | k + 1, hk => by
    obtain ⟨ih, u, hu, hat⟩ := at_xs hv h k (by omega)
    obtain ⟨v, hv1⟩ := putX_one xs (show k < xs.length by omega)
    have e : u = numS (xs.getD k Xt.zero).id 1 ++ (numS (xs.getD k Xt.zero).bl 2 ++ v) := List.append_cancel_left (hu.symm.trans hv1)
    rw [e, List.append_assoc, List.append_assoc] at hat
    have n1 := at_num1 (hv k (by omega)).1 hat
    have n2 := at_num2 (hv k (by omega)).2 n1.2
    refine ⟨?_, v, ?_, n2.2⟩
    · rw [xsL_s, ih, n1.1, n2.1, take_getD (d := Xt.zero) (by omega)]
    · rw [hv1, putX]; simp only [List.append_assoc]
theorem at_xs_end {r : Rd} {xs : List Xt} {t : List UInt8} (hv : ∀ j, j < xs.length → rV (xs.getD j Xt.zero).id 1 = 0 ∧ rV (xs.getD j Xt.zero).bl 2 = 0) (h : At r (putX xs xs.length ++ t)) : xsL r xs.length = xs ∧ At (xsD r xs.length) t := by
  obtain ⟨h1, u, hu, h2⟩ := at_xs hv h xs.length (Nat.le_refl _)
  have e : u = [] := by simpa using hu
  rw [e] at h2
  exact ⟨by rw [h1, List.take_length], h2⟩
theorem putX_app (l m : List Xt) : ∀ k, k ≤ l.length → putX (l ++ m) k = putX l k
  | 0, _ => rfl
  | k + 1, h => by
    have e : (l ++ m).getD k Xt.zero = l.getD k Xt.zero := by rw [List.getD, List.getD, List.getElem?_append_left (by omega)]
    rw [putX, putX, putX_app l m k (by omega), e]
theorem inv_xs {r : Rd} : ∀ (k : Nat) {t : List UInt8}, At (xsD r k) t → At r (putX (xsL r k) k ++ t)
  | 0, _, h => h
  | k + 1, t, h => by
    rw [xsD_s] at h
    have h1 := inv_num1 (inv_num2 h).1
    have h2 := inv_xs k h1.1
    have hl := xsL_len r k
    have e : (xsL r (k + 1)).getD k Xt.zero = Xt.mk (numR (xsD r k) 1).1.1 (numR (numR (xsD r k) 1).2 2).1.1 := by
      rw [xsL_s, List.getD, List.getElem?_append_right (by omega), hl, Nat.sub_self]; rfl
    rw [putX, e, xsL_s, putX_app _ _ _ (by omega), List.append_assoc, List.append_assoc]
    exact h2
theorem putP_pre (ps : List UInt16) (i : Nat) : ∀ d, ∃ u, putP ps (i + d) = putP ps i ++ u
  | 0 => ⟨[], by rw [List.append_nil]; rfl⟩
  | d + 1 => by
    obtain ⟨u, hu⟩ := putP_pre ps i d
    refine ⟨u ++ numS (UInt32.ofNat (ps.getD (i + d) 0).toNat) 2, ?_⟩
    show putP ps (i + d) ++ numS (UInt32.ofNat (ps.getD (i + d) 0).toNat) 2 = _
    rw [hu, List.append_assoc]
theorem putP_one (ps : List UInt16) {i j : Nat} (h : i < j) : ∃ v, putP ps j = putP ps i ++ (numS (UInt32.ofNat (ps.getD i 0).toNat) 2 ++ v) := by
  obtain ⟨v, hv⟩ := putP_pre ps (i + 1) (j - (i + 1))
  rw [show i + 1 + (j - (i + 1)) = j by omega] at hv
  exact ⟨v, by rw [hv, putP, List.append_assoc]⟩
theorem u16_u32 (p : UInt16) : (UInt32.ofNat p.toNat).toNat = p.toNat := by
  have := p.toNat_lt
  rw [UInt32.toNat_ofNat', Nat.mod_eq_of_lt (by omega)]
theorem u16_back (p : UInt16) : UInt16.ofNat (UInt32.ofNat p.toNat).toNat = p := by rw [u16_u32, UInt16.ofNat_toNat]
theorem at_ps {r : Rd} {ps : List UInt16} {t : List UInt8} (h : At r (putP ps ps.length ++ t)) : ∀ k, k ≤ ps.length → psL r k = ps.take k ∧ ∃ u, putP ps ps.length = putP ps k ++ u ∧ At (psD r k) (u ++ t)
  | 0, _ => ⟨rfl, _, rfl, h⟩
  | k + 1, hk => by
    obtain ⟨ih, u, hu, hat⟩ := at_ps h k (by omega)
    obtain ⟨v, hv1⟩ := putP_one ps (show k < ps.length by omega)
    have e : u = numS (UInt32.ofNat (ps.getD k 0).toNat) 2 ++ v := List.append_cancel_left (hu.symm.trans hv1)
    rw [e, List.append_assoc] at hat
    have hp := (ps.getD k 0).toNat_lt
    have n1 := at_num2 (rV2_lt (by rw [u16_u32]; omega)) hat
    refine ⟨?_, v, ?_, n1.2⟩
    · rw [psL_s, ih, n1.1, u16_back, take_getD (d := 0) (by omega)]
    · rw [hv1, putP, List.append_assoc]
theorem at_ps_end {r : Rd} {ps : List UInt16} {t : List UInt8} (h : At r (putP ps ps.length ++ t)) : psL r ps.length = ps ∧ At (psD r ps.length) t := by
  obtain ⟨h1, u, hu, h2⟩ := at_ps h ps.length (Nat.le_refl _)
  have e : u = [] := by simpa using hu
  rw [e] at h2
  exact ⟨by rw [h1, List.take_length], h2⟩
theorem putP_app (l m : List UInt16) : ∀ k, k ≤ l.length → putP (l ++ m) k = putP l k
  | 0, _ => rfl
  | k + 1, h => by
    have e : (l ++ m).getD k 0 = l.getD k 0 := by rw [List.getD, List.getD, List.getElem?_append_left (by omega)]
    rw [putP, putP, putP_app l m k (by omega), e]
theorem inv_ps {r : Rd} : ∀ (k : Nat) {t : List UInt8}, At (psD r k) t → At r (putP (psL r k) k ++ t)
  | 0, _, h => h
  | k + 1, t, h => by
    rw [psD_s] at h
    have h1 := inv_num2 h
    have h2 := inv_ps k h1.1
    have hl := psL_len r k
    have hv := lt_rV2 h1.2
    have e : (psL r (k + 1)).getD k 0 = UInt16.ofNat (numR (psD r k) 2).1.1.toNat := by
      rw [psL_s, List.getD, List.getElem?_append_right (by omega), hl, Nat.sub_self]; rfl
    have e2 : UInt32.ofNat (UInt16.ofNat (numR (psD r k) 2).1.1.toNat).toNat = (numR (psD r k) 2).1.1 := by
      rw [UInt16.toNat_ofNat', Nat.mod_eq_of_lt hv, UInt32.ofNat_toNat]
    rw [putP, e, e2, psL_s, putP_app _ _ _ (by omega), List.append_assoc]
    exact h2
theorem u8_u32 (p : UInt8) : (UInt32.ofNat p.toNat).toNat = p.toNat := by
  have := p.toNat_lt
  rw [UInt32.toNat_ofNat', Nat.mod_eq_of_lt (by omega)]
def putG (x : Sg) (t : List UInt8) : List UInt8 := numS x.a 4 ++ (numS (UInt32.ofNat x.p.toNat) 1 ++ (numS (UInt32.ofNat x.b.length) 4 ++ (x.b ++ t)))
theorem at_seg {r : Rd} {x : Sg} {t : List UInt8} (hb : x.b.length ≤ 131072) (h : At r (putG x t)) : (segR r).1 = x ∧ At (segR r).2 t := by
  have hp := x.p.toNat_lt
  have n1 := at_num4 h
  have n2 := at_num1 (rV1_lt (by rw [u8_u32]; omega)) n1.2
  have n3 := at_num4 n2.2
  have e : (UInt32.ofNat x.b.length).toNat = x.b.length := by rw [UInt32.toNat_ofNat', Nat.mod_eq_of_lt (by omega)]
  have hle : (numR (numR (numR r 4).2 1).2 4).1.1 ≤ 131072 := by
    rw [n3.1, UInt32.le_iff_toNat_le, e]; exact hb
  have n4 := at_take (n := (numR (numR (numR r 4).2 1).2 4).1.1.toNat) (by rw [n3.1, e]) n3.2
  rw [segR_yes hle]
  refine ⟨?_, n4.2⟩
  rw [n4.1, n1.1, n2.1, u8_u32, UInt8.ofNat_toNat]
theorem inv_seg {r : Rd} {t : List UInt8} (hb : (segR r).1.b ≠ []) (h : At (segR r).2 t) : At r (putG (segR r).1 t) := by
  by_cases hle : (numR (numR (numR r 4).2 1).2 4).1.1 ≤ 131072
  · rw [segR_yes hle] at h ⊢
    have t1 := inv_take h
    have t2 := inv_num4 t1.1
    have t3 := inv_num1 t2
    have t4 := inv_num4 t3.1
    have hv := lt_rV1 t3.2
    have e1 : UInt32.ofNat (UInt8.ofNat (numR (numR r 4).2 1).1.1.toNat).toNat = (numR (numR r 4).2 1).1.1 := by
      rw [UInt8.toNat_ofNat', Nat.mod_eq_of_lt hv, UInt32.ofNat_toNat]
    rw [putG]
    show At r (numS (numR r 4).1.1 4 ++ (numS (UInt32.ofNat (UInt8.ofNat (numR (numR r 4).2 1).1.1.toNat).toNat) 1 ++ (numS (UInt32.ofNat (takeR (numR (numR (numR r 4).2 1).2 4).2 ((numR (numR (numR r 4).2 1).2 4).1.1.toNat : Nat)).1.1.length) 4 ++ _)))
    rw [e1, t1.2, UInt32.ofNat_toNat]
    exact t4
  · rw [segR_no hle] at hb
    exact absurd rfl hb
theorem putS_g (sg : List Sg) (k : Nat) (t : List UInt8) : putS sg (k + 1) ++ t = putS sg k ++ putG (sg.getD k Sg.zero) t := by
  rw [putS, putG]; simp only [List.append_assoc]
theorem putS_pre (sg : List Sg) (i : Nat) : ∀ d, ∃ u, putS sg (i + d) = putS sg i ++ u
  | 0 => ⟨[], by rw [List.append_nil]; rfl⟩
  | d + 1 => by
    obtain ⟨u, hu⟩ := putS_pre sg i d
    refine ⟨u ++ putG (sg.getD (i + d) Sg.zero) [], ?_⟩
    have := putS_g sg (i + d) []
    rw [List.append_nil] at this
    show putS sg (i + d + 1) = _
    rw [this, hu, List.append_assoc]
theorem putS_one (sg : List Sg) {i j : Nat} (h : i < j) : ∃ v, putS sg j = putS sg i ++ putG (sg.getD i Sg.zero) v := by
  obtain ⟨v, hv⟩ := putS_pre sg (i + 1) (j - (i + 1))
  rw [show i + 1 + (j - (i + 1)) = j by omega, putS_g] at hv
  exact ⟨v, hv⟩
theorem putG_app (x : Sg) (v t : List UInt8) : putG x v ++ t = putG x (v ++ t) := by
  rw [putG, putG]; simp only [List.append_assoc]
theorem at_sg {r : Rd} {sg : List Sg} {t : List UInt8} (hb : ∀ j, j < sg.length → (sg.getD j Sg.zero).b.length ≤ 131072) (h : At r (putS sg sg.length ++ t)) :
    ∀ k, k ≤ sg.length → sgL r k = sg.take k ∧ ∃ u, putS sg sg.length = putS sg k ++ u ∧ At (sgD r k) (u ++ t)
  | 0, _ => ⟨rfl, _, rfl, h⟩
  | k + 1, hk => by
    obtain ⟨ih, u, hu, hat⟩ := at_sg hb h k (by omega)
    obtain ⟨v, hv1⟩ := putS_one sg (show k < sg.length by omega)
    have e : u = putG (sg.getD k Sg.zero) v := List.append_cancel_left (hu.symm.trans hv1)
    rw [e, putG_app] at hat
    have n1 := at_seg (hb k (by omega)) hat
    refine ⟨?_, v, ?_, n1.2⟩
    · rw [sgL_s, ih, n1.1, take_getD (d := Sg.zero) (by omega)]
    · rw [hv1, ← putS_g]
theorem at_sg_end {r : Rd} {sg : List Sg} {t : List UInt8} (hb : ∀ j, j < sg.length → (sg.getD j Sg.zero).b.length ≤ 131072) (h : At r (putS sg sg.length ++ t)) : sgL r sg.length = sg ∧ At (sgD r sg.length) t := by
  obtain ⟨h1, u, hu, h2⟩ := at_sg hb h sg.length (Nat.le_refl _)
  have e : u = [] := by simpa using hu
  rw [e] at h2
  exact ⟨by rw [h1, List.take_length], h2⟩
theorem putS_app (l m : List Sg) : ∀ k, k ≤ l.length → putS (l ++ m) k = putS l k
  | 0, _ => rfl
  | k + 1, h => by
    have e : (l ++ m).getD k Sg.zero = l.getD k Sg.zero := by rw [List.getD, List.getD, List.getElem?_append_left (by omega)]
    rw [putS, putS, putS_app l m k (by omega), e]
theorem inv_sg {r : Rd} : ∀ (k : Nat) {t : List UInt8}, (∀ j, j < k → ((sgL r k).getD j Sg.zero).b ≠ []) → At (sgD r k) t → At r (putS (sgL r k) k ++ t)
  | 0, _, _, h => h
  | k + 1, t, hb, h => by
    have hl := sgL_len r k
    have e : (sgL r (k + 1)).getD k Sg.zero = (segR (sgD r k)).1 := by
      rw [sgL_s, List.getD, List.getElem?_append_right (by omega), hl, Nat.sub_self]; rfl
    have hb1 := hb k (by omega)
    rw [e] at hb1
    rw [sgD_s] at h
    have h1 := inv_seg hb1 h
    have h2 := inv_sg k (fun j hj => by
      have := hb j (by omega)
      rwa [sgL_s, List.getD, List.getElem?_append_left (by omega)] at this) h1
    rw [putS_g, e, sgL_s, putS_app _ _ _ (by omega)]
    exact h2
end Go.Spec
/-! from SpecImg9 -/
/- Images: put and get are each other's inverse. Plain Lean. -/
namespace Go.Spec
open Go.Owl
theorem ris_at {α : Type} {r : α → α → Bool} {d : α} : ∀ {l : List α}, ris r l = true → ∀ {k : Nat}, k + 1 < l.length → r (l.getD k d) (l.getD (k + 1) d) = true
  | [], _, k, h => by simp at h
  | [_], _, k, h => by simp at h
  | a :: b :: l, h, 0, _ => by rw [ris, Bool.and_eq_true] at h; exact h.1
  | a :: b :: l, h, k + 1, hk => by
    rw [ris, Bool.and_eq_true] at h
    exact ris_at (l := b :: l) h.2 (k := k) (by simpa using hk)
theorem ids_ge {xs : List Xt} (h : ris xtLt xs = true) : ∀ k, k < xs.length → k ≤ (xs.getD k Xt.zero).id.toNat
  | 0, _ => Nat.zero_le _
  | k + 1, hk => by
    have h1 := ids_ge h k (by omega)
    have h2 := ris_at (d := Xt.zero) h hk
    rw [xtLt, decide_eq_true_eq, UInt32.lt_iff_toNat_lt] at h2
    omega
theorem xt_ok {xs : List Xt} (h : xs.any xtBad = false) {k : Nat} (hk : k < xs.length) : (xs.getD k Xt.zero).id.toNat < 16 ∧ (xs.getD k Xt.zero).bl.toNat ≤ 1024 := by
  have h1 : xtBad (xs.getD k Xt.zero) = false := by
    cases hb : xtBad (xs.getD k Xt.zero) with
    | false => rfl
    | true => rw [any_yes hk hb] at h; cases h
  simp only [xtBad, Bool.or_eq_false_iff, decide_eq_false_iff_not] at h1
  obtain ⟨a, _, c⟩ := h1
  rw [ge_iff_le, UInt32.le_iff_toNat_le, show (16 : UInt32).toNat = 16 from rfl] at a
  rw [gt_iff_lt, UInt32.lt_iff_toNat_lt, show (1024 : UInt32).toNat = 1024 from rfl] at c
  omega
theorem mf_facts {pg : UInt32} {xs : List Xt} {ps : List UInt16} (h : mfMay pg xs ps = true) : xs.length ≤ 16 ∧ ps.length ≤ 16 ∧ ∀ j, j < xs.length → rV (xs.getD j Xt.zero).id 1 = 0 ∧ rV (xs.getD j Xt.zero).bl 2 = 0 := by
  simp only [mfMay, Bool.and_eq_true, Bool.not_eq_true', decide_eq_false_iff_not] at h
  obtain ⟨h1, h2, _, _, h5, _⟩ := h
  refine ⟨?_, by omega, fun j hj => ?_⟩
  · rcases Nat.lt_or_ge xs.length 17 with hl | hl
    · omega
    · have a := ids_ge h2 16 (by omega); have b := xt_ok h1 (k := 16) (by omega)
      omega
  · have b := xt_ok h1 hj
    exact ⟨rV1_lt (by omega), rV2_lt (by omega)⟩
theorem im_facts {pg en : UInt32} {xs : List Xt} {ps : List UInt16} {sg : List Sg} (h : imE pg xs ps en sg = 0) : mfMay pg xs ps = true ∧ sg.length ≤ 8 ∧ ∀ j, j < sg.length → sgBad (ckTo en sg j).1 (sg.getD j Sg.zero) = false := by
  refine ⟨?_, ?_, im_all h⟩
  · cases hm : mfMay pg xs ps with
    | true => rfl
    | false =>
      have h1 : imHead pg xs ps en sg = true := by rw [imHead, mfE_no hm]; rfl
      rw [im_head h1] at h; cases h
  · rcases Nat.lt_or_ge sg.length 9 with hl | hl
    · omega
    · have h1 : imHead pg xs ps en sg = true := by
        rw [imHead, decide_eq_true (show sg.length > 8 by omega)]; simp
      rw [im_head h1] at h; cases h
theorem conN_rV (c : Bool) : rV (conN c) 1 = 0 := by cases c <;> rfl
theorem ofNat_lt {n : Nat} (h : n < 256) : (UInt32.ofNat n).toNat = n := by rw [UInt32.toNat_ofNat', Nat.mod_eq_of_lt (by omega)]
theorem g1_e (s : List UInt8) : takeR (Rd.mk s 0 0 (Nat.zero_le _)) 4 = g1 s := rfl
theorem g2_e (s : List UInt8) : numR (g1 s).2 4 = g2 s := rfl
theorem g3_e (s : List UInt8) : numR (g2 s).2 1 = g3 s := rfl
theorem g4_e (s : List UInt8) : xsD (g3 s).2 (g3 s).1.1.toNat = g4 s := rfl
theorem gX_e (s : List UInt8) : xsL (g3 s).2 (g3 s).1.1.toNat = gX s := rfl
theorem g5_e (s : List UInt8) : numR (g4 s) 1 = g5 s := rfl
theorem g6_e (s : List UInt8) : psD (g5 s).2 (g5 s).1.1.toNat = g6 s := rfl
theorem gP_e (s : List UInt8) : psL (g5 s).2 (g5 s).1.1.toNat = gP s := rfl
theorem g7_e (s : List UInt8) : numR (g6 s) 1 = g7 s := rfl
theorem g8_e (s : List UInt8) : numR (g7 s).2 4 = g8 s := rfl
theorem g9_e (s : List UInt8) : numR (g8 s).2 1 = g9 s := rfl
theorem g10_e (s : List UInt8) : sgD (g9 s).2 (g9 s).1.1.toNat = g10 s := rfl
theorem gS_e (s : List UInt8) : sgL (g9 s).2 (g9 s).1.1.toNat = gS s := rfl
theorem at_take4 {r : Rd} {x t : List UInt8} (hn : x.length = 4) (h : At r (x ++ t)) : (takeR r 4).1.1 = x ∧ At (takeR r 4).2 t := at_take (n := 4) hn h
theorem inv_take4 {r : Rd} {t : List UInt8} (h : At (takeR r 4).2 t) : At r ((takeR r 4).1.1 ++ t) := (inv_take (n := 4) h).1
/-- What was put is got. -/
theorem get_put {pg en : UInt32} {xs : List Xt} {ps : List UInt16} {con : Bool} {sg : List Sg} (h : imE pg xs ps en sg = 0) (hl : ∀ x ∈ sg, x.b.length < 2 ^ 47) :
    imG (imS pg xs ps con en sg) = ⟨pg, xs, ps, con, en, sg⟩ ∧ imGE (imS pg xs ps con en sg) = 0 := by
  obtain ⟨hm, hs8, hsb⟩ := im_facts h
  obtain ⟨hx16, hp16, hxv⟩ := mf_facts hm
  have hb : ∀ j, j < sg.length → (sg.getD j Sg.zero).b.length ≤ 131072 := fun j hj => by
    have hmem : sg.getD j Sg.zero ∈ sg := by rw [getD_at hj]; exact List.getElem_mem hj
    have := sgBad_end (hsb j hj) (hl _ hmem)
    omega
  have hS : imS pg xs ps con en sg = [65, 73, 77, 49] ++ (numS pg 4 ++ (numS (UInt32.ofNat xs.length) 1 ++ (putX xs xs.length ++ (numS (UInt32.ofNat ps.length) 1 ++ (putP ps ps.length ++ (numS (conN con) 1 ++ (numS en 4 ++ (numS (UInt32.ofNat sg.length) 1 ++ (putS sg sg.length ++ []))))))))) := by
    rw [imS, imP3, imP2, imP1]; simp only [List.append_assoc, List.append_nil]
  generalize imS pg xs ps con en sg = s at hS
  have a0 : At (Rd.mk s 0 0 (Nat.zero_le _)) ([65, 73, 77, 49] ++ (numS pg 4 ++ (numS (UInt32.ofNat xs.length) 1 ++ (putX xs xs.length ++ (numS (UInt32.ofNat ps.length) 1 ++ (putP ps ps.length ++ (numS (conN con) 1 ++ (numS en 4 ++ (numS (UInt32.ofNat sg.length) 1 ++ (putS sg sg.length ++ [])))))))))) :=
    ⟨rfl, (rest0 s 0 (Nat.zero_le _)).trans hS⟩
  have a1 := at_take4 rfl a0
  rw [g1_e] at a1
  have a2 := at_num4 a1.2
  rw [g2_e] at a2
  have a3 := at_num1 (rV1_lt (by rw [ofNat_lt (by omega)]; omega)) a2.2
  rw [g3_e] at a3
  have b3 : (g3 s).1.1.toNat = xs.length := by rw [a3.1, ofNat_lt (by omega)]
  have a4 := at_xs_end hxv a3.2
  rw [← b3, gX_e, g4_e] at a4
  have a5 := at_num1 (rV1_lt (by rw [ofNat_lt (by omega)]; omega)) a4.2
  rw [g5_e] at a5
  have b5 : (g5 s).1.1.toNat = ps.length := by rw [a5.1, ofNat_lt (by omega)]
  have a6 := at_ps_end a5.2
  rw [← b5, gP_e, g6_e] at a6
  have a7 := at_num1 (conN_rV con) a6.2
  rw [g7_e] at a7
  have a8 := at_num4 a7.2
  rw [g8_e] at a8
  have a9 := at_num1 (rV1_lt (by rw [ofNat_lt (by omega)]; omega)) a8.2
  rw [g9_e] at a9
  have b9 : (g9 s).1.1.toNat = sg.length := by rw [a9.1, ofNat_lt (by omega)]
  have a10 := at_sg_end hb a9.2
  rw [← b9, gS_e, g10_e] at a10
  have hc1 : ¬ conN con > 1 := by cases con <;> decide
  have hB : gBad s = false := by
    simp only [gBad, Bool.or_eq_false_iff, decide_eq_false_iff_not, Decidable.not_not]
    exact ⟨endR_on a10.2.1 a10.2.2, a1.1, by rw [a7.1]; exact hc1, by rw [a2.1, a4.1, a6.1, a8.1, a10.1]; exact h⟩
  have hcd : decide (conN con = 1) = con := by cases con <;> rfl
  rw [(get_good hB).1, (get_good hB).2, a2.1, a4.1, a6.1, a7.1, a8.1, a10.1, hcd]
  exact ⟨rfl, rfl⟩
/-- What was got is what is put. -/
theorem put_get {s : List UInt8} (h : imGE s = 0) : imE (imG s).pg (imG s).xs (imG s).ps (imG s).en (imG s).sg = 0 ∧ imS (imG s).pg (imG s).xs (imG s).ps (imG s).c (imG s).en (imG s).sg = s := by
  have hB : gBad s = false := by
    cases hb : gBad s with
    | false => rfl
    | true => rw [(get_bad hb).2] at h; cases h
  rw [(get_good hB).1]
  dsimp only
  simp only [gBad, Bool.or_eq_false_iff, decide_eq_false_iff_not, Decidable.not_not] at hB
  obtain ⟨he, hm, hc, hi⟩ := hB
  refine ⟨hi, ?_⟩
  have hsb := im_all hi
  have c10 : At (g10 s) [] := endR_0 he
  have hbn : ∀ j, j < (g9 s).1.1.toNat → ((gS s).getD j Sg.zero).b ≠ [] := fun j hj => by
    have h1 := hsb j (by rw [gS_len]; exact hj)
    simp only [sgBad, Bool.or_eq_false_iff, decide_eq_false_iff_not] at h1
    exact h1.2.2.2.1
  rw [← gS_e] at hbn
  rw [← g10_e] at c10
  have c9 := inv_sg _ hbn c10
  rw [gS_e, ← g9_e] at c9
  have c8 := (inv_num1 c9).1
  rw [g9_e, ← g8_e] at c8
  have c7 := inv_num4 c8
  rw [g8_e, ← g7_e] at c7
  have c6 := (inv_num1 c7).1
  rw [g7_e, ← g6_e] at c6
  have c5 := inv_ps _ c6
  rw [gP_e, ← g5_e] at c5
  have c4 := (inv_num1 c5).1
  rw [g5_e, ← g4_e] at c4
  have c3 := inv_xs _ c4
  rw [gX_e, ← g3_e] at c3
  have c2 := (inv_num1 c3).1
  rw [g3_e, ← g2_e] at c2
  have c1 := inv_num4 c2
  rw [g2_e, ← g1_e] at c1
  have c0 := inv_take4 c1
  rw [g1_e, hm] at c0
  have hr := c0.2
  rw [rest0] at hr
  have hcon : conN (decide ((g7 s).1.1 = 1)) = (g7 s).1.1 := by
    have hle : (g7 s).1.1.toNat ≤ 1 := by
      rw [gt_iff_lt, UInt32.lt_iff_toNat_lt, show (1 : UInt32).toNat = 1 from rfl] at hc; omega
    by_cases h1 : (g7 s).1.1 = 1
    · rw [h1]; rfl
    · have h0 : (g7 s).1.1 = 0 := by
        apply UInt32.toNat_inj.1
        have h2 : (g7 s).1.1.toNat ≠ 1 := fun h => h1 (UInt32.toNat_inj.1 h)
        rw [show (0 : UInt32).toNat = 0 from rfl]; omega
      rw [h0]; rfl
  rw [imS, imP3, imP2, imP1]
  rw [hcon, gX_len, gP_len, gS_len, UInt32.ofNat_toNat, UInt32.ofNat_toNat, UInt32.ofNat_toNat]
  simp only [List.append_assoc]
  refine Eq.trans ?_ hr.symm
  rw [List.append_nil]
end Go.Spec
/-! from SpecImg10 -/
/- What the law of images asks. Plain Lean. -/
namespace Go.Spec
open Go.Owl
theorem get_bounds {s : List UInt8} (h : imGE s = 0) (hs : s.length < 2 ^ 47) : (imG s).xs.length ≤ 2 ^ 20 ∧ (imG s).ps.length ≤ 2 ^ 20 ∧ (imG s).sg.length ≤ 2 ^ 10 ∧ ∀ x ∈ (imG s).sg, x.b.length ≤ 2 ^ 30 := by
  obtain ⟨h1, h2⟩ := put_get h
  obtain ⟨hm, hs8, hsb⟩ := im_facts h1
  obtain ⟨hx16, hp16, -⟩ := mf_facts hm
  refine ⟨by omega, by omega, by omega, fun x hx => ?_⟩
  obtain ⟨j, hj, rfl⟩ := List.getElem_of_mem hx
  have hlen : ((imG s).sg[j]).b.length < 2 ^ 47 := by
    have h3 : ∀ k, k ≤ (imG s).sg.length → (putS (imG s).sg k).length ≤ (imS (imG s).pg (imG s).xs (imG s).ps (imG s).c (imG s).en (imG s).sg).length := fun k hk => by
      obtain ⟨u, hu⟩ := putS_pre (imG s).sg k ((imG s).sg.length - k)
      rw [show k + ((imG s).sg.length - k) = (imG s).sg.length by omega] at hu
      rw [imS, List.length_append, hu, List.length_append]; omega
    have h4 := h3 (j + 1) hj
    rw [h2, putS, List.length_append, getD_at hj] at h4
    omega
  have h5 := hsb j hj
  rw [getD_at hj] at h5
  have h6 := sgBad_end h5 hlen
  omega
theorem get_no {s : List UInt8} (h : imGE s ≠ 0) : imGE s = 7 ∧ (imG s).sg = [] := by
  have hB : gBad s = true := by
    cases hb : gBad s with
    | true => rfl
    | false => exact absurd (get_good hb).2 h
  rw [(get_bad hB).1]
  exact ⟨(get_bad hB).2, rfl⟩
section
variable {pg pg' en en' : UInt32} {c c' : Bool} {xs xs' : List Xt} {ps ps' : List UInt16} {sg sg' : List Sg}
theorem put_get_same (h : imE pg xs ps en sg = 0) (hl : ∀ x ∈ sg, x.b.length ≤ 262144) : imGE (imB pg xs ps c en sg) = 0 ∧ imG (imB pg xs ps c en sg) = ⟨pg, xs, ps, c, en, sg⟩ := by
  have h1 := get_put (con := c) h (fun x hx => Nat.lt_of_le_of_lt (hl x hx) (by decide))
  rw [imB, if_pos h]
  exact ⟨h1.2, h1.1⟩
end
theorem back_put {s : List UInt8} (h : imGE s = 0) : imE (imG s).pg (imG s).xs (imG s).ps (imG s).en (imG s).sg = 0 ∧ imB (imG s).pg (imG s).xs (imG s).ps (imG s).c (imG s).en (imG s).sg = s := by
  obtain ⟨h1, h2⟩ := put_get h
  exact ⟨h1, by rw [imB, if_pos h1]; exact h2⟩
end Go.Spec
/-! from SpecRef2 -/
/- The reference's sums: numbers as roots. -/
namespace Go.Spec
open Go.Owl
end Go.Spec
/-! from SpecRoots -/
/- The roots of the first primes are the numbers. -/
namespace Go.Spec
end Go.Spec
/-! from SpecImg11 -/
/- The document's answer and the program's: which images may be. Plain Lean. -/
namespace Go.Spec
open Go.Owl
end Go.Spec
/-! from SpecImg12 -/
/- Reading by the document's answer. Plain Lean. -/
namespace Go.Spec
open Go.Owl
end Go.Spec
/-! from SpecImg13 -/
/- What ImageCodes asks. Plain Lean. -/
namespace Go.Spec
open Go.Owl
section
variable {pg en : UInt32} {xs : List Xt} {ps : List UInt16} {c : Bool} {sg : List Sg}
end
end Go.Spec
/-! from SpecSeal -/
/- Sealed images. Plain Lean. -/
namespace Go.Spec
open Go.Owl
/-- A sealed image's bytes. -/
def slS (key : List UInt8) (pg : UInt32) (xs : List Xt) (ps : List UInt16) (c : Bool) (en : UInt32) (sg : List Sg) : List UInt8 :=
  if imE pg xs ps en sg = 0 then imB pg xs ps c en sg ++ mac key (imB pg xs ps c en sg) else []
theorem imE_2 {pg en : UInt32} {xs : List Xt} {ps : List UInt16} {sg : List Sg} (h : imE pg xs ps en sg ≠ 0) : imE pg xs ps en sg = 2 := by
  rw [imE] at h ⊢
  split
  · rename_i h1; rw [if_pos h1] at h; exact absurd rfl h
  · rfl
theorem imE_nil {pg en : UInt32} {xs : List Xt} {ps : List UInt16} {sg : List Sg} (h : sg.length = 0) : imE pg xs ps en sg = 2 := by
  refine im_head ?_
  rw [imHead, decide_eq_true (show sg.length < 1 by omega)]; simp
/-- What sealed bytes are opened as. -/
def opC (key s : List UInt8) : Nat := if s.length < 32 then 7 else if s.drop (s.length - 32) ≠ mac key (s.take (s.length - 32)) then 170 else imGE (s.take (s.length - 32))
def opI (key s : List UInt8) : Im := if s.length < 32 then Im.zero else if s.drop (s.length - 32) ≠ mac key (s.take (s.length - 32)) then Im.zero else imG (s.take (s.length - 32))
theorem op_short {key s : List UInt8} (h : s.length < 32) : opI key s = Im.zero ∧ opC key s = 7 := ⟨if_pos h, if_pos h⟩
theorem op_tag {key s : List UInt8} (h : ¬ s.length < 32) (ht : s.drop (s.length - 32) ≠ mac key (s.take (s.length - 32))) : opI key s = Im.zero ∧ opC key s = 170 := by
  rw [opI, opC, if_neg h, if_neg h, if_pos ht, if_pos ht]; exact ⟨rfl, rfl⟩
theorem op_get {key s : List UInt8} (h : ¬ s.length < 32) (ht : s.drop (s.length - 32) = mac key (s.take (s.length - 32))) : opI key s = imG (s.take (s.length - 32)) ∧ opC key s = imGE (s.take (s.length - 32)) := by
  rw [opI, opC, if_neg h, if_neg h, if_neg (fun hh => hh ht), if_neg (fun hh => hh ht)]; exact ⟨rfl, rfl⟩
end Go.Spec
/-! from SpecSeal2 -/
/- Sealed images: opened just if sealed. Plain Lean. -/
namespace Go.Spec
open Go.Owl
section
variable {key s : List UInt8} {pg en : UInt32} {xs : List Xt} {ps : List UInt16} {c : Bool} {sg : List Sg}
theorem cut_tag (key b : List UInt8) : (b ++ mac key b).length - 32 = b.length ∧ (b ++ mac key b).take ((b ++ mac key b).length - 32) = b ∧ (b ++ mac key b).drop ((b ++ mac key b).length - 32) = mac key b ∧ ¬ (b ++ mac key b).length < 32 := by
  have hm := mac_length key b
  have e : (b ++ mac key b).length - 32 = b.length := by rw [List.length_append]; omega
  refine ⟨e, ?_, ?_, by rw [List.length_append]; omega⟩
  · rw [e, List.take_left]
  · rw [e, List.drop_left]
/-- What was sealed is opened. -/
theorem seal_open (h : imE pg xs ps en sg = 0) (hl : ∀ x ∈ sg, x.b.length ≤ 262144) : opC key (slS key pg xs ps c en sg) = 0 ∧ opI key (slS key pg xs ps c en sg) = ⟨pg, xs, ps, c, en, sg⟩ := by
  obtain ⟨_, h2, h3, h4⟩ := cut_tag key (imB pg xs ps c en sg)
  have hs : slS key pg xs ps c en sg = imB pg xs ps c en sg ++ mac key (imB pg xs ps c en sg) := if_pos h
  have hg := op_get (key := key) (s := slS key pg xs ps c en sg) (by rw [hs]; exact h4) (by rw [hs, h2, h3])
  rw [hg.1, hg.2, hs, h2]
  exact put_get_same h hl
/-- What is opened was sealed. -/
theorem open_seal (h : opC key s = 0) : imE (opI key s).pg (opI key s).xs (opI key s).ps (opI key s).en (opI key s).sg = 0 ∧ slS key (opI key s).pg (opI key s).xs (opI key s).ps (opI key s).c (opI key s).en (opI key s).sg = s ∧ imGE (s.take (s.length - 32)) = 0 := by
  by_cases h1 : s.length < 32
  · rw [(op_short h1).2] at h; cases h
  · by_cases h2 : s.drop (s.length - 32) = mac key (s.take (s.length - 32))
    · have hg := op_get h1 h2
      rw [hg.2] at h
      obtain ⟨b1, b2⟩ := back_put h
      rw [hg.1]
      refine ⟨b1, ?_, h⟩
      rw [slS, if_pos b1, b2, ← h2, List.take_append_drop]
    · rw [(op_tag h1 h2).2] at h; cases h
/-- What is not opened. -/
theorem open_no (h : opC key s ≠ 0) : (opI key s).sg = [] ∧ (opC key s = 7 ∨ opC key s = 170) ∧ (32 ≤ s.length → opC key s = 7 → imGE (s.take (s.length - 32)) = 7) := by
  by_cases h1 : s.length < 32
  · rw [(op_short h1).1, (op_short h1).2]
    exact ⟨rfl, Or.inl rfl, fun h2 => by omega⟩
  · by_cases h2 : s.drop (s.length - 32) = mac key (s.take (s.length - 32))
    · have hg := op_get h1 h2
      rw [hg.2] at h
      obtain ⟨b1, b2⟩ := get_no h
      rw [hg.1, hg.2]
      exact ⟨b2, Or.inl b1, fun _ h => h⟩
    · rw [(op_tag h1 h2).1, (op_tag h1 h2).2]
      exact ⟨rfl, Or.inr rfl, fun _ h => by cases h⟩
theorem imB_38 (h : xs.length ≤ 600 ∧ ps.length ≤ 600 ∧ sg.length ≤ 15 ∧ ∀ x ∈ sg, x.b.length ≤ 262144) : (imB pg xs ps c en sg).length < 2 ^ 37 := by
  rw [imB]
  split
  · have h1 := imP3_len pg xs ps c en sg; have h2 := putS_len h.2.2.2 sg.length
    rw [imS, List.length_append]; omega
  · show 0 < _; decide
theorem slS_38 (h : xs.length ≤ 600 ∧ ps.length ≤ 600 ∧ sg.length ≤ 15 ∧ ∀ x ∈ sg, x.b.length ≤ 262144) : (slS key pg xs ps c en sg).length < 2 ^ 38 := by
  have h1 := imB_38 (pg := pg) (c := c) (en := en) h
  rw [slS]
  split
  · rw [List.length_append, mac_length]; omega
  · show 0 < _; decide
theorem same_open (h : imE pg xs ps en sg = 0) (hl : ∀ x ∈ sg, x.b.length ≤ 262144) :
    sameI pg c xs ps en sg (opI key (slS key pg xs ps c en sg)).pg (opI key (slS key pg xs ps c en sg)).c (opI key (slS key pg xs ps c en sg)).xs (opI key (slS key pg xs ps c en sg)).ps (opI key (slS key pg xs ps c en sg)).en (opI key (slS key pg xs ps c en sg)).sg = true := by
  rw [(seal_open h hl).2]
  exact sameI_iff.2 ⟨⟨rfl, rfl, rfl, rfl⟩, rfl, rfl⟩
theorem op_bounds (h : opC key s = 0) (hs : s.length < 2 ^ 37) : (opI key s).xs.length ≤ 2 ^ 20 ∧ (opI key s).ps.length ≤ 2 ^ 20 ∧ (opI key s).sg.length ≤ 2 ^ 10 ∧ (∀ x ∈ (opI key s).sg, x.b.length ≤ 2 ^ 30) ∧
    (imB (opI key s).pg (opI key s).xs (opI key s).ps (opI key s).c (opI key s).en (opI key s).sg).length < 2 ^ 38 := by
  have hg0 := (open_seal h).2.2
  have e : opI key s = imG (s.take (s.length - 32)) := by
    by_cases h1 : s.length < 32
    · rw [(op_short h1).2] at h; cases h
    · by_cases h2 : s.drop (s.length - 32) = mac key (s.take (s.length - 32))
      · exact (op_get h1 h2).1
      · rw [(op_tag h1 h2).2] at h; cases h
  rw [e]
  have hb := get_bounds hg0 (by rw [List.length_take]; omega)
  refine ⟨hb.1, hb.2.1, hb.2.2.1, hb.2.2.2, ?_⟩
  rw [(back_put hg0).2, List.length_take]; omega
end
end Go.Spec
