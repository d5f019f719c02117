/- General lemmas and walks: SpecDem, SpecImg, SpecInsn, LawInsn, SpecRef4, SpecSha, SpecHash, LawSha, SpecPack, LawPack, SpecMac, SpecLog, SpecImg2, SpecImg3, SpecImg4, SpecImg5, SpecImg6, SpecImg7, SpecImg8, SpecImg9, SpecImg10, SpecRef2, SpecRoots, SpecImg11, SpecImg12, SpecImg13, SpecSeal, SpecSeal2, SpecSeal3. No condition but what each theorem names. -/
import Derived.Test.YtpnghdalnghpcaaQ3677b7f3
import Derived.Test.YtpnghdalnghpcaaQ793b7ef6
/-! from SpecDem -/
/- Manifests: which may be. Plain Lean. -/
namespace Go.Owl
theorem Arr.lenM {β : Type} {f : β → Value} {w : World} {v : Value} {q : Nat} {l : List β} (hA : Arr w v 1 q (l.map f)) : Arr w v 1 l.length (l.map f) := by
  have h := hA.len
  rw [List.length_map, Nat.mul_one] at h
  rw [h]; exact hA
end Go.Owl
namespace Go.Spec
open Go.Owl
structure Xt where
  id : UInt32
  bl : UInt32
deriving DecidableEq
def Xt.zero : Xt := ⟨0, 0⟩
def xtc (x : Xt) : List Value := [vU32 x.id, vU32 x.bl]
structure Sg where
  a : UInt32
  p : UInt8
  b : List UInt8
deriving DecidableEq
def Sg.zero : Sg := ⟨0, 0, []⟩
def sgc (x : Sg) : List Value := [vU32 x.a, vU8 x.p, str x.b]
section
variable {α : Type} {p : α → Bool} {l : List α} {d : α} {k : Nat} {r : α → α → Bool}
/-- The first that is so. -/
def fidx (p : α → Bool) (l : List α) : Int := match l.findIdx? p with
  | some k => (k : Int)
  | none => -1
theorem getD_at (h : k < l.length) : l.getD k d = l[k] := by rw [List.getD, List.getElem?_eq_getElem h]; rfl
theorem fidx_yes (hk : k < l.length) (h : ∀ j, j < k → p (l.getD j d) = false) (hp : p (l.getD k d) = true) : fidx p l = (k : Int) := by
  have e : l.findIdx? p = some k := by
    rw [List.findIdx?_eq_some_iff_getElem]
    refine ⟨hk, by rw [getD_at hk] at hp; exact hp, fun j hj => ?_⟩
    have h1 := h j hj
    rw [getD_at (by omega)] at h1
    simp [h1]
  rw [fidx, e]
theorem fidx_no (h : ∀ j, j < l.length → p (l.getD j d) = false) : fidx p l = -1 := by
  have e : l.findIdx? p = none := by
    rw [List.findIdx?_eq_none_iff]
    intro x hx
    obtain ⟨j, hj, rfl⟩ := List.getElem_of_mem hx
    have h1 := h j hj
    rw [getD_at hj] at h1
    exact h1
  rw [fidx, e]
theorem fidx_any : decide (fidx p l ≥ 0) = l.any p := by
  rw [← List.findIdx?_isSome, fidx]
  cases l.findIdx? p with
  | none => rfl
  | some k => simp
/-- Each two side by side are so. -/
def ris (r : α → α → Bool) : List α → Bool
  | a :: b :: l => r a b && ris r (b :: l)
  | _ => true
theorem ris_no : ∀ {l : List α} {k : Nat}, k + 1 < l.length → r (l.getD k d) (l.getD (k + 1) d) = false → ris r l = false
  | [], _, h, _ => by simp at h
  | [_], _, h, _ => by simp at h
  | a :: b :: l, 0, _, h => by
    have h1 : r a b = false := h
    rw [ris, h1]; rfl
  | a :: b :: l, k + 1, hk, h => by
    rw [ris, ris_no (l := b :: l) (k := k) (by simpa using hk) h, Bool.and_false]
theorem ris_yes : ∀ {l : List α}, (∀ k, k + 1 < l.length → r (l.getD k d) (l.getD (k + 1) d) = true) → ris r l = true
  | [], _ => rfl
  | [_], _ => rfl
  | a :: b :: l, h => by
    have h1 : r a b = true := h 0 (by simp)
    rw [ris, h1, Bool.true_and]
    exact ris_yes (l := b :: l) fun k hk => h (k + 1) (by simpa using hk)
theorem any_no (h : ∀ j, j < l.length → p (l.getD j d) = false) : l.any p = false := by
  rw [← fidx_any, fidx_no h]; rfl
theorem any_yes (hk : k < l.length) (hp : p (l.getD k d) = true) : l.any p = true := by
  rw [List.any_eq_true]
  exact ⟨l[k], List.getElem_mem hk, by rw [getD_at hk] at hp; exact hp⟩
theorem allPrev {P : Nat → Prop} (h : ∀ j, j < k → P j) (h2 : P k) : ∀ j, j < k + 1 → P j := fun j hj => by
  rcases Nat.lt_or_ge j k with h3 | h3
  · exact h j h3
  · rw [show j = k by omega]; exact h2
end
def xtBad (x : Xt) : Bool := decide (x.id ≥ 16) || (decide (x.bl < 1) || decide (x.bl > 1024))
def xtLt (x y : Xt) : Bool := decide (x.id < y.id)
def u16Lt (x y : UInt16) : Bool := decide (x < y)
def u16Is (y x : UInt16) : Bool := decide (y = x)
def u8Is (y x : UInt8) : Bool := decide (y = x)
def mfMay (pg : UInt32) (xs : List Xt) (ps : List UInt16) : Bool := !(xs.any xtBad) && (ris xtLt xs && (ris u16Lt ps && (!(ps.any (u16Is 0)) && (!decide (ps.length > 16) && !decide (pg > 1024)))))
def mfE (pg : UInt32) (xs : List Xt) (ps : List UInt16) : Nat := if mfMay pg xs ps then 0 else 2
theorem mfE_yes {pg : UInt32} {xs : List Xt} {ps : List UInt16} (h : mfMay pg xs ps = true) : mfE pg xs ps = 0 := if_pos h
theorem mfE_no {pg : UInt32} {xs : List Xt} {ps : List UInt16} (h : mfMay pg xs ps = false) : mfE pg xs ps = 2 := if_neg (by rw [h]; decide)
end Go.Spec
/-! from SpecImg -/
/- Images: which may be, which bytes and pages they have. Plain Lean. -/
namespace Go.Spec
open Go.Owl
def sgEnd (x : Sg) : UInt64 := UInt64.ofNat x.a.toNat + UInt64.ofNat x.b.length
def permOk (p : UInt8) : Bool := [1, 3, 5].any (u8Is p)
def sgBad (fr : UInt64) (x : Sg) : Bool := !(permOk x.p) || (decide (x.a % 256 ≠ 0) || (decide (UInt64.ofNat x.a.toNat < fr) || (decide (x.b = []) || decide (sgEnd x > 131072))))
def sgNext (x : Sg) : UInt64 := (sgEnd x + 256 - 1) / 256 * 256
def sgBegins (en : UInt32) (x : Sg) : Bool := decide (x.p &&& 4 ≠ 0) && (decide (en ≥ x.a) && decide (UInt64.ofNat en.toNat + 8 ≤ sgEnd x))
def ckTo (en : UInt32) (sg : List Sg) : Nat → UInt64 × Bool
  | 0 => (256, false)
  | k + 1 => (sgNext (sg.getD k Sg.zero), (ckTo en sg k).2 || sgBegins en (sg.getD k Sg.zero))
theorem ckTo_2 (en : UInt32) (sg : List Sg) (k : Nat) : (ckTo en sg (k + 1)).2 = ((ckTo en sg k).2 || sgBegins en (sg.getD k Sg.zero)) := rfl
def imHead (pg : UInt32) (xs : List Xt) (ps : List UInt16) (en : UInt32) (sg : List Sg) : Bool := decide (mfE pg xs ps ≠ 0) || (decide (sg.length < 1) || (decide (sg.length > 8) || decide (en % 8 ≠ 0)))
def imMay (pg : UInt32) (xs : List Xt) (ps : List UInt16) (en : UInt32) (sg : List Sg) : Bool :=
  !(imHead pg xs ps en sg) && ((List.range sg.length).all (fun k => !(sgBad (ckTo en sg k).1 (sg.getD k Sg.zero))) && (ckTo en sg sg.length).2)
def imE (pg : UInt32) (xs : List Xt) (ps : List UInt16) (en : UInt32) (sg : List Sg) : Nat := if imMay pg xs ps en sg then 0 else 2
section
variable {pg en : UInt32} {xs : List Xt} {ps : List UInt16} {sg : List Sg} {k : Nat}
theorem im_head (h : imHead pg xs ps en sg = true) : imE pg xs ps en sg = 2 := by
  rw [imE, imMay, h]; rfl
theorem im_bad (hk : k < sg.length) (h : sgBad (ckTo en sg k).1 (sg.getD k Sg.zero) = true) : imE pg xs ps en sg = 2 := by
  rw [imE, if_neg]
  intro hm
  rw [imMay, Bool.and_eq_true, Bool.and_eq_true, List.all_eq_true] at hm
  have h1 := hm.2.1 k (List.mem_range.2 hk)
  rw [h] at h1; cases h1
theorem im_end (h : imHead pg xs ps en sg = false) (hb : ∀ j, j < sg.length → sgBad (ckTo en sg j).1 (sg.getD j Sg.zero) = false) : imE pg xs ps en sg = if (ckTo en sg sg.length).2 then 0 else 2 := by
  have ha : (List.range sg.length).all (fun k => !(sgBad (ckTo en sg k).1 (sg.getD k Sg.zero))) = true := by
    rw [List.all_eq_true]
    intro j hj
    rw [hb j (List.mem_range.1 hj)]; rfl
  rw [imE, imMay, h, ha]; rfl
end
end Go.Spec
/-! from SpecInsn -/
/- What the instructions' functions say, in plain Lean. -/
namespace Go.Spec
open Go.Owl

def le4 (v : UInt32) : List UInt8 := [UInt8.ofNat v.toNat, UInt8.ofNat (shrU32 v 8).toNat, UInt8.ofNat (shrU32 v 16).toNat, UInt8.ofNat (shrU32 v 24).toNat]
def getTo (s : List UInt8) : Nat → UInt32
  | 0 => 0
  | k + 1 => getTo s k ||| shlU32 (UInt32.ofNat (s.getD k 0).toNat) (8 * k)
def getE (s : List UInt8) : Nat := if s.length < 1 ∨ 4 < s.length then 2 else 0
def getV (s : List UInt8) : UInt32 := if s.length < 1 ∨ 4 < s.length then 0 else getTo s s.length

end Go.Spec
/-! from LawInsn -/
/- Plain laws of the instructions' bytes. -/
namespace Go.Spec
open Go.Owl

end Go.Spec
/-! from SpecRef4 -/
/- What the reference of layer 4 says, in plain Lean, and that it says the same. -/
namespace Go.Spec
open Go.Owl

theorem op_all {p : UInt8 → Bool} (h : ((List.range 256).all fun k => p (UInt8.ofNat k)) = true) (op : UInt8) : p op = true := by
  have := List.all_eq_true.mp h op.toNat (List.mem_range.mpr op.toNat_lt)
  simpa using this
def rV (v : UInt32) : Nat → UInt32
  | 0 => v
  | k + 1 => rV v k / 256
def rB (v : UInt32) : Nat → List UInt8
  | 0 => []
  | k + 1 => rB v k ++ [UInt8.ofNat (rV v k % 256).toNat]
theorem rB_length (v : UInt32) : ∀ k, (rB v k).length = k
  | 0 => rfl
  | k + 1 => by simp [rB, rB_length v k]
theorem rB4 (v : UInt32) : rB v 4 = le4 v := by
  have hv := v.toNat_lt
  simp only [rB, rV, le4, shrU32, List.nil_append, List.cons_append, List.cons.injEq, and_true]
  refine ⟨?_, ?_, ?_, ?_⟩ <;> (apply UInt8.toNat_inj.mp; simp [Nat.shiftRight_eq_div_pow]; try omega)
def gF : List UInt8 → UInt32
  | [] => 0
  | c :: l => 256 * gF l + UInt32.ofNat c.toNat
theorem gF_drop (s : List UInt8) (m : Nat) (h : m < s.length) : gF (s.drop m) = 256 * gF (s.drop (m + 1)) + UInt32.ofNat (s.getD m 0).toNat := by
  rw [List.drop_eq_getElem_cons h]; simp [gF, List.getD, h]
def gFV (s : List UInt8) : UInt32 := if s.length < 1 ∨ 4 < s.length then 0 else gF s
theorem b16 (b : UInt8) : b % 16 = b &&& 15 ∧ b / 16 = shrU8 b 4 := by
  have := op_all (p := fun b => b % 16 == b &&& 15 && b / 16 == shrU8 b 4) (by decide +kernel) b
  simpa using this
end Go.Spec
/-! from SpecSha -/
/- SHA-256 in plain Lean. -/
namespace Go.Spec
open Go.Owl
def rot (x : UInt32) (n : Nat) : UInt32 := shrU32 x n ||| shlU32 x (32 - n)
structure St where
  a : UInt32
  b : UInt32
  c : UInt32
  d : UInt32
  e : UInt32
  f : UInt32
  g : UInt32
  h : UInt32
def St.vals (v : St) : List UInt32 := [v.a, v.b, v.c, v.d, v.e, v.f, v.g, v.h]
/-- Four bytes, the highest first. -/
def be4 (b : List UInt8) (t : Nat) : UInt32 := ((shlU32 (UInt32.ofNat (b.getD (4 * t) 0).toNat) 24 ||| shlU32 (UInt32.ofNat (b.getD (4 * t + 1) 0).toNat) 16) ||| shlU32 (UInt32.ofNat (b.getD (4 * t + 2) 0).toNat) 8) ||| UInt32.ofNat (b.getD (4 * t + 3) 0).toNat
def mix (w : List UInt32) (t : Nat) : UInt32 :=
  ((w.getD (t - 16) 0 + ((rot (w.getD (t - 15) 0) 7 ^^^ rot (w.getD (t - 15) 0) 18) ^^^ shrU32 (w.getD (t - 15) 0) 3)) + w.getD (t - 7) 0) + ((rot (w.getD (t - 2) 0) 17 ^^^ rot (w.getD (t - 2) 0) 19) ^^^ shrU32 (w.getD (t - 2) 0) 10)
/-- The first k numbers W of a block. -/
def wl (b : List UInt8) : Nat → List UInt32
  | 0 => []
  | k + 1 => wl b k ++ [if k < 16 then be4 b k else mix (wl b k) k]
theorem wl_length (b : List UInt8) : ∀ k, (wl b k).length = k
  | 0 => rfl
  | k + 1 => by simp [wl, wl_length b k]
def keyL : List UInt32 := [
  0x428a2f98, 0x71374491, 0xb5c0fbcf, 0xe9b5dba5, 0x3956c25b, 0x59f111f1, 0x923f82a4, 0xab1c5ed5,
  0xd807aa98, 0x12835b01, 0x243185be, 0x550c7dc3, 0x72be5d74, 0x80deb1fe, 0x9bdc06a7, 0xc19bf174,
  0xe49b69c1, 0xefbe4786, 0x0fc19dc6, 0x240ca1cc, 0x2de92c6f, 0x4a7484aa, 0x5cb0a9dc, 0x76f988da,
  0x983e5152, 0xa831c66d, 0xb00327c8, 0xbf597fc7, 0xc6e00bf3, 0xd5a79147, 0x06ca6351, 0x14292967,
  0x27b70a85, 0x2e1b2138, 0x4d2c6dfc, 0x53380d13, 0x650a7354, 0x766a0abb, 0x81c2c92e, 0x92722c85,
  0xa2bfe8a1, 0xa81a664b, 0xc24b8b70, 0xc76c51a3, 0xd192e819, 0xd6990624, 0xf40e3585, 0x106aa070,
  0x19a4c116, 0x1e376c08, 0x2748774c, 0x34b0bcb5, 0x391c0cb3, 0x4ed8aa4a, 0x5b9cca4f, 0x682e6ff3,
  0x748f82ee, 0x78a5636f, 0x84c87814, 0x8cc70208, 0x90befffa, 0xa4506ceb, 0xbef9a3f7, 0xc67178f2]
def firstS : St := ⟨0x6a09e667, 0xbb67ae85, 0x3c6ef372, 0xa54ff53a, 0x510e527f, 0x9b05688c, 0x1f83d9ab, 0x5be0cd19⟩
def t1of (v : St) (k w : UInt32) : UInt32 := (((v.h + ((rot v.e 6 ^^^ rot v.e 11) ^^^ rot v.e 25)) + ((v.e &&& v.f) ^^^ (v.g &&& ~~~v.e))) + k) + w
def t2of (v : St) : UInt32 := ((rot v.a 2 ^^^ rot v.a 13) ^^^ rot v.a 22) + (((v.a &&& v.b) ^^^ (v.a &&& v.c)) ^^^ (v.b &&& v.c))
def stepS (v : St) (k w : UInt32) : St := ⟨t1of v k w + t2of v, v.a, v.b, v.c, v.d + t1of v k w, v.e, v.f, v.g⟩
def rounds (h : St) (w : List UInt32) : Nat → St
  | 0 => h
  | t + 1 => stepS (rounds h w t) (keyL.getD t 0) (w.getD t 0)
def addS (v h : St) : St := ⟨v.a + h.a, v.b + h.b, v.c + h.c, v.d + h.d, v.e + h.e, v.f + h.f, v.g + h.g, v.h + h.h⟩
def blockS (h : St) (b : List UInt8) : St := addS (rounds h (wl b 64) 64) h
def padZ (n : Nat) : Nat := (119 - n % 64) % 64
def hb (x : UInt32) : List UInt8 := [UInt8.ofNat (shrU32 x 24).toNat, UInt8.ofNat (shrU32 x 16).toNat, UInt8.ofNat (shrU32 x 8).toNat, UInt8.ofNat x.toNat]
/-- The array W while it is filled. -/
def wC (b : List UInt8) (k : Nat) : List Value := (wl b k).map vU32 ++ List.replicate (64 - k) (vU32 0)
theorem wC_length (b : List UInt8) (k : Nat) (h : k ≤ 64) : (wC b k).length = 64 := by simp [wC, wl_length]; omega
theorem wC_get (b : List UInt8) {k j : Nat} (h : j < k) : (wC b k)[0 + j]? = some (vU32 ((wl b k).getD j 0)) := by
  rw [Nat.zero_add, wC, List.getElem?_append_left (by simpa [wl_length] using h)]
  simp [List.getD, wl_length, h]
theorem wC_set (b : List UInt8) {k : Nat} (h : k < 64) : wC b (k + 1) = (wC b k).set (0 + k) (vU32 (if k < 16 then be4 b k else mix (wl b k) k)) := by
  rw [Nat.zero_add, wC, wC, List.set_append, List.length_map, wl_length, if_neg (Nat.lt_irrefl k), Nat.sub_self, show 64 - k = (64 - (k + 1)) + 1 by omega, List.replicate_succ, List.set_cons_zero]
  simp [wl]
theorem wC_end (b : List UInt8) : wC b 64 = (wl b 64).map vU32 := by simp [wC]
theorem one_U32 (l : List UInt32) : (l.map vU32).all (·.oneCell') = true := by simp [Value.oneCell']
theorem get_map0 {α β : Type} (f : α → β) {l : List α} {m : Nat} (d : α) (hm : m < l.length) : (l.map f)[0 + m]? = some (f (l.getD m d)) := by rw [Nat.zero_add]; exact get_map f d hm
def addTo (v h : St) (k : Nat) : List UInt32 := List.zipWith (· + ·) (v.vals.take k) (h.vals.take k) ++ v.vals.drop k
theorem addTo_length (v h : St) : ∀ k, k ≤ 8 → (addTo v h k).length = 8 := fun k hk => by simp [addTo, St.vals]; omega
theorem addTo_set (v h : St) : ∀ k, k < 8 → addTo v h (k + 1) = (addTo v h k).set k ((addTo v h k).getD k 0 + h.vals.getD k 0) := fun k hk => by
  rcases (by omega : k = 0 ∨ k = 1 ∨ k = 2 ∨ k = 3 ∨ k = 4 ∨ k = 5 ∨ k = 6 ∨ k = 7) with rfl | rfl | rfl | rfl | rfl | rfl | rfl | rfl <;> rfl
theorem addTo_end (v h : St) : addTo v h 8 = (addS v h).vals := rfl
theorem addTo_map (v h : St) {k : Nat} (hk : k < 8) : (addTo v h (k + 1)).map vU32 = ((addTo v h k).map vU32).set (0 + k) (vU32 ((addTo v h k).getD k 0 + h.vals.getD k 0)) := by
  rw [addTo_set v h k hk, Nat.zero_add, List.map_set]
theorem keyL_length : keyL.length = 64 := rfl
theorem vals_length (h : St) : h.vals.length = 8 := rfl
end Go.Spec
/-! from SpecHash -/
/- A hash by the text that was written to it. -/
namespace Go.Spec
open Go.Owl
/-- j blocks of d, and what is left. -/
def brest (d : List UInt8) : Nat → List UInt8
  | 0 => d
  | j + 1 => (brest d j).drop 64
def bst (h : St) (d : List UInt8) : Nat → St
  | 0 => h
  | j + 1 => blockS (bst h d j) ((brest d j).take 64)
theorem brest_eq (d : List UInt8) : ∀ j, brest d j = d.drop (64 * j)
  | 0 => by simp [brest]
  | j + 1 => by rw [brest, brest_eq d j, List.drop_drop]; congr 1
theorem brest_length (d : List UInt8) (j : Nat) : (brest d j).length = d.length - 64 * j := by rw [brest_eq, List.length_drop]
theorem bst_add (h : St) (d : List UInt8) (i : Nat) : ∀ j, bst h d (i + j) = bst (bst h d i) (brest d i) j ∧ brest d (i + j) = brest (brest d i) j
  | 0 => ⟨rfl, rfl⟩
  | j + 1 => by rw [← Nat.add_assoc, bst, brest, (bst_add h d i j).1, (bst_add h d i j).2]; exact ⟨rfl, rfl⟩
theorem brest_append (d e : List UInt8) (j : Nat) (hl : 64 * j ≤ d.length) : brest (d ++ e) j = brest d j ++ e := by
  rw [brest_eq, brest_eq, List.drop_append_of_le_length hl]
theorem bst_append (h : St) (d e : List UInt8) : ∀ j, 64 * j ≤ d.length → bst h (d ++ e) j = bst h d j
  | 0, _ => rfl
  | j + 1, hl => by
    rw [bst, bst, bst_append h d e j (by omega), brest_append d e j (by omega), List.take_append_of_le_length (by rw [brest_length]; omega)]
def hst (all : List UInt8) : St := bst firstS all (all.length / 64)
def hrest (all : List UInt8) : List UInt8 := brest all (all.length / 64)
theorem hrest_length (all : List UInt8) : (hrest all).length = all.length % 64 := by unfold hrest; rw [brest_length]; omega
theorem mEnd (a s : List UInt8) (j : Nat) (h : (brest (hrest a ++ s) j).length < 64) (hj : 64 * j ≤ (hrest a).length + s.length) : bst (hst a) (hrest a ++ s) j = hst (a ++ s) ∧ brest (hrest a ++ s) j = hrest (a ++ s) := by
  rw [brest_length, List.length_append, hrest_length] at h
  rw [hrest_length] at hj
  have e : (a ++ s).length / 64 = a.length / 64 + j := by rw [List.length_append]; omega
  have hb := bst_add firstS (a ++ s) (a.length / 64) j
  have h1 := brest_append a s (a.length / 64) (by omega)
  have h2 := bst_append firstS a s (a.length / 64) (by omega)
  constructor
  · unfold hst hrest; rw [e, hb.1, h1, h2]
  · unfold hrest; rw [e, hb.2, h1]
/-- All that was written when k texts are. -/
def acc (all : List UInt8) (ls : List (List UInt8)) : Nat → List UInt8
  | 0 => all
  | k + 1 => acc all ls k ++ ls.getD k []
theorem acc_take (all : List UInt8) (ls : List (List UInt8)) : ∀ k, k ≤ ls.length → acc all ls k = all ++ (ls.take k).flatten
  | 0, _ => by simp [acc]
  | k + 1, h => by
    have e : ls.take (k + 1) = ls.take k ++ [ls[k]'(by omega)] := by rw [List.take_add_one, List.getElem?_eq_getElem (by omega)]; rfl
    rw [acc, acc_take all ls k (by omega), e, List.flatten_append]
    simp [List.getD, show k < ls.length by omega, -List.take_append_getElem]
theorem acc_end (all : List UInt8) (ls : List (List UInt8)) : acc all ls ls.length = all ++ ls.flatten := by rw [acc_take _ _ _ (Nat.le_refl _), List.take_length]
theorem acc_mono (all : List UInt8) (ls : List (List UInt8)) (k : Nat) : ∀ d, (acc all ls k).length ≤ (acc all ls (k + d)).length
  | 0 => Nat.le_refl _
  | d + 1 => by
    have := acc_mono all ls k d
    rw [← Nat.add_assoc, acc, List.length_append]; omega
theorem acc_len (all : List UInt8) (ls : List (List UInt8)) (k : Nat) (h : k ≤ ls.length) : (acc all ls k).length ≤ (all ++ ls.flatten).length := by
  rw [← acc_end]
  have := acc_mono all ls k (ls.length - k)
  rwa [show k + (ls.length - k) = ls.length by omega] at this
theorem acc_len1 (all : List UInt8) (ls : List (List UInt8)) (k : Nat) (h : k < ls.length) : (acc all ls k).length + (ls.getD k []).length ≤ (all ++ ls.flatten).length := by
  have := acc_len all ls (k + 1) h
  rwa [acc, List.length_append] at this
/-- The bits' number, the first j bytes. -/
def lenTo (n : Nat) : Nat → List UInt8
  | 0 => []
  | j + 1 => lenTo n j ++ [UInt8.ofNat (shrU64 ((8 : UInt64) * UInt64.ofNat n) (56 - 8 * j)).toNat]
theorem lenTo_length (n : Nat) : ∀ j, (lenTo n j).length = j
  | 0 => rfl
  | j + 1 => by simp [lenTo, lenTo_length n j]
def pads (n : Nat) : List UInt8 := [128] ++ List.replicate (padZ n) 0 ++ lenTo n 8
theorem pads_length (n : Nat) : (n + (pads n).length) % 64 = 0 := by
  simp [pads, lenTo_length, padZ]; omega
def outTo (v : St) : Nat → List UInt8
  | 0 => []
  | k + 1 => outTo v k ++ hb (v.vals.getD k 0)
theorem outTo_length (v : St) : ∀ k, (outTo v k).length = 4 * k
  | 0 => rfl
  | k + 1 => by rw [outTo, List.length_append, outTo_length v k]; simp [hb]; omega
def sha (s : List UInt8) : List UInt8 := outTo (hst (s ++ pads s.length)) 8
theorem sha_length (s : List UInt8) : (sha s).length = 32 := outTo_length _ _
theorem sumEnd (all : List UInt8) (j : Nat) (h : (brest (hrest all ++ pads all.length) j).length = 0) (hj : 64 * j ≤ (hrest all).length + (pads all.length).length) : bst (hst all) (hrest all ++ pads all.length) j = hst (all ++ pads all.length) :=
  (mEnd all (pads all.length) j (by omega) hj).1
theorem padStep (X : List UInt8) (k : Nat) : X ++ [128] ++ List.replicate k 0 ++ [0] = X ++ [128] ++ List.replicate (k + 1) 0 := by
  rw [List.replicate_succ']; simp
theorem lenStep (X A : List UInt8) (n j : Nat) : X ++ (A ++ lenTo n j) ++ [UInt8.ofNat (shrU64 ((8 : UInt64) * UInt64.ofNat n) (56 - 8 * j)).toNat] = X ++ (A ++ lenTo n (j + 1)) := by
  simp [lenTo]
theorem padAll (all : List UInt8) : (hrest all ++ pads all.length).length % 64 = 0 := by
  have := pads_length all.length
  rw [List.length_append, hrest_length]; omega
end Go.Spec
/-! from LawSha -/
/- Texts, some of a list at a time. -/
namespace Go.Spec
def sumTo (ls : List (List UInt8)) : Nat → Nat
  | 0 => 0
  | k + 1 => sumTo ls k + (ls.getD k []).length
theorem getD_mem {ls : List (List UInt8)} {B : Nat} (h : ∀ x ∈ ls, x.length ≤ B) (k : Nat) : (ls.getD k []).length ≤ B := by
  rw [List.getD]
  rcases Nat.lt_or_ge k ls.length with hk | hk
  · rw [List.getElem?_eq_getElem hk]; exact h _ (List.getElem_mem hk)
  · rw [List.getElem?_eq_none hk]; simp
theorem sumTo_le {ls : List (List UInt8)} {B : Nat} (h : ∀ x ∈ ls, x.length ≤ B) : ∀ k, sumTo ls k ≤ k * B
  | 0 => by simp [sumTo]
  | k + 1 => by rw [sumTo, Nat.add_mul, Nat.one_mul]; exact Nat.add_le_add (sumTo_le h k) (getD_mem h k)
/-- The first k, one behind the other. -/
def tk (ls : List (List UInt8)) (k : Nat) : List UInt8 := (ls.take k).flatten
theorem tk_succ {ls : List (List UInt8)} {k : Nat} (h : k < ls.length) : tk ls k ++ ls.getD k [] = tk ls (k + 1) := by
  have e : ls.take (k + 1) = ls.take k ++ [ls[k]] := by rw [List.take_add_one, List.getElem?_eq_getElem h]; rfl
  rw [tk, tk, e, List.flatten_append]
  simp [List.getD, h, -List.take_append_getElem]
theorem tk_len (ls : List (List UInt8)) (k : Nat) : (tk ls k).length ≤ ls.flatten.length := by
  conv => rhs; rw [← List.take_append_drop k ls, List.flatten_append, List.length_append]
  exact Nat.le_add_right _ _
theorem tk_all (ls : List (List UInt8)) : tk ls ls.length = ls.flatten := by rw [tk, List.take_length]
theorem sumTo_tk {ls : List (List UInt8)} : ∀ k, k ≤ ls.length → sumTo ls k = (tk ls k).length
  | 0, _ => by simp [sumTo, tk]
  | k + 1, h => by rw [sumTo, sumTo_tk k (by omega), ← tk_succ (by omega), List.length_append]
end Go.Spec
/-! from SpecPack -/
/- Numbers, texts, lists as bytes, and readers of them, in plain Lean. -/
namespace Go.Spec
open Go.Owl
theorem rV_nat (v : UInt32) : ∀ k, (rV v k).toNat = v.toNat / 256 ^ k
  | 0 => by simp [rV]
  | k + 1 => by
    rw [rV, UInt32.toNat_div, rV_nat v k, Nat.pow_succ, ← Nat.div_div_eq_div_mul]; rfl
theorem shrU32_nat (v : UInt32) (s : Nat) : (shrU32 v s).toNat = v.toNat / 2 ^ s := by
  have h := v.toNat_lt
  rw [shrU32, UInt32.toNat_ofNat', Nat.shiftRight_eq_div_pow, Nat.mod_eq_of_lt (Nat.lt_of_le_of_lt (Nat.div_le_self _ _) h)]
theorem rV_shr (v : UInt32) (k : Nat) : shrU32 v (8 * k) = rV v k := by
  apply UInt32.toNat_inj.1
  rw [rV_nat, shrU32_nat, Nat.pow_mul]
theorem rV_4 (v : UInt32) : rV v 4 = 0 := by
  apply UInt32.toNat_inj.1
  rw [rV_nat]
  exact Nat.div_eq_of_lt v.toNat_lt
theorem rB_take (v : UInt32) {k : Nat} (h : k ≤ 4) : (le4 v).take k = rB v k := by
  rw [← rB4]
  rcases (by omega : k = 0 ∨ k = 1 ∨ k = 2 ∨ k = 3 ∨ k = 4) with rfl | rfl | rfl | rfl | rfl <;> rfl
def numE (v : UInt32) (n : Int) : Nat := if n < 1 ∨ n > 4 then 2 else if rV v n.toNat ≠ 0 then 5 else 0
def numS (v : UInt32) (n : Int) : List UInt8 := if numE v n = 0 then rB v n.toNat else []
theorem numE_len (v : UInt32) (n : Int) : (numS v n).length ≤ 4 := by
  unfold numS; split
  · rename_i h
    rw [rB_length]
    unfold numE at h
    split at h
    · cases h
    · omega
  · simp
/-- The number of bytes, the lowest first. -/
def natLE : List UInt8 → Nat
  | [] => 0
  | c :: l => c.toNat + 256 * natLE l
theorem natLE_lt : ∀ l : List UInt8, natLE l < 256 ^ l.length
  | [] => by simp [natLE]
  | c :: l => by
    have := natLE_lt l; have := c.toNat_lt
    rw [natLE, List.length_cons, Nat.pow_succ]; omega
theorem natLE_snoc (c : UInt8) : ∀ l : List UInt8, natLE (l ++ [c]) = natLE l + 256 ^ l.length * c.toNat
  | [] => by simp [natLE]
  | d :: l => by rw [List.cons_append, natLE, natLE_snoc c l, natLE, List.length_cons, Nat.pow_succ, Nat.mul_add]; rw [Nat.mul_comm (256 ^ l.length) 256, Nat.mul_assoc]; omega
theorem gF_nat : ∀ l : List UInt8, l.length ≤ 4 → (gF l).toNat = natLE l
  | [], _ => rfl
  | c :: l, h => by
    have ih := gF_nat l (by simp at h; omega)
    have hb := natLE_lt (c :: l)
    have hc := c.toNat_lt
    have h4 : (256 : Nat) ^ (c :: l).length ≤ 256 ^ 4 := Nat.pow_le_pow_right (by decide) h
    rw [natLE] at hb ⊢
    rw [gF, UInt32.toNat_add, UInt32.toNat_mul, ih, UInt32.toNat_ofNat']
    show (256 * natLE l % 2 ^ 32 + c.toNat % 2 ^ 32) % 2 ^ 32 = _
    omega
theorem getTo_nat (s : List UInt8) : ∀ k, k ≤ s.length → k ≤ 4 → (getTo s k).toNat = natLE (s.take k)
  | 0, _, _ => by simp [getTo, natLE]
  | k + 1, h, h4 => by
    have ih := getTo_nat s k (by omega) (by omega)
    have hk : k < s.length := by omega
    have e : s.take (k + 1) = s.take k ++ [s[k]] := by rw [List.take_add_one, List.getElem?_eq_getElem hk]; rfl
    have hl : (s.take k).length = k := by rw [List.length_take]; omega
    have hb := natLE_lt (s.take k)
    rw [hl] at hb
    have hg : s.getD k 0 = s[k] := by simp [List.getD, hk]
    rw [e, natLE_snoc, hl, getTo, UInt32.toNat_or, ih, hg]
    have hc := (s[k]).toNat_lt
    generalize s[k] = c at *
    have e2 : (shlU32 (UInt32.ofNat c.toNat) (8 * k)).toNat = c.toNat <<< (8 * k) := by
      rw [shlU32, UInt32.toNat_ofNat', UInt32.toNat_ofNat', Nat.mod_eq_of_lt (by omega : c.toNat < 2 ^ 32)]
      refine Nat.mod_eq_of_lt ?_
      rw [Nat.shiftLeft_eq]
      calc c.toNat * 2 ^ (8 * k) < 2 ^ 8 * 2 ^ (8 * k) := Nat.mul_lt_mul_of_pos_right hc (Nat.two_pow_pos _)
        _ = 2 ^ (8 + 8 * k) := (Nat.pow_add 2 8 (8 * k)).symm
        _ ≤ 2 ^ 32 := Nat.pow_le_pow_right (by decide) (by omega)
    rw [e2]
    have e3 : (256 : Nat) ^ k = 2 ^ (8 * k) := by rw [Nat.pow_mul]
    rw [e3] at hb ⊢
    rw [Nat.or_comm, ← Nat.shiftLeft_add_eq_or_of_lt hb, Nat.shiftLeft_eq, Nat.mul_comm (2 ^ (8 * k))]
    omega
theorem getV_nat {s : List UInt8} (h1 : 1 ≤ s.length) (h4 : s.length ≤ 4) : (getV s).toNat = natLE s := by
  rw [getV, if_neg (by omega), getTo_nat s _ (Nat.le_refl _) h4, List.take_length]
theorem gFV_getV (s : List UInt8) : gFV s = getV s := by
  by_cases h : s.length < 1 ∨ 4 < s.length
  · rw [gFV, getV, if_pos h, if_pos h]
  · apply UInt32.toNat_inj.1
    rw [getV_nat (by omega) (by omega), gFV, if_neg h, gF_nat s (by omega)]
structure Rd where
  s : List UInt8
  at_ : Nat
  f : Nat
  h : at_ ≤ s.length
def Rd.rest (r : Rd) : List UInt8 := r.s.drop r.at_
def Rd.bad (r : Rd) (e : Nat) : Rd := ⟨r.s, r.at_, e, r.h⟩
def Rd.on (r : Rd) (k : Nat) (hk : ¬ k > r.s.length - r.at_) : Rd := ⟨r.s, r.at_ + k, r.f, by have := r.h; omega⟩
/-- The next n bytes, of a reader that is not spoilt. -/
def rawR (r : Rd) (n : Nat) : (List UInt8 × Nat) × Rd := if h : n > r.s.length - r.at_ then (([], 6), r.bad 6) else ((r.rest.take n, 0), r.on n h)
def takeR (r : Rd) (n : Int) : (List UInt8 × Nat) × Rd := if r.f ≠ 0 then (([], r.f), r) else if n < 0 then (([], 2), r.bad 2) else rawR r n.toNat
def numR (r : Rd) (n : Int) : (UInt32 × Nat) × Rd :=
  if r.f ≠ 0 then ((0, r.f), r) else if n < 1 ∨ n > 4 then ((0, 2), r.bad 2) else if (rawR r n.toNat).1.2 ≠ 0 then ((0, (rawR r n.toNat).1.2), (rawR r n.toNat).2) else ((getV (rawR r n.toNat).1.1, 0), (rawR r n.toNat).2)
def textR (r : Rd) : (List UInt8 × Nat) × Rd :=
  if (numR r 2).1.2 ≠ 0 then (([], (numR r 2).1.2), (numR r 2).2)
  else if (rawR (numR r 2).2 (numR r 2).1.1.toNat).1.2 ≠ 0 then ((rawR (numR r 2).2 (numR r 2).1.1.toNat).1, ⟨r.s, r.at_, (rawR (numR r 2).2 (numR r 2).1.1.toNat).2.f, r.h⟩)
  else rawR (numR r 2).2 (numR r 2).1.1.toNat
/-- k texts; the first error. -/
def txR (r : Rd) : Nat → Rd
  | 0 => r
  | k + 1 => (textR (txR r k)).2
def txL (r : Rd) : Nat → List (List UInt8)
  | 0 => []
  | k + 1 => txL r k ++ [(textR (txR r k)).1.1]
/-- The first of n texts that fails. -/
def txBad (r : Rd) : Nat → Option Nat
  | 0 => none
  | k + 1 => match txBad r k with
    | some j => some j
    | none => if (textR (txR r k)).1.2 ≠ 0 then some k else none
def textsR (r : Rd) : (List (List UInt8) × Nat) × Rd :=
  if (numR r 2).1.2 ≠ 0 then (([], (numR r 2).1.2), (numR r 2).2)
  else if (numR r 2).1.1 > 4096 then (([], 7), r.bad 7)
  else match txBad (numR r 2).2 (numR r 2).1.1.toNat with
    | some j => (([], (textR (txR (numR r 2).2 j)).1.2), ⟨r.s, r.at_, (textR (txR (numR r 2).2 j)).2.f, r.h⟩)
    | none => ((txL (numR r 2).2 (numR r 2).1.1.toNat, 0), txR (numR r 2).2 (numR r 2).1.1.toNat)
def endR (r : Rd) : Nat × Rd := if r.f ≠ 0 then (r.f, r) else if r.s.length - r.at_ > 0 then (7, r.bad 7) else (0, r)
theorem rawR_1 {r : Rd} {n : Nat} (h : n > r.s.length - r.at_) : rawR r n = (([], 6), r.bad 6) := by unfold rawR; rw [dif_pos h]
theorem rawR_2 {r : Rd} {n : Nat} (h : ¬ n > r.s.length - r.at_) : rawR r n = ((r.rest.take n, 0), r.on n h) := by unfold rawR; rw [dif_neg h]
theorem rawR_s (r : Rd) (n : Nat) : (rawR r n).2.s = r.s := by unfold rawR; split <;> rfl
theorem rawR_at6 {r : Rd} {n : Nat} (h : (rawR r n).1.2 ≠ 0) : (rawR r n).2.at_ = r.at_ ∧ (rawR r n).1.1 = [] ∧ (rawR r n).1.2 = 6 := by
  unfold rawR at h ⊢; split at h
  · rename_i h1; rw [dif_pos h1]; exact ⟨rfl, rfl, rfl⟩
  · exact absurd rfl h
theorem rawR_len {r : Rd} {n : Nat} (h : (rawR r n).1.2 = 0) : (rawR r n).1.1.length = n := by
  unfold rawR at h ⊢; split at h
  · cases h
  · rename_i h1; rw [dif_neg h1]; show (r.rest.take n).length = n; rw [List.length_take, Rd.rest, List.length_drop]; omega
theorem takeR_s (r : Rd) (n : Int) : (takeR r n).2.s = r.s := by
  unfold takeR; split
  · rfl
  · split
    · rfl
    · exact rawR_s _ _
theorem numR_s (r : Rd) (n : Int) : (numR r n).2.s = r.s := by
  unfold numR; split
  · rfl
  · split
    · rfl
    · split <;> exact rawR_s _ _
theorem takeR_1 {r : Rd} {n : Int} (h : r.f ≠ 0) : takeR r n = (([], r.f), r) := by rw [takeR, if_pos h]
theorem takeR_2 {r : Rd} {n : Int} (h : r.f = 0) (hn : n < 0) : takeR r n = (([], 2), r.bad 2) := by rw [takeR, if_neg (by omega), if_pos hn]
theorem takeR_3 {r : Rd} {n : Nat} (h : r.f = 0) : takeR r n = rawR r n := by rw [takeR, if_neg (by omega), if_neg (by omega)]; rfl
/-- The reference's way: bytes are taken, then told. -/
theorem numR_bad {r : Rd} {n : Int} (h : r.f = 0) (hn : n < 1 ∨ n > 4) : numR r n = ((0, 2), r.bad 2) := by rw [numR, if_neg (by omega), if_pos hn]
theorem numR_take {r : Rd} {n : Int} (h : r.f = 0 → ¬ (n < 1 ∨ n > 4)) : numR r n = ((gF (takeR r n).1.1, (takeR r n).1.2), (takeR r n).2) := by
  by_cases hf : r.f = 0
  · have hn := h hf
    obtain ⟨m, rfl⟩ : ∃ m : Nat, n = (m : Int) := ⟨n.toNat, by omega⟩
    rw [numR, if_neg (by omega), if_neg hn, takeR_3 hf, Int.toNat_natCast]
    by_cases hr : (rawR r m).1.2 = 0
    · rw [if_neg (by omega)]
      have hl := rawR_len hr
      rw [← gFV_getV, gFV, if_neg (by omega), hr]
    · rw [if_pos hr, (rawR_at6 hr).2.1]; rfl
  · rw [numR, if_pos hf, takeR_1 hf]; rfl
abbrev Rd.re (r : Rd) : Rd := ⟨r.rest, 0, r.f, Nat.zero_le _⟩
def Like (a b : Rd) : Prop := a.rest = b.rest ∧ a.f = b.f
theorem Like.re (r : Rd) : Like r.re r := ⟨List.drop_zero, rfl⟩
theorem Like.left {a b : Rd} (h : Like a b) : a.s.length - a.at_ = b.s.length - b.at_ := by
  have := congrArg List.length h.1
  rwa [Rd.rest, Rd.rest, List.length_drop, List.length_drop] at this
theorem Like.bad {a b : Rd} (h : Like a b) (e : Nat) : Like (a.bad e) (b.bad e) := ⟨h.1, rfl⟩
theorem Like.raw {a b : Rd} (h : Like a b) (n : Nat) : (rawR a n).1 = (rawR b n).1 ∧ Like (rawR a n).2 (rawR b n).2 := by
  by_cases hn : n > a.s.length - a.at_
  · rw [rawR_1 hn, rawR_1 (by rw [← h.left]; exact hn)]
    exact ⟨rfl, h.bad 6⟩
  · rw [rawR_2 hn, rawR_2 (by rw [← h.left]; exact hn)]
    refine ⟨by rw [h.1], ?_, h.2⟩
    have := congrArg (List.drop n) h.1
    rwa [Rd.rest, Rd.rest, List.drop_drop, List.drop_drop] at this
theorem Like.take {a b : Rd} (h : Like a b) (n : Int) : (takeR a n).1 = (takeR b n).1 ∧ Like (takeR a n).2 (takeR b n).2 := by
  unfold takeR
  rw [h.2]
  split
  · exact ⟨rfl, h⟩
  · split
    · exact ⟨rfl, h.bad 2⟩
    · exact h.raw _
theorem Like.num {a b : Rd} (h : Like a b) (n : Int) : (numR a n).1 = (numR b n).1 ∧ Like (numR a n).2 (numR b n).2 := by
  unfold numR
  rw [h.2, (h.raw _).1]
  split
  · exact ⟨rfl, h⟩
  · split
    · exact ⟨rfl, h.bad 2⟩
    · split
      · exact ⟨rfl, (h.raw _).2⟩
      · exact ⟨rfl, (h.raw _).2⟩
theorem Like.text {a b : Rd} (h : Like a b) : (textR a).1 = (textR b).1 ∧ Like (textR a).2 (textR b).2 := by
  have h1 := h.num 2
  have h2 := h1.2.raw (numR b 2).1.1.toNat
  unfold textR
  rw [h1.1, h2.1]
  split
  · exact ⟨rfl, h1.2⟩
  · split
    · exact ⟨rfl, h.1, h2.2.2⟩
    · exact h2
theorem Like.tx {a b : Rd} (h : Like a b) : ∀ k, txL a k = txL b k ∧ Like (txR a k) (txR b k)
  | 0 => ⟨rfl, h⟩
  | k + 1 => by
    have ih := h.tx k
    have h1 := ih.2.text
    exact ⟨by rw [txL, txL, ih.1, h1.1], h1.2⟩
theorem Like.txBad {a b : Rd} (h : Like a b) : ∀ k, Spec.txBad a k = Spec.txBad b k
  | 0 => rfl
  | k + 1 => by rw [Spec.txBad, Spec.txBad, h.txBad k, ((h.tx k).2.text).1]
theorem Like.texts {a b : Rd} (h : Like a b) : (textsR a).1 = (textsR b).1 ∧ Like (textsR a).2 (textsR b).2 := by
  have h1 := h.num 2
  unfold textsR
  rw [h1.1, h1.2.txBad]
  split
  · exact ⟨rfl, h1.2⟩
  · split
    · exact ⟨rfl, h.bad 7⟩
    · split
      · rename_i j _
        have h3 := ((h1.2.tx j).2.text)
        exact ⟨by rw [h3.1], h.1, h3.2.2⟩
      · exact ⟨by rw [(h1.2.tx _).1], (h1.2.tx _).2⟩
theorem Like.end_ {a b : Rd} (h : Like a b) : (endR a).1 = (endR b).1 ∧ Like (endR a).2 (endR b).2 := by
  unfold endR
  rw [h.2, h.left]
  split
  · exact ⟨rfl, h⟩
  · split
    · exact ⟨rfl, h.bad 7⟩
    · exact ⟨rfl, h⟩
theorem rest_lt {r : Rd} {B : Nat} (h : r.s.length < B) : r.rest.length < B := by rw [Rd.rest, List.length_drop]; omega
theorem rawR_lenle (r : Rd) (n : Nat) : (rawR r n).1.1.length ≤ r.s.length := by
  unfold rawR; split
  · exact Nat.zero_le _
  · show (r.rest.take n).length ≤ _; rw [List.length_take, Rd.rest, List.length_drop]; omega
theorem takeR_len (r : Rd) (n : Int) {B : Nat} (h : r.s.length < B) : (takeR r n).1.1.length < B := by
  unfold takeR; split
  · exact Nat.lt_of_le_of_lt (Nat.zero_le _) h
  · split
    · exact Nat.lt_of_le_of_lt (Nat.zero_le _) h
    · exact Nat.lt_of_le_of_lt (rawR_lenle _ _) h
structure Stp where
  d : Int
  n : Int
def Stp.zero : Stp := ⟨0, 0⟩
theorem rest0 (S : List UInt8) (E : Nat) (h : 0 ≤ S.length) : (Rd.mk S 0 E h).rest = S := List.drop_zero
theorem u32_lt {k : Nat} {n : UInt32} (hk : k < 2 ^ 32) : (UInt32.ofNat k < n) ↔ k < n.toNat := by
  rw [UInt32.lt_iff_toNat_lt, UInt32.toNat_ofNat', Nat.mod_eq_of_lt hk]
theorem u32_succ (k : Nat) : UInt32.ofNat k + 1 = UInt32.ofNat (k + 1) := by rw [UInt32.ofNat_add]; rfl
end Go.Spec
/-! from LawPack -/
/- What was packed is read; of what is read the bytes are those that it was read of. -/
namespace Go.Spec
/-- From r to r': n bytes further, t is left. -/
def On (r r' : Rd) (n : Nat) (t : List UInt8) : Prop := r'.rest = t ∧ r'.f = 0 ∧ r'.s = r.s ∧ r'.at_ = r.at_ + n
theorem On.trans {a b c : Rd} {n m : Nat} {t u : List UInt8} (h : On a b n t) (k : On b c m u) : On a c (n + m) u :=
  ⟨k.1, k.2.1, k.2.2.1.trans h.2.2.1, by rw [k.2.2.2, h.2.2.2, Nat.add_assoc]⟩
abbrev r0 (s : List UInt8) : Rd := ⟨s, 0, 0, Nat.zero_le _⟩
end Go.Spec
/-! from SpecMac -/
/- Sums that need a key, in plain Lean. -/
namespace Go.Spec
open Go.Owl
def keyB (key : List UInt8) : List UInt8 := if key.length > 64 then sha key else key
def blockM (key : List UInt8) : List UInt8 := keyB key ++ List.replicate (64 - (keyB key).length) 0
theorem keyB_le (key : List UInt8) : (keyB key).length ≤ 64 := by
  unfold keyB; split
  · rw [sha_length]; decide
  · omega
theorem blockM_length (key : List UInt8) : (blockM key).length = 64 := by
  have := keyB_le key
  unfold blockM; rw [List.length_append, List.length_replicate]; omega
def xorL (s : List UInt8) (c : UInt8) : List UInt8 := s.map (fun x => x ^^^ c)
theorem xorL_length (s : List UInt8) (c : UInt8) : (xorL s c).length = s.length := by simp [xorL]
def xorTo (s : List UInt8) (c : UInt8) (k : Nat) : List UInt8 := xorL (s.take k) c ++ s.drop k
theorem xorTo_get (s : List UInt8) (c : UInt8) {k : Nat} (h : k < s.length) : (xorTo s c k).getD k 0 = s.getD k 0 := by
  rw [xorTo, List.getD, List.getElem?_append_right (by rw [xorL_length, List.length_take]; omega), xorL_length, List.length_take, List.getElem?_drop, List.getD]
  congr 2; omega
theorem xorTo_step (s : List UInt8) (c : UInt8) {k : Nat} (h : k < s.length) : (xorTo s c k).set k ((xorTo s c k).getD k 0 ^^^ c) = xorTo s c (k + 1) := by
  rw [xorTo_get s c h]
  have e : s.take (k + 1) = s.take k ++ [s[k]] := by rw [List.take_add_one, List.getElem?_eq_getElem h]; rfl
  have e2 : s.drop k = s[k] :: s.drop (k + 1) := List.drop_eq_getElem_cons h
  have e3 : s.getD k 0 = s[k] := by simp [List.getD, h]
  have hl : (xorL (s.take k) c).length = k := by rw [xorL_length, List.length_take]; omega
  rw [xorTo, xorTo, e, e2, List.set_append_right _ _ (by omega), hl, Nat.sub_self, List.set_cons_zero, e3]
  simp [xorL, -List.take_append_getElem]
theorem xorTo_end (s : List UInt8) (c : UInt8) : xorTo s c s.length = xorL s c := by simp [xorTo]
def withTo (s : List UInt8) (c : UInt8) : Nat → List UInt8
  | 0 => []
  | k + 1 => withTo s c k ++ [s.getD k 0 ^^^ c]
theorem withTo_eq (s : List UInt8) (c : UInt8) : ∀ k, k ≤ s.length → withTo s c k = xorL (s.take k) c
  | 0, _ => by simp [withTo, xorL]
  | k + 1, h => by
    have e : s.take (k + 1) = s.take k ++ [s[k]] := by rw [List.take_add_one, List.getElem?_eq_getElem (by omega)]; rfl
    rw [withTo, withTo_eq s c k (by omega), e]
    simp [xorL, List.getD, show k < s.length by omega, -List.take_append_getElem]
theorem withTo_end (s : List UInt8) (c : UInt8) : withTo s c s.length = xorL s c := by rw [withTo_eq s c _ (Nat.le_refl _), List.take_length]
def mac (key text : List UInt8) : List UInt8 := sha (xorL (blockM key) 92 ++ sha (xorL (blockM key) 54 ++ text))
theorem mac_length (key text : List UInt8) : (mac key text).length = 32 := sha_length _
/-- How far two texts differ. -/
def orTo (s t : List UInt8) : Nat → UInt8
  | 0 => 0
  | k + 1 => orTo s t k ||| (s.getD k 0 ^^^ t.getD k 0)
theorem or_zero {a b : UInt8} : a ||| b = 0 ↔ a = 0 ∧ b = 0 := by
  constructor
  · intro h
    have h1 := congrArg UInt8.toNat h
    rw [UInt8.toNat_or] at h1
    have h2 : a.toNat ≤ a.toNat ||| b.toNat := Nat.left_le_or
    have h3 : b.toNat ≤ a.toNat ||| b.toNat := Nat.right_le_or
    have h0 : (0 : UInt8).toNat = 0 := rfl
    rw [h0] at h1
    exact ⟨UInt8.toNat_inj.1 (by rw [h0]; omega), UInt8.toNat_inj.1 (by rw [h0]; omega)⟩
  · rintro ⟨rfl, rfl⟩; rfl
theorem orTo_zero (s t : List UInt8) : ∀ k, orTo s t k = 0 ↔ ∀ j, j < k → s.getD j 0 = t.getD j 0
  | 0 => by simp [orTo]
  | k + 1 => by
    rw [orTo, or_zero, orTo_zero s t k]
    constructor
    · rintro ⟨h1, h2⟩ j hj
      rcases Nat.lt_or_ge j k with h | h
      · exact h1 j h
      · have e : j = k := by omega
        subst e
        exact UInt8.xor_eq_zero_iff.1 h2
    · intro h
      exact ⟨fun j hj => h j (by omega), UInt8.xor_eq_zero_iff.2 (h k (by omega))⟩
theorem orTo_eq {s t : List UInt8} (hl : s.length = t.length) : decide (orTo s t t.length = 0) = decide (s = t) := by
  refine decide_eq_decide.2 ⟨fun h => ?_, fun h => ?_⟩
  · have h1 := (orTo_zero s t t.length).1 h
    refine List.ext_getElem hl fun i h2 h3 => ?_
    have := h1 i h3
    simpa [List.getD, h2, h3] using this
  · subst h; exact (orTo_zero s s _).2 (fun j _ => rfl)
theorem ne_of_length {s t : List UInt8} (h : s.length ≠ t.length) : decide (s = t) = false := decide_eq_false (fun e => h (by rw [e]))
end Go.Spec
/-! from SpecLog -/
/- Acts, their texts, logs of them, in plain Lean. -/
namespace Go.Spec
open Go.Owl
structure Ac where
  d : UInt8
  n : Int
  m : Int
  t : List UInt8
deriving DecidableEq
def Ac.zero : Ac := ⟨0, 0, 0, []⟩
theorem Like.trans {a b c : Rd} (h : Like a b) (k : Like b c) : Like a c := ⟨h.1.trans k.1, h.2.trans k.2⟩
end Go.Spec
/-! from SpecImg2 -/
/- Images' bytes. Plain Lean. -/
namespace Go.Spec
open Go.Owl
def numsTo (l : List UInt32) (n : Int) : Nat → List UInt8
  | 0 => []
  | k + 1 => numsTo l n k ++ numS (l.getD k 0) n
theorem numsTo_len (l : List UInt32) (n : Int) : ∀ k, (numsTo l n k).length ≤ 4 * k
  | 0 => Nat.zero_le _
  | k + 1 => by
    have h1 := numsTo_len l n k; have h2 := numE_len (l.getD k 0) n
    rw [numsTo, List.length_append]; omega
def putX (xs : List Xt) : Nat → List UInt8
  | 0 => []
  | k + 1 => (putX xs k ++ numS (xs.getD k Xt.zero).id 1) ++ numS (xs.getD k Xt.zero).bl 2
def putP (ps : List UInt16) : Nat → List UInt8
  | 0 => []
  | k + 1 => putP ps k ++ numS (UInt32.ofNat (ps.getD k 0).toNat) 2
def putS (sg : List Sg) : Nat → List UInt8
  | 0 => []
  | k + 1 => (((putS sg k ++ numS (sg.getD k Sg.zero).a 4) ++ numS (UInt32.ofNat (sg.getD k Sg.zero).p.toNat) 1) ++ numS (UInt32.ofNat (sg.getD k Sg.zero).b.length) 4) ++ (sg.getD k Sg.zero).b
theorem putX_len (xs : List Xt) : ∀ k, (putX xs k).length ≤ 8 * k
  | 0 => Nat.zero_le _
  | k + 1 => by
    have h1 := putX_len xs k; have h2 := numE_len (xs.getD k Xt.zero).id 1; have h3 := numE_len (xs.getD k Xt.zero).bl 2
    rw [putX, List.length_append, List.length_append]; omega
theorem putP_len (ps : List UInt16) : ∀ k, (putP ps k).length ≤ 4 * k
  | 0 => Nat.zero_le _
  | k + 1 => by
    have h1 := putP_len ps k; have h2 := numE_len (UInt32.ofNat (ps.getD k 0).toNat) 2
    rw [putP, List.length_append]; omega
theorem getS_mem {l : List Sg} {B : Nat} (h : ∀ x ∈ l, x.b.length ≤ B) (k : Nat) : (l.getD k Sg.zero).b.length ≤ B := by
  rcases Nat.lt_or_ge k l.length with hk | hk
  · rw [getD_at hk]; exact h _ (List.getElem_mem hk)
  · rw [List.getD, List.getElem?_eq_none hk]; exact Nat.zero_le _
theorem putS_len {sg : List Sg} {B : Nat} (h : ∀ x ∈ sg, x.b.length ≤ B) : ∀ k, (putS sg k).length ≤ (B + 12) * k
  | 0 => Nat.zero_le _
  | k + 1 => by
    have h0 := putS_len h k; have h1 := numE_len (sg.getD k Sg.zero).a 4; have h2 := numE_len (UInt32.ofNat (sg.getD k Sg.zero).p.toNat) 1; have h3 := numE_len (UInt32.ofNat (sg.getD k Sg.zero).b.length) 4; have h4 := getS_mem h k
    rw [putS, List.length_append, List.length_append, List.length_append, List.length_append, Nat.mul_succ]; omega
def conN (c : Bool) : UInt32 := if c then 1 else 0
def imP1 (pg : UInt32) (xs : List Xt) : List UInt8 := ([65, 73, 77, 49] ++ numS pg 4) ++ numS (UInt32.ofNat xs.length) 1
def imP2 (pg : UInt32) (xs : List Xt) (ps : List UInt16) : List UInt8 := (imP1 pg xs ++ putX xs xs.length) ++ numS (UInt32.ofNat ps.length) 1
def imP3 (pg : UInt32) (xs : List Xt) (ps : List UInt16) (con : Bool) (en : UInt32) (sg : List Sg) : List UInt8 := (((imP2 pg xs ps ++ putP ps ps.length) ++ numS (conN con) 1) ++ numS en 4) ++ numS (UInt32.ofNat sg.length) 1
def imS (pg : UInt32) (xs : List Xt) (ps : List UInt16) (con : Bool) (en : UInt32) (sg : List Sg) : List UInt8 := imP3 pg xs ps con en sg ++ putS sg sg.length
def imB (pg : UInt32) (xs : List Xt) (ps : List UInt16) (con : Bool) (en : UInt32) (sg : List Sg) : List UInt8 := if imE pg xs ps en sg = 0 then imS pg xs ps con en sg else []
theorem imP1_len (pg : UInt32) (xs : List Xt) : (imP1 pg xs).length ≤ 12 := by
  have h1 := numE_len pg 4; have h2 := numE_len (UInt32.ofNat xs.length) 1
  rw [imP1, List.length_append, List.length_append]; show 4 + _ + _ ≤ 12; omega
theorem imP2_len (pg : UInt32) (xs : List Xt) (ps : List UInt16) : (imP2 pg xs ps).length ≤ 16 + 8 * xs.length := by
  have h1 := imP1_len pg xs; have h2 := putX_len xs xs.length; have h3 := numE_len (UInt32.ofNat ps.length) 1
  rw [imP2, List.length_append, List.length_append]; omega
theorem imP3_len (pg : UInt32) (xs : List Xt) (ps : List UInt16) (con : Bool) (en : UInt32) (sg : List Sg) : (imP3 pg xs ps con en sg).length ≤ 28 + 8 * xs.length + 4 * ps.length := by
  have h1 := imP2_len pg xs ps; have h2 := putP_len ps ps.length; have h3 := numE_len (conN con) 1; have h4 := numE_len en 4; have h5 := numE_len (UInt32.ofNat sg.length) 1
  rw [imP3, List.length_append, List.length_append, List.length_append, List.length_append]; omega
theorem imP3_ne (pg : UInt32) (xs : List Xt) (ps : List UInt16) (con : Bool) (en : UInt32) (sg : List Sg) (x : List UInt8) : (imP3 pg xs ps con en sg ++ x).length ≠ 0 := by
  rw [imP3, imP2, imP1]
  simp only [List.length_append]
  intro h
  have h4 : ([65, 73, 77, 49] : List UInt8).length = 4 := rfl
  omega
end Go.Spec
/-! from SpecImg3 -/
/- Which images are the same. Plain Lean. -/
namespace Go.Spec
open Go.Owl
theorem list_eqD {α : Type} {d : α} {a b : List α} (hl : a.length = b.length) (h : ∀ j, j < a.length → a.getD j d = b.getD j d) : a = b := by
  refine List.ext_getElem hl fun i h1 h2 => ?_
  have := h i h1
  rwa [getD_at h1, getD_at h2] at this
theorem xt_eq {x y : Xt} (h : (decide (x.id = y.id) && decide (x.bl = y.bl)) = true) : x = y := by
  simp only [Bool.and_eq_true, decide_eq_true_eq] at h
  cases x; cases y; simp_all
theorem xt_ne {x y : Xt} (h : (decide (x.id = y.id) && decide (x.bl = y.bl)) = false) : x ≠ y := by
  rintro rfl; simp at h
theorem sg_eq {x y : Sg} (h : (decide (x.a = y.a) && (decide (x.p = y.p) && decide (x.b = y.b))) = true) : x = y := by
  simp only [Bool.and_eq_true, decide_eq_true_eq] at h
  cases x; cases y; simp_all
theorem sg_ne {x y : Sg} (h : (decide (x.a = y.a) && (decide (x.p = y.p) && decide (x.b = y.b))) = false) : x ≠ y := by
  rintro rfl; simp at h
def sameM (pg : UInt32) (c : Bool) (xs : List Xt) (ps : List UInt16) (pg' : UInt32) (c' : Bool) (xs' : List Xt) (ps' : List UInt16) : Bool := decide (pg = pg') && ((c == c') && (decide (xs = xs') && decide (ps = ps')))
def sameI (pg : UInt32) (c : Bool) (xs : List Xt) (ps : List UInt16) (en : UInt32) (sg : List Sg) (pg' : UInt32) (c' : Bool) (xs' : List Xt) (ps' : List UInt16) (en' : UInt32) (sg' : List Sg) : Bool :=
  sameM pg c xs ps pg' c' xs' ps' && (decide (en = en') && decide (sg = sg'))
section
variable {pg pg' en en' : UInt32} {c c' : Bool} {xs xs' : List Xt} {ps ps' : List UInt16} {sg sg' : List Sg}
theorem sameM_iff : sameM pg c xs ps pg' c' xs' ps' = true ↔ pg = pg' ∧ c = c' ∧ xs = xs' ∧ ps = ps' := by simp [sameM]
theorem sameM_no (h : ¬(pg = pg' ∧ c = c' ∧ xs = xs' ∧ ps = ps')) : sameM pg c xs ps pg' c' xs' ps' = false := by
  rw [← sameM_iff] at h; simpa using h
theorem sameI_iff : sameI pg c xs ps en sg pg' c' xs' ps' en' sg' = true ↔ (pg = pg' ∧ c = c' ∧ xs = xs' ∧ ps = ps') ∧ en = en' ∧ sg = sg' := by
  rw [sameI, Bool.and_eq_true, sameM_iff]; simp
theorem sameI_no (h : ¬((sameM pg c xs ps pg' c' xs' ps' = true) ∧ en = en' ∧ sg = sg')) : sameI pg c xs ps en sg pg' c' xs' ps' en' sg' = false := by
  cases hs : sameI pg c xs ps en sg pg' c' xs' ps' en' sg' with
  | false => rfl
  | true => exact absurd (by rw [sameI_iff] at hs; rw [sameM_iff]; exact hs) h
end
def sumS (l : List Sg) : Nat → Nat
  | 0 => 0
  | k + 1 => sumS l k + (l.getD k Sg.zero).b.length
theorem sumS_le {l : List Sg} {B : Nat} (h : ∀ x ∈ l, x.b.length ≤ B) : ∀ k, sumS l k ≤ k * B
  | 0 => by simp [sumS]
  | k + 1 => by rw [sumS, Nat.add_mul, Nat.one_mul]; exact Nat.add_le_add (sumS_le h k) (getS_mem h k)
theorem sumS_get (l : List Sg) : ∀ {k j : Nat}, j < k → (l.getD j Sg.zero).b.length ≤ sumS l k
  | 0, _, h => by omega
  | k + 1, j, h => by
    rw [sumS]
    rcases Nat.lt_or_ge j k with h1 | h1
    · have := sumS_get l h1; omega
    · rw [show j = k by omega]; omega
def large16 (xs : List Xt) (ps : List UInt16) (sg : List Sg) : Bool := decide (1 + xs.length + ps.length > 600) || (decide (sg.length > 15) || decide (sumS sg (min sg.length 20) > 262144))
theorem large16_no {xs : List Xt} {ps : List UInt16} {sg : List Sg} (h : large16 xs ps sg = false) : xs.length ≤ 600 ∧ ps.length ≤ 600 ∧ sg.length ≤ 15 ∧ ∀ x ∈ sg, x.b.length ≤ 262144 := by
  simp only [large16, Bool.or_eq_false_iff, decide_eq_false_iff_not] at h
  obtain ⟨h1, h2, h3⟩ := h
  refine ⟨by omega, by omega, by omega, fun x hx => ?_⟩
  obtain ⟨j, hj, rfl⟩ := List.getElem_of_mem hx
  have h4 := sumS_get sg (k := min sg.length 20) (j := j) (by omega)
  rw [getD_at hj] at h4
  omega
end Go.Spec
/-! from SpecImg4 -/
/- Pages of segments; which images the document's answer takes. Plain Lean. -/
namespace Go.Spec
open Go.Owl
def permR (p : UInt8) : Bool := decide (p = 1) || (decide (p = 3) || decide (p = 5))
def segB (x : Sg) : Bool := permR x.p && (decide (x.a % 256 = 0) && (decide (x.a ≥ 256) && (decide (x.a < 131072) && (decide (x.b.length ≥ 1) && decide ((x.b.length : Int) ≤ ((131072 : Nat) : Int) - ((x.a.toNat : Nat) : Int))))))
def pgN (x : Sg) : Nat := (x.b.length + 255) / 256
def pgL (x : Sg) : Nat → List UInt32
  | 0 => []
  | k + 1 => pgL x k ++ [x.a + UInt32.ofNat (256 * k)]
theorem pgL_len (x : Sg) : ∀ k, (pgL x k).length = k
  | 0 => rfl
  | k + 1 => by rw [pgL, List.length_append, pgL_len x k]; rfl
theorem pgL_get (x : Sg) {j : Nat} : ∀ {k}, j < k → (pgL x k).getD j 0 = x.a + UInt32.ofNat (256 * j)
  | 0, h => by omega
  | k + 1, h => by
    have hl := pgL_len x k
    rcases Nat.lt_or_ge j k with h1 | h1
    · have ih := pgL_get x h1
      rw [pgL, List.getD, List.getElem?_append_left (by omega)]; exact ih
    · have e : j = k := by omega
      subst e
      rw [pgL, List.getD, List.getElem?_append_right (by omega), hl, Nat.sub_self]; rfl
theorem mfMay_x {pg : UInt32} {xs : List Xt} {ps : List UInt16} {k : Nat} (hk : k < xs.length) (h : xtBad (xs.getD k Xt.zero) = true) : mfMay pg xs ps = false := by
  rw [mfMay, any_yes hk h]; rfl
theorem mfMay_r {pg : UInt32} {xs : List Xt} {ps : List UInt16} {k : Nat} (hk : k < xs.length) (h0 : 0 < k) (h : (xs.getD (k - 1) Xt.zero).id ≥ (xs.getD k Xt.zero).id) : mfMay pg xs ps = false := by
  have h1 : ris xtLt xs = false := ris_no (d := Xt.zero) (k := k - 1) (by omega) (by
    rw [show k - 1 + 1 = k by omega, xtLt]; simpa using h)
  rw [mfMay, h1, Bool.false_and, Bool.and_false]
theorem mfMay_p {pg : UInt32} {xs : List Xt} {ps : List UInt16} {k : Nat} (hk : k < ps.length) (h : ps.getD k 0 = 0) : mfMay pg xs ps = false := by
  have h1 : ps.any (u16Is 0) = true := any_yes (d := 0) hk (by rw [h]; rfl)
  rw [mfMay, h1]; simp
theorem mfMay_q {pg : UInt32} {xs : List Xt} {ps : List UInt16} {k : Nat} (hk : k < ps.length) (h0 : 0 < k) (h : ps.getD (k - 1) 0 ≥ ps.getD k 0) : mfMay pg xs ps = false := by
  have h1 : ris u16Lt ps = false := ris_no (d := 0) (k := k - 1) (by omega) (by
    rw [show k - 1 + 1 = k by omega, u16Lt]; simpa using h)
  rw [mfMay, h1]; simp
theorem mfMay_end {pg : UInt32} {xs : List Xt} {ps : List UInt16} (hx : ∀ j, j < xs.length → xtBad (xs.getD j Xt.zero) = false ∧ (0 < j → ¬ (xs.getD (j - 1) Xt.zero).id ≥ (xs.getD j Xt.zero).id))
    (hp : ∀ j, j < ps.length → ps.getD j 0 ≠ 0 ∧ (0 < j → ¬ ps.getD (j - 1) 0 ≥ ps.getD j 0)) : mfMay pg xs ps = (decide (pg ≤ 1024) && decide (ps.length ≤ 16)) := by
  have h1 : xs.any xtBad = false := any_no (d := Xt.zero) fun j hj => (hx j hj).1
  have h2 : ris xtLt xs = true := ris_yes (d := Xt.zero) fun j hj => by
    have := (hx (j + 1) hj).2 (by omega)
    rw [xtLt]; simpa using this
  have h3 : ris u16Lt ps = true := ris_yes (d := 0) fun j hj => by
    have := (hp (j + 1) hj).2 (by omega)
    rw [u16Lt]; simpa using this
  have h4 : ps.any (u16Is 0) = false := any_no (d := 0) fun j hj => by
    have := (hp j hj).1
    rw [u16Is]; simpa using fun h => this h.symm
  rw [mfMay, h1, h2, h3, h4]
  rw [Bool.eq_iff_iff]
  simp [Nat.not_lt, UInt32.not_lt, and_comm]
def hitB (en : UInt32) (x : Sg) : Bool := decide (x.p = 5) && (decide (en ≥ x.a) && decide (UInt64.ofNat en.toNat + 8 ≤ sgEnd x))
def entB (en : UInt32) (sg : List Sg) : Bool := sg.any (hitB en) && decide (en % 8 = 0)
def lastTo (sg : List Sg) : Nat → Int
  | 0 => -1
  | k + 1 => (((pgL (sg.getD k Sg.zero) (pgN (sg.getD k Sg.zero))).getD (pgN (sg.getD k Sg.zero) - 1) 0).toNat : Nat)
def stepB (sg : List Sg) (j : Nat) : Bool := segB (sg.getD j Sg.zero) && !decide (((sg.getD j Sg.zero).a.toNat : Int) ≤ lastTo sg j)
def rMay (pg : UInt32) (xs : List Xt) (ps : List UInt16) (en : UInt32) (sg : List Sg) : Bool :=
  (List.range sg.length).all (stepB sg) && (mfMay pg xs ps && (decide (sg.length ≥ 1) && (decide (sg.length ≤ 8) && entB en sg)))
theorem segB_len {x : Sg} (h : segB x = true) : 1 ≤ pgN x ∧ x.b.length ≤ 131072 := by
  simp only [segB, Bool.and_eq_true, decide_eq_true_eq] at h
  have h1 := h.2.2.2.2.1; have h2 := h.2.2.2.2.2
  unfold pgN
  omega
theorem rMay_no {pg en : UInt32} {xs : List Xt} {ps : List UInt16} {sg : List Sg} {k : Nat} (hk : k < sg.length) (h : stepB sg k = false) : rMay pg xs ps en sg = false := by
  have h1 : (List.range sg.length).all (stepB sg) = false := by
    rw [Bool.eq_false_iff]
    intro ha
    rw [List.all_eq_true] at ha
    have := ha k (List.mem_range.2 hk)
    rw [h] at this; cases this
  rw [rMay, h1]; rfl
theorem rMay_end {pg en : UInt32} {xs : List Xt} {ps : List UInt16} {sg : List Sg} (h : ∀ j, j < sg.length → stepB sg j = true) : rMay pg xs ps en sg = (mfMay pg xs ps && (decide (sg.length ≥ 1) && (decide (sg.length ≤ 8) && entB en sg))) := by
  have h1 : (List.range sg.length).all (stepB sg) = true := by
    rw [List.all_eq_true]
    exact fun j hj => h j (List.mem_range.1 hj)
  rw [rMay, h1]; rfl
end Go.Spec
/-! from SpecImg5 -/
/- Pages by the program. Plain Lean. -/
namespace Go.Spec
open Go.Owl
theorem im_all {pg en : UInt32} {xs : List Xt} {ps : List UInt16} {sg : List Sg} (h : imE pg xs ps en sg = 0) : ∀ j, j < sg.length → sgBad (ckTo en sg j).1 (sg.getD j Sg.zero) = false := by
  intro j hj
  rw [imE] at h
  split at h
  · rename_i hm
    rw [imMay, Bool.and_eq_true, Bool.and_eq_true, List.all_eq_true] at hm
    have h1 := hm.2.1 j (List.mem_range.2 hj)
    simpa using h1
  · cases h
theorem sgEnd_nat {x : Sg} (hl : x.b.length < 2 ^ 47) : (sgEnd x).toNat = x.a.toNat + x.b.length := by
  have ha := x.a.toNat_lt
  rw [sgEnd, UInt64.toNat_add, UInt64.toNat_ofNat', UInt64.toNat_ofNat']
  rw [Nat.mod_eq_of_lt (a := x.a.toNat) (by omega), Nat.mod_eq_of_lt (a := x.b.length) (by omega), Nat.mod_eq_of_lt (by omega)]
end Go.Spec
/-! from SpecImg6 -/
/- Reading images. Plain Lean. -/
namespace Go.Spec
open Go.Owl
/-- The next segment. -/
def segR (r : Rd) : Sg × Rd :=
  if (numR (numR (numR r 4).2 1).2 4).1.1 ≤ 131072 then
    (⟨(numR r 4).1.1, UInt8.ofNat (numR (numR r 4).2 1).1.1.toNat, (takeR (numR (numR (numR r 4).2 1).2 4).2 ((numR (numR (numR r 4).2 1).2 4).1.1.toNat : Nat)).1.1⟩, (takeR (numR (numR (numR r 4).2 1).2 4).2 ((numR (numR (numR r 4).2 1).2 4).1.1.toNat : Nat)).2)
  else (⟨(numR r 4).1.1, UInt8.ofNat (numR (numR r 4).2 1).1.1.toNat, []⟩, (numR (numR (numR r 4).2 1).2 4).2)
theorem segR_yes {r : Rd} (h : (numR (numR (numR r 4).2 1).2 4).1.1 ≤ 131072) : segR r =
    (⟨(numR r 4).1.1, UInt8.ofNat (numR (numR r 4).2 1).1.1.toNat, (takeR (numR (numR (numR r 4).2 1).2 4).2 ((numR (numR (numR r 4).2 1).2 4).1.1.toNat : Nat)).1.1⟩, (takeR (numR (numR (numR r 4).2 1).2 4).2 ((numR (numR (numR r 4).2 1).2 4).1.1.toNat : Nat)).2) := if_pos h
theorem segR_no {r : Rd} (h : ¬ (numR (numR (numR r 4).2 1).2 4).1.1 ≤ 131072) : segR r = (⟨(numR r 4).1.1, UInt8.ofNat (numR (numR r 4).2 1).1.1.toNat, []⟩, (numR (numR (numR r 4).2 1).2 4).2) := if_neg h
end Go.Spec
/-! from SpecImg7 -/
/- Reading images, part by part. Plain Lean. -/
namespace Go.Spec
open Go.Owl
def xsD (r : Rd) : Nat → Rd
  | 0 => r
  | k + 1 => (numR (numR (xsD r k) 1).2 2).2
def xsL (r : Rd) : Nat → List Xt
  | 0 => []
  | k + 1 => xsL r k ++ [Xt.mk (numR (xsD r k) 1).1.1 (numR (numR (xsD r k) 1).2 2).1.1]
def psD (r : Rd) : Nat → Rd
  | 0 => r
  | k + 1 => (numR (psD r k) 2).2
def psL (r : Rd) : Nat → List UInt16
  | 0 => []
  | k + 1 => psL r k ++ [UInt16.ofNat (numR (psD r k) 2).1.1.toNat]
def sgD (r : Rd) : Nat → Rd
  | 0 => r
  | k + 1 => (segR (sgD r k)).2
def sgL (r : Rd) : Nat → List Sg
  | 0 => []
  | k + 1 => sgL r k ++ [(segR (sgD r k)).1]
theorem xsD_s (r : Rd) (k : Nat) : xsD r (k + 1) = (numR (numR (xsD r k) 1).2 2).2 := rfl
theorem xsL_s (r : Rd) (k : Nat) : xsL r (k + 1) = xsL r k ++ [Xt.mk (numR (xsD r k) 1).1.1 (numR (numR (xsD r k) 1).2 2).1.1] := rfl
theorem psD_s (r : Rd) (k : Nat) : psD r (k + 1) = (numR (psD r k) 2).2 := rfl
theorem psL_s (r : Rd) (k : Nat) : psL r (k + 1) = psL r k ++ [UInt16.ofNat (numR (psD r k) 2).1.1.toNat] := rfl
theorem sgD_s (r : Rd) (k : Nat) : sgD r (k + 1) = (segR (sgD r k)).2 := rfl
theorem sgL_s (r : Rd) (k : Nat) : sgL r (k + 1) = sgL r k ++ [(segR (sgD r k)).1] := rfl
theorem xsD_0 (r : Rd) : xsD r 0 = r := rfl
theorem psD_0 (r : Rd) : psD r 0 = r := rfl
theorem sgD_0 (r : Rd) : sgD r 0 = r := rfl
theorem xsL_len (r : Rd) : ∀ k, (xsL r k).length = k
  | 0 => rfl
  | k + 1 => by rw [xsL_s, List.length_append, xsL_len r k]; rfl
theorem psL_len (r : Rd) : ∀ k, (psL r k).length = k
  | 0 => rfl
  | k + 1 => by rw [psL_s, List.length_append, psL_len r k]; rfl
theorem sgL_len (r : Rd) : ∀ k, (sgL r k).length = k
  | 0 => rfl
  | k + 1 => by rw [sgL_s, List.length_append, sgL_len r k]; rfl
theorem segR_s (r : Rd) : (segR r).2.s = r.s := by
  rw [segR]; split
  · show (takeR _ _).2.s = _
    rw [takeR_s, numR_s, numR_s, numR_s]
  · show (numR _ _).2.s = _
    rw [numR_s, numR_s, numR_s]
theorem xsD_t (r : Rd) : ∀ k, (xsD r k).s = r.s
  | 0 => rfl
  | k + 1 => by rw [xsD_s, numR_s, numR_s, xsD_t r k]
theorem psD_t (r : Rd) : ∀ k, (psD r k).s = r.s
  | 0 => rfl
  | k + 1 => by rw [psD_s, numR_s, psD_t r k]
theorem sgD_t (r : Rd) : ∀ k, (sgD r k).s = r.s
  | 0 => rfl
  | k + 1 => by rw [sgD_s, segR_s, sgD_t r k]
def g1 (s : List UInt8) : (List UInt8 × Nat) × Rd := takeR (Rd.mk s 0 0 (Nat.zero_le _)) 4
def g2 (s : List UInt8) : (UInt32 × Nat) × Rd := numR (g1 s).2 4
def g3 (s : List UInt8) : (UInt32 × Nat) × Rd := numR (g2 s).2 1
def g4 (s : List UInt8) : Rd := xsD (g3 s).2 (g3 s).1.1.toNat
def gX (s : List UInt8) : List Xt := xsL (g3 s).2 (g3 s).1.1.toNat
def g5 (s : List UInt8) : (UInt32 × Nat) × Rd := numR (g4 s) 1
def g6 (s : List UInt8) : Rd := psD (g5 s).2 (g5 s).1.1.toNat
def gP (s : List UInt8) : List UInt16 := psL (g5 s).2 (g5 s).1.1.toNat
def g7 (s : List UInt8) : (UInt32 × Nat) × Rd := numR (g6 s) 1
def g8 (s : List UInt8) : (UInt32 × Nat) × Rd := numR (g7 s).2 4
def g9 (s : List UInt8) : (UInt32 × Nat) × Rd := numR (g8 s).2 1
def g10 (s : List UInt8) : Rd := sgD (g9 s).2 (g9 s).1.1.toNat
def gS (s : List UInt8) : List Sg := sgL (g9 s).2 (g9 s).1.1.toNat
theorem gX_len (s : List UInt8) : (gX s).length = (g3 s).1.1.toNat := xsL_len _ _
theorem gP_len (s : List UInt8) : (gP s).length = (g5 s).1.1.toNat := psL_len _ _
theorem gS_len (s : List UInt8) : (gS s).length = (g9 s).1.1.toNat := sgL_len _ _
theorem g1_t (s : List UInt8) : (g1 s).2.s = s := by rw [g1, takeR_s]
theorem g2_t (s : List UInt8) : (g2 s).2.s = s := by rw [g2, numR_s, g1_t]
theorem g3_t (s : List UInt8) : (g3 s).2.s = s := by rw [g3, numR_s, g2_t]
theorem g4_t (s : List UInt8) : (g4 s).s = s := by rw [g4, xsD_t, g3_t]
theorem g5_t (s : List UInt8) : (g5 s).2.s = s := by rw [g5, numR_s, g4_t]
theorem g6_t (s : List UInt8) : (g6 s).s = s := by rw [g6, psD_t, g5_t]
theorem g7_t (s : List UInt8) : (g7 s).2.s = s := by rw [g7, numR_s, g6_t]
theorem g8_t (s : List UInt8) : (g8 s).2.s = s := by rw [g8, numR_s, g7_t]
theorem g9_t (s : List UInt8) : (g9 s).2.s = s := by rw [g9, numR_s, g8_t]
theorem g10_t (s : List UInt8) : (g10 s).s = s := by rw [g10, sgD_t, g9_t]
def gBad (s : List UInt8) : Bool := decide ((endR (g10 s)).1 ≠ 0) || (decide ((g1 s).1.1 ≠ [65, 73, 77, 49]) || (decide ((g7 s).1.1 > 1) || decide (imE (g2 s).1.1 (gX s) (gP s) (g8 s).1.1 (gS s) ≠ 0)))
/-- The image that bytes are, as the program answers. -/
structure Im where
  pg : UInt32
  xs : List Xt
  ps : List UInt16
  c : Bool
  en : UInt32
  sg : List Sg
def Im.zero : Im := ⟨0, [], [], false, 0, []⟩
def imG (s : List UInt8) : Im := if gBad s then Im.zero else ⟨(g2 s).1.1, gX s, gP s, decide ((g7 s).1.1 = 1), (g8 s).1.1, gS s⟩
def imGE (s : List UInt8) : Nat := if gBad s then 7 else 0
theorem get_bad {s : List UInt8} (h : gBad s = true) : imG s = Im.zero ∧ imGE s = 7 := by rw [imG, imGE, h]; exact ⟨rfl, rfl⟩
theorem get_good {s : List UInt8} (h : gBad s = false) : imG s = ⟨(g2 s).1.1, gX s, gP s, decide ((g7 s).1.1 = 1), (g8 s).1.1, gS s⟩ ∧ imGE s = 0 := by rw [imG, imGE, h]; exact ⟨rfl, rfl⟩
theorem u32_gt {n : UInt32} {k : Nat} (h : k ≤ n.toNat) : n - UInt32.ofNat k > 0 ↔ k < n.toNat := by
  have hn := n.toNat_lt
  rw [gt_iff_lt, UInt32.lt_iff_toNat_lt, UInt32.toNat_sub_of_le _ _ (by rw [UInt32.le_iff_toNat_le, UInt32.toNat_ofNat']; omega), UInt32.toNat_ofNat', Nat.mod_eq_of_lt (by omega), show (0 : UInt32).toNat = 0 from rfl]
  omega
theorem u32_dec {n : UInt32} {k : Nat} (h : k < n.toNat) : n - UInt32.ofNat k - 1 = n - UInt32.ofNat (k + 1) := by
  have hn := n.toNat_lt
  have e1 : (n - UInt32.ofNat k).toNat = n.toNat - k := by
    rw [UInt32.toNat_sub_of_le _ _ (by rw [UInt32.le_iff_toNat_le, UInt32.toNat_ofNat']; omega), UInt32.toNat_ofNat', Nat.mod_eq_of_lt (by omega)]
  apply UInt32.toNat_inj.1
  rw [UInt32.toNat_sub_of_le _ _ (by rw [UInt32.le_iff_toNat_le, e1]; show 1 ≤ _; omega), e1, UInt32.toNat_sub_of_le _ _ (by rw [UInt32.le_iff_toNat_le, UInt32.toNat_ofNat']; omega), UInt32.toNat_ofNat', Nat.mod_eq_of_lt (by omega)]
  show n.toNat - k - 1 = _
  omega
theorem u32_sub0 (n : UInt32) : n = n - UInt32.ofNat 0 := by rw [show UInt32.ofNat 0 = 0 from rfl, UInt32.sub_zero]
end Go.Spec
/-! from SpecImg8 -/
/- What was put is read; what was read is what was put. Plain Lean. -/
namespace Go.Spec
open Go.Owl
theorem take_getD {α : Type} {l : List α} {k : Nat} {d : α} (h : k < l.length) : l.take (k + 1) = l.take k ++ [l.getD k d] := by
  rw [List.take_add_one, List.getElem?_eq_getElem h, getD_at h]; rfl
end Go.Spec
/-! from SpecImg9 -/
/- Images: put and get are each other's inverse. Plain Lean. -/
namespace Go.Spec
open Go.Owl
theorem ofNat_lt {n : Nat} (h : n < 256) : (UInt32.ofNat n).toNat = n := by rw [UInt32.toNat_ofNat', Nat.mod_eq_of_lt (by omega)]
theorem g1_e (s : List UInt8) : takeR (Rd.mk s 0 0 (Nat.zero_le _)) 4 = g1 s := rfl
theorem g2_e (s : List UInt8) : numR (g1 s).2 4 = g2 s := rfl
theorem g3_e (s : List UInt8) : numR (g2 s).2 1 = g3 s := rfl
theorem g4_e (s : List UInt8) : xsD (g3 s).2 (g3 s).1.1.toNat = g4 s := rfl
theorem gX_e (s : List UInt8) : xsL (g3 s).2 (g3 s).1.1.toNat = gX s := rfl
theorem g5_e (s : List UInt8) : numR (g4 s) 1 = g5 s := rfl
theorem g6_e (s : List UInt8) : psD (g5 s).2 (g5 s).1.1.toNat = g6 s := rfl
theorem gP_e (s : List UInt8) : psL (g5 s).2 (g5 s).1.1.toNat = gP s := rfl
theorem g7_e (s : List UInt8) : numR (g6 s) 1 = g7 s := rfl
theorem g8_e (s : List UInt8) : numR (g7 s).2 4 = g8 s := rfl
theorem g9_e (s : List UInt8) : numR (g8 s).2 1 = g9 s := rfl
theorem g10_e (s : List UInt8) : sgD (g9 s).2 (g9 s).1.1.toNat = g10 s := rfl
theorem gS_e (s : List UInt8) : sgL (g9 s).2 (g9 s).1.1.toNat = gS s := rfl
end Go.Spec
/-! from SpecImg10 -/
/- What the law of images asks. Plain Lean. -/
namespace Go.Spec
open Go.Owl
theorem imG_len (s : List UInt8) : (imG s).xs.length < 2 ^ 32 ∧ (imG s).ps.length < 2 ^ 32 ∧ (imG s).sg.length < 2 ^ 32 := by
  cases hb : gBad s with
  | true => rw [(get_bad hb).1]; exact ⟨by decide, by decide, by decide⟩
  | false =>
    rw [(get_good hb).1]
    dsimp only
    rw [gX_len, gP_len, gS_len]
    exact ⟨UInt32.toNat_lt _, UInt32.toNat_lt _, UInt32.toNat_lt _⟩
theorem xlt (s : List UInt8) : (imG s).xs.length < 2 ^ 47 := Nat.lt_of_lt_of_le (imG_len s).1 (by decide)
theorem plt (s : List UInt8) : (imG s).ps.length < 2 ^ 47 := Nat.lt_of_lt_of_le (imG_len s).2.1 (by decide)
theorem slt (s : List UInt8) : (imG s).sg.length < 2 ^ 47 := Nat.lt_of_lt_of_le (imG_len s).2.2 (by decide)
section
variable {pg pg' en en' : UInt32} {c c' : Bool} {xs xs' : List Xt} {ps ps' : List UInt16} {sg sg' : List Sg}
end
end Go.Spec
/-! from SpecRef2 -/
/- The reference's sums: numbers as roots. -/
namespace Go.Spec
open Go.Owl
def mulV (ai bj o : UInt32) (c : UInt64) : UInt64 := (UInt64.ofNat ai.toNat * UInt64.ofNat bj.toNat + UInt64.ofNat o.toNat) + c
def mulIn (ai : UInt32) (b : List UInt32) (i : Nat) (out : List UInt32) : Nat → List UInt32 × UInt64
  | 0 => (out, 0)
  | j + 1 =>
    ((mulIn ai b i out j).1.set (i + j) (UInt32.ofNat (mulV ai (b.getD j 0) ((mulIn ai b i out j).1.getD (i + j) 0) (mulIn ai b i out j).2 % (4294967296 : UInt64)).toNat),
      shrU64 (mulV ai (b.getD j 0) ((mulIn ai b i out j).1.getD (i + j) 0) (mulIn ai b i out j).2) 32)
def mulOut (a b : List UInt32) : Nat → List UInt32
  | 0 => List.replicate (a.length + b.length) 0
  | i + 1 => (mulIn (a.getD i 0) b i (mulOut a b i) b.length).1.set (i + b.length) (UInt32.ofNat (mulIn (a.getD i 0) b i (mulOut a b i) b.length).2.toNat)
def mulL (a b : List UInt32) : List UInt32 := mulOut a b a.length
theorem mulIn_length (ai : UInt32) (b : List UInt32) (i : Nat) (out : List UInt32) : ∀ j, (mulIn ai b i out j).1.length = out.length
  | 0 => rfl
  | j + 1 => by rw [mulIn, List.length_set, mulIn_length ai b i out j]
theorem mulOut_length (a b : List UInt32) : ∀ i, (mulOut a b i).length = a.length + b.length
  | 0 => by simp [mulOut]
  | i + 1 => by rw [mulOut, List.length_set, mulIn_length, mulOut_length a b i]
/-- Some number of a from place k on is not 0. -/
def anyN (a : List UInt32) (k m : Nat) : Bool := ((a.drop k).take m).any (fun x => decide (x ≠ 0))
def aboveB (a : List UInt32) (p : UInt32) (n : Nat) : Bool :=
  anyN a (n + 1) (a.length - (n + 1)) || (if a.length ≤ n ∨ a.getD n 0 ≠ p then decide (a.length > n) && decide (a.getD n 0 > p) else anyN a 0 n)
theorem anyN_out (a : List UInt32) (k m i : Nat) (h1 : k ≤ i) (h2 : i < k + m) (h3 : i < a.length) (h : a.getD i 0 ≠ 0) : anyN a k m = true := by
  unfold anyN
  rw [List.any_eq_true]
  refine ⟨a.getD i 0, ?_, by simpa using h⟩
  rw [List.mem_iff_getElem?]
  refine ⟨i - k, ?_⟩
  rw [List.getElem?_take, if_pos (by omega), List.getElem?_drop, show k + (i - k) = i by omega]
  simp [List.getD, h3]
theorem anyN_no (a : List UInt32) (k m : Nat) (h : ∀ i, k ≤ i → i < k + m → i < a.length → a.getD i 0 = 0) : anyN a k m = false := by
  unfold anyN
  rw [List.any_eq_false]
  intro x hx
  rw [List.mem_iff_getElem?] at hx
  obtain ⟨j, hj⟩ := hx
  rw [List.getElem?_take] at hj
  split at hj
  · rw [List.getElem?_drop] at hj
    have hl : k + j < a.length := (List.getElem?_eq_some_iff.1 hj).1
    have := h (k + j) (by omega) (by omega) hl
    rw [List.getD, hj] at this
    simpa using this
  · cases hj
def powTo (one : List UInt32) : Nat → List UInt32
  | 0 => one
  | k + 1 => mulL (powTo one k) one
def oneOf (y : UInt64) : List UInt32 := [UInt32.ofNat (y % (4294967296 : UInt64)).toNat, UInt32.ofNat (shrU64 y 32).toNat]
def rootY (x : UInt64) (j : Nat) : UInt64 := x + shlU64 1 (UInt64.ofNat (36 - j)).toNat
def rootTo (p : UInt32) (n : Nat) : Nat → UInt64
  | 0 => 0
  | j + 1 => if (!aboveB (powTo (oneOf (rootY (rootTo p n j) j)) (n - 1)) p n) = true then rootY (rootTo p n j) j else rootTo p n j
def rootV (p : UInt32) (n : Nat) : UInt32 := UInt32.ofNat (rootTo p n 37 % (4294967296 : UInt64)).toNat
/-- Is a number divided by none of the first k of a list? -/
def isPr (l : List UInt32) (p : UInt32) : Nat → Bool
  | 0 => true
  | k + 1 => isPr l p k && decide (p % l.getD k 0 ≠ 0)
def prL : Nat → List UInt32
  | 0 => []
  | j + 1 => if isPr (prL j) (2 + UInt32.ofNat j) (prL j).length = true then prL j ++ [2 + UInt32.ofNat j] else prL j
theorem prL_mono (j : Nat) : ∀ d, ∃ t, prL (j + d) = prL j ++ t
  | 0 => ⟨[], by simp⟩
  | d + 1 => by
    obtain ⟨t, ht⟩ := prL_mono j d
    rw [← Nat.add_assoc, prL]
    split
    · exact ⟨t ++ [2 + UInt32.ofNat (j + d)], by rw [ht, List.append_assoc]⟩
    · exact ⟨t, ht⟩
theorem prL_310 : (prL 310).length = 64 := by decide +kernel
theorem prL_lt (j : Nat) (h : (prL j).length < 64) : j < 310 := by
  rcases Nat.lt_or_ge j 310 with h1 | h1
  · exact h1
  · obtain ⟨t, ht⟩ := prL_mono 310 (j - 310)
    rw [show 310 + (j - 310) = j by omega] at ht
    rw [ht, List.length_append, prL_310] at h; omega
theorem prL_pre (j : Nat) (h : j ≤ 310) : prL j = (prL 310).take (prL j).length := by
  obtain ⟨t, ht⟩ := prL_mono j (310 - j)
  rw [show j + (310 - j) = 310 by omega] at ht
  rw [ht, List.take_left']
  rfl
theorem prL_le1 (j : Nat) : (prL (j + 1)).length ≤ (prL j).length + 1 := by
  rw [prL]; split <;> simp
def prs (many : Nat) : List UInt32 := (prL 310).take many
def rootsTo (many n : Nat) : Nat → List UInt32
  | 0 => []
  | k + 1 => rootsTo many n k ++ [rootV ((prs many).getD k 0) n]
theorem u64_nat {m : Nat} (h : m < 2 ^ 64) : (UInt64.ofNat m).toNat = m := by rw [UInt64.toNat_ofNat']; exact Nat.mod_eq_of_lt h
theorem u64_32 {m : Nat} (h : m ≤ 32) : ((32 : UInt64) - UInt64.ofNat m).toNat = 32 - m := by
  rw [UInt64.toNat_sub_of_le, u64_nat (by omega)]
  · rfl
  · rw [UInt64.le_iff_toNat_le, u64_nat (by omega)]; exact h
theorem aboveB_1 {a : List UInt32} {p : UInt32} {n i : Nat} (h1 : n < i) (h2 : i < a.length) (h : a.getD i 0 ≠ 0) : aboveB a p n = true := by
  rw [aboveB, anyN_out a (n + 1) _ i (by omega) (by omega) h2 h, Bool.true_or]
theorem aboveB_2 {a : List UInt32} {p : UInt32} {n : Nat} (hz : anyN a (n + 1) (a.length - (n + 1)) = false) (hl : n < a.length) (h : a.getD n 0 ≠ p) : aboveB a p n = decide (a.getD n 0 > p) := by
  rw [aboveB, hz, Bool.false_or, if_pos (.inr h)]; simp [hl]
theorem aboveB_3 {a : List UInt32} {p : UInt32} {n : Nat} (hz : anyN a (n + 1) (a.length - (n + 1)) = false) (hl : n < a.length) (h : a.getD n 0 = p) : aboveB a p n = anyN a 0 n := by
  rw [aboveB, hz, Bool.false_or, if_neg (fun h' => h'.elim (fun h1 => by omega) (fun h2 => h2 h))]
theorem prL_nz : ∀ x ∈ prL 310, x ≠ 0 := by decide +kernel
theorem prL_gnz (j : Nat) (hj : j ≤ 310) {k : Nat} (hk : k < (prL j).length) : (prL j).getD k 0 ≠ 0 := by
  obtain ⟨t, ht⟩ := prL_mono j (310 - j)
  rw [show j + (310 - j) = 310 by omega] at ht
  refine prL_nz _ ?_
  rw [ht, List.mem_append]; left
  rw [List.getD, List.getElem?_eq_getElem hk]
  exact List.getElem_mem hk
theorem u32_next (j : Nat) : (2 : UInt32) + UInt32.ofNat j + 1 = 2 + UInt32.ofNat (j + 1) := by
  rw [UInt32.ofNat_add, UInt32.add_assoc]; rfl
theorem prL_end (j : Nat) (h : j ≤ 310) {n : Nat} (hn : (prL j).length = n) : prL j = prs n := by
  have := prL_pre j h
  rw [hn] at this; exact this
theorem refStep (v : St) (k w : UInt32) : [(v.h + ((rot v.e 6 ^^^ rot v.e 11) ^^^ rot v.e 25) + ((v.e &&& v.f) ^^^ (~~~v.e &&& v.g)) + k + w) + (((rot v.a 2 ^^^ rot v.a 13) ^^^ rot v.a 22) + (((v.a &&& v.b) ^^^ (v.a &&& v.c)) ^^^ (v.b &&& v.c))), v.a, v.b, v.c,
    v.d + (v.h + ((rot v.e 6 ^^^ rot v.e 11) ^^^ rot v.e 25) + ((v.e &&& v.f) ^^^ (~~~v.e &&& v.g)) + k + w), v.e, v.f, v.g] = (stepS v k w).vals := by
  rw [UInt32.and_comm (~~~v.e) v.g]; rfl
theorem wl_lo (b : List UInt8) {j : Nat} (h : j < 16) : wl b j ++ [be4 b j] = wl b (j + 1) := by rw [wl, if_pos h]
theorem wl_hi (b : List UInt8) {t : Nat} (h : ¬ t < 16) : wl b t ++ [mix (wl b t) t] = wl b (t + 1) := by rw [wl, if_neg h]
theorem fillStep (X : List UInt8) (k : Nat) : X ++ [128] ++ List.replicate k 0 ++ [0] = X ++ [128] ++ List.replicate (k + 1) 0 := padStep X k
theorem lenStepW (X A : List UInt8) (n j : Nat) (h : j < 8) : X ++ (A ++ lenTo n j) ++ [UInt8.ofNat (shrU64 ((8 : UInt64) * UInt64.ofNat n) (UInt64.ofNat (56 - 8 * j)).toNat).toNat] = X ++ (A ++ lenTo n (j + 1)) := by
  rw [u64_nat (by omega)]; exact lenStep X A n j
end Go.Spec
/-! from SpecRoots -/
/- The roots of the first primes are the numbers. -/
namespace Go.Spec
theorem roots8 : rootsTo 8 2 8 = firstS.vals := by decide +kernel
theorem roots64 : rootsTo 64 3 64 = keyL := by decide +kernel
end Go.Spec
/-! from SpecImg11 -/
/- The document's answer and the program's: which images may be. Plain Lean. -/
namespace Go.Spec
open Go.Owl
theorem permOk_eq (p : UInt8) : permOk p = permR p := by
  simp only [permOk, permR, List.any_cons, List.any_nil, u8Is, Bool.or_false]
theorem mod256 (a : UInt32) : a % 256 = 0 ↔ a.toNat % 256 = 0 := by
  rw [← UInt32.toNat_inj, UInt32.toNat_mod]; exact Iff.rfl
theorem segB_facts {x : Sg} (h : segB x = true) : permR x.p = true ∧ x.a.toNat % 256 = 0 ∧ 256 ≤ x.a.toNat ∧ 1 ≤ x.b.length ∧ x.a.toNat + x.b.length ≤ 131072 := by
  simp only [segB, Bool.and_eq_true, decide_eq_true_eq] at h
  obtain ⟨h1, h2, h3, h4, h5, h6⟩ := h
  rw [mod256] at h2
  rw [ge_iff_le, UInt32.le_iff_toNat_le, show (256 : UInt32).toNat = 256 from rfl] at h3
  exact ⟨h1, h2, h3, h5, by omega⟩
theorem sgNext_nat {x : Sg} (h : segB x = true) : (sgNext x).toNat = x.a.toNat + 256 * pgN x := by
  obtain ⟨_, h2, h3, h4, h5⟩ := segB_facts h
  have he := sgEnd_nat (x := x) (by omega)
  have e1 : (sgEnd x + 256).toNat = x.a.toNat + x.b.length + 256 := by
    rw [UInt64.toNat_add, he, show (256 : UInt64).toNat = 256 from rfl, Nat.mod_eq_of_lt (by omega)]
  have e2 : (sgEnd x + 256 - 1).toNat = x.a.toNat + x.b.length + 255 := by
    rw [UInt64.toNat_sub_of_le _ _ (by rw [UInt64.le_iff_toNat_le, e1]; show 1 ≤ _; omega), e1]
    show _ - 1 = _; omega
  rw [sgNext, UInt64.toNat_mul, UInt64.toNat_div, e2, show (256 : UInt64).toNat = 256 from rfl, Nat.mod_eq_of_lt (by omega), pgN]
  omega
theorem last_nat {x : Sg} (h : segB x = true) : ((pgL x (pgN x)).getD (pgN x - 1) 0).toNat + 256 = x.a.toNat + 256 * pgN x := by
  obtain ⟨_, h2, h3, h4, h5⟩ := segB_facts h
  have hp : 1 ≤ pgN x := (segB_len h).1
  have hpg : pgN x = (x.b.length + 255) / 256 := rfl
  rw [pgL_get x (by omega), UInt32.toNat_add, UInt32.toNat_ofNat', Nat.mod_eq_of_lt (a := 256 * (pgN x - 1)) (by omega), Nat.mod_eq_of_lt (by omega)]
  omega
theorem step_eq {x : Sg} {fr : UInt64} {F : Nat} {last : Int} (hl : x.b.length < 2 ^ 47) (hF : fr.toNat = F) (h256 : F % 256 = 0) (hge : 256 ≤ F) (hlast : (F = 256 ∧ last = -1) ∨ last = (F : Int) - 256) :
    (segB x && !decide ((x.a.toNat : Int) ≤ last)) = !sgBad fr x := by
  have he := sgEnd_nat hl
  have ha := x.a.toNat_lt
  rw [Bool.eq_iff_iff]
  simp only [segB, sgBad, Bool.and_eq_true, Bool.not_eq_true', Bool.or_eq_false_iff, decide_eq_true_eq, decide_eq_false_iff_not, permOk_eq, Bool.not_eq_false', Decidable.not_not]
  rw [mod256, ge_iff_le, UInt32.le_iff_toNat_le, UInt32.lt_iff_toNat_lt, show (256 : UInt32).toNat = 256 from rfl, show (131072 : UInt32).toNat = 131072 from rfl, UInt64.lt_iff_toNat_lt, hF, UInt64.toNat_ofNat', Nat.mod_eq_of_lt (show x.a.toNat < 2 ^ 64 by omega), gt_iff_lt, UInt64.lt_iff_toNat_lt, he, show (131072 : UInt64).toNat = 131072 from rfl]
  constructor
  · rintro ⟨⟨h1, h2, h3, h4, h5, h6⟩, h7⟩
    refine ⟨h1, h2, ?_, ?_, by omega⟩
    · rcases hlast with ⟨hf, _⟩ | hf <;> omega
    · intro h; rw [h] at h5; simp at h5
  · rintro ⟨h1, h2, h3, h4, h5⟩
    have h6 : 1 ≤ x.b.length := by
      rcases Nat.eq_zero_or_pos x.b.length with h | h
      · exact absurd (List.eq_nil_of_length_eq_zero h) h4
      · exact h
    refine ⟨⟨h1, h2, by omega, by omega, h6, by omega⟩, ?_⟩
    rcases hlast with ⟨hf, hl⟩ | hf <;> omega
theorem free_ok {en : UInt32} {sg : List Sg} : ∀ k, (∀ j, j < k → stepB sg j = true) → ∃ F, (ckTo en sg k).1.toNat = F ∧ F % 256 = 0 ∧ 256 ≤ F ∧ ((F = 256 ∧ lastTo sg k = -1) ∨ lastTo sg k = (F : Int) - 256)
  | 0, _ => ⟨256, rfl, rfl, Nat.le_refl _, Or.inl ⟨rfl, rfl⟩⟩
  | k + 1, h => by
    have hs := h k (by omega)
    rw [stepB, Bool.and_eq_true] at hs
    have hn := sgNext_nat hs.1
    have hla := last_nat hs.1
    obtain ⟨_, h2, h3, h4, h5⟩ := segB_facts hs.1
    refine ⟨_, hn, by omega, by omega, Or.inr ?_⟩
    rw [lastTo]; omega
theorem begins_eq {en : UInt32} {x : Sg} (h : permR x.p = true) : sgBegins en x = hitB en x := by
  have e : decide (x.p &&& 4 ≠ 0) = decide (x.p = 5) := by
    simp only [permR, Bool.or_eq_true, decide_eq_true_eq] at h
    rcases h with h | h | h <;> rw [h] <;> rfl
  rw [sgBegins, hitB, e]
theorem ckTo_any (en : UInt32) (sg : List Sg) : ∀ k, k ≤ sg.length → (ckTo en sg k).2 = (sg.take k).any (sgBegins en)
  | 0, _ => rfl
  | k + 1, h => by
    rw [ckTo_2, ckTo_any en sg k (by omega), take_getD (d := Sg.zero) (by omega), List.any_append]
    simp
theorem any_congr {α : Type} {l : List α} {p q : α → Bool} (h : ∀ x ∈ l, p x = q x) : l.any p = l.any q := by
  induction l with
  | nil => rfl
  | cons a l ih => rw [List.any_cons, List.any_cons, h a (by simp), ih fun x hx => h x (by simp [hx])]
/-- The two ways agree. -/
theorem rMay_eq {pg en : UInt32} {xs : List Xt} {ps : List UInt16} {sg : List Sg} (hl : ∀ x ∈ sg, x.b.length < 2 ^ 47) : rMay pg xs ps en sg = imMay pg xs ps en sg := by
  have hstep : ∀ k, k < sg.length → (∀ j, j < k → stepB sg j = true) → stepB sg k = !sgBad (ckTo en sg k).1 (sg.getD k Sg.zero) := fun k hk h => by
    obtain ⟨F, h1, h2, h3, h4⟩ := free_ok (en := en) k h
    have hm : sg.getD k Sg.zero ∈ sg := by rw [getD_at hk]; exact List.getElem_mem hk
    rw [stepB]
    exact step_eq (hl _ hm) h1 h2 h3 h4
  by_cases hall : ∀ j, j < sg.length → stepB sg j = true
  · rw [rMay_end hall]
    have hb : ∀ j, j < sg.length → sgBad (ckTo en sg j).1 (sg.getD j Sg.zero) = false := fun j hj => by
      have h1 := hstep j hj (fun i hi => hall i (by omega))
      rw [hall j hj] at h1
      simpa using h1.symm
    have ha : (List.range sg.length).all (fun k => !(sgBad (ckTo en sg k).1 (sg.getD k Sg.zero))) = true := by
      rw [List.all_eq_true]
      intro j hj
      rw [hb j (List.mem_range.1 hj)]; rfl
    have hbe : (ckTo en sg sg.length).2 = sg.any (hitB en) := by
      rw [ckTo_any en sg _ (Nat.le_refl _), List.take_length]
      refine any_congr fun x hx => ?_
      obtain ⟨j, hj, rfl⟩ := List.getElem_of_mem hx
      have h1 := hall j hj
      rw [stepB, Bool.and_eq_true, getD_at hj] at h1
      exact begins_eq (segB_facts h1.1).1
    rw [imMay, ha, hbe, entB, imHead]
    cases hm : mfMay pg xs ps with
    | false => rw [mfE_no hm]; rfl
    | true =>
      rw [mfE_yes hm, Bool.eq_iff_iff]
      simp only [Bool.true_and, Bool.and_eq_true, Bool.not_eq_true', Bool.or_eq_false_iff, decide_eq_true_eq, decide_eq_false_iff_not, Decidable.not_not]
      constructor
      · rintro ⟨a, b, c, d⟩; exact ⟨⟨by simp, by omega, by omega, d⟩, c⟩
      · rintro ⟨⟨_, a, b, d⟩, c⟩; exact ⟨by omega, by omega, c, d⟩
  · -- the first that is not so
    have hex : ∃ k, k < sg.length ∧ stepB sg k = false ∧ ∀ j, j < k → stepB sg j = true := by
      have hne : ∃ k, k < sg.length ∧ stepB sg k = false := by
        refine Classical.byContradiction fun hn => hall fun j hj => ?_
        cases h : stepB sg j with
        | true => rfl
        | false => exact absurd ⟨j, hj, h⟩ hn
      obtain ⟨k, hk⟩ := hne
      induction k using Nat.strongRecOn with
      | _ k ih =>
        by_cases hp : ∀ j, j < k → stepB sg j = true
        · exact ⟨k, hk.1, hk.2, hp⟩
        · have : ∃ j, j < k ∧ stepB sg j = false := by
            refine Classical.byContradiction fun hn => hp fun j hj => ?_
            cases h : stepB sg j with
            | true => rfl
            | false => exact absurd ⟨j, hj, h⟩ hn
          obtain ⟨j, hj, hf⟩ := this
          exact ih j hj ⟨by omega, hf⟩
    obtain ⟨k, hk, hf, hp⟩ := hex
    rw [rMay_no hk hf]
    have h1 := hstep k hk hp
    rw [hf] at h1
    have h2 : sgBad (ckTo en sg k).1 (sg.getD k Sg.zero) = true := by simpa using h1.symm
    have h3 := im_bad (pg := pg) (xs := xs) (ps := ps) hk h2
    rw [imE] at h3
    split at h3
    · cases h3
    · rename_i h4; simpa using h4
end Go.Spec
/-! from SpecImg12 -/
/- Reading by the document's answer. Plain Lean. -/
namespace Go.Spec
open Go.Owl
theorem takeR_le (r : Rd) (n : Nat) : (takeR r (n : Int)).1.1.length ≤ n := by
  by_cases hf : r.f = 0
  · rw [takeR_3 hf]
    by_cases h : n > r.s.length - r.at_
    · rw [rawR_1 h]; exact Nat.zero_le _
    · rw [rawR_2 h]; show (r.rest.take n).length ≤ n; rw [List.length_take]; omega
  · rw [takeR_1 hf]; exact Nat.zero_le _
theorem segR_le (r : Rd) : (segR r).1.b.length ≤ 131072 := by
  by_cases hle : (numR (numR (numR r 4).2 1).2 4).1.1 ≤ 131072
  · rw [segR_yes hle]
    have h1 := takeR_le (numR (numR (numR r 4).2 1).2 4).2 (numR (numR (numR r 4).2 1).2 4).1.1.toNat
    rw [UInt32.le_iff_toNat_le, show (131072 : UInt32).toNat = 131072 from rfl] at hle
    exact Nat.le_trans h1 hle
  · rw [segR_no hle]; exact Nat.zero_le _
theorem sgL_get (r : Rd) {j : Nat} : ∀ {k}, j < k → (sgL r k).getD j Sg.zero = (segR (sgD r j)).1
  | 0, h => by omega
  | k + 1, h => by
    have hl := sgL_len r k
    rcases Nat.lt_or_ge j k with h1 | h1
    · rw [sgL_s, List.getD, List.getElem?_append_left (by omega)]; exact sgL_get r h1
    · have e : j = k := by omega
      subst e
      rw [sgL_s, List.getD, List.getElem?_append_right (by omega), hl, Nat.sub_self]; rfl
theorem gS_le (s : List UInt8) : ∀ x ∈ gS s, x.b.length ≤ 131072 := fun x hx => by
  obtain ⟨j, hj, rfl⟩ := List.getElem_of_mem hx
  have h1 := sgL_get (g9 s).2 (j := j) (k := (g9 s).1.1.toNat) (by rw [gS_len] at hj; exact hj)
  rw [gS_e, getD_at hj] at h1
  rw [h1]; exact segR_le _
theorem gS_30 (s : List UInt8) : ∀ x ∈ gS s, x.b.length ≤ 2 ^ 30 := fun x hx => Nat.le_trans (gS_le s x hx) (by decide)
/-- Where a segment is too large the image is refused. -/
theorem seg_big {s : List UInt8} {k : Nat} (hk : k < (g9 s).1.1.toNat) (h : ¬ (numR (numR (numR (sgD (g9 s).2 k) 4).2 1).2 4).1.1 ≤ 131072) : gBad s = true := by
  cases hb : gBad s with
  | true => rfl
  | false =>
    have hB := hb
    simp only [gBad, Bool.or_eq_false_iff, decide_eq_false_iff_not, Decidable.not_not] at hB
    have hsb := im_all hB.2.2.2 k (by rw [gS_len]; exact hk)
    simp only [sgBad, Bool.or_eq_false_iff, decide_eq_false_iff_not] at hsb
    have h1 := sgL_get (g9 s).2 hk
    rw [gS_e] at h1
    rw [h1, segR_no h] at hsb
    exact absurd rfl hsb.2.2.2.1
theorem imE_dec (s : List UInt8) : decide (imE (g2 s).1.1 (gX s) (gP s) (g8 s).1.1 (gS s) ≠ 0) = !rMay (g2 s).1.1 (gX s) (gP s) (g8 s).1.1 (gS s) := by
  rw [rMay_eq (fun x hx => Nat.lt_of_le_of_lt (gS_le s x hx) (by decide)), imE]
  cases imMay (g2 s).1.1 (gX s) (gP s) (g8 s).1.1 (gS s) <;> rfl
end Go.Spec
/-! from SpecImg13 -/
/- What ImageCodes asks. Plain Lean. -/
namespace Go.Spec
open Go.Owl
section
variable {pg en : UInt32} {xs : List Xt} {ps : List UInt16} {c : Bool} {sg : List Sg}
theorem sameI_refl (pg : UInt32) (c : Bool) (xs : List Xt) (ps : List UInt16) (en : UInt32) (sg : List Sg) : sameI pg c xs ps en sg pg c xs ps en sg = true := sameI_iff.2 ⟨⟨rfl, rfl, rfl, rfl⟩, rfl, rfl⟩
theorem may_yes (hl : ∀ x ∈ sg, x.b.length ≤ 262144) (h : rMay pg xs ps en sg = true) : imE pg xs ps en sg = 0 := by
  rw [rMay_eq (fun x hx => Nat.lt_of_le_of_lt (hl x hx) (by decide))] at h
  rw [imE, if_pos h]
theorem may_no (hl : ∀ x ∈ sg, x.b.length ≤ 262144) (h : rMay pg xs ps en sg = false) : imE pg xs ps en sg = 2 := by
  rw [rMay_eq (fun x hx => Nat.lt_of_le_of_lt (hl x hx) (by decide))] at h
  rw [imE, if_neg (by rw [h]; decide)]
theorem put_eq (h : imE pg xs ps en sg = 0) : imB pg xs ps c en sg = imS pg xs ps c en sg := by rw [imB, if_pos h]
end
end Go.Spec
/-! from SpecSeal -/
/- Sealed images. Plain Lean. -/
namespace Go.Spec
open Go.Owl
/-- A sealed image's bytes. -/
def slS (key : List UInt8) (pg : UInt32) (xs : List Xt) (ps : List UInt16) (c : Bool) (en : UInt32) (sg : List Sg) : List UInt8 :=
  if imE pg xs ps en sg = 0 then imB pg xs ps c en sg ++ mac key (imB pg xs ps c en sg) else []
theorem imE_2 {pg en : UInt32} {xs : List Xt} {ps : List UInt16} {sg : List Sg} (h : imE pg xs ps en sg ≠ 0) : imE pg xs ps en sg = 2 := by
  rw [imE] at h ⊢
  split
  · rename_i h1; rw [if_pos h1] at h; exact absurd rfl h
  · rfl
theorem imE_nil {pg en : UInt32} {xs : List Xt} {ps : List UInt16} {sg : List Sg} (h : sg.length = 0) : imE pg xs ps en sg = 2 := by
  refine im_head ?_
  rw [imHead, decide_eq_true (show sg.length < 1 by omega)]; simp
/-- What sealed bytes are opened as. -/
def opC (key s : List UInt8) : Nat := if s.length < 32 then 7 else if s.drop (s.length - 32) ≠ mac key (s.take (s.length - 32)) then 170 else imGE (s.take (s.length - 32))
def opI (key s : List UInt8) : Im := if s.length < 32 then Im.zero else if s.drop (s.length - 32) ≠ mac key (s.take (s.length - 32)) then Im.zero else imG (s.take (s.length - 32))
theorem op_short {key s : List UInt8} (h : s.length < 32) : opI key s = Im.zero ∧ opC key s = 7 := ⟨if_pos h, if_pos h⟩
theorem op_tag {key s : List UInt8} (h : ¬ s.length < 32) (ht : s.drop (s.length - 32) ≠ mac key (s.take (s.length - 32))) : opI key s = Im.zero ∧ opC key s = 170 := by
  rw [opI, opC, if_neg h, if_neg h, if_pos ht, if_pos ht]; exact ⟨rfl, rfl⟩
theorem op_get {key s : List UInt8} (h : ¬ s.length < 32) (ht : s.drop (s.length - 32) = mac key (s.take (s.length - 32))) : opI key s = imG (s.take (s.length - 32)) ∧ opC key s = imGE (s.take (s.length - 32)) := by
  rw [opI, opC, if_neg h, if_neg h, if_neg (fun hh => hh ht), if_neg (fun hh => hh ht)]; exact ⟨rfl, rfl⟩
end Go.Spec
/-! from SpecSeal2 -/
/- Sealed images: opened just if sealed. Plain Lean. -/
namespace Go.Spec
open Go.Owl
section
variable {key s : List UInt8} {pg en : UInt32} {xs : List Xt} {ps : List UInt16} {c : Bool} {sg : List Sg}
theorem imB_38 (h : xs.length ≤ 600 ∧ ps.length ≤ 600 ∧ sg.length ≤ 15 ∧ ∀ x ∈ sg, x.b.length ≤ 262144) : (imB pg xs ps c en sg).length < 2 ^ 37 := by
  rw [imB]
  split
  · have h1 := imP3_len pg xs ps c en sg; have h2 := putS_len h.2.2.2 sg.length
    rw [imS, List.length_append]; omega
  · show 0 < _; decide
end
end Go.Spec
/-! from SpecSeal3 -/
/- Sealed images: what SealTells asks. Plain Lean. -/
namespace Go.Spec
open Go.Owl
section
variable {key s : List UInt8} {pg en : UInt32} {xs : List Xt} {ps : List UInt16} {c : Bool} {sg : List Sg} {ls : List (List UInt8)}
theorem opI_len (key s : List UInt8) : (opI key s).xs.length < 2 ^ 47 ∧ (opI key s).ps.length < 2 ^ 47 ∧ (opI key s).sg.length < 2 ^ 47 := by
  by_cases h1 : s.length < 32
  · rw [(op_short h1).1]; exact ⟨by show 0 < _; decide, by show 0 < _; decide, by show 0 < _; decide⟩
  · by_cases h2 : s.drop (s.length - 32) = mac key (s.take (s.length - 32))
    · rw [(op_get h1 h2).1]; exact ⟨xlt _, plt _, slt _⟩
    · rw [(op_tag h1 h2).1]; exact ⟨by show 0 < _; decide, by show 0 < _; decide, by show 0 < _; decide⟩
theorem sl_no (h : imE pg xs ps en sg = 2) : slS key pg xs ps c en sg = [] := by rw [slS, if_neg (by omega)]
theorem sl_yes (h : imE pg xs ps en sg = 0) : slS key pg xs ps c en sg = imS pg xs ps c en sg ++ mac key (imS pg xs ps c en sg) := by rw [slS, if_pos h, put_eq h]
theorem imS_37 (h : xs.length ≤ 600 ∧ ps.length ≤ 600 ∧ sg.length ≤ 15 ∧ ∀ x ∈ sg, x.b.length ≤ 262144) : (imS pg xs ps c en sg).length < 2 ^ 37 := by
  have h1 := imP3_len pg xs ps c en sg; have h2 := putS_len h.2.2.2 sg.length
  rw [imS, List.length_append]; omega
theorem sum_flat (ls : List (List UInt8)) : sumTo ls ls.length = (List.flatten ls).length := by rw [sumTo_tk _ (Nat.le_refl _), tk_all]
theorem sum_mono (ls : List (List UInt8)) (k : Nat) (h : k < ls.length) : (tk ls k).length + (ls.getD k []).length ≤ (List.flatten ls).length := by
  rw [← List.length_append, tk_succ h]; exact tk_len ls _
end
end Go.Spec
