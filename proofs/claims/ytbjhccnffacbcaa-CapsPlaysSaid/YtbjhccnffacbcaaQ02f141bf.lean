/- General lemmas and walks: SpecInsn, LawInsn, SpecRef4, SpecSha, SpecHash, SpecRef2, SpecRoots, SpecMac, LawSha, SpecPack, SpecDem, SpecSlot, SpecSlot2, SpecSlot3, SpecSlot4, SpecDem0, SpecSlot5, SpecObj, SpecObj2, SpecDem2, SpecDem3, SpecCap, SpecCap2, SpecCap3, SpecSort6, SpecSort4, SpecCap4, SpecCap5, SpecCap6. No condition but what each theorem names. -/
import Derived.Test.YtbjhccnffacbcaaQ9532813f
import Derived.Test.YtbjhccnffacbcaaQfc9067cb
import Derived.Test.YtbjhccnffacbcaaQ726357e9
import Derived.Test.YtbjhccnffacbcaaQ9c6e21d5
/-! from SpecInsn -/
/- What the instructions' functions say, in plain Lean. -/
namespace Go.Spec
open Go.Owl

def le4 (v : UInt32) : List UInt8 := [UInt8.ofNat v.toNat, UInt8.ofNat (shrU32 v 8).toNat, UInt8.ofNat (shrU32 v 16).toNat, UInt8.ofNat (shrU32 v 24).toNat]
def getTo (s : List UInt8) : Nat → UInt32
  | 0 => 0
  | k + 1 => getTo s k ||| shlU32 (UInt32.ofNat (s.getD k 0).toNat) (8 * k)
def getV (s : List UInt8) : UInt32 := if s.length < 1 ∨ 4 < s.length then 0 else getTo s s.length

end Go.Spec
/-! from LawInsn -/
/- Plain laws of the instructions' bytes. -/
namespace Go.Spec
open Go.Owl

end Go.Spec
/-! from SpecRef4 -/
/- What the reference of layer 4 says, in plain Lean, and that it says the same. -/
namespace Go.Spec
open Go.Owl

end Go.Spec
/-! from SpecSha -/
/- SHA-256 in plain Lean. -/
namespace Go.Spec
open Go.Owl
def rot (x : UInt32) (n : Nat) : UInt32 := shrU32 x n ||| shlU32 x (32 - n)
structure St where
  a : UInt32
  b : UInt32
  c : UInt32
  d : UInt32
  e : UInt32
  f : UInt32
  g : UInt32
  h : UInt32
def St.vals (v : St) : List UInt32 := [v.a, v.b, v.c, v.d, v.e, v.f, v.g, v.h]
/-- Four bytes, the highest first. -/
def be4 (b : List UInt8) (t : Nat) : UInt32 := ((shlU32 (UInt32.ofNat (b.getD (4 * t) 0).toNat) 24 ||| shlU32 (UInt32.ofNat (b.getD (4 * t + 1) 0).toNat) 16) ||| shlU32 (UInt32.ofNat (b.getD (4 * t + 2) 0).toNat) 8) ||| UInt32.ofNat (b.getD (4 * t + 3) 0).toNat
def mix (w : List UInt32) (t : Nat) : UInt32 :=
  ((w.getD (t - 16) 0 + ((rot (w.getD (t - 15) 0) 7 ^^^ rot (w.getD (t - 15) 0) 18) ^^^ shrU32 (w.getD (t - 15) 0) 3)) + w.getD (t - 7) 0) + ((rot (w.getD (t - 2) 0) 17 ^^^ rot (w.getD (t - 2) 0) 19) ^^^ shrU32 (w.getD (t - 2) 0) 10)
/-- The first k numbers W of a block. -/
def wl (b : List UInt8) : Nat → List UInt32
  | 0 => []
  | k + 1 => wl b k ++ [if k < 16 then be4 b k else mix (wl b k) k]
def keyL : List UInt32 := [
  0x428a2f98, 0x71374491, 0xb5c0fbcf, 0xe9b5dba5, 0x3956c25b, 0x59f111f1, 0x923f82a4, 0xab1c5ed5,
  0xd807aa98, 0x12835b01, 0x243185be, 0x550c7dc3, 0x72be5d74, 0x80deb1fe, 0x9bdc06a7, 0xc19bf174,
  0xe49b69c1, 0xefbe4786, 0x0fc19dc6, 0x240ca1cc, 0x2de92c6f, 0x4a7484aa, 0x5cb0a9dc, 0x76f988da,
  0x983e5152, 0xa831c66d, 0xb00327c8, 0xbf597fc7, 0xc6e00bf3, 0xd5a79147, 0x06ca6351, 0x14292967,
  0x27b70a85, 0x2e1b2138, 0x4d2c6dfc, 0x53380d13, 0x650a7354, 0x766a0abb, 0x81c2c92e, 0x92722c85,
  0xa2bfe8a1, 0xa81a664b, 0xc24b8b70, 0xc76c51a3, 0xd192e819, 0xd6990624, 0xf40e3585, 0x106aa070,
  0x19a4c116, 0x1e376c08, 0x2748774c, 0x34b0bcb5, 0x391c0cb3, 0x4ed8aa4a, 0x5b9cca4f, 0x682e6ff3,
  0x748f82ee, 0x78a5636f, 0x84c87814, 0x8cc70208, 0x90befffa, 0xa4506ceb, 0xbef9a3f7, 0xc67178f2]
def firstS : St := ⟨0x6a09e667, 0xbb67ae85, 0x3c6ef372, 0xa54ff53a, 0x510e527f, 0x9b05688c, 0x1f83d9ab, 0x5be0cd19⟩
def t1of (v : St) (k w : UInt32) : UInt32 := (((v.h + ((rot v.e 6 ^^^ rot v.e 11) ^^^ rot v.e 25)) + ((v.e &&& v.f) ^^^ (v.g &&& ~~~v.e))) + k) + w
def t2of (v : St) : UInt32 := ((rot v.a 2 ^^^ rot v.a 13) ^^^ rot v.a 22) + (((v.a &&& v.b) ^^^ (v.a &&& v.c)) ^^^ (v.b &&& v.c))
def stepS (v : St) (k w : UInt32) : St := ⟨t1of v k w + t2of v, v.a, v.b, v.c, v.d + t1of v k w, v.e, v.f, v.g⟩
def rounds (h : St) (w : List UInt32) : Nat → St
  | 0 => h
  | t + 1 => stepS (rounds h w t) (keyL.getD t 0) (w.getD t 0)
def addS (v h : St) : St := ⟨v.a + h.a, v.b + h.b, v.c + h.c, v.d + h.d, v.e + h.e, v.f + h.f, v.g + h.g, v.h + h.h⟩
def blockS (h : St) (b : List UInt8) : St := addS (rounds h (wl b 64) 64) h
def padZ (n : Nat) : Nat := (119 - n % 64) % 64
def hb (x : UInt32) : List UInt8 := [UInt8.ofNat (shrU32 x 24).toNat, UInt8.ofNat (shrU32 x 16).toNat, UInt8.ofNat (shrU32 x 8).toNat, UInt8.ofNat x.toNat]
end Go.Spec
/-! from SpecHash -/
/- A hash by the text that was written to it. -/
namespace Go.Spec
open Go.Owl
/-- j blocks of d, and what is left. -/
def brest (d : List UInt8) : Nat → List UInt8
  | 0 => d
  | j + 1 => (brest d j).drop 64
def bst (h : St) (d : List UInt8) : Nat → St
  | 0 => h
  | j + 1 => blockS (bst h d j) ((brest d j).take 64)
def hst (all : List UInt8) : St := bst firstS all (all.length / 64)
def hrest (all : List UInt8) : List UInt8 := brest all (all.length / 64)
/-- The bits' number, the first j bytes. -/
def lenTo (n : Nat) : Nat → List UInt8
  | 0 => []
  | j + 1 => lenTo n j ++ [UInt8.ofNat (shrU64 ((8 : UInt64) * UInt64.ofNat n) (56 - 8 * j)).toNat]
def pads (n : Nat) : List UInt8 := [128] ++ List.replicate (padZ n) 0 ++ lenTo n 8
def outTo (v : St) : Nat → List UInt8
  | 0 => []
  | k + 1 => outTo v k ++ hb (v.vals.getD k 0)
theorem outTo_length (v : St) : ∀ k, (outTo v k).length = 4 * k
  | 0 => rfl
  | k + 1 => by rw [outTo, List.length_append, outTo_length v k]; simp [hb]; omega
def sha (s : List UInt8) : List UInt8 := outTo (hst (s ++ pads s.length)) 8
theorem sha_length (s : List UInt8) : (sha s).length = 32 := outTo_length _ _
end Go.Spec
/-! from SpecRef2 -/
/- The reference's sums: numbers as roots. -/
namespace Go.Spec
open Go.Owl
end Go.Spec
/-! from SpecRoots -/
/- The roots of the first primes are the numbers. -/
namespace Go.Spec
end Go.Spec
/-! from SpecMac -/
/- Sums that need a key, in plain Lean. -/
namespace Go.Spec
open Go.Owl
def keyB (key : List UInt8) : List UInt8 := if key.length > 64 then sha key else key
def blockM (key : List UInt8) : List UInt8 := keyB key ++ List.replicate (64 - (keyB key).length) 0
def xorL (s : List UInt8) (c : UInt8) : List UInt8 := s.map (fun x => x ^^^ c)
def mac (key text : List UInt8) : List UInt8 := sha (xorL (blockM key) 92 ++ sha (xorL (blockM key) 54 ++ text))
theorem mac_length (key text : List UInt8) : (mac key text).length = 32 := sha_length _
end Go.Spec
/-! from LawSha -/
/- Texts, some of a list at a time. -/
namespace Go.Spec
/-- The first k, one behind the other. -/
def tk (ls : List (List UInt8)) (k : Nat) : List UInt8 := (ls.take k).flatten
end Go.Spec
/-! from SpecPack -/
/- Numbers, texts, lists as bytes, and readers of them, in plain Lean. -/
namespace Go.Spec
open Go.Owl
structure Rd where
  s : List UInt8
  at_ : Nat
  f : Nat
  h : at_ ≤ s.length
def Rd.rest (r : Rd) : List UInt8 := r.s.drop r.at_
def Rd.bad (r : Rd) (e : Nat) : Rd := ⟨r.s, r.at_, e, r.h⟩
def Rd.on (r : Rd) (k : Nat) (hk : ¬ k > r.s.length - r.at_) : Rd := ⟨r.s, r.at_ + k, r.f, by have := r.h; omega⟩
/-- The next n bytes, of a reader that is not spoilt. -/
def rawR (r : Rd) (n : Nat) : (List UInt8 × Nat) × Rd := if h : n > r.s.length - r.at_ then (([], 6), r.bad 6) else ((r.rest.take n, 0), r.on n h)
def takeR (r : Rd) (n : Int) : (List UInt8 × Nat) × Rd := if r.f ≠ 0 then (([], r.f), r) else if n < 0 then (([], 2), r.bad 2) else rawR r n.toNat
def numR (r : Rd) (n : Int) : (UInt32 × Nat) × Rd :=
  if r.f ≠ 0 then ((0, r.f), r) else if n < 1 ∨ n > 4 then ((0, 2), r.bad 2) else if (rawR r n.toNat).1.2 ≠ 0 then ((0, (rawR r n.toNat).1.2), (rawR r n.toNat).2) else ((getV (rawR r n.toNat).1.1, 0), (rawR r n.toNat).2)
def textR (r : Rd) : (List UInt8 × Nat) × Rd :=
  if (numR r 2).1.2 ≠ 0 then (([], (numR r 2).1.2), (numR r 2).2)
  else if (rawR (numR r 2).2 (numR r 2).1.1.toNat).1.2 ≠ 0 then ((rawR (numR r 2).2 (numR r 2).1.1.toNat).1, ⟨r.s, r.at_, (rawR (numR r 2).2 (numR r 2).1.1.toNat).2.f, r.h⟩)
  else rawR (numR r 2).2 (numR r 2).1.1.toNat
theorem rawR_1 {r : Rd} {n : Nat} (h : n > r.s.length - r.at_) : rawR r n = (([], 6), r.bad 6) := by unfold rawR; rw [dif_pos h]
theorem rawR_2 {r : Rd} {n : Nat} (h : ¬ n > r.s.length - r.at_) : rawR r n = ((r.rest.take n, 0), r.on n h) := by unfold rawR; rw [dif_neg h]
def Like (a b : Rd) : Prop := a.rest = b.rest ∧ a.f = b.f
theorem Like.left {a b : Rd} (h : Like a b) : a.s.length - a.at_ = b.s.length - b.at_ := by
  have := congrArg List.length h.1
  rwa [Rd.rest, Rd.rest, List.length_drop, List.length_drop] at this
theorem Like.bad {a b : Rd} (h : Like a b) (e : Nat) : Like (a.bad e) (b.bad e) := ⟨h.1, rfl⟩
theorem Like.raw {a b : Rd} (h : Like a b) (n : Nat) : (rawR a n).1 = (rawR b n).1 ∧ Like (rawR a n).2 (rawR b n).2 := by
  by_cases hn : n > a.s.length - a.at_
  · rw [rawR_1 hn, rawR_1 (by rw [← h.left]; exact hn)]
    exact ⟨rfl, h.bad 6⟩
  · rw [rawR_2 hn, rawR_2 (by rw [← h.left]; exact hn)]
    refine ⟨by rw [h.1], ?_, h.2⟩
    have := congrArg (List.drop n) h.1
    rwa [Rd.rest, Rd.rest, List.drop_drop, List.drop_drop] at this
theorem Like.take {a b : Rd} (h : Like a b) (n : Int) : (takeR a n).1 = (takeR b n).1 ∧ Like (takeR a n).2 (takeR b n).2 := by
  unfold takeR
  rw [h.2]
  split
  · exact ⟨rfl, h⟩
  · split
    · exact ⟨rfl, h.bad 2⟩
    · exact h.raw _
theorem Like.num {a b : Rd} (h : Like a b) (n : Int) : (numR a n).1 = (numR b n).1 ∧ Like (numR a n).2 (numR b n).2 := by
  unfold numR
  rw [h.2, (h.raw _).1]
  split
  · exact ⟨rfl, h⟩
  · split
    · exact ⟨rfl, h.bad 2⟩
    · split
      · exact ⟨rfl, (h.raw _).2⟩
      · exact ⟨rfl, (h.raw _).2⟩
theorem Like.text {a b : Rd} (h : Like a b) : (textR a).1 = (textR b).1 ∧ Like (textR a).2 (textR b).2 := by
  have h1 := h.num 2
  have h2 := h1.2.raw (numR b 2).1.1.toNat
  unfold textR
  rw [h1.1, h2.1]
  split
  · exact ⟨rfl, h1.2⟩
  · split
    · exact ⟨rfl, h.1, h2.2.2⟩
    · exact h2
structure Stp where
  d : Int
  n : Int
def Stp.zero : Stp := ⟨0, 0⟩
end Go.Spec
/-! from SpecDem -/
/- Manifests: which may be. Plain Lean. -/
namespace Go.Owl
end Go.Owl
namespace Go.Spec
open Go.Owl
structure Xt where
  id : UInt32
  bl : UInt32
deriving DecidableEq
def Xt.zero : Xt := ⟨0, 0⟩
def xtc (x : Xt) : List Value := [vU32 x.id, vU32 x.bl]
structure Sg where
  a : UInt32
  p : UInt8
  b : List UInt8
deriving DecidableEq
def Sg.zero : Sg := ⟨0, 0, []⟩
section
variable {α : Type} {p : α → Bool} {l : List α} {d : α} {k : Nat} {r : α → α → Bool}
/-- The first that is so. -/
def fidx (p : α → Bool) (l : List α) : Int := match l.findIdx? p with
  | some k => (k : Int)
  | none => -1
theorem getD_at (h : k < l.length) : l.getD k d = l[k] := by rw [List.getD, List.getElem?_eq_getElem h]; rfl
theorem fidx_yes (hk : k < l.length) (h : ∀ j, j < k → p (l.getD j d) = false) (hp : p (l.getD k d) = true) : fidx p l = (k : Int) := by
  have e : l.findIdx? p = some k := by
    rw [List.findIdx?_eq_some_iff_getElem]
    refine ⟨hk, by rw [getD_at hk] at hp; exact hp, fun j hj => ?_⟩
    have h1 := h j hj
    rw [getD_at (by omega)] at h1
    simp [h1]
  rw [fidx, e]
theorem fidx_no (h : ∀ j, j < l.length → p (l.getD j d) = false) : fidx p l = -1 := by
  have e : l.findIdx? p = none := by
    rw [List.findIdx?_eq_none_iff]
    intro x hx
    obtain ⟨j, hj, rfl⟩ := List.getElem_of_mem hx
    have h1 := h j hj
    rw [getD_at hj] at h1
    exact h1
  rw [fidx, e]
theorem fidx_any : decide (fidx p l ≥ 0) = l.any p := by
  rw [← List.findIdx?_isSome, fidx]
  cases l.findIdx? p with
  | none => rfl
  | some k => simp
/-- Each two side by side are so. -/
def ris (r : α → α → Bool) : List α → Bool
  | a :: b :: l => r a b && ris r (b :: l)
  | _ => true
theorem ris_no : ∀ {l : List α} {k : Nat}, k + 1 < l.length → r (l.getD k d) (l.getD (k + 1) d) = false → ris r l = false
  | [], _, h, _ => by simp at h
  | [_], _, h, _ => by simp at h
  | a :: b :: l, 0, _, h => by
    have h1 : r a b = false := h
    rw [ris, h1]; rfl
  | a :: b :: l, k + 1, hk, h => by
    rw [ris, ris_no (l := b :: l) (k := k) (by simpa using hk) h, Bool.and_false]
theorem ris_yes : ∀ {l : List α}, (∀ k, k + 1 < l.length → r (l.getD k d) (l.getD (k + 1) d) = true) → ris r l = true
  | [], _ => rfl
  | [_], _ => rfl
  | a :: b :: l, h => by
    have h1 : r a b = true := h 0 (by simp)
    rw [ris, h1, Bool.true_and]
    exact ris_yes (l := b :: l) fun k hk => h (k + 1) (by simpa using hk)
theorem any_no (h : ∀ j, j < l.length → p (l.getD j d) = false) : l.any p = false := by
  rw [← fidx_any, fidx_no h]; rfl
theorem any_yes (hk : k < l.length) (hp : p (l.getD k d) = true) : l.any p = true := by
  rw [List.any_eq_true]
  exact ⟨l[k], List.getElem_mem hk, by rw [getD_at hk] at hp; exact hp⟩
theorem allPrev {P : Nat → Prop} (h : ∀ j, j < k → P j) (h2 : P k) : ∀ j, j < k + 1 → P j := fun j hj => by
  rcases Nat.lt_or_ge j k with h3 | h3
  · exact h j h3
  · rw [show j = k by omega]; exact h2
end
def xtBad (x : Xt) : Bool := decide (x.id ≥ 16) || (decide (x.bl < 1) || decide (x.bl > 1024))
def xtLt (x y : Xt) : Bool := decide (x.id < y.id)
def u16Lt (x y : UInt16) : Bool := decide (x < y)
def u16Is (y x : UInt16) : Bool := decide (y = x)
def mfMay (pg : UInt32) (xs : List Xt) (ps : List UInt16) : Bool := !(xs.any xtBad) && (ris xtLt xs && (ris u16Lt ps && (!(ps.any (u16Is 0)) && (!decide (ps.length > 16) && !decide (pg > 1024)))))
def mfE (pg : UInt32) (xs : List Xt) (ps : List UInt16) : Nat := if mfMay pg xs ps then 0 else 2
end Go.Spec
/-! from SpecSlot -/
/- Slots with versions: what the functions of layer 44 say. Plain Lean. -/
namespace Go.Spec
open Go.Owl
abbrev Tx := List UInt8
def magicS : Tx := [65, 83, 76, 49]
def num8 (v n : UInt32) : Tx := le4 v ++ le4 n
def pad64 (t : Tx) : Tx := t ++ List.replicate (64 - t.length) 0
theorem pad64_len {t : Tx} (h : t.length ≤ 64) : (pad64 t).length = 64 := by rw [pad64, List.length_append, List.length_replicate]; omega
def rawH (key : Tx) (v : UInt32) (t : Tx) : Tx := (magicS ++ num8 v (UInt32.ofNat t.length)) ++ mac key (num8 v (UInt32.ofNat t.length) ++ t)
theorem rawH_len (key : Tx) (v : UInt32) (t : Tx) : (rawH key v t).length = 44 := by rw [rawH, List.length_append, mac_length]; rfl
def hdrS (key : Tx) (v : UInt32) (t : Tx) : Tx := pad64 (rawH key v t)
theorem hdrS_len (key : Tx) (v : UInt32) (t : Tx) : (hdrS key v t).length = 64 := pad64_len (by rw [rawH_len]; decide)
def catB (B : List Tx) (a : Nat) : Nat → Tx
  | 0 => []
  | k + 1 => catB B a k ++ B.getD (a + k) []
structure Sl where
  v : UInt32
  t : Tx
  is : Bool
def Sl.no : Sl := ⟨0, [], false⟩
def pickS (key head all : Tx) (v z : UInt32) : Sl := if z > UInt32.ofNat all.length ∨ head ≠ hdrS key v (all.take z.toNat) then Sl.no else ⟨v, all.take z.toNat, true⟩
def slV (h : Tx) : UInt32 := getV ((h.drop 4).take (8 - 4))
def slZ (h : Tx) : UInt32 := getV ((h.drop 8).take (12 - 8))
def slotN (B : List Tx) (each : Nat) (key : Tx) (n : Nat) : Sl := pickS key (B.getD n []) (catB B (2 + n * each) each) (slV (B.getD n [])) (slZ (B.getD n []))
/-- Which slot is the current one, and whether there is one. -/
def curN (a b : Sl) : Nat := if b.is = true ∧ (a.is = false ∨ b.v > a.v) then 1 else 0
def curIs (a b : Sl) : Bool := if b.is = true ∧ (a.is = false ∨ b.v > a.v) then true else a.is
def curOf (a b : Sl) : Sl := if curN a b = 1 then b else a
/-- Blocks, and how many may yet be written; below 0: all. -/
structure Sst where
  B : List Tx
  left : Int
def wr1 (s : Sst) (p : Nat × Tx) : Sst := ⟨s.B.set p.1 (pad64 p.2), if s.left > 0 then s.left - 1 else s.left⟩
def wrA (s : Sst) : List (Nat × Tx) → Sst × Bool
  | [] => (s, true)
  | p :: l => if s.left = 0 then (s, false) else wrA (wr1 s p) l
def pcT (t : Tx) (k : Nat) : Tx := (t.drop (k * 64)).take 64
def pcs (t : Tx) (a : Nat) : Nat → List (Nat × Tx)
  | 0 => []
  | k + 1 => pcs t a k ++ [(a + k, pcT t k)]
def cntS (t : Tx) : Nat := (t.length + 63) / 64
def wrs (each : Nat) (key : Tx) (v : UInt32) (t : Tx) (at_ : Nat) : List (Nat × Tx) := ((at_, []) :: pcs t (2 + at_ * each) (cntS t)) ++ [(at_, hdrS key v t)]
def atS (a b : Sl) : Nat := if curIs a b = true ∧ curN a b = 0 then 1 else 0
def updE (s : Sst) (each : Nat) (key : Tx) (v : UInt32) (t : Tx) : Sst × Nat :=
  let a := slotN s.B each key 0
  let b := slotN s.B each key 1
  if v ≤ (curOf a b).v then (s, 440) else if t.length > each * 64 then (s, 5) else
    ((wrA s (wrs each key v t (atS a b))).1, if (wrA s (wrs each key v t (atS a b))).2 then 0 else 441)
theorem pcs_len (t : Tx) (a : Nat) : ∀ k, (pcs t a k).length = k
  | 0 => rfl
  | k + 1 => by rw [pcs, List.length_append, pcs_len t a k]; rfl
theorem pcs_get (t : Tx) (a : Nat) : ∀ {k j}, j < k → (pcs t a k)[j]? = some (a + j, pcT t j)
  | k + 1, j, h => by
    rw [pcs]
    rcases Nat.lt_or_ge j k with h1 | h1
    · rw [List.getElem?_append_left (by rw [pcs_len]; exact h1), pcs_get t a h1]
    · have : j = k := by omega
      subst this
      rw [List.getElem?_append_right (by rw [pcs_len]; exact Nat.le_refl _), pcs_len, Nat.sub_self]; rfl
theorem pcT_len (t : Tx) (k : Nat) : (pcT t k).length ≤ 64 := by rw [pcT, List.length_take]; omega
/-- Every text that is written, and where. -/
theorem wrs_mem {each : Nat} {key : Tx} {v : UInt32} {t : Tx} {n : Nat} {p : Nat × Tx} (h : p ∈ wrs each key v t n) : (p.1 = n ∧ p.2.length ≤ 64) ∨ (2 + n * each ≤ p.1 ∧ p.1 < 2 + n * each + cntS t ∧ p.2.length ≤ 64) := by
  rw [wrs, List.mem_append, List.mem_cons] at h
  rcases h with (rfl | h) | h
  · exact .inl ⟨rfl, by show 0 ≤ 64; omega⟩
  · obtain ⟨j, hj, rfl⟩ := List.getElem_of_mem h
    rw [pcs_len] at hj
    have e := pcs_get t (2 + n * each) hj
    rw [List.getElem?_eq_getElem (by rw [pcs_len]; exact hj), Option.some.injEq] at e
    rw [e]
    exact .inr ⟨Nat.le_add_right _ _, by show 2 + n * each + j < _; omega, pcT_len t j⟩
  · rw [List.mem_singleton] at h; subst h
    exact .inl ⟨rfl, by rw [hdrS_len]; exact Nat.le_refl _⟩
theorem wr1_len (s : Sst) (p : Nat × Tx) : (wr1 s p).B.length = s.B.length := by simp [wr1]
theorem set_all {B : List Tx} {i : Nat} {x : Tx} (h : ∀ b ∈ B, b.length = 64) (hx : x.length = 64) : ∀ b ∈ B.set i x, b.length = 64 := fun b hb => by
  rcases List.mem_or_eq_of_mem_set hb with h1 | h1
  · exact h b h1
  · rw [h1]; exact hx
theorem wrA_all : ∀ (l : List (Nat × Tx)) (s : Sst), (∀ p ∈ l, p.2.length ≤ 64) → (∀ b ∈ s.B, b.length = 64) → (wrA s l).1.B.length = s.B.length ∧ ∀ b ∈ (wrA s l).1.B, b.length = 64
  | [], s, _, h => ⟨rfl, h⟩
  | p :: l, s, hp, h => by
    rw [wrA]; split
    · exact ⟨rfl, h⟩
    · have := wrA_all l (wr1 s p) (fun q hq => hp q (List.mem_cons_of_mem _ hq)) (set_all h (pad64_len (hp p (List.mem_cons_self ..))))
      rw [wr1_len] at this
      exact this
theorem updE_all {s : Sst} {each : Nat} {key : Tx} {v : UInt32} {t : Tx} (h : ∀ b ∈ s.B, b.length = 64) : (updE s each key v t).1.B.length = s.B.length ∧ ∀ b ∈ (updE s each key v t).1.B, b.length = 64 := by
  unfold updE
  dsimp only
  split
  · exact ⟨rfl, h⟩
  · split
    · exact ⟨rfl, h⟩
    · exact wrA_all _ _ (fun p hp => (wrs_mem hp).elim (fun h => h.2) (fun h => h.2.2)) h
/-- A machine: may it be? -/
def hardE (pg : UInt32) (he : List UInt32) : Nat := if pg > 4096 ∨ he.length > 16 ∨ he.any (fun x => decide (x > 1024)) = true then 2 else 0
theorem hardE_2 {pg : UInt32} {he : List UInt32} (h : hardE pg he ≠ 0) : hardE pg he = 2 := by
  unfold hardE at h ⊢; split
  · rfl
  · rename_i h1; rw [if_neg h1] at h; exact absurd rfl h
end Go.Spec
/-! from SpecSlot2 -/
/- Slots with versions: where an update is torn. Plain Lean. -/
namespace Go.Spec
open Go.Owl
section
variable {each n : Nat} {key t : Tx} {v : UInt32} {B : List Tx}
end
end Go.Spec
/-! from SpecSlot3 -/
/- Slots with versions: what is the current one behind an update, wherever it is torn; two keys. Plain Lean. -/
namespace Go.Spec
open Go.Owl
section
variable {each : Nat} {key t : Tx} {v : UInt32} {s : Sst}
structure Fit (B : List Tx) (each : Nat) : Prop where
  len : 2 + each + each ≤ B.length
  one : 1 ≤ each
  all : ∀ b ∈ B, b.length = 64
  sz : each * 64 < 2 ^ 32
end
end Go.Spec
/-! from SpecSlot4 -/
/- Slots with versions: the steps of an update as functions with what they captured. Plain Lean. -/
namespace Go.Spec
open Go.Owl
abbrev KPt := Nat × Nat × Nat
section
variable {f1 f2 f3 c3 c10 c13 at_ each k : Nat} {KP : List KPt} {key t : Tx} {v : UInt32} {c : Cl}
end
end Go.Spec
/-! from SpecDem0 -/
/- Manifests: which are the same, which may be. Plain Lean. -/
namespace Go.Owl
section
variable {S : List Nat} {w0 w : World} {L : List Ent} {i : Nat}
theorem Own.rowFresh {v : Value} {t : TypeId} {sz n : Nat} {xs : List Value} (H : Owl.Own [] w0 w L) (hi : L[i]? = some (Ent.row v t sz n xs)) : ∀ b ∈ footA v xs, w0.heap.size ≤ b := by
  intro b hb
  obtain ⟨hl, ⟨rfl, rfl⟩ | ⟨g, cap, pre, junk, rfl, hk, hr⟩⟩ := H.row hi
  · have hx : xs = [] := List.eq_nil_of_length_eq_zero (by simpa using hl)
    subst hx; simp [footA] at hb
  · have hb' : b = g := by
      simp only [footA] at hb
      split at hb
      · cases hb
      · simpa [sBlk] using hb
    rcases H.own i _ hi g rfl with h | h
    · omega
    · cases h
end
end Go.Owl
namespace Go.Spec
open Go.Owl
theorem list_eqD {α : Type} {d : α} {a b : List α} (hl : a.length = b.length) (h : ∀ j, j < a.length → a.getD j d = b.getD j d) : a = b := by
  refine List.ext_getElem hl fun i h1 h2 => ?_
  have := h i h1
  rwa [getD_at h1, getD_at h2] at this
theorem xt_eq {x y : Xt} (h : (decide (x.id = y.id) && decide (x.bl = y.bl)) = true) : x = y := by
  simp only [Bool.and_eq_true, decide_eq_true_eq] at h
  cases x; cases y; simp_all
theorem xt_ne {x y : Xt} (h : (decide (x.id = y.id) && decide (x.bl = y.bl)) = false) : x ≠ y := by
  rintro rfl; simp at h
def sameM (pg : UInt32) (c : Bool) (xs : List Xt) (ps : List UInt16) (pg' : UInt32) (c' : Bool) (xs' : List Xt) (ps' : List UInt16) : Bool := decide (pg = pg') && ((c == c') && (decide (xs = xs') && decide (ps = ps')))
section
variable {pg pg' : UInt32} {c c' : Bool} {xs xs' : List Xt} {ps ps' : List UInt16}
theorem sameM_iff : sameM pg c xs ps pg' c' xs' ps' = true ↔ pg = pg' ∧ c = c' ∧ xs = xs' ∧ ps = ps' := by simp [sameM]
theorem sameM_no (h : ¬(pg = pg' ∧ c = c' ∧ xs = xs' ∧ ps = ps')) : sameM pg c xs ps pg' c' xs' ps' = false := by
  rw [← sameM_iff] at h; simpa using h
end
theorem mfMay_x {pg : UInt32} {xs : List Xt} {ps : List UInt16} {k : Nat} (hk : k < xs.length) (h : xtBad (xs.getD k Xt.zero) = true) : mfMay pg xs ps = false := by
  rw [mfMay, any_yes hk h]; rfl
theorem mfMay_r {pg : UInt32} {xs : List Xt} {ps : List UInt16} {k : Nat} (hk : k < xs.length) (h0 : 0 < k) (h : (xs.getD (k - 1) Xt.zero).id ≥ (xs.getD k Xt.zero).id) : mfMay pg xs ps = false := by
  have h1 : ris xtLt xs = false := ris_no (d := Xt.zero) (k := k - 1) (by omega) (by
    rw [show k - 1 + 1 = k by omega, xtLt]; simpa using h)
  rw [mfMay, h1, Bool.false_and, Bool.and_false]
theorem mfMay_p {pg : UInt32} {xs : List Xt} {ps : List UInt16} {k : Nat} (hk : k < ps.length) (h : ps.getD k 0 = 0) : mfMay pg xs ps = false := by
  have h1 : ps.any (u16Is 0) = true := any_yes (d := 0) hk (by rw [h]; rfl)
  rw [mfMay, h1]; simp
theorem mfMay_q {pg : UInt32} {xs : List Xt} {ps : List UInt16} {k : Nat} (hk : k < ps.length) (h0 : 0 < k) (h : ps.getD (k - 1) 0 ≥ ps.getD k 0) : mfMay pg xs ps = false := by
  have h1 : ris u16Lt ps = false := ris_no (d := 0) (k := k - 1) (by omega) (by
    rw [show k - 1 + 1 = k by omega, u16Lt]; simpa using h)
  rw [mfMay, h1]; simp
theorem mfMay_end {pg : UInt32} {xs : List Xt} {ps : List UInt16} (hx : ∀ j, j < xs.length → xtBad (xs.getD j Xt.zero) = false ∧ (0 < j → ¬ (xs.getD (j - 1) Xt.zero).id ≥ (xs.getD j Xt.zero).id))
    (hp : ∀ j, j < ps.length → ps.getD j 0 ≠ 0 ∧ (0 < j → ¬ ps.getD (j - 1) 0 ≥ ps.getD j 0)) : mfMay pg xs ps = (decide (pg ≤ 1024) && decide (ps.length ≤ 16)) := by
  have h1 : xs.any xtBad = false := any_no (d := Xt.zero) fun j hj => (hx j hj).1
  have h2 : ris xtLt xs = true := ris_yes (d := Xt.zero) fun j hj => by
    have := (hx (j + 1) hj).2 (by omega)
    rw [xtLt]; simpa using this
  have h3 : ris u16Lt ps = true := ris_yes (d := 0) fun j hj => by
    have := (hp (j + 1) hj).2 (by omega)
    rw [u16Lt]; simpa using this
  have h4 : ps.any (u16Is 0) = false := any_no (d := 0) fun j hj => by
    have := (hp j hj).1
    rw [u16Is]; simpa using fun h => this h.symm
  rw [mfMay, h1, h2, h3, h4]
  rw [Bool.eq_iff_iff]
  simp [Nat.not_lt, UInt32.not_lt, and_comm]
end Go.Spec
/-! from SpecSlot5 -/
/- Slots with versions: what the laws of layer 44 look at. Plain Lean. -/
namespace Go.Spec
open Go.Owl
structure SOK (B : List Tx) (n : Nat) : Prop where
  len : B.length = n
  all : ∀ b ∈ B, b.length = 64
theorem SOK.upd {B : List Tx} {n each : Nat} {left : Int} {key t : Tx} {v : UInt32} (h : SOK B n) : SOK (updE ⟨B, left⟩ each key v t).1.B n :=
  ⟨(updE_all (s := ⟨B, left⟩) h.all).1.trans h.len, (updE_all (s := ⟨B, left⟩) h.all).2⟩
theorem SOK.new (n : Nat) : SOK (List.replicate n (List.replicate 64 0)) n := ⟨List.length_replicate, fun b hb => by rw [List.eq_of_mem_replicate hb]; exact List.length_replicate⟩
theorem SOK.fit {B : List Tx} {n each : Nat} (h : SOK B n) (hc : 2 + each + each ≤ n) (h1 : 1 ≤ each) (hm : n < 2 ^ 20) : Fit B each := ⟨by rw [h.len]; exact hc, h1, h.all, by omega⟩
/-- Acts of a script. -/
structure Ak where
  d : Int
  n : Int
  v : UInt32
  t : Tx
def Ak.zero : Ak := ⟨0, 0, 0, []⟩
end Go.Spec
/-! from SpecObj -/
/- Symbols: which may be. Plain Lean. -/
namespace Go.Spec
open Go.Owl
structure Rl where
  off : UInt32
  kind : UInt8
  nm : List UInt8
  add : UInt32
deriving DecidableEq
def Rl.zero : Rl := ⟨0, 0, [], 0⟩
structure Nt where
  kind : UInt8
  n : UInt32
  m : UInt32
deriving DecidableEq
def Nt.zero : Nt := ⟨0, 0, 0⟩
structure Sy where
  nm : List UInt8
  bind : UInt8
  kind : UInt8
  size : UInt32
  b : List UInt8
  rv : Value
  rl : List Rl
  nv : Value
  nt : List Nt
def Sy.zero : Sy := ⟨[], 0, 0, 0, [], .slice none 0 0, [], .slice none 0 0, []⟩
structure Ob where
  nm : List UInt8
  sv : Value
  sy : List Sy
def Ob.zero : Ob := ⟨[], .slice none 0 0, []⟩
section
variable {w : World} {x : Sy} {o : Ob}
end
section
variable {p : UInt8 → Bool} {s t : List UInt8}
end
section
variable {s : List UInt8} {k : Nat}
end
end Go.Spec
/-! from SpecObj2 -/
/- Symbols: notes, places, sizes. Plain Lean. -/
namespace Go.Spec
open Go.Owl
def noteB (x : Nt) : Bool :=
  bif decide (x.kind = 1) then decide (x.n ≤ 1024) && decide (x.m = 0)
  else bif decide (x.kind = 2) then (decide (x.n < 16) && decide (x.m ≥ 1)) && decide (x.m ≤ 1024)
  else bif decide (x.kind = 3) then (decide (x.n ≥ 1) && decide (x.n ≤ 65535)) && decide (x.m = 0)
  else bif decide (x.kind = 4) then decide (x.n = 0) && decide (x.m = 0) else false
section
variable {l : List Rl} {b e k : Nat} {x : Rl}
end
section
variable {x y : Sy}
/-- The same but for where the slices lie. -/
def Sy.bare (x : Sy) : Sy := { x with rv := .slice none 0 0, nv := .slice none 0 0 }
end
section
variable {x : Rl} {b e : Nat} {l : List Rl} {k : Nat}
end
section
variable {x : Sy} {k : Nat}
end
end Go.Spec
/-! from SpecDem2 -/
/- Manifests as what notes ask for: each note, the greatest of all. Plain Lean. -/
namespace Go.Spec
open Go.Owl
structure Mf where
  pg : UInt32
  xs : List Xt
  ps : List UInt16
  con : Bool
deriving DecidableEq
def Mf.none : Mf := ⟨0, [], [], false⟩
def Mf.may (m : Mf) : Bool := mfMay m.pg m.xs m.ps
def p16 (x : UInt32) : UInt16 := UInt16.ofNat x.toNat
def sup {α : Type} (f : α → Nat) : List α → Nat
  | [] => 0
  | n :: l => max (f n) (sup f l)
section
variable {α : Type} {f : α → Nat} {l l' : List α} {n : α} {b : Nat}
theorem sup_le : ∀ {l : List α}, sup f l ≤ b ↔ ∀ n ∈ l, f n ≤ b
  | [] => by simp [sup]
  | n :: l => by rw [sup, Nat.max_le, sup_le]; simp
theorem sup_mem (h : n ∈ l) : f n ≤ sup f l := sup_le.1 (Nat.le_refl _) n h
theorem sup_app : ∀ {l : List α}, sup f (l ++ l') = max (sup f l) (sup f l')
  | [] => by simp [sup]
  | n :: l => by rw [List.cons_append, sup, sup, sup_app, Nat.max_assoc]
theorem sup_snoc : sup f (l ++ [n]) = max (sup f l) (f n) := by rw [sup_app]; simp [sup]
theorem sup_at : ∀ {l : List α}, sup f l = 0 ∨ ∃ n ∈ l, f n = sup f l
  | [] => .inl rfl
  | n :: l => by
    rw [sup]
    rcases Nat.le_total (f n) (sup f l) with h | h
    · rw [Nat.max_eq_right h]
      rcases sup_at (l := l) with h2 | ⟨m, h2, h3⟩
      · exact .inl h2
      · exact .inr ⟨m, List.mem_cons_of_mem _ h2, h3⟩
    · rw [Nat.max_eq_left h]; exact .inr ⟨n, by simp, rfl⟩
end
def fPg (n : Nt) : Nat := if n.kind = 1 then n.n.toNat else 0
def fBl (k : UInt32) (n : Nt) : Nat := if n.kind = 2 ∧ n.n = k then n.m.toNat else 0
def isP (p : UInt16) (n : Nt) : Prop := n.kind = 3 ∧ p16 n.n = p
def isC (n : Nt) : Prop := n.kind ≠ 1 ∧ n.kind ≠ 2 ∧ n.kind ≠ 3
/-- A manifest is what the notes ask for. -/
structure Den (m : Mf) (l : List Nt) : Prop where
  pg : m.pg.toNat = sup fPg l
  xr : m.xs.Pairwise fun a b => xtLt a b = true
  xm : ∀ x, x ∈ m.xs ↔ x.bl.toNat = sup (fBl x.id) l ∧ 0 < x.bl.toNat
  pr : Rise ltU16 m.ps
  pm : ∀ p, p ∈ m.ps ↔ ∃ n ∈ l, isP p n
  cn : m.con = true ↔ ∃ n ∈ l, isC n
/-- Notes ask for no more than others do. -/
structure LeD (l l' : List Nt) : Prop where
  pg : sup fPg l ≤ sup fPg l'
  bl : ∀ k, sup (fBl k) l ≤ sup (fBl k) l'
  pm : ∀ p, (∃ n ∈ l, isP p n) → ∃ n ∈ l', isP p n
  cn : (∃ n ∈ l, isC n) → ∃ n ∈ l', isC n
section
variable {l l' l2 : List Nt} {m m' : Mf} {n : Nt} {x y z : Xt}
theorem LeD.sub (h : ∀ n ∈ l, n ∈ l') : LeD l l' :=
  ⟨sup_le.2 fun n hn => sup_mem (h n hn), fun _ => sup_le.2 fun n hn => sup_mem (h n hn), fun _ ⟨n, h1, h2⟩ => ⟨n, h n h1, h2⟩, fun ⟨n, h1, h2⟩ => ⟨n, h n h1, h2⟩⟩
theorem LeD.refl : LeD l l := .sub fun _ h => h
theorem LeD.trans (h : LeD l l') (k : LeD l' l2) : LeD l l2 :=
  ⟨Nat.le_trans h.pg k.pg, fun i => Nat.le_trans (h.bl i) (k.bl i), fun p h1 => k.pm p (h.pm p h1), fun h1 => k.cn (h.cn h1)⟩
theorem LeD.each : LeD l l' ↔ ∀ n ∈ l, LeD [n] l' := by
  constructor
  · exact fun h n hn => (LeD.sub fun x hx => by rw [List.mem_singleton.1 hx]; exact hn).trans h
  · intro h
    exact ⟨sup_le.2 fun n hn => Nat.le_trans (sup_mem (f := fPg) (List.mem_singleton.2 rfl)) (h n hn).pg, fun k => sup_le.2 fun n hn => Nat.le_trans (sup_mem (f := fBl k) (List.mem_singleton.2 rfl)) ((h n hn).bl k),
      fun p ⟨n, h1, h2⟩ => (h n h1).pm p ⟨n, by simp, h2⟩, fun ⟨n, h1, h2⟩ => (h n h1).cn ⟨n, by simp, h2⟩⟩
theorem LeD.left : LeD l (l ++ l') := .sub fun _ h => List.mem_append.2 (.inl h)
theorem LeD.right : LeD l' (l ++ l') := .sub fun _ h => List.mem_append.2 (.inr h)
theorem sup32 (l : List Nt) (k : UInt32) : sup (fBl k) l < 2 ^ 32 := by
  rcases sup_at (f := fBl k) (l := l) with h | ⟨n, _, h⟩
  · omega
  · have := n.m.toNat_lt
    rw [← h, fBl]; split <;> omega
theorem sup_xt (h : Den m l) (k : UInt32) (h0 : 0 < sup (fBl k) l) : ⟨k, UInt32.ofNat (sup (fBl k) l)⟩ ∈ m.xs := by
  have e : (UInt32.ofNat (sup (fBl k) l)).toNat = sup (fBl k) l := by rw [UInt32.toNat_ofNat', Nat.mod_eq_of_lt (sup32 l k)]
  exact (h.xm _).2 ⟨e, by rw [e]; exact h0⟩
theorem Den.le (h : Den m l) (h' : Den m l') : LeD l l' := by
  refine ⟨by rw [← h.pg, h'.pg]; exact Nat.le_refl _, fun k => ?_, fun p hp => (h'.pm p).1 ((h.pm p).2 hp), fun hc => h'.cn.1 (h.cn.2 hc)⟩
  rcases Nat.eq_zero_or_pos (sup (fBl k) l) with e | e
  · omega
  · have h1 := (h.xm _).1 (sup_xt h k e)
    have h2 := (h'.xm _).1 (sup_xt h k e)
    exact Nat.le_of_eq (h1.1.symm.trans h2.1)
theorem Den.same (h : Den m l) (k : LeD l l') (k' : LeD l' l) : Den m l' :=
  ⟨by rw [h.pg]; exact Nat.le_antisymm k.pg k'.pg, h.xr, fun x => by rw [h.xm, Nat.le_antisymm (k.bl x.id) (k'.bl x.id)], h.pr, fun p => by rw [h.pm]; exact ⟨k.pm p, k'.pm p⟩, by rw [h.cn]; exact ⟨k.cn, k'.cn⟩⟩
def putXt (x : Xt) : List Xt → List Xt
  | [] => [x]
  | y :: l => if y.id < x.id then y :: putXt x l else if y.id = x.id then ⟨x.id, maxU32 x.bl y.bl⟩ :: l else x :: y :: l
def addM (m : Mf) (n : Nt) : Mf :=
  if n.kind = 1 then { m with pg := maxU32 m.pg n.n } else if n.kind = 2 then { m with xs := putXt ⟨n.n, n.m⟩ m.xs }
  else if n.kind = 3 then { m with ps := put1 ltU16 (p16 n.n) m.ps } else { m with con := true }
theorem max32 (a b : UInt32) : (maxU32 a b).toNat = max a.toNat b.toNat := by
  unfold maxU32
  split
  · rename_i h; rw [UInt32.lt_iff_toNat_lt] at h; omega
  · rename_i h; rw [UInt32.lt_iff_toNat_lt] at h; omega
theorem xt_lt {a b : Xt} : xtLt a b = true ↔ a.id.toNat < b.id.toNat := by rw [xtLt, decide_eq_true_eq, UInt32.lt_iff_toNat_lt]
theorem putXt_mem (x z : Xt) : ∀ {l : List Xt}, l.Pairwise (fun a b => xtLt a b = true) → (z ∈ putXt x l ↔ (z.id ≠ x.id ∧ z ∈ l) ∨ (z.id = x.id ∧ ((∃ y ∈ l, y.id = x.id ∧ z.bl = maxU32 x.bl y.bl) ∨ ((∀ y ∈ l, y.id ≠ x.id) ∧ z.bl = x.bl))))
  | [], _ => by
    rw [putXt, List.mem_singleton]
    constructor
    · rintro rfl; exact .inr ⟨rfl, .inr ⟨by simp, rfl⟩⟩
    · rintro (⟨_, h⟩ | ⟨h1, ⟨_, h, _⟩ | ⟨_, h2⟩⟩)
      · simp at h
      · simp at h
      · obtain ⟨a, b⟩ := z; obtain ⟨c, d⟩ := x; simp only at h1 h2; rw [h1, h2]
  | y :: l, h => by
    have h' := List.pairwise_cons.1 h
    rw [putXt]
    split
    · rename_i h1
      have hne : y.id ≠ x.id := fun e => by rw [e, UInt32.lt_iff_toNat_lt] at h1; omega
      rw [List.mem_cons, putXt_mem x z h'.2]
      constructor
      · rintro (rfl | ⟨a, b⟩ | ⟨a, ⟨w, b, c⟩ | ⟨b, c⟩⟩)
        · exact .inl ⟨hne, by simp⟩
        · exact .inl ⟨a, List.mem_cons_of_mem _ b⟩
        · exact .inr ⟨a, .inl ⟨w, List.mem_cons_of_mem _ b, c⟩⟩
        · exact .inr ⟨a, .inr ⟨fun w hw => by rcases List.mem_cons.1 hw with rfl | hw; exact hne; exact b w hw, c⟩⟩
      · rintro (⟨a, b⟩ | ⟨a, ⟨w, b, c⟩ | ⟨b, c⟩⟩)
        · rcases List.mem_cons.1 b with rfl | b
          · exact .inl rfl
          · exact .inr (.inl ⟨a, b⟩)
        · rcases List.mem_cons.1 b with rfl | b
          · exact absurd c.1 hne
          · exact .inr (.inr ⟨a, .inl ⟨w, b, c⟩⟩)
        · exact .inr (.inr ⟨a, .inr ⟨fun w hw => b w (List.mem_cons_of_mem _ hw), c⟩⟩)
    · rename_i h1
      split
      · rename_i h2
        have hl : ∀ w ∈ l, w.id ≠ x.id := fun w hw e => by have := xt_lt.1 (h'.1 w hw); rw [e, h2] at this; omega
        rw [List.mem_cons]
        constructor
        · rintro (rfl | a)
          · exact .inr ⟨rfl, .inl ⟨y, by simp, h2, rfl⟩⟩
          · exact .inl ⟨hl z a, List.mem_cons_of_mem _ a⟩
        · rintro (⟨a, b⟩ | ⟨a, ⟨w, b, c, d⟩ | ⟨b, c⟩⟩)
          · rcases List.mem_cons.1 b with rfl | b
            · exact absurd h2 a
            · exact .inr b
          · rcases List.mem_cons.1 b with rfl | b
            · left; obtain ⟨p, q⟩ := z; simp only at a d; rw [a, d]
            · exact absurd c (hl w b)
          · exact absurd h2 (b y (by simp))
      · rename_i h2
        have hl : ∀ w ∈ y :: l, w.id ≠ x.id := fun w hw e => by
          rcases List.mem_cons.1 hw with rfl | hw
          · exact h2 e
          · have := xt_lt.1 (h'.1 w hw); rw [UInt32.lt_iff_toNat_lt] at h1; rw [e] at this; omega
        rw [List.mem_cons]
        constructor
        · rintro (rfl | a)
          · exact .inr ⟨rfl, .inr ⟨hl, rfl⟩⟩
          · exact .inl ⟨hl z a, a⟩
        · rintro (⟨a, b⟩ | ⟨a, ⟨w, b, c, d⟩ | ⟨b, c⟩⟩)
          · exact .inr b
          · exact absurd c (hl w b)
          · left; obtain ⟨p, q⟩ := z; obtain ⟨r, s⟩ := x; simp only at a c; rw [a, c]
theorem putXt_rise (x : Xt) : ∀ {l : List Xt}, l.Pairwise (fun a b => xtLt a b = true) → (putXt x l).Pairwise (fun a b => xtLt a b = true)
  | [], _ => List.pairwise_singleton _ _
  | y :: l, h => by
    have h' := List.pairwise_cons.1 h
    have h2 : ∀ z ∈ l, y.id.toNat < z.id.toNat := fun z hz => xt_lt.1 (h'.1 z hz)
    rw [putXt]
    split
    · rename_i h1
      rw [UInt32.lt_iff_toNat_lt] at h1
      refine List.pairwise_cons.2 ⟨fun z hz => xt_lt.2 ?_, putXt_rise x h'.2⟩
      rcases (putXt_mem x z h'.2).1 hz with ⟨_, b⟩ | ⟨a, _⟩
      · exact h2 z b
      · rw [a]; exact h1
    · rename_i h1
      rw [UInt32.lt_iff_toNat_lt] at h1
      split
      · rename_i h3
        exact List.pairwise_cons.2 ⟨fun z hz => xt_lt.2 (by rw [← h3]; exact h2 z hz), h'.2⟩
      · rename_i h3
        have h4 : x.id.toNat < y.id.toNat := by
          have : y.id.toNat ≠ x.id.toNat := fun e => h3 (UInt32.toNat_inj.1 e)
          omega
        refine List.pairwise_cons.2 ⟨fun z hz => xt_lt.2 ?_, h⟩
        rcases List.mem_cons.1 hz with rfl | hz
        · exact h4
        · have := h2 z hz; omega
theorem ex_snoc {p : Nt → Prop} : (∃ a ∈ l ++ [n], p a) ↔ (∃ a ∈ l, p a) ∨ p n := by
  constructor
  · rintro ⟨a, h, k⟩
    rcases List.mem_append.1 h with h | h
    · exact .inl ⟨a, h, k⟩
    · rw [List.mem_singleton.1 h] at k; exact .inr k
  · rintro (⟨a, h, k⟩ | k)
    · exact ⟨a, List.mem_append.2 (.inl h), k⟩
    · exact ⟨n, by simp, k⟩
theorem Den.none : Den Mf.none [] := ⟨rfl, List.Pairwise.nil, fun x => by simp [Mf.none, sup], List.Pairwise.nil, fun p => by simp [Mf.none], by simp [Mf.none]⟩
theorem note_2 (hn : noteB n = true) (h : n.kind = 2) : n.n.toNat < 16 ∧ 1 ≤ n.m.toNat ∧ n.m.toNat ≤ 1024 := by
  have h1 : ¬ (n.kind = 1) := by rw [h]; decide
  rw [noteB, decide_eq_false h1, decide_eq_true h] at hn
  simp only [cond_false, cond_true, Bool.and_eq_true, decide_eq_true_eq, ge_iff_le, UInt32.lt_iff_toNat_lt, UInt32.le_iff_toNat_le] at hn
  exact ⟨hn.1.1, hn.1.2, hn.2⟩
theorem note_1 (hn : noteB n = true) (h : n.kind = 1) : n.n.toNat ≤ 1024 := by
  rw [noteB, decide_eq_true h] at hn
  simp only [cond_true, Bool.and_eq_true, decide_eq_true_eq, UInt32.le_iff_toNat_le] at hn
  exact hn.1
theorem note_3 (hn : noteB n = true) (h : n.kind = 3) : 1 ≤ n.n.toNat ∧ n.n.toNat ≤ 65535 := by
  have h1 : ¬ (n.kind = 1) := by rw [h]; decide
  have h2 : ¬ (n.kind = 2) := by rw [h]; decide
  rw [noteB, decide_eq_false h1, decide_eq_false h2, decide_eq_true h] at hn
  simp only [cond_false, cond_true, Bool.and_eq_true, decide_eq_true_eq, ge_iff_le, UInt32.le_iff_toNat_le] at hn
  exact hn.1
theorem fBl_no (h : ¬ (n.kind = 2)) (k : UInt32) : fBl k n = 0 := if_neg fun q => h q.1
theorem Den.add (h : Den m l) (hn : noteB n = true) : Den (addM m n) (l ++ [n]) := by
  have k1 : ∀ p, n.kind = 1 ∨ n.kind = 2 ∨ ¬ (n.kind = 3) → ¬ isP p n := fun p q e => by have := e.1; rw [this] at q; revert q; decide
  by_cases e1 : n.kind = 1
  · have e2 : ¬ n.kind = 2 := by rw [e1]; decide
    rw [addM, if_pos e1]
    exact ⟨by rw [sup_snoc, max32, h.pg, fPg, if_pos e1], h.xr, fun x => by rw [sup_snoc, fBl_no e2, Nat.max_zero]; exact h.xm x, h.pr,
      fun p => by rw [ex_snoc, h.pm]; exact ⟨.inl, fun q => q.resolve_right (k1 p (.inl e1))⟩, by rw [ex_snoc]; exact h.cn.trans ⟨.inl, fun q => q.resolve_right fun c => c.1 e1⟩⟩
  have q1 : fPg n = 0 := if_neg e1
  by_cases e2 : n.kind = 2
  · obtain ⟨b1, b2, b3⟩ := note_2 hn e2
    rw [addM, if_neg e1, if_pos e2]
    refine ⟨by rw [sup_snoc, q1, Nat.max_zero]; exact h.pg, putXt_rise _ h.xr, fun z => ?_, h.pr,
      fun p => by rw [ex_snoc, h.pm]; exact ⟨.inl, fun q => q.resolve_right (k1 p (.inr (.inl e2)))⟩, by rw [ex_snoc]; exact h.cn.trans ⟨.inl, fun q => q.resolve_right fun c => c.2.1 e2⟩⟩
    show z ∈ putXt ⟨n.n, n.m⟩ m.xs ↔ _
    rw [putXt_mem _ _ h.xr, sup_snoc]
    by_cases ez : z.id = n.n
    · have ef : fBl z.id n = n.m.toNat := if_pos ⟨e2, ez.symm⟩
      rw [ef]
      constructor
      · rintro (⟨a, _⟩ | ⟨a, ⟨y, b, c, d⟩ | ⟨b, c⟩⟩)
        · exact absurd ez a
        · have hy := (h.xm y).1 b
          have c : y.id = n.n := c
          have d : z.bl = maxU32 n.m y.bl := d
          rw [d, max32, hy.1, c, ez]
          omega
        · have c : z.bl = n.m := c
          have h0 : sup (fBl z.id) l = 0 := by
            rcases Nat.eq_zero_or_pos (sup (fBl z.id) l) with e | e
            · exact e
            · exact absurd ez (b ⟨z.id, UInt32.ofNat (sup (fBl z.id) l)⟩ (sup_xt h z.id e))
          rw [h0, c]; omega
      · rintro ⟨a, _⟩
        right
        refine ⟨ez, ?_⟩
        rcases Nat.eq_zero_or_pos (sup (fBl z.id) l) with e | e
        · right
          refine ⟨fun y hy ey => ?_, UInt32.toNat_inj.1 (by rw [a, e]; simp)⟩
          have hy := (h.xm y).1 hy
          have ey : y.id = n.n := ey
          rw [ey, ← ez, e] at hy; omega
        · left
          refine ⟨_, sup_xt h z.id e, ez, UInt32.toNat_inj.1 ?_⟩
          show z.bl.toNat = (maxU32 n.m (UInt32.ofNat (sup (fBl z.id) l))).toNat
          rw [a, max32, UInt32.toNat_ofNat', Nat.mod_eq_of_lt (sup32 l z.id)]
          omega
    · have ef : fBl z.id n = 0 := if_neg fun q => ez q.2.symm
      rw [ef, Nat.max_zero, ← h.xm]
      exact ⟨fun q => q.elim (fun a => a.2) (fun a => absurd a.1 ez), fun q => .inl ⟨ez, q⟩⟩
  by_cases e3 : n.kind = 3
  · rw [addM, if_neg e1, if_neg e2, if_pos e3]
    refine ⟨by rw [sup_snoc, q1, Nat.max_zero]; exact h.pg, h.xr, fun x => by rw [sup_snoc, fBl_no e2, Nat.max_zero]; exact h.xm x, put1_rise ltU16Tot h.pr,
      fun p => ?_, by rw [ex_snoc]; exact h.cn.trans ⟨.inl, fun q => q.resolve_right fun c => c.2.2 e3⟩⟩
    show p ∈ put1 ltU16 (p16 n.n) m.ps ↔ _
    rw [ex_snoc, put1_mem, h.pm]
    constructor
    · rintro (rfl | q); exact .inr ⟨e3, rfl⟩; exact .inl q
    · rintro (q | q); exact .inr q; exact .inl q.2.symm
  · rw [addM, if_neg e1, if_neg e2, if_neg e3]
    exact ⟨by rw [sup_snoc, q1, Nat.max_zero]; exact h.pg, h.xr, fun x => by rw [sup_snoc, fBl_no e2, Nat.max_zero]; exact h.xm x, h.pr,
      fun p => by rw [ex_snoc, h.pm]; exact ⟨.inl, fun q => q.resolve_right (k1 p (.inr (.inr e3)))⟩, by rw [ex_snoc]; exact ⟨fun _ => .inr ⟨e1, e2, e3⟩, fun _ => rfl⟩⟩
end
theorem ris_iff {α : Type} {r : α → α → Bool} (tr : ∀ a b c, r a b = true → r b c = true → r a c = true) : ∀ {l : List α}, ris r l = true ↔ l.Pairwise fun a b => r a b = true
  | [] => by simp [ris]
  | [a] => by simp [ris]
  | a :: b :: l => by
    rw [ris, Bool.and_eq_true, ris_iff tr, List.pairwise_cons (a := a)]
    constructor
    · rintro ⟨h1, h2⟩
      refine ⟨fun c hc => ?_, h2⟩
      rcases List.mem_cons.1 hc with rfl | hc
      · exact h1
      · exact tr _ _ _ h1 ((List.pairwise_cons.1 h2).1 c hc)
    · rintro ⟨h1, h2⟩
      exact ⟨h1 b (by simp), h2⟩
theorem risX_iff {l : List Xt} : ris xtLt l = true ↔ l.Pairwise fun a b => xtLt a b = true := ris_iff fun a b c h1 h2 => by rw [xt_lt] at *; omega
theorem ris16_iff {l : List UInt16} : ris u16Lt l = true ↔ Rise ltU16 l := ris_iff (r := ltU16) fun _ _ _ h1 h2 => ltU16Tot.trans h1 h2
theorem may_iff {m : Mf} : m.may = true ↔ (∀ x ∈ m.xs, x.id.toNat < 16 ∧ 1 ≤ x.bl.toNat ∧ x.bl.toNat ≤ 1024) ∧ m.xs.Pairwise (fun a b => xtLt a b = true) ∧ Rise ltU16 m.ps ∧ (∀ p ∈ m.ps, p ≠ 0) ∧ m.ps.length ≤ 16 ∧ m.pg.toNat ≤ 1024 := by
  rw [Mf.may, mfMay, Bool.and_eq_true, Bool.and_eq_true, Bool.and_eq_true, Bool.and_eq_true, Bool.and_eq_true, risX_iff, ris16_iff]
  have e1 : (!(m.xs.any xtBad)) = true ↔ ∀ x ∈ m.xs, x.id.toNat < 16 ∧ 1 ≤ x.bl.toNat ∧ x.bl.toNat ≤ 1024 := by
    rw [Bool.not_eq_true', Bool.eq_false_iff, ne_eq, List.any_eq_true]
    constructor
    · intro h x hx
      have h1 : ¬ xtBad x = true := fun e => h ⟨x, hx, e⟩
      simp only [xtBad, Bool.or_eq_true, decide_eq_true_eq, ge_iff_le, gt_iff_lt, UInt32.le_iff_toNat_le, UInt32.lt_iff_toNat_lt, not_or] at h1
      have a1 := h1.1; have a2 := h1.2.1; have a3 := h1.2.2
      simp at a1 a2 a3
      omega
    · rintro h ⟨x, hx, h1⟩
      have h2 := h x hx
      simp only [xtBad, Bool.or_eq_true, decide_eq_true_eq, ge_iff_le, gt_iff_lt, UInt32.le_iff_toNat_le, UInt32.lt_iff_toNat_lt] at h1
      simp at h1
      omega
  have e2 : (!(m.ps.any (u16Is 0))) = true ↔ ∀ p ∈ m.ps, p ≠ 0 := by
    rw [Bool.not_eq_true', Bool.eq_false_iff, ne_eq, List.any_eq_true]
    constructor
    · rintro h p hp rfl; exact h ⟨0, hp, rfl⟩
    · rintro h ⟨p, hp, h1⟩; exact h p hp (of_decide_eq_true h1).symm
  have e3 : (!decide (m.ps.length > 16)) = true ↔ m.ps.length ≤ 16 := by simp
  have e4 : (!decide (m.pg > 1024)) = true ↔ m.pg.toNat ≤ 1024 := by
    rw [Bool.not_eq_true', decide_eq_false_iff_not, gt_iff_lt, UInt32.lt_iff_toNat_lt]; simp
  rw [e1, e2, e3, e4]
section
variable {l l' l2 : List Nt} {m m' u : Mf} {n : Nt} {x y z : Xt}
theorem Den.may (h : Den m l) (hn : l.all noteB = true) (hp : m.ps.length ≤ 16) : m.may = true := by
  have hn := List.all_eq_true.1 hn
  refine may_iff.2 ⟨fun x hx => ?_, h.xr, h.pr, fun p hp => ?_, hp, ?_⟩
  · obtain ⟨h1, h2⟩ := (h.xm x).1 hx
    rcases sup_at (f := fBl x.id) (l := l) with h3 | ⟨n, h3, h4⟩
    · omega
    · rw [fBl] at h4
      split at h4
      · rename_i h5
        obtain ⟨b1, b2, b3⟩ := note_2 (hn n h3) h5.1
        rw [h5.2] at b1
        exact ⟨b1, by omega, by omega⟩
      · omega
  · obtain ⟨n, h1, h2, h3⟩ := (h.pm p).1 hp
    obtain ⟨b1, b2⟩ := note_3 (hn n h1) h2
    rintro rfl
    have := congrArg UInt16.toNat h3
    rw [p16, UInt16.toNat_ofNat', Nat.mod_eq_of_lt (by omega)] at this
    have e0 : (0 : UInt16).toNat = 0 := rfl
    omega
  · rw [h.pg, sup_le]
    intro n h1
    rw [fPg]; split
    · exact note_1 (hn n h1) (by assumption)
    · omega
end
end Go.Spec
/-! from SpecDem3 -/
/- Manifests with the slices that they hang on; the program's gatherer. Plain Lean. -/
namespace Go.Owl
def Deep.arrM {β : Type} (g : β → Value) : Deep (Value × List β) where
  ok := fun w p => Arr w p.1 1 p.2.length (p.2.map g)
  ft := fun p => footA p.1 (p.2.map g)
  lt := fun w p => (Arr.stable p.1 1 p.2.length (p.2.map g)).lt w
  fr := fun T w w' p hf hT h => (Arr.stable p.1 1 p.2.length (p.2.map g)).fr T w w' hf hT h
section
variable {w : World} {E l : List Ent} {j sz n m : Nat} {v v' : Value} {xs xs' : List Value}
/-- A slice that hangs on what is new, or on what another hangs on. -/
def ArFit (w : World) (v' : Value) (xs' : List Value) (v : Value) (xs : List Value) : Prop := ∀ b ∈ footA v' xs', w.heap.size ≤ b ∨ b ∈ footA v xs
theorem Fits.fit (j : Nat) {x : Ent} (h : E[j]? = some (Ent.ar v sz n xs)) (hx : x = Ent.ar v' sz m xs') (hf : ArFit w v' xs' v xs) (k : Fits w E l) : Fits w E (x :: l) := by
  subst hx
  refine k.cons fun b hb => ?_
  rcases hf b hb with h1 | h1
  · exact .inr (.inl h1)
  · exact .inr (.inr ⟨j, _, h, h1⟩)
theorem ArFit.refl : ArFit w v xs v xs := fun _ hb => .inr hb
theorem ArFit.new (h : ∀ b ∈ footA v' xs', w.heap.size ≤ b) : ArFit w v' xs' v xs := fun b hb => .inl (h b hb)
end
end Go.Owl
namespace Go.Spec
open Go.Owl
structure Mm where
  pg : UInt32
  ev : Value
  xs : List Xt
  pv : Value
  ps : List UInt16
  con : Bool
def Mm.zero : Mm := ⟨0, .slice none 0 0, [], .slice none 0 0, [], false⟩
def Mm.f (m : Mm) : Mf := ⟨m.pg, m.xs, m.ps, m.con⟩
section
variable {w : World} {x : Mm} {l : List Mm} {k : Nat}
end
structure Ga where
  pg : UInt32
  bl : List UInt32
  ps : List UInt16
  con : Bool
def Ga.none : Ga := ⟨0, List.replicate 16 0, [], false⟩
def gaAdd (g : Ga) (n : Nt) : Ga :=
  if n.kind = 1 then { g with pg := maxU32 g.pg n.n } else if n.kind = 2 then { g with bl := g.bl.set n.n.toNat (maxU32 (g.bl.getD n.n.toNat 0) n.m) }
  else if n.kind = 3 then { g with ps := g.ps ++ [p16 n.n] } else if n.kind = 4 then { g with con := true } else g
structure GaDen (g : Ga) (l : List Nt) : Prop where
  pg : g.pg.toNat = sup fPg l
  len : g.bl.length = 16
  bl : ∀ k, k < 16 → (g.bl.getD k 0).toNat = sup (fBl (UInt32.ofNat k)) l
  ps : ∀ p, p ∈ g.ps ↔ ∃ n ∈ l, isP p n
  con : g.con = true ↔ ∃ n ∈ l, isC n
section
variable {l : List Nt} {g : Ga} {n : Nt} {k : Nat} {bl : List UInt32}
theorem u32k {k : Nat} {n : UInt32} (hk : k < 16) : n = UInt32.ofNat k ↔ n.toNat = k := by
  rw [← UInt32.toNat_inj, UInt32.toNat_ofNat', Nat.mod_eq_of_lt (by omega)]
theorem note_4 (hn : noteB n = true) (h1 : ¬ n.kind = 1) (h2 : ¬ n.kind = 2) (h3 : ¬ n.kind = 3) : n.kind = 4 := by
  rw [noteB, decide_eq_false h1, decide_eq_false h2, decide_eq_false h3] at hn
  by_cases h : n.kind = 4
  · exact h
  · rw [decide_eq_false h] at hn; cases hn
theorem GaDen.none : GaDen Ga.none [] := ⟨rfl, rfl, fun k hk => by
  have : Ga.none.bl.getD k 0 = 0 := by
    show (List.replicate 16 (0 : UInt32)).getD k 0 = 0
    rw [List.getD, List.getElem?_replicate, if_pos hk]; rfl
  rw [this]; rfl, fun p => by simp [Ga.none], by simp [Ga.none]⟩
theorem GaDen.add (h : GaDen g l) (hn : noteB n = true) : GaDen (gaAdd g n) (l ++ [n]) := by
  have k1 : ∀ p, n.kind = 1 ∨ n.kind = 2 ∨ ¬ (n.kind = 3) → ¬ isP p n := fun p q e => by have := e.1; rw [this] at q; revert q; decide
  by_cases e1 : n.kind = 1
  · have e2 : ¬ n.kind = 2 := by rw [e1]; decide
    rw [gaAdd, if_pos e1]
    exact ⟨by rw [sup_snoc, max32, h.pg, fPg, if_pos e1], h.len, fun k hk => by rw [sup_snoc, fBl_no e2, Nat.max_zero]; exact h.bl k hk,
      fun p => by rw [ex_snoc, h.ps]; exact ⟨.inl, fun q => q.resolve_right (k1 p (.inl e1))⟩, by rw [ex_snoc]; exact h.con.trans ⟨.inl, fun q => q.resolve_right fun c => c.1 e1⟩⟩
  have q1 : fPg n = 0 := if_neg e1
  by_cases e2 : n.kind = 2
  · obtain ⟨b1, b2, b3⟩ := note_2 hn e2
    rw [gaAdd, if_neg e1, if_pos e2]
    refine ⟨by rw [sup_snoc, q1, Nat.max_zero]; exact h.pg, by show (g.bl.set _ _).length = 16; rw [List.length_set]; exact h.len, fun k hk => ?_,
      fun p => by rw [ex_snoc, h.ps]; exact ⟨.inl, fun q => q.resolve_right (k1 p (.inr (.inl e2)))⟩, by rw [ex_snoc]; exact h.con.trans ⟨.inl, fun q => q.resolve_right fun c => c.2.1 e2⟩⟩
    show ((g.bl.set n.n.toNat (maxU32 (g.bl.getD n.n.toNat 0) n.m)).getD k 0).toNat = _
    rw [getD_set _ _ _ _ (by rw [h.len]; exact b1), sup_snoc]
    by_cases ek : k = n.n.toNat
    · rw [if_pos ek, max32, h.bl _ b1, ek, fBl, if_pos ⟨e2, (u32k b1).2 rfl⟩]
    · rw [if_neg ek, h.bl k hk, fBl, if_neg (fun q => ek ((u32k hk).1 q.2).symm), Nat.max_zero]
  by_cases e3 : n.kind = 3
  · rw [gaAdd, if_neg e1, if_neg e2, if_pos e3]
    refine ⟨by rw [sup_snoc, q1, Nat.max_zero]; exact h.pg, h.len, fun k hk => by rw [sup_snoc, fBl_no e2, Nat.max_zero]; exact h.bl k hk, fun p => ?_, by rw [ex_snoc]; exact h.con.trans ⟨.inl, fun q => q.resolve_right fun c => c.2.2 e3⟩⟩
    show p ∈ g.ps ++ [p16 n.n] ↔ _
    rw [ex_snoc, List.mem_append, h.ps, List.mem_singleton]
    constructor
    · rintro (q | rfl); exact .inl q; exact .inr ⟨e3, rfl⟩
    · rintro (q | q); exact .inl q; exact .inr q.2.symm
  · rw [gaAdd, if_neg e1, if_neg e2, if_neg e3, if_pos (note_4 hn e1 e2 e3)]
    exact ⟨by rw [sup_snoc, q1, Nat.max_zero]; exact h.pg, h.len, fun k hk => by rw [sup_snoc, fBl_no e2, Nat.max_zero]; exact h.bl k hk,
      fun p => by rw [ex_snoc, h.ps]; exact ⟨.inl, fun q => q.resolve_right (k1 p (.inr (.inr e3)))⟩, by rw [ex_snoc]; exact ⟨fun _ => .inr ⟨e1, e2, e3⟩, fun _ => rfl⟩⟩
end
end Go.Spec
/-! from SpecCap -/
/- Caps: grants of a machine. Plain Lean. -/
namespace Go.Spec
open Go.Owl
/-- A grant: whose, its block, its stamp in the map; its manifest; pages besides; how many are taken. -/
structure Gr where
  e : Nat
  b : Nat
  r : Nat
  pg : UInt32
  ev : Value
  xs : List Xt
  pv : Value
  ps : List UInt16
  con : Bool
  pp : UInt32
  tk : UInt32
def Gr.cells (g : Gr) : List Value := [vU32 g.pg, g.ev, g.pv, .bool g.con, vU32 g.pp, vU32 g.tk]
def Gr.me (g : Gr) : ME := ⟨g.e, g.b, g.r⟩
def grD : Deep Gr := ((Deep.arr 2 xtc).on (fun g => (g.ev, g.xs))).and ((Deep.arrM vU16).on (fun g => (g.pv, g.ps)))
def sumU : List UInt32 → UInt32
  | [] => 0
  | a :: l => a + sumU l
theorem sumU_app : ∀ (l m : List UInt32), sumU (l ++ m) = sumU l + sumU m
  | [], m => by rw [List.nil_append, sumU, UInt32.zero_add]
  | a :: l, m => by rw [List.cons_append, sumU, sumU, sumU_app l m, UInt32.add_assoc]
theorem sumU_perm {l m : List UInt32} (h : l.Perm m) : sumU l = sumU m := by
  induction h with
  | nil => rfl
  | cons a _ ih => rw [sumU, sumU, ih]
  | swap a b l => rw [sumU, sumU, sumU, sumU, ← UInt32.add_assoc, ← UInt32.add_assoc, UInt32.add_comm b a]
  | trans _ _ h1 h2 => exact h1.trans h2
def usedS (gs : List Gr) : UInt32 := sumU (gs.map fun g => g.pg + g.pp)
theorem usedS_snoc (l : List Gr) (g : Gr) : usedS (l ++ [g]) = usedS l + (g.pg + g.pp) := by
  rw [usedS, List.map_append, sumU_app]
  show sumU _ + (g.pg + g.pp + 0) = _
  rw [UInt32.add_zero]; rfl
theorem usedS_perm {l m : List Gr} (h : l.Perm m) : usedS l = usedS m := sumU_perm (h.map _)
def freeS (pg : UInt32) (gs : List Gr) : UInt32 := pg - usedS gs
theorem freeS_snoc (pg : UInt32) (l : List Gr) (g : Gr) : freeS pg l - (g.pg + g.pp) = freeS pg (l ++ [g]) := by
  rw [freeS, freeS, usedS_snoc]
  apply UInt32.toNat_inj.1
  have h1 := (usedS l).toNat_lt
  have h2 := pg.toNat_lt
  simp only [UInt32.toNat_sub, UInt32.toNat_add]
  omega
theorem freeS_nil (pg : UInt32) : freeS pg [] = pg := by
  show pg - 0 = pg
  rw [UInt32.sub_zero]
theorem freeS_perm {pg : UInt32} {l m : List Gr} (h : l.Perm m) : freeS pg l = freeS pg m := by rw [freeS, freeS, usedS_perm h]
end Go.Spec
/-! from SpecCap2 -/
/- Caps: why a manifest is not granted. Plain Lean. -/
namespace Go.Spec
open Go.Owl
def noneX (he : List UInt32) (x : Xt) : Bool := decide (x.id.toNat ≥ he.length)
def noneE (he : List UInt32) (xs : List Xt) : Nat := if xs.any (noneX he) = true then 3 else 0
def longX (he : List UInt32) (x : Xt) : Bool := decide (x.id.toNat < he.length) && decide (x.bl > he.getD x.id.toNat 0)
def longE (he : List UInt32) (xs : List Xt) : Nat := if xs.any (longX he) = true then 5 else 0
def busyQ (g : Gr) (y : UInt16) : Bool := g.ps.any (u16Is y)
def xtIs (id : UInt32) (x : Xt) : Bool := decide (x.id = id)
def hasX (xs : List Xt) (id : UInt32) : Bool := xs.any (xtIs id)
def busyX (g : Gr) (x : Xt) : Bool := hasX g.xs x.id
def busyG (xs : List Xt) (ps : List UInt16) (g : Gr) : Bool := ps.any (busyQ g) || xs.any (busyX g)
def busyE (gs : List Gr) (xs : List Xt) (ps : List UInt16) : Nat := if gs.any (busyG xs ps) = true then 190 else 0
def fullE (pg : UInt32) (gs : List Gr) (mp pages : UInt32) : Nat := if mp + pages > freeS pg gs then 4 else 0
section
variable {he : List UInt32} {xs : List Xt} {k : Nat}
theorem noneE_yes (hk : k < xs.length) (h : (xs.getD k Xt.zero).id.toNat ≥ he.length) : noneE he xs = 3 := if_pos (any_yes (d := Xt.zero) hk (decide_eq_true h))
theorem noneE_no (h : ∀ j, j < xs.length → ¬ (xs.getD j Xt.zero).id.toNat ≥ he.length) : noneE he xs = 0 := by
  rw [noneE, any_no (d := Xt.zero) (fun j hj => decide_eq_false (h j hj))]; rfl
theorem longE_yes (hk : k < xs.length) (h : longX he (xs.getD k Xt.zero) = true) : longE he xs = 5 := if_pos (any_yes (d := Xt.zero) hk h)
theorem longE_no (h : ∀ j, j < xs.length → longX he (xs.getD j Xt.zero) = false) : longE he xs = 0 := by
  rw [longE, any_no (d := Xt.zero) h]; rfl
end
theorem any_perm {α : Type} {p : α → Bool} {l m : List α} (h : l.Perm m) : l.any p = m.any p := by
  induction h with
  | nil => rfl
  | cons a _ ih => rw [List.any_cons, List.any_cons, ih]
  | swap a b l => simp only [List.any_cons]; cases p a <;> cases p b <;> rfl
  | trans _ _ h1 h2 => exact h1.trans h2
end Go.Spec
namespace Go.Spec
open Go.Owl
/-- A manifest's part of an extent. -/
def extG (xs : List Xt) (id : UInt32) : Xt := (xs.find? (xtIs id)).getD Xt.zero
theorem extG_yes {xs : List Xt} {id : UInt32} : ∀ {k : Nat}, k < xs.length → (∀ j, j < k → xtIs id (xs.getD j Xt.zero) = false) → xtIs id (xs.getD k Xt.zero) = true → extG xs id = xs.getD k Xt.zero ∧ hasX xs id = true := fun {k} hk h1 h2 => by
  refine ⟨?_, any_yes (d := Xt.zero) hk h2⟩
  induction xs generalizing k with
  | nil => cases hk
  | cons x xs ih =>
    cases k with
    | zero =>
      have h3 : xtIs id x = true := h2
      rw [extG, List.find?_cons_of_pos h3]; rfl
    | succ k =>
      have h3 : xtIs id x = false := h1 0 (by omega)
      have h4 := ih (k := k) (by simpa using hk) (fun j hj => h1 (j + 1) (by omega)) h2
      rw [extG, List.find?_cons_of_neg (by rw [h3]; decide)]; exact h4
theorem extG_no {xs : List Xt} {id : UInt32} (h : ∀ j, j < xs.length → xtIs id (xs.getD j Xt.zero) = false) : extG xs id = Xt.zero ∧ hasX xs id = false := by
  have h2 : hasX xs id = false := any_no (d := Xt.zero) h
  refine ⟨?_, h2⟩
  rw [extG, List.find?_eq_none.2]
  · rfl
  · intro x hx hx2
    have := List.any_eq_false.1 h2 x hx
    exact this hx2
theorem busyE_yes {gs : List Gr} {g : Gr} {xs : List Xt} {ps : List UInt16} (hg : g ∈ gs) (h : busyG xs ps g = true) : busyE gs xs ps = 190 := if_pos (List.any_eq_true.2 ⟨g, hg, h⟩)
theorem busyE_no {gs sn : List Gr} {xs : List Xt} {ps : List UInt16} (hp : gs.Perm sn) (h : ∀ g ∈ sn, busyG xs ps g = false) : busyE gs xs ps = 0 := by
  rw [busyE, any_perm hp, if_neg]
  intro h2
  obtain ⟨g, hg, h3⟩ := List.any_eq_true.1 h2
  rw [h g hg] at h3; cases h3
end Go.Spec
namespace Go.Spec
open Go.Owl
/-- The first reason why not. -/
def whyE (pg : UInt32) (he : List UInt32) (gs : List Gr) (mp : UInt32) (xs : List Xt) (ps : List UInt16) (pages : UInt32) : Nat :=
  if noneE he xs ≠ 0 then noneE he xs else if longE he xs ≠ 0 then longE he xs else if busyE gs xs ps ≠ 0 then busyE gs xs ps else fullE pg gs mp pages
end Go.Spec
/-! from SpecCap3 -/
/- Caps: what is done to grants, without their places. Plain Lean. -/
namespace Go.Spec
open Go.Owl
/-- A grant without its places. -/
def Gr.bare (g : Gr) : Gr := { g with b := 0, r := 0, ev := .slice none 0 0, pv := .slice none 0 0 }
def Gr.no : Gr := ⟨0, 0, 0, 0, .slice none 0 0, [], .slice none 0 0, [], false, 0, 0⟩
def grIs (en : Int) (g : Gr) : Bool := decide ((g.e : Int) = en)
def hasE (gs : List Gr) (en : Int) : Bool := gs.any (grIs en)
def obs (gs : List Gr) (en : Int) : Gr := (gs.find? (grIs en)).getD Gr.no
structure CapI (gs : List Gr) (cn : Nat) : Prop where
  me : MEok (List.map Gr.me gs) cn
  fit : ∀ g ∈ gs, g.ps.length < 2 ^ 40 ∧ g.xs.length < 2 ^ 40
theorem CapI.nil (cn : Nat) : CapI [] cn := ⟨MEok.nil cn, fun g h => by cases h⟩
theorem hasE_no {gs : List Gr} {en : Int} (h : hasE gs en = false) : ∀ g ∈ gs, (g.e : Int) ≠ en := fun g hg he => by
  have := List.any_eq_false.1 h g hg
  exact this (decide_eq_true he)
theorem obs_no {gs : List Gr} {en : Int} (h : hasE gs en = false) : obs gs en = Gr.no := by
  rw [obs, List.find?_eq_none.2]
  · rfl
  · intro g hg h2; exact hasE_no h g hg (of_decide_eq_true h2)
theorem obs_yes {gs : List Gr} {en : Int} (h : hasE gs en = true) : obs gs en ∈ gs ∧ ((obs gs en).e : Int) = en := by
  obtain ⟨g, hg, h2⟩ := List.any_eq_true.1 h
  cases h3 : gs.find? (grIs en) with
  | none => exact absurd h2 (by have := List.find?_eq_none.1 h3 g hg; simpa using this)
  | some g' =>
    have e : obs gs en = g' := by rw [obs, h3]; rfl
    rw [e]
    exact ⟨List.mem_of_find?_eq_some h3, of_decide_eq_true (List.find?_some (p := grIs en) h3)⟩
theorem hasE_true {gs : List Gr} {en : Int} {g : Gr} (hg : g ∈ gs) (he : (g.e : Int) = en) : hasE gs en = true := List.any_eq_true.2 ⟨g, hg, decide_eq_true he⟩
theorem CapI.kn {gs : List Gr} {cn : Nat} (h : CapI gs cn) : (gs.map Gr.e).Nodup := by
  have := h.me.kn
  rw [List.map_map] at this
  exact this
theorem nodup_one {α : Type} {f : α → Nat} : ∀ {l : List α} {a b : α}, (l.map f).Nodup → a ∈ l → b ∈ l → f a = f b → a = b
  | x :: l, a, b, h, ha, hb, e => by
    rw [List.map_cons, List.nodup_cons] at h
    rcases List.mem_cons.1 ha with ha1 | ha1 <;> rcases List.mem_cons.1 hb with hb1 | hb1
    · rw [ha1, hb1]
    · exact absurd (List.mem_map.2 ⟨b, hb1, by rw [← e, ha1]⟩) h.1
    · exact absurd (List.mem_map.2 ⟨a, ha1, by rw [e, hb1]⟩) h.1
    · exact nodup_one h.2 ha1 hb1 e
def grantE (pg : UInt32) (he : List UInt32) (gs : List Gr) (en : Int) (mp : UInt32) (xs : List Xt) (ps : List UInt16) (pages : UInt32) : Nat :=
  if (en < 1 ∨ en > 8) ∨ mfE mp xs ps ≠ 0 ∨ pages > 4096 then 2 else if hasE gs en = true then 9 else whyE pg he gs mp xs ps pages
def grantG (pg : UInt32) (he : List UInt32) (gs : List Gr) (en : Int) (mp : UInt32) (xs : List Xt) (ps : List UInt16) (con : Bool) (pages : UInt32) : List Gr :=
  if grantE pg he gs en mp xs ps pages = 0 then gs ++ [⟨en.toNat, 0, 0, mp, .slice none 0 0, xs, .slice none 0 0, ps, con, pages, 0⟩] else gs
def relE (gs : List Gr) (en : Int) : Nat := if hasE gs en = true then 0 else 3
def relG (gs : List Gr) (en : Int) : List Gr := gs.filter (fun g => !(grIs en g))
def takeE (gs : List Gr) (en : Int) : Nat := if hasE gs en = true then (if (obs gs en).tk ≥ (obs gs en).pg then 4 else 0) else 3
def giveE (gs : List Gr) (en : Int) : Nat := if hasE gs en = true then (if (obs gs en).tk = 0 then 2 else 0) else 3
def updG (f : Gr → Gr) (gs : List Gr) (en : Int) : List Gr := gs.map (fun g => if grIs en g = true then f g else g)
def takeG (gs : List Gr) (en : Int) : List Gr := if takeE gs en = 0 then updG (fun g => { g with tk := g.tk + 1 }) gs en else gs
def giveG (gs : List Gr) (en : Int) : List Gr := if giveE gs en = 0 then updG (fun g => { g with tk := g.tk - 1 }) gs en else gs
section
variable {gs l1 l2 : List Gr} {g : Gr} {cn : Nat} {en : Int}
theorem CapI.split (h : CapI (l1 ++ g :: l2) cn) (he : (g.e : Int) = en) : (∀ x ∈ l1, grIs en x = false) ∧ (∀ x ∈ l2, grIs en x = false) := by
  have hk := h.kn
  rw [List.map_append, List.map_cons, nodup_mid] at hk
  refine ⟨fun x hx => decide_eq_false fun hx2 => hk.1 ?_, fun x hx => decide_eq_false fun hx2 => hk.1 ?_⟩
  · rw [show g.e = x.e by omega]; exact List.mem_append.2 (.inl (List.mem_map.2 ⟨x, hx, rfl⟩))
  · rw [show g.e = x.e by omega]; exact List.mem_append.2 (.inr (List.mem_map.2 ⟨x, hx, rfl⟩))
theorem CapI.rel (h : CapI (l1 ++ g :: l2) cn) (he : (g.e : Int) = en) : relG (l1 ++ g :: l2) en = l1 ++ l2 := by
  obtain ⟨h1, h2⟩ := h.split he
  rw [relG, List.filter_append, List.filter_cons, if_neg (by rw [show grIs en g = true from decide_eq_true he]; decide), List.filter_eq_self.2 (fun x hx => by rw [h1 x hx]; rfl), List.filter_eq_self.2 (fun x hx => by rw [h2 x hx]; rfl)]
theorem updG_no {f : Gr → Gr} {l : List Gr} (h : ∀ x ∈ l, grIs en x = false) : updG f l en = l := by
  rw [updG]
  conv => rhs; rw [← List.map_id l]
  exact List.map_congr_left (fun x hx => by rw [h x hx]; rfl)
theorem CapI.updG {f : Gr → Gr} (h : CapI (l1 ++ g :: l2) cn) (he : (g.e : Int) = en) : Go.Spec.updG f (l1 ++ g :: l2) en = l1 ++ f g :: l2 := by
  obtain ⟨h1, h2⟩ := h.split he
  have e1 := updG_no (f := f) h1
  have e2 := updG_no (f := f) h2
  rw [Go.Spec.updG] at e1 e2 ⊢
  rw [List.map_append, List.map_cons, e1, e2, if_pos (show grIs en g = true from decide_eq_true he)]
theorem relG_no (h : hasE gs en = false) : relG gs en = gs := List.filter_eq_self.2 (fun x hx => by rw [show grIs en x = false from decide_eq_false (hasE_no h x hx)]; rfl)
theorem grIs_bare (g : Gr) : grIs en g.bare = grIs en g := rfl
theorem hasE_bare : hasE (gs.map Gr.bare) en = hasE gs en := by rw [hasE, hasE, List.any_map]; rfl
theorem find_map {α β : Type} {f : α → β} {p : β → Bool} {q : α → Bool} (h : ∀ a, p (f a) = q a) : ∀ (l : List α), (l.map f).find? p = (l.find? q).map f
  | [] => rfl
  | a :: l => by
    rw [List.map_cons]
    cases h2 : q a with
    | true => rw [List.find?_cons_of_pos (by rw [h, h2]), List.find?_cons_of_pos h2]; rfl
    | false => rw [List.find?_cons_of_neg (by rw [h, h2]; decide), List.find?_cons_of_neg (by rw [h2]; decide)]; exact find_map h l
theorem obs_bare : obs (gs.map Gr.bare) en = (obs gs en).bare := by
  rw [obs, find_map (f := Gr.bare) (p := grIs en) (q := grIs en) (fun a => rfl), obs]
  cases gs.find? (grIs en) <;> rfl
theorem usedS_bare : usedS (gs.map Gr.bare) = usedS gs := by rw [usedS, usedS, List.map_map]; rfl
theorem whyE_bare {pg : UInt32} {he : List UInt32} {mp : UInt32} {xs : List Xt} {ps : List UInt16} {pages : UInt32} : whyE pg he (gs.map Gr.bare) mp xs ps pages = whyE pg he gs mp xs ps pages := by
  have h1 : busyE (gs.map Gr.bare) xs ps = busyE gs xs ps := by rw [busyE, busyE, List.any_map]; rfl
  have h2 : fullE pg (gs.map Gr.bare) mp pages = fullE pg gs mp pages := by rw [fullE, fullE, freeS, freeS, usedS_bare]
  rw [whyE, whyE, h1, h2]
theorem grantE_bare {pg : UInt32} {he : List UInt32} {mp : UInt32} {xs : List Xt} {ps : List UInt16} {pages : UInt32} : grantE pg he (gs.map Gr.bare) en mp xs ps pages = grantE pg he gs en mp xs ps pages := by
  rw [grantE, grantE, whyE_bare, hasE_bare]
theorem takeE_bare : takeE (gs.map Gr.bare) en = takeE gs en := by rw [takeE, takeE, hasE_bare, obs_bare]; rfl
theorem giveE_bare : giveE (gs.map Gr.bare) en = giveE gs en := by rw [giveE, giveE, hasE_bare, obs_bare]; rfl
theorem relG_bare : relG (gs.map Gr.bare) en = (relG gs en).map Gr.bare := by rw [relG, relG, List.filter_map]; rfl
theorem updG_bare {f : Gr → Gr} (hf : ∀ g, (f g).bare = f g.bare) : updG f (gs.map Gr.bare) en = (updG f gs en).map Gr.bare := by
  rw [updG, updG, List.map_map, List.map_map]
  refine List.map_congr_left fun g hg => ?_
  show (if grIs en g.bare = true then f g.bare else g.bare) = (if grIs en g = true then f g else g).bare
  rw [grIs_bare]
  split
  · exact (hf g).symm
  · rfl
theorem takeG_bare : takeG (gs.map Gr.bare) en = (takeG gs en).map Gr.bare := by
  rw [takeG, takeG, takeE_bare, apply_ite (List.map Gr.bare), updG_bare (f := fun g => { g with tk := g.tk + 1 }) (fun g => rfl)]
theorem giveG_bare : giveG (gs.map Gr.bare) en = (giveG gs en).map Gr.bare := by
  rw [giveG, giveG, giveE_bare, apply_ite (List.map Gr.bare), updG_bare (f := fun g => { g with tk := g.tk - 1 }) (fun g => rfl)]
theorem CapI.add {b : Nat} {mp : UInt32} {v1 v2 : Value} {xs : List Xt} {ps : List UInt16} {con : Bool} {pages tk : UInt32} {k : Nat} (h : CapI gs cn) (hk : ∀ g ∈ gs, g.e ≠ k) (hn : xs.length < 2 ^ 40) (hm : ps.length < 2 ^ 40) : CapI (gs ++ [⟨k, b, cn, mp, v1, xs, v2, ps, con, pages, tk⟩]) (cn + 1) := by
  refine ⟨?_, fun g hg => ?_⟩
  · rw [List.map_append]
    exact h.me.add (fun x hx => by obtain ⟨g, hg, rfl⟩ := List.mem_map.1 hx; exact hk g hg)
  · rcases List.mem_append.1 hg with hg | hg
    · exact h.fit g hg
    · rw [List.mem_singleton] at hg; subst hg; exact ⟨hm, hn⟩
theorem CapI.del (h : CapI (l1 ++ g :: l2) cn) : CapI (l1 ++ l2) cn := by
  refine ⟨?_, fun x hx => h.fit x (by rcases List.mem_append.1 hx with hx | hx <;> simp [hx])⟩
  have := h.me
  rw [List.map_append, List.map_cons] at this
  rw [List.map_append]
  exact this.del
theorem CapI.put {g' : Gr} (h : CapI (l1 ++ g :: l2) cn) (hm : g'.me = g.me) (hp : g'.ps = g.ps) (hx : g'.xs = g.xs) : CapI (l1 ++ g' :: l2) cn := by
  refine ⟨?_, fun x hx2 => ?_⟩
  · have := h.me
    rw [List.map_append, List.map_cons] at this ⊢
    rw [hm]; exact this
  · rcases List.mem_append.1 hx2 with hx3 | hx3
    · exact h.fit x (by simp [hx3])
    · rcases List.mem_cons.1 hx3 with rfl | hx3
      · rw [hp, hx]; exact h.fit g (by simp)
      · exact h.fit x (by simp [hx3])
end
/-- Grants, and what they are without places. -/
def CapR (gs : List Gr) (cn : Nat) (l : List Gr) : Prop := CapI gs cn ∧ gs.map Gr.bare = l
/-- What new things hang on: what is new, or what the old ones hung on. -/
def DpTo (w : World) (gs gs' : List Gr) : Prop := ∀ b ∈ grD.list.ft gs', w.heap.size ≤ b ∨ b ∈ grD.list.ft gs
theorem DpTo.sub {w : World} {gs gs' : List Gr} (h : ∀ g ∈ gs', g ∈ gs) : DpTo w gs gs' := fun b hb => .inr (by
  obtain ⟨g, hg, hb⟩ := List.mem_flatMap.1 hb
  exact List.mem_flatMap.2 ⟨g, h g hg, hb⟩)
theorem DpTo.put {w : World} {l1 l2 : List Gr} {g g' : Gr} (h : grD.ft g' = grD.ft g) : DpTo w (l1 ++ g :: l2) (l1 ++ g' :: l2) := fun b hb => .inr (by
  obtain ⟨x, hx, hb2⟩ := List.mem_flatMap.1 hb
  rcases List.mem_append.1 hx with hx | hx
  · exact List.mem_flatMap.2 ⟨x, by simp [hx], hb2⟩
  · rcases List.mem_cons.1 hx with rfl | hx
    · exact List.mem_flatMap.2 ⟨g, by simp, by rw [← h]; exact hb2⟩
    · exact List.mem_flatMap.2 ⟨x, by simp [hx], hb2⟩)
theorem DpTo.add {w : World} {gs : List Gr} {g : Gr} (h : ∀ b ∈ grD.ft g, w.heap.size ≤ b) : DpTo w gs (gs ++ [g]) := fun b hb => by
  obtain ⟨x, hx, hb2⟩ := List.mem_flatMap.1 hb
  rcases List.mem_append.1 hx with hx | hx
  · exact .inr (List.mem_flatMap.2 ⟨x, hx, hb2⟩)
  · rw [List.mem_singleton] at hx; subst hx; exact .inl (h b hb2)
section
variable {gs l : List Gr} {cn : Nat} {en : Int}
theorem CapR.nil (cn : Nat) : CapR [] cn [] := ⟨CapI.nil cn, rfl⟩
theorem CapR.has (h : CapR gs cn l) : hasE gs en = hasE l en := by rw [← h.2, hasE_bare]
theorem CapR.obs (h : CapR gs cn l) : Go.Spec.obs l en = (Go.Spec.obs gs en).bare := by rw [← h.2, obs_bare]
theorem CapR.free {pg : UInt32} (h : CapR gs cn l) : freeS pg gs = freeS pg l := by rw [freeS, freeS, ← h.2, usedS_bare]
end
end Go.Spec
namespace Go.Spec
def largeC (xs : List Xt) (ps : List UInt16) : Bool := decide (xs.length > 40) || decide (ps.length > 40)
end Go.Spec
namespace Go.Spec
open Go.Owl
theorem DpTo.mono {gs gs2 : List Gr} {w w1 : World} (h : DpTo w1 gs gs2) (hs : w.heap.size ≤ w1.heap.size) : DpTo w gs gs2 := fun b hb => (h b hb).imp (fun q => Nat.le_trans hs q) id
theorem DpTo.trans {gs gs2 gs3 : List Gr} {w : World} (h : DpTo w gs gs2) (k : DpTo w gs2 gs3) : DpTo w gs gs3 := fun b hb => (k b hb).elim .inl (fun q => h b q)
end Go.Spec
/-! from SpecSort6 -/
/- Sorted rows of numbers: what the swaps come to. Plain Lean. -/
namespace Go.Spec
open Go.Owl
def ltN (a b : Nat) : Bool := decide (a < b)
theorem ltNOK : LtOK ltN := by
  refine ⟨fun a => ?_, fun a b h1 => ?_, fun a b c h1 h2 => ?_⟩
  · exact decide_eq_false (by omega)
  · have := of_decide_eq_true h1; exact decide_eq_false (by omega)
  · have := of_decide_eq_false h1; have := of_decide_eq_false h2; exact decide_eq_false (by omega)
theorem swapL_perm {α : Type} {d : α} {l : List α} {i j : Nat} (hi : i < l.length) (hj : j < l.length) : (swapL d l i j).Perm l := by
  have h := List.set_set_perm hi hj
  rw [swapL, show l.getD j d = l[j] by simp [List.getD, hj], show l.getD i d = l[i] by simp [List.getD, hi]]
  exact h
theorem Sw.perm {α : Type} {d : α} {a b : Nat} {l l' : List α} (h : Sw d a b l l') (hb : b ≤ l.length) : l'.Perm l := by
  induction h with
  | refl => exact List.Perm.refl _
  | step h h1 h2 h3 h4 ih =>
    have e := h.len
    exact (swapL_perm (by omega) (by omega)).trans ih
theorem SortS.pair {α : Type} {d : α} {lt : α → α → Bool} {l : List α} (h : SortS lt d 0 l.length l) : l.Pairwise (fun x y => lt y x = false) := by
  rw [List.pairwise_iff_getElem]
  intro i j hi hj hij
  have := h i j (Nat.zero_le _) hij hj
  simpa [List.getD, hi, hj] using this
end Go.Spec
/-! from SpecSort4 -/
/- Lengths in bits, by a table. Plain Lean. -/
namespace Go.Spec
open Go.Owl
def tab8 : List UInt8 := (List.range 256).map (fun n => UInt8.ofNat (lenN n))
theorem tab8_len : tab8.length = 256 := by simp [tab8]
theorem tab8_get {n : Nat} (h : n < 256) : (tab8.getD n 0).toNat = lenN n := by
  have h1 : lenN n ≤ 8 := lenN_le (k := 8) h
  simp only [tab8, List.getD, List.getElem?_map, List.getElem?_range h, Option.map_some, Option.getD_some, UInt8.toNat_ofNat']
  omega
theorem shr64 (x : UInt64) {k : Nat} : (shrU64 x k).toNat = x.toNat / 2 ^ k := by
  have := x.toNat_lt
  rw [shrU64, UInt64.toNat_ofNat', Nat.shiftRight_eq_div_pow]
  exact Nat.mod_eq_of_lt (Nat.lt_of_le_of_lt (Nat.div_le_self _ _) this)
theorem blen_all {x x1 x2 x3 : UInt64} {n1 n2 n3 : Nat} (h1 : (4294967296 ≤ x.toNat ∧ x1 = shrU64 x 32 ∧ n1 = 32) ∨ (x.toNat < 4294967296 ∧ x1 = x ∧ n1 = 0)) (h2 : (65536 ≤ x1.toNat ∧ x2 = shrU64 x1 16 ∧ n2 = n1 + 16) ∨ (x1.toNat < 65536 ∧ x2 = x1 ∧ n2 = n1))
    (h3 : (256 ≤ x2.toNat ∧ x3 = shrU64 x2 8 ∧ n3 = n2 + 8) ∨ (x2.toNat < 256 ∧ x3 = x2 ∧ n3 = n2)) : n3 + (tab8.getD (UInt8.ofNat x3.toNat).toNat 0).toNat = lenN x.toNat := by
  have hx := x.toNat_lt
  have a1 : x1.toNat < 4294967296 ∧ lenN x.toNat = n1 + lenN x1.toNat := by
    rcases h1 with ⟨h, rfl, rfl⟩ | ⟨h, rfl, rfl⟩
    · rw [shr64]
      have := lenN_shift (n := x.toNat) (k := 32) h
      exact ⟨by omega, by omega⟩
    · exact ⟨h, by omega⟩
  have a2 : x2.toNat < 65536 ∧ lenN x1.toNat + n1 = n2 + lenN x2.toNat := by
    rcases h2 with ⟨h, rfl, rfl⟩ | ⟨h, rfl, rfl⟩
    · rw [shr64]
      have := lenN_shift (n := x1.toNat) (k := 16) h
      exact ⟨by omega, by omega⟩
    · exact ⟨h, by omega⟩
  have a3 : x3.toNat < 256 ∧ lenN x2.toNat + n2 = n3 + lenN x3.toNat := by
    rcases h3 with ⟨h, rfl, rfl⟩ | ⟨h, rfl, rfl⟩
    · rw [shr64]
      have := lenN_shift (n := x2.toNat) (k := 8) h
      exact ⟨by omega, by omega⟩
    · exact ⟨h, by omega⟩
  rw [show (UInt8.ofNat x3.toNat).toNat = x3.toNat by rw [UInt8.toNat_ofNat']; omega, tab8_get a3.1]
  omega
theorem tab8_add (c : UInt8) {k : Nat} (h : k ≤ 56) : k + c.toNat ≤ 9223372036854775807 := by have := c.toNat_lt; omega
theorem tab8_in (c : UInt8) : c.toNat < tab8.length := by rw [tab8_len]; exact c.toNat_lt
end Go.Spec
/-! from SpecCap4 -/
/- Caps: the law of grants that are apart. Plain Lean. -/
namespace Go.Spec
open Go.Owl
structure Lw (he : List UInt32) (l : List Gr) (tb : List UInt32) : Prop where
  tl : tb.length = 9
  en : ∀ g ∈ l, 1 ≤ g.e ∧ g.e ≤ 8
  nd : (l.map Gr.e).Nodup
  tk : ∀ g ∈ l, g.tk ≤ g.pg
  pp : ∀ g ∈ l, tb.getD g.e 0 = g.pp
  ap : l.Pairwise (fun a b => (∀ y, ¬ (busyQ a y = true ∧ busyQ b y = true)) ∧ ∀ id, ¬ (hasX a.xs id = true ∧ hasX b.xs id = true))
  ins : ∀ g ∈ l, ∀ x ∈ g.xs, x.id.toNat < he.length ∧ x.bl ≤ he.getD x.id.toNat 0
section
variable {pg : UInt32} {he tb : List UInt32} {l : List Gr} {en : Int} {mp pages : UInt32} {xs : List Xt} {ps : List UInt16} {con : Bool}
theorem Lw.nil : Lw he [] (List.replicate 9 0) := ⟨rfl, fun g h => (by cases h), List.nodup_nil, fun g h => (by cases h), fun g h => (by cases h), List.Pairwise.nil, fun g h => (by cases h)⟩
theorem grantE_0 (h : grantE pg he l en mp xs ps pages = 0) : (1 ≤ en ∧ en ≤ 8) ∧ hasE l en = false ∧ noneE he xs = 0 ∧ longE he xs = 0 ∧ busyE l xs ps = 0 := by
  rw [grantE] at h
  split at h
  · cases h
  · rename_i h1
    split at h
    · cases h
    · rename_i h2
      rw [whyE] at h
      by_cases h3 : noneE he xs = 0
      · rw [if_neg (fun k => k h3)] at h
        by_cases h4 : longE he xs = 0
        · rw [if_neg (fun k => k h4)] at h
          by_cases h5 : busyE l xs ps = 0
          · exact ⟨⟨by omega, by omega⟩, by simpa using h2, h3, h4, h5⟩
          · rw [if_pos h5] at h; exact absurd h h5
        · rw [if_pos h4] at h; exact absurd h h4
      · rw [if_pos h3] at h; exact absurd h h3
theorem noneE_0 (h : noneE he xs = 0) : ∀ x ∈ xs, x.id.toNat < he.length := fun x hx => by
  rw [noneE] at h
  split at h
  · cases h
  · rename_i h1
    by_cases h2 : x.id.toNat < he.length
    · exact h2
    · exact absurd (List.any_eq_true.2 ⟨x, hx, decide_eq_true (by omega)⟩) h1
theorem longE_0 (h : longE he xs = 0) : ∀ x ∈ xs, x.id.toNat < he.length → x.bl ≤ he.getD x.id.toNat 0 := fun x hx hl => by
  rw [longE] at h
  split at h
  · cases h
  · rename_i h1
    rcases Nat.lt_or_ge (he.getD x.id.toNat 0).toNat x.bl.toNat with h2 | h2
    · exact absurd (List.any_eq_true.2 ⟨x, hx, by rw [longX, decide_eq_true hl, decide_eq_true (UInt32.lt_iff_toNat_lt.2 h2)]; rfl⟩) h1
    · exact UInt32.le_iff_toNat_le.2 h2
theorem busyE_0 (h : busyE l xs ps = 0) : ∀ g ∈ l, (∀ y ∈ ps, busyQ g y = false) ∧ ∀ x ∈ xs, hasX g.xs x.id = false := fun g hg => by
  rw [busyE] at h
  split at h
  · cases h
  · rename_i h1
    have h2 : busyG xs ps g = false := by
      cases h3 : busyG xs ps g with
      | false => rfl
      | true => exact absurd (List.any_eq_true.2 ⟨g, hg, h3⟩) h1
    rw [busyG, Bool.or_eq_false_iff] at h2
    exact ⟨fun y hy => by simpa using List.any_eq_false.1 h2.1 y hy, fun x hx => by simpa [busyX] using List.any_eq_false.1 h2.2 x hx⟩
theorem busyQ_iff {g : Gr} {y : UInt16} : busyQ g y = true ↔ y ∈ g.ps := by
  rw [busyQ, List.any_eq_true]
  exact ⟨fun ⟨x, hx, h⟩ => by have := of_decide_eq_true h; subst this; exact hx, fun h => ⟨y, h, decide_eq_true rfl⟩⟩
theorem hasX_iff {xs : List Xt} {id : UInt32} : hasX xs id = true ↔ ∃ x ∈ xs, x.id = id := by
  rw [hasX, List.any_eq_true]
  exact ⟨fun ⟨x, hx, h⟩ => ⟨x, hx, of_decide_eq_true h⟩, fun ⟨x, hx, h⟩ => ⟨x, hx, decide_eq_true h⟩⟩
theorem Lw.grant (h : Lw he l tb) (h0 : grantE pg he l en mp xs ps pages = 0) : Lw he (grantG pg he l en mp xs ps con pages) (tb.set en.toNat pages) := by
  obtain ⟨⟨h1, h8⟩, hh, hno, hlo, hbu⟩ := grantE_0 h0
  rw [grantG, if_pos h0]
  have hne : ∀ g ∈ l, g.e ≠ en.toNat := fun g hg e => hasE_no hh g hg (by omega)
  have hm : ∀ {p : Gr → Prop}, (∀ g ∈ l, p g) → p ⟨en.toNat, 0, 0, mp, .slice none 0 0, xs, .slice none 0 0, ps, con, pages, 0⟩ → ∀ g ∈ l ++ [⟨en.toNat, 0, 0, mp, .slice none 0 0, xs, .slice none 0 0, ps, con, pages, 0⟩], p g := fun h1 h2 g hg => by
    rcases List.mem_append.1 hg with hg | hg
    · exact h1 g hg
    · rw [List.mem_singleton] at hg; subst hg; exact h2
  have hget : ∀ k, k ≠ en.toNat → (tb.set en.toNat pages).getD k 0 = tb.getD k 0 := fun k hk => by simp [List.getD, List.getElem?_set_ne (Ne.symm hk)]
  refine ⟨by rw [List.length_set]; exact h.tl, hm h.en ⟨by show 1 ≤ en.toNat; omega, by show en.toNat ≤ 8; omega⟩, ?_, hm h.tk (UInt32.le_iff_toNat_le.2 (by show (0 : UInt32).toNat ≤ _; simp)), ?_, ?_, hm h.ins (fun x hx => ⟨noneE_0 hno x hx, longE_0 hlo x hx (noneE_0 hno x hx)⟩)⟩
  · rw [List.map_append, List.map_cons, List.map_nil, nodup_mid, List.append_nil]
    exact ⟨fun hm => by obtain ⟨g, hg, e⟩ := List.mem_map.1 hm; exact hne g hg e, h.nd⟩
  · refine hm (fun g hg => (hget _ (hne g hg)).trans (h.pp g hg)) ?_
    show (tb.set en.toNat pages).getD en.toNat 0 = pages
    have := h.tl
    simp [List.getD, List.getElem?_set, show en.toNat < tb.length by omega]
  · rw [List.pairwise_append]
    refine ⟨h.ap, List.pairwise_singleton _ _, fun a ha b hb => ?_⟩
    rw [List.mem_singleton] at hb; subst hb
    obtain ⟨b1, b2⟩ := busyE_0 hbu a ha
    refine ⟨fun y ⟨q1, q2⟩ => ?_, fun id ⟨q1, q2⟩ => ?_⟩
    · have := b1 y (busyQ_iff.1 q2); rw [q1] at this; cases this
    · obtain ⟨x, hx, rfl⟩ := hasX_iff.1 q2
      have := b2 x hx; rw [q1] at this; cases this
theorem Lw.noGrant (h0 : grantE pg he l en mp xs ps pages ≠ 0) : grantG pg he l en mp xs ps con pages = l := if_neg h0
theorem Lw.rel (h : Lw he l tb) : Lw he (relG l en) tb := by
  have hs : ∀ g ∈ relG l en, g ∈ l := fun g hg => (List.mem_filter.1 hg).1
  exact ⟨h.tl, fun g hg => h.en g (hs g hg), (List.filter_sublist.map _).nodup h.nd, fun g hg => h.tk g (hs g hg), fun g hg => h.pp g (hs g hg), h.ap.sublist List.filter_sublist, fun g hg => h.ins g (hs g hg)⟩
theorem Lw.upd {f : Gr → Gr} (h : Lw he l tb) (h1 : ∀ g ∈ l, grIs en g = true → (f g).tk ≤ (f g).pg) (he1 : ∀ g, (f g).e = g.e) (hp1 : ∀ g, (f g).pp = g.pp) (hx : ∀ g, (f g).xs = g.xs) (hps : ∀ g, (f g).ps = g.ps) : Lw he (updG f l en) tb := by
  have hq : ∀ g, (if grIs en g = true then f g else g).e = g.e ∧ (if grIs en g = true then f g else g).pp = g.pp ∧ (if grIs en g = true then f g else g).xs = g.xs ∧ (if grIs en g = true then f g else g).ps = g.ps := fun g => by
    split
    · exact ⟨he1 g, hp1 g, hx g, hps g⟩
    · exact ⟨rfl, rfl, rfl, rfl⟩
  have hm : ∀ {p : Gr → Prop}, (∀ g ∈ l, p (if grIs en g = true then f g else g)) → ∀ g ∈ updG f l en, p g := fun h1 g hg => by
    obtain ⟨g', hg', rfl⟩ := List.mem_map.1 hg
    exact h1 g' hg'
  refine ⟨h.tl, hm fun g hg => by rw [(hq g).1]; exact h.en g hg, ?_, hm fun g hg => ?_, hm fun g hg => by rw [(hq g).1, (hq g).2.1]; exact h.pp g hg, ?_, hm fun g hg => by rw [(hq g).2.2.1]; exact h.ins g hg⟩
  · have : (updG f l en).map Gr.e = l.map Gr.e := by
      rw [updG, List.map_map]; exact List.map_congr_left fun g _ => (hq g).1
    rw [this]; exact h.nd
  · by_cases hi : grIs en g = true
    · rw [if_pos hi]; exact h1 g hg hi
    · rw [if_neg hi]; exact h.tk g hg
  · rw [updG, List.pairwise_map]
    refine h.ap.imp ?_
    intro a b hab
    simp only [busyQ, (hq a).2.2.1, (hq a).2.2.2, (hq b).2.2.1, (hq b).2.2.2]
    exact hab
theorem obs_nd {g : Gr} (h : (l.map Gr.e).Nodup) (hg : g ∈ l) (he : (g.e : Int) = en) : obs l en = g := by
  obtain ⟨h1, h2⟩ := obs_yes (hasE_true hg he)
  exact nodup_one h h1 hg (by omega)
theorem Lw.take (h : Lw he l tb) : Lw he (takeG l en) tb := by
  rw [takeG]
  split
  · rename_i h0
    refine h.upd (fun g hg hi => ?_) (fun g => rfl) (fun g => rfl) (fun g => rfl) (fun g => rfl)
    have ho := obs_nd h.nd hg (of_decide_eq_true hi)
    rw [takeE, if_pos (hasE_true hg (of_decide_eq_true hi)), ho] at h0
    split at h0
    · cases h0
    · rename_i h1
      have h2 : g.tk.toNat < g.pg.toNat := Nat.lt_of_not_le fun k => h1 (UInt32.le_iff_toNat_le.2 k)
      refine UInt32.le_iff_toNat_le.2 ?_
      show (g.tk + 1).toNat ≤ g.pg.toNat
      rw [UInt32.toNat_add]
      have := g.pg.toNat_lt
      show (g.tk.toNat + 1) % 2 ^ 32 ≤ g.pg.toNat
      omega
  · exact h
variable {ks : List Nat}
theorem filter_le_one {α : Type} {p : α → Bool} : ∀ {l : List α}, l.Pairwise (fun a b => ¬ (p a = true ∧ p b = true)) → (l.filter p).length ≤ 1
  | [], _ => by simp
  | a :: l, h => by
    rw [List.pairwise_cons] at h
    cases hp : p a with
    | false => rw [List.filter_cons_of_neg (by rw [hp]; decide)]; exact filter_le_one h.2
    | true =>
      rw [List.filter_cons_of_pos hp, List.filter_eq_nil_iff.2 (fun b hb hb2 => h.1 b hb ⟨hp, hb2⟩)]; simp
theorem len_split {α : Type} (p : α → Bool) : ∀ {l : List α}, l.length = (l.filter p).length + (l.filter (fun x => !p x)).length
  | [] => rfl
  | a :: l => by
    have ih := len_split p (l := l)
    rw [List.filter_cons, List.filter_cons]
    cases p a <;> simp <;> omega
theorem nodup_le : ∀ {n : Nat} {l : List Nat}, l.Nodup → (∀ x ∈ l, 1 ≤ x ∧ x ≤ n) → l.length ≤ n
  | 0, [], _, _ => Nat.le_refl _
  | 0, a :: l, _, h => by have := h a (by simp); omega
  | n + 1, l, hn, h => by
    have h1 : (l.filter (fun x => decide (x = n + 1))).length ≤ 1 := filter_le_one (hn.imp fun hab k => hab ((of_decide_eq_true k.1).trans (of_decide_eq_true k.2).symm))
    have h2 : (l.filter (fun x => !decide (x = n + 1))).length ≤ n := nodup_le (hn.sublist List.filter_sublist) (fun x hx => by
      obtain ⟨hx, hq⟩ := List.mem_filter.1 hx
      have h3 := h x hx
      have h4 : ¬ x = n + 1 := by simpa using hq
      omega)
    have h3 := len_split (l := l) (fun x => decide (x = n + 1))
    omega
theorem Lw.len (h : Lw he l tb) : l.length ≤ 8 := by
  have h1 := nodup_le (n := 8) h.nd (fun x hx => by
    obtain ⟨g, hg, rfl⟩ := List.mem_map.1 hx
    exact h.en g hg)
  rw [List.length_map] at h1
  exact h1
theorem ks_has (hk : (l.map Gr.e).Perm ks) {k : Nat} (hlt : k < ks.length) : ∃ g ∈ l, g.e = ks.getD k 0 := by
  have : ks.getD k 0 ∈ ks := by rw [show ks.getD k 0 = ks[k] by simp [List.getD, hlt]]; exact List.getElem_mem hlt
  exact List.mem_map.1 (hk.mem_iff.2 this)
theorem Lw.k1 (h : Lw he l tb) (hk : (l.map Gr.e).Perm ks) {k : Nat} (hlt : k < ks.length) : hasE l ((ks.getD k 0 : Nat) : Int) = true ∧ 1 ≤ ks.getD k 0 ∧ ks.getD k 0 ≤ 8 ∧ ¬ ((obs l ((ks.getD k 0 : Nat) : Int)).pg - (obs l ((ks.getD k 0 : Nat) : Int)).tk) > (obs l ((ks.getD k 0 : Nat) : Int)).pg := by
  obtain ⟨g, hg, e⟩ := ks_has hk hlt
  have he : (g.e : Int) = ((ks.getD k 0 : Nat) : Int) := by rw [e]
  have := h.en g hg
  refine ⟨hasE_true hg he, by omega, by omega, ?_⟩
  rw [obs_nd h.nd hg he]
  have h3 := UInt32.le_iff_toNat_le.1 (h.tk g hg)
  intro h4
  have h5 := UInt32.lt_iff_toNat_lt.1 h4
  rw [UInt32.toNat_sub] at h5
  have := g.tk.toNat_lt
  have := g.pg.toNat_lt
  omega
def sumK (l : List Gr) (tb : List UInt32) (ks : List Nat) : UInt32 := sumU (ks.map fun e : Nat => (obs l (e : Int)).pg + tb.getD e 0)
def cntK (p : Gr → Bool) (l : List Gr) (ks : List Nat) : Nat := (ks.filter fun e : Nat => p (obs l (e : Int))).length
theorem take_snoc {α : Type} {d : α} {l : List α} {k : Nat} (h : k < l.length) : l.take (k + 1) = l.take k ++ [l.getD k d] := by
  rw [List.take_add_one, show l[k]? = some (l.getD k d) by simp [List.getD, h]]; rfl
theorem Lw.sum (h : Lw he l tb) (hk : (l.map Gr.e).Perm ks) : freeS pg l + sumK l tb ks = pg := by
  have e : sumK l tb ks = usedS l := by
    rw [sumK, ← sumU_perm (hk.map _), List.map_map, usedS]
    refine congrArg sumU (List.map_congr_left fun g hg => ?_)
    show (obs l (g.e : Int)).pg + tb.getD g.e 0 = _
    rw [obs_nd h.nd hg rfl, h.pp g hg]
  rw [e, freeS]
  exact UInt32.sub_add_cancel _ _
theorem Lw.cnt (h : Lw he l tb) (hk : (l.map Gr.e).Perm ks) (p : Gr → Bool) : cntK p l ks = (l.filter p).length := by
  rw [cntK, ← (hk.filter _).length_eq, List.filter_map, List.length_map]
  refine congrArg List.length (List.filter_congr fun g hg => ?_)
  show p (obs l (g.e : Int)) = p g
  rw [obs_nd h.nd hg rfl]
def blkQ (id bk : UInt32) (g : Gr) : Bool := hasX g.xs id && decide (bk < (extG g.xs id).bl)
theorem Lw.blocks (h : Lw he l tb) (hk : (l.map Gr.e).Perm ks) (id bk : UInt32) : ¬ cntK (blkQ id bk) l ks > 1 := by
  rw [h.cnt hk]
  refine Nat.not_lt.2 (filter_le_one (h.ap.imp fun hab k => hab.2 id ⟨?_, ?_⟩))
  · have := k.1; rw [blkQ, Bool.and_eq_true] at this; exact this.1
  · have := k.2; rw [blkQ, Bool.and_eq_true] at this; exact this.1
theorem extG_mem {xs : List Xt} {id : UInt32} (h : hasX xs id = true) : extG xs id ∈ xs ∧ (extG xs id).id = id := by
  obtain ⟨x, hx, hi⟩ := List.any_eq_true.1 h
  cases h3 : xs.find? (xtIs id) with
  | none => exact absurd hi (by have := List.find?_eq_none.1 h3 x hx; simpa using this)
  | some x' =>
    have e : extG xs id = x' := by rw [extG, h3]; rfl
    rw [e]
    exact ⟨List.mem_of_find?_eq_some h3, of_decide_eq_true (List.find?_some (p := xtIs id) h3)⟩
end
structure Sts where
  d : Int
  e : Int
  pg : UInt32
  ev : Value
  xs : List Xt
  pv : Value
  ps : List UInt16
  con : Bool
  pp : UInt32
def Sts.zero : Sts := ⟨0, 0, 0, .slice none 0 0, [], .slice none 0 0, [], false, 0⟩
def stc (x : Sts) : List Value := [vI x.d, vI x.e, vU32 x.pg, x.ev, x.pv, .bool x.con, vU32 x.pp]
def StD : Deep Sts := ((Deep.arr 2 xtc).on (fun x : Sts => (x.ev, x.xs))).and ((Deep.arrM vU16).on (fun x : Sts => (x.pv, x.ps)))
theorem StD_xs {w : World} {x : Sts} (h : StD.ok w x) : Arr w x.ev 2 x.xs.length (x.xs.flatMap xtc) := h.1
theorem StD_ps {w : World} {x : Sts} (h : StD.ok w x) : Arr w x.pv 1 x.ps.length (x.ps.map vU16) := h.2
theorem StD_zero (w : World) : StD.ok w Sts.zero := ⟨Arr.nil w 2, Arr.nil w 1⟩
def largeS (x : Sts) : Bool := largeC x.xs x.ps
def heavyC (l : List Sts) : Bool := (l.take 200).any largeS || decide (l.length > 100)
theorem heavyC_no {l : List Sts} (h : heavyC l = false) : l.length ≤ 100 ∧ ∀ k, k < l.length → (l.getD k Sts.zero).xs.length ≤ 40 ∧ (l.getD k Sts.zero).ps.length ≤ 40 := by
  rw [heavyC, Bool.or_eq_false_iff] at h
  have h1 := of_decide_eq_false h.2
  refine ⟨by omega, fun k hk => ?_⟩
  have h2 := List.any_eq_false.1 h.1 (l.getD k Sts.zero) (by
    rw [List.take_of_length_le (by omega), show l.getD k Sts.zero = l[k] by simp [List.getD, hk]]
    exact List.getElem_mem hk)
  simp only [largeS, largeC, Bool.or_eq_true, decide_eq_true_eq] at h2
  omega
end Go.Spec
namespace Go.Spec
open Go.Owl
theorem heavyC_yes {l : List Sts} {k : Nat} (hk : k < l.length) (h2 : k < 200) (h : largeS (l.getD k Sts.zero) = true) : heavyC l = true := by
  rw [heavyC, Bool.or_eq_true]
  refine .inl (List.any_eq_true.2 ⟨_, ?_, h⟩)
  rw [show l.getD k Sts.zero = l[k] by simp [List.getD, hk]]
  exact List.mem_take_iff_getElem.2 ⟨k, by omega, rfl⟩
theorem heavyC_end {l : List Sts} (h : ∀ j, j < l.length → j < 200 → largeS (l.getD j Sts.zero) = false) : heavyC l = decide (l.length > 100) := by
  rw [heavyC, show (l.take 200).any largeS = false from ?_, Bool.false_or]
  rw [List.any_eq_false]
  intro x hx
  obtain ⟨k, hk, rfl⟩ := List.mem_take_iff_getElem.1 hx
  have := h k (by omega) (by omega)
  rw [show l.getD k Sts.zero = l[k] by simp [List.getD, show k < l.length by omega]] at this
  rw [this]; decide
end Go.Spec
namespace Go.Spec
open Go.Owl
theorem CapR.ofit {gs l : List Gr} {cn : Nat} (h : CapR gs cn l) (en : Int) : (Go.Spec.obs l en).ps.length < 2 ^ 40 ∧ (Go.Spec.obs l en).xs.length < 2 ^ 40 := by
  rw [h.obs]
  cases h1 : hasE gs en with
  | false => rw [obs_no h1]; exact ⟨by decide, by decide⟩
  | true => exact h.1.fit (Go.Spec.obs gs en) (obs_yes h1).1
theorem CapR.glen {gs l : List Gr} {cn : Nat} {he tb : List UInt32} (h : CapR gs cn l) (hL : Lw he l tb) : gs.length ≤ 8 := by
  have := hL.len; rw [← h.2, List.length_map] at this; exact this
end Go.Spec
namespace Go.Spec
end Go.Spec
/-! from SpecCap5 -/
/- Caps: the document's row of grants, and how it goes with the program's. Plain Lean. -/
namespace Go.Spec
open Go.Owl
def rgc (g : Gr) : List Value := [vN g.e, vU32 g.pg, g.ev, g.pv, .bool g.con, vU32 g.pp, vU32 g.tk]
def Gr.rg (e : Nat) (pg : UInt32) (ev : Value) (xs : List Xt) (pv : Value) (ps : List UInt16) (con : Bool) (pp tk : UInt32) : Gr := ⟨e, 0, 0, pg, ev, xs, pv, ps, con, pp, tk⟩
theorem GrD_xs {w : World} {x : Gr} (h : grD.ok w x) : Arr w x.ev 2 x.xs.length (x.xs.flatMap xtc) := h.1
theorem GrD_ps {w : World} {x : Gr} (h : grD.ok w x) : Arr w x.pv 1 x.ps.length (x.ps.map vU16) := h.2
theorem GrD_zero (w : World) : grD.ok w Gr.no := ⟨Arr.nil w 2, Arr.nil w 1⟩
theorem GrD_obs {w : World} {rl : List Gr} (h : grD.list.ok w rl) (en : Int) : grD.ok w (obs rl en) := by
  cases h1 : hasE rl en with
  | false => rw [obs_no h1]; exact GrD_zero w
  | true => exact h _ (obs_yes h1).1
theorem gr_one {w : World} {l : List Gr} (h : grD.list.ok w l) : ∀ c ∈ l.flatMap rgc, c.oneCell' = true := fun c hc => by
  obtain ⟨x, hx, hc⟩ := List.mem_flatMap.1 hc
  have h1 := (GrD_xs (h x hx)).one
  have h2 := (GrD_ps (h x hx)).one
  simp only [rgc, List.mem_cons, List.not_mem_nil, or_false] at hc
  rcases hc with rfl | rfl | rfl | rfl | rfl | rfl | rfl <;> first | assumption | rfl
theorem has_at {rl : List Gr} {en : Int} (h : hasE rl en = true) : ∃ k, k < rl.length ∧ grIs en (rl.getD k Gr.no) = true ∧ (∀ j, j < k → grIs en (rl.getD j Gr.no) = false) ∧ obs rl en = rl.getD k Gr.no := by
  induction rl with
  | nil => cases h
  | cons a rl ih =>
    cases ha : grIs en a with
    | true => exact ⟨0, by simp, ha, fun j hj => by omega, by rw [obs, List.find?_cons_of_pos ha]; rfl⟩
    | false =>
      rw [hasE, List.any_cons, ha, Bool.false_or] at h
      obtain ⟨k, h1, h2, h3, h4⟩ := ih h
      refine ⟨k + 1, by simpa using h1, h2, fun j hj => ?_, ?_⟩
      · cases j with
        | zero => exact ha
        | succ j => exact h3 j (by omega)
      · rw [obs, List.find?_cons_of_neg (by rw [ha]; decide)]; exact h4
theorem find_at {α : Type} {p : α → Bool} {d : α} {l : List α} {j k : Nat} (h1 : j ≤ k) (h2 : ∀ i, i < k → p (l.getD i d) = false) (h3 : p (l.getD j d) = true) : j = k := by
  rcases Nat.lt_or_ge j k with h | h
  · rw [h2 j h] at h3; cases h3
  · omega
theorem find_nx {α : Type} {p : α → Bool} {d : α} {l : List α} {j k : Nat} (h1 : j ≤ k) (h2 : p (l.getD k d) = true) (h3 : p (l.getD j d) = false) : j + 1 ≤ k := by
  rcases Nat.lt_or_ge j k with h | h
  · exact h
  · have : j = k := by omega
    subst this; rw [h2] at h3; cases h3
theorem has_getD {rl : List Gr} {en : Int} {j : Nat} (h : hasE rl en = false) (hj : j < rl.length) : grIs en (rl.getD j Gr.no) = false := by
  rw [show rl.getD j Gr.no = rl[j] by simp [List.getD, hj]]
  exact decide_eq_false (hasE_no h _ (List.getElem_mem hj))
theorem blk_eq {xs : List Xt} {id bk : UInt32} : decide (bk < (extG xs id).bl) = (hasX xs id && decide (bk < (extG xs id).bl)) := by
  cases h : hasX xs id with
  | true => rfl
  | false =>
    have h2 := (extG_no (xs := xs) (id := id) (fun j hj => by
      have := List.any_eq_false.1 h (xs.getD j Xt.zero) (by rw [show xs.getD j Xt.zero = xs[j] by simp [List.getD, hj]]; exact List.getElem_mem hj)
      simpa using this)).1
    rw [h2, Bool.false_and]
    exact decide_eq_false (fun h3 => by have := UInt32.lt_iff_toNat_lt.1 h3; simp [Xt.zero] at this)
theorem u32_subsub (a b c : UInt32) : a - b - c = a - (b + c) := by
  apply UInt32.toNat_inj.1
  have := a.toNat_lt
  have := b.toNat_lt
  have := c.toNat_lt
  simp only [UInt32.toNat_sub, UInt32.toNat_add]
  omega
theorem freeS_step {pg : UInt32} {rl : List Gr} {k : Nat} (h : k < rl.length) : freeS pg (rl.take k) - (rl.getD k Gr.no).pg - (rl.getD k Gr.no).pp = freeS pg (rl.take (k + 1)) := by
  rw [u32_subsub, freeS_snoc, ← take_snoc h]
def busyRg (xs : List Xt) (ps : List UInt16) (g : Gr) : Bool := xs.any (fun x => decide ((extG g.xs x.id).bl > 0)) || ps.any (busyQ g)
def busyR (rl : List Gr) (xs : List Xt) (ps : List UInt16) : Bool := rl.any (busyRg xs ps)
def rgW (pg : UInt32) (he : List UInt32) (rl : List Gr) (mp : UInt32) (xs : List Xt) (ps : List UInt16) (pages : UInt32) : Nat :=
  if noneE he xs ≠ 0 then noneE he xs else if longE he xs ≠ 0 then longE he xs else if busyR rl xs ps = true then 190 else fullE pg rl mp pages
def rgE (pg : UInt32) (he : List UInt32) (rl : List Gr) (en : Int) (mp : UInt32) (xs : List Xt) (ps : List UInt16) (pages : UInt32) : Nat :=
  if (en < 1 ∨ en > 8) ∨ mfE mp xs ps ≠ 0 ∨ pages > 4096 then 2 else if hasE rl en = true then 9 else rgW pg he rl mp xs ps pages
structure Rel (l rl : List Gr) : Prop where
  perm : (rl.map Gr.bare).Perm l
  srt : rl.Pairwise (fun a b => a.e < b.e)
  may : ∀ g ∈ rl, ∀ x ∈ g.xs, x.bl > 0
  tk : ∀ g ∈ rl, g.tk ≤ g.pg
  en : ∀ g ∈ rl, 1 ≤ g.e ∧ g.e ≤ 8
section
variable {l rl : List Gr} {en : Int} {pg mp pages : UInt32} {he : List UInt32} {xs : List Xt} {ps : List UInt16} {con : Bool} {k : Nat}
theorem Rel.nil : Rel [] [] := ⟨List.Perm.refl _, List.Pairwise.nil, fun g h => (by cases h), fun g h => (by cases h), fun g h => (by cases h)⟩
theorem Rel.nd (h : Rel l rl) : (rl.map Gr.e).Nodup := by
  have := h.srt.map Gr.e (S := fun a b => a < b) (fun a b hab => hab)
  exact this.imp (fun hab => Nat.ne_of_lt hab)
theorem Rel.ndl (h : Rel l rl) : (l.map Gr.e).Nodup := by
  have := (h.perm.map Gr.e).nodup_iff.1 (by rw [List.map_map]; exact h.nd)
  exact this
theorem Rel.has (h : Rel l rl) : hasE l en = hasE rl en := by rw [← hasE_bare (gs := rl)]; exact (any_perm h.perm).symm
theorem Rel.obs (h : Rel l rl) : Go.Spec.obs l en = (Go.Spec.obs rl en).bare := by
  cases h1 : hasE rl en with
  | false => rw [obs_no h1, obs_no (h.has.trans h1)]; rfl
  | true =>
    obtain ⟨hg, he⟩ := obs_yes h1
    exact obs_nd h.ndl (h.perm.mem_iff.1 (List.mem_map.2 ⟨_, hg, rfl⟩)) he
theorem Rel.free (h : Rel l rl) : freeS pg l = freeS pg rl := by
  rw [freeS, freeS, ← usedS_bare (gs := rl), usedS_perm h.perm]
theorem any_congr_mem {α : Type} {p q : α → Bool} : ∀ {l : List α}, (∀ x ∈ l, p x = q x) → l.any p = l.any q
  | [], _ => rfl
  | a :: l, h => by rw [List.any_cons, List.any_cons, h a (by simp), any_congr_mem (fun x hx => h x (by simp [hx]))]
theorem has_bl {ys : List Xt} (hm : ∀ x ∈ ys, x.bl > 0) (id : UInt32) : hasX ys id = decide ((extG ys id).bl > 0) := by
  cases h : hasX ys id with
  | true => exact (decide_eq_true (hm _ (extG_mem h).1)).symm
  | false =>
    have := blk_eq (xs := ys) (id := id) (bk := 0)
    rw [h, Bool.false_and] at this
    exact this.symm
theorem Rel.busy (h : Rel l rl) : busyE l xs ps = if busyR rl xs ps = true then 190 else 0 := by
  have e : l.any (busyG xs ps) = busyR rl xs ps := by
    rw [← any_perm h.perm, List.any_map, busyR]
    refine any_congr_mem fun g hg => ?_
    show (ps.any (busyQ g.bare) || xs.any (busyX g.bare)) = (_ || _)
    rw [Bool.or_comm]
    refine congr (congrArg _ (any_congr_mem fun x hx => ?_)) rfl
    exact has_bl (h.may g hg) x.id
  rw [busyE, e]
theorem Rel.grantE (h : Rel l rl) : Go.Spec.grantE pg he l en mp xs ps pages = rgE pg he rl en mp xs ps pages := by
  have h1 : whyE pg he l mp xs ps pages = rgW pg he rl mp xs ps pages := by
    rw [whyE, rgW, h.busy, fullE, fullE, h.free]
    cases busyR rl xs ps <;> rfl
  rw [Go.Spec.grantE, rgE, h.has, h1]
theorem mfE_bl (h : mfE mp xs ps = 0) : ∀ x ∈ xs, x.bl > 0 := fun x hx => by
  rw [mfE] at h
  split at h
  · rename_i h1
    rw [mfMay, Bool.and_eq_true] at h1
    have h2 : xs.any xtBad = false := by simpa using h1.1
    have h3 := List.any_eq_false.1 h2 x hx
    rw [xtBad] at h3
    simp only [Bool.or_eq_true, decide_eq_true_eq, not_or] at h3
    refine UInt32.lt_iff_toNat_lt.2 ?_
    have h4 : ¬ x.bl < 1 := h3.2.1
    have h5 : ¬ x.bl.toNat < 1 := fun k => h4 (UInt32.lt_iff_toNat_lt.2 k)
    show 0 < _
    omega
  · cases h
theorem Rel.grant {G : Gr} (h : Rel l rl) (h0 : Go.Spec.grantE pg he l en mp xs ps pages = 0) (hG : G.bare = ⟨en.toNat, 0, 0, mp, .slice none 0 0, xs, .slice none 0 0, ps, con, pages, 0⟩) (hm : mfE mp xs ps = 0)
    (h1 : ∀ j, j < k → ((rl.getD j Gr.no).e : Int) < en) (h2 : k = rl.length ∨ k < rl.length ∧ ¬ ((rl.getD k Gr.no).e : Int) < en) : Rel (grantG pg he l en mp xs ps con pages) (rl.take k ++ [G] ++ rl.drop k) := by
  obtain ⟨⟨e1, e8⟩, hh, -, -, -⟩ := grantE_0 h0
  have hGe : (G.e : Int) = en := by have := congrArg Gr.e hG; show ((G.bare).e : Int) = en; rw [this]; show ((en.toNat : Nat) : Int) = en; omega
  rw [grantG, if_pos h0]
  refine ⟨?_, ?_, ?_, ?_, ?_⟩
  · rw [← hG]
    have e : (rl.take k ++ [G] ++ rl.drop k).map Gr.bare = (rl.map Gr.bare).take k ++ G.bare :: (rl.map Gr.bare).drop k := by simp [List.map_take, List.map_drop]
    rw [e]
    refine List.perm_middle.trans ?_
    rw [List.take_append_drop]
    exact ((List.perm_append_singleton _ _).symm.trans (h.perm.append_right _))
  · have hs := h.srt
    rw [← List.take_append_drop k rl, List.pairwise_append] at hs
    rw [List.append_assoc, List.pairwise_append]
    have hlt : ∀ a ∈ rl.take k, (a.e : Int) < en := fun a ha => by
      obtain ⟨j, hj, rfl⟩ := List.mem_take_iff_getElem.1 ha
      have := h1 j (by omega)
      rwa [show rl.getD j Gr.no = rl[j] by simp [List.getD, show j < rl.length by omega]] at this
    have hgt : ∀ b ∈ rl.drop k, en < (b.e : Int) := fun b hb => by
      have hne : (b.e : Int) ≠ en := fun e => by
        have := hasE_true (List.mem_of_mem_drop hb) e
        rw [← h.has, hh] at this; cases this
      obtain ⟨j, hj, rfl⟩ := List.mem_drop_iff_getElem.1 hb
      rcases h2 with h2 | ⟨h2, h3⟩
      · omega
      · rw [show rl.getD k Gr.no = rl[k] by simp [List.getD, h2]] at h3
        rcases Nat.eq_zero_or_pos j with h4 | h4
        · subst h4; simp only [Nat.add_zero] at hne ⊢; omega
        · have := (List.pairwise_iff_getElem.1 h.srt) k (k + j) h2 (by omega) (by omega)
          omega
    refine ⟨hs.1, ?_, fun a ha b hb => ?_⟩
    · rw [List.singleton_append, List.pairwise_cons]
      exact ⟨fun b hb => by have := hgt b hb; omega, hs.2.1⟩
    · rcases List.mem_append.1 hb with hb | hb
      · rw [List.mem_singleton] at hb; subst hb; have := hlt a ha; omega
      · exact hs.2.2 a ha b hb
  · intro g hg
    rcases List.mem_append.1 hg with hg | hg
    · rcases List.mem_append.1 hg with hg | hg
      · exact h.may g (List.mem_of_mem_take hg)
      · rw [List.mem_singleton] at hg; subst hg
        have : g.xs = xs := congrArg Gr.xs hG
        rw [this]; exact mfE_bl hm
    · exact h.may g (List.mem_of_mem_drop hg)
  · intro g hg
    rcases List.mem_append.1 hg with hg | hg
    · rcases List.mem_append.1 hg with hg | hg
      · exact h.tk g (List.mem_of_mem_take hg)
      · rw [List.mem_singleton] at hg; subst hg
        have : g.tk = 0 := congrArg Gr.tk hG
        rw [this]; exact UInt32.le_iff_toNat_le.2 (Nat.zero_le _)
    · exact h.tk g (List.mem_of_mem_drop hg)
  · intro g hg
    rcases List.mem_append.1 hg with hg | hg
    · rcases List.mem_append.1 hg with hg | hg
      · exact h.en g (List.mem_of_mem_take hg)
      · rw [List.mem_singleton] at hg; subst hg; omega
    · exact h.en g (List.mem_of_mem_drop hg)
theorem nth_split (hk : k < rl.length) : rl = rl.take k ++ rl.getD k Gr.no :: rl.drop (k + 1) := by
  have h := List.take_append_drop k rl
  rw [List.drop_eq_getElem_cons hk] at h
  rw [show rl.getD k Gr.no = rl[k] by simp [List.getD, hk]]
  exact h.symm
theorem only_one (h : Rel l rl) (hk : k < rl.length) (hg : grIs en (rl.getD k Gr.no) = true) : (∀ x ∈ rl.take k, grIs en x = false) ∧ (∀ x ∈ rl.drop (k + 1), grIs en x = false) := by
  have hs := h.srt
  rw [nth_split hk, List.pairwise_append, List.pairwise_cons] at hs
  have he := of_decide_eq_true hg
  exact ⟨fun x hx => decide_eq_false fun e => by have := hs.2.2 x hx _ (List.mem_cons_self ..); omega, fun x hx => decide_eq_false fun e => by have := hs.2.1.1 x hx; omega⟩
theorem Rel.rel (h : Rel l rl) (hk : k < rl.length) (hg : grIs en (rl.getD k Gr.no) = true) : Rel (relG l en) (rl.take k ++ rl.drop (k + 1)) := by
  obtain ⟨h1, h2⟩ := only_one h hk hg
  have e : rl.filter (fun g => !(grIs en g)) = rl.take k ++ rl.drop (k + 1) := by
    conv => lhs; rw [nth_split hk]
    rw [List.filter_append, List.filter_cons, if_neg (by rw [hg]; decide), List.filter_eq_self.2 (fun x hx => by rw [h1 x hx]; rfl), List.filter_eq_self.2 (fun x hx => by rw [h2 x hx]; rfl)]
  have hsub : (rl.take k ++ rl.drop (k + 1)).Sublist rl := by rw [← e]; exact List.filter_sublist
  refine ⟨?_, h.srt.sublist hsub, fun g hg2 => h.may g (hsub.subset hg2), fun g hg2 => h.tk g (hsub.subset hg2), fun g hg2 => h.en g (hsub.subset hg2)⟩
  rw [← e]
  have := h.perm.filter (fun g => !(grIs en g))
  rw [List.filter_map] at this
  exact this
theorem Rel.relNo (h : Rel l rl) (hn : hasE rl en = false) : Rel (relG l en) rl := by
  rw [relG_no (h.has.trans hn)]; exact h
theorem updG_bare0 {f f0 : Gr → Gr} {gs : List Gr} (hf : ∀ g, (f g).bare = f0 g.bare) : updG f0 (gs.map Gr.bare) en = (updG f gs en).map Gr.bare := by
  rw [updG, updG, List.map_map, List.map_map]
  refine List.map_congr_left fun g hg => ?_
  show (if grIs en g.bare = true then f0 g.bare else g.bare) = (if grIs en g = true then f g else g).bare
  rw [grIs_bare]
  split
  · exact (hf g).symm
  · rfl
theorem Rel.upd {f f0 : Gr → Gr} (h : Rel l rl) (hk : k < rl.length) (hg : grIs en (rl.getD k Gr.no) = true) (hf : ∀ g, (f g).bare = f0 g.bare) (he : ∀ g, (f g).e = g.e) (hx : ∀ g, (f g).xs = g.xs) (ht : (f (rl.getD k Gr.no)).tk ≤ (f (rl.getD k Gr.no)).pg) : Rel (updG f0 l en) (rl.set k (f (rl.getD k Gr.no))) := by
  obtain ⟨h1, h2⟩ := only_one h hk hg
  have e : updG f rl en = rl.set k (f (rl.getD k Gr.no)) := by
    have e1 := updG_no (f := f) h1
    have e2 := updG_no (f := f) h2
    rw [updG] at e1 e2 ⊢
    conv => lhs; rw [nth_split hk]
    rw [List.map_append, List.map_cons, e1, e2, if_pos hg, List.set_eq_take_append_cons_drop, if_pos hk]
  have hall : ∀ g, (if grIs en g = true then f g else g).e = g.e ∧ (if grIs en g = true then f g else g).xs = g.xs := fun g => by
    split
    · exact ⟨he g, hx g⟩
    · exact ⟨rfl, rfl⟩
  refine ⟨?_, ?_, ?_, ?_, ?_⟩
  · rw [← e, ← updG_bare0 hf]
    exact h.perm.map _
  · rw [← e, updG, List.pairwise_map]
    refine h.srt.imp fun {a b} hab => ?_
    rw [(hall a).1, (hall b).1]; exact hab
  · rw [← e]
    intro g hg2
    obtain ⟨g', hg', rfl⟩ := List.mem_map.1 hg2
    rw [(hall g').2]; exact h.may g' hg'
  · intro g hg2
    rcases List.mem_or_eq_of_mem_set hg2 with h3 | rfl
    · exact h.tk g h3
    · exact ht
  · rw [← e]
    intro g hg2
    obtain ⟨g', hg', rfl⟩ := List.mem_map.1 hg2
    rw [(hall g').1]; exact h.en g' hg'
theorem Rel.takeE (h : Rel l rl) : Go.Spec.takeE l en = Go.Spec.takeE rl en := by rw [Go.Spec.takeE, Go.Spec.takeE, h.has, h.obs]; rfl
theorem Rel.giveE (h : Rel l rl) : Go.Spec.giveE l en = Go.Spec.giveE rl en := by rw [Go.Spec.giveE, Go.Spec.giveE, h.has, h.obs]; rfl
theorem Rel.relE (h : Rel l rl) : Go.Spec.relE l en = Go.Spec.relE rl en := by rw [Go.Spec.relE, Go.Spec.relE, h.has]
theorem Rel.permL {l2 : List Gr} (h : Rel l rl) (hp : l.Perm l2) : Rel l2 rl := ⟨h.perm.trans hp, h.srt, h.may, h.tk, h.en⟩
/-- The environments that are told, rising. -/
theorem Rel.envs {ks : List Nat} (h : Rel l rl) (hk : (l.map Gr.e).Perm ks) (hs : ks.Pairwise (fun x y => ltN y x = false)) : ks = rl.map Gr.e := by
  have hp : (rl.map Gr.e).Perm ks := by
    have := h.perm.map Gr.e
    rw [List.map_map] at this
    exact this.trans hk
  have h1 : (rl.map Gr.e).Pairwise (fun x y => x < y) := h.srt.map Gr.e (fun a b hab => hab)
  have h2 : ks.Pairwise (fun x y => x ≤ y) := hs.imp fun hab => Nat.le_of_not_lt (of_decide_eq_false hab)
  exact (hp.eq_of_pairwise (le := fun x y => x ≤ y) (fun a b _ _ h1 h2 => Nat.le_antisymm h1 h2) (h1.imp (fun h => Nat.le_of_lt h)) h2).symm
theorem Rel.noGrant (h : Rel l rl) (h0 : rgE pg he rl en mp xs ps pages ≠ 0) : Rel (grantG pg he l en mp xs ps con pages) rl := by
  rw [grantG, h.grantE, if_neg h0]; exact h
theorem left_0 {g : Gr} (h : g.tk ≤ g.pg) : (g.pg - g.tk = 0) ↔ g.tk ≥ g.pg := by
  have h1 := UInt32.le_iff_toNat_le.1 h
  have h2 := g.pg.toNat_lt
  constructor
  · intro k
    have := congrArg UInt32.toNat k
    rw [UInt32.toNat_sub] at this
    simp only [UInt32.toNat_zero] at this
    exact UInt32.le_iff_toNat_le.2 (by omega)
  · intro k
    have := UInt32.le_iff_toNat_le.1 k
    exact UInt32.toNat_inj.1 (by rw [UInt32.toNat_sub]; simp only [UInt32.toNat_zero]; omega)
def tkUp (g : Gr) : Gr := Gr.rg g.e g.pg g.ev g.xs g.pv g.ps g.con g.pp (g.tk + 1)
def tkDn (g : Gr) : Gr := Gr.rg g.e g.pg g.ev g.xs g.pv g.ps g.con g.pp (g.tk - 1)
theorem Rel.takeYes (h : Rel l rl) (hk : k < rl.length) (hg : grIs en (rl.getD k Gr.no) = true) (hw : ¬ (rl.getD k Gr.no).pg - (rl.getD k Gr.no).tk = 0) (h0 : Go.Spec.takeE rl en = 0) : Rel (takeG l en) (rl.set k (tkUp (rl.getD k Gr.no))) := by
  rw [takeG, h.takeE, if_pos h0]
  have hm : rl.getD k Gr.no ∈ rl := by rw [show rl.getD k Gr.no = rl[k] by simp [List.getD, hk]]; exact List.getElem_mem hk
  refine h.upd hk hg (fun g => rfl) (fun g => rfl) (fun g => rfl) ?_
  have h1 : ¬ (rl.getD k Gr.no).tk ≥ (rl.getD k Gr.no).pg := fun q => hw ((left_0 (h.tk _ hm)).2 q)
  generalize rl.getD k Gr.no = g at h1
  have h2 : g.tk.toNat < g.pg.toNat := Nat.lt_of_not_le fun q => h1 (UInt32.le_iff_toNat_le.2 q)
  refine UInt32.le_iff_toNat_le.2 ?_
  show (g.tk + 1).toNat ≤ g.pg.toNat
  rw [UInt32.toNat_add]
  have := g.pg.toNat_lt
  show (g.tk.toNat + 1) % 2 ^ 32 ≤ g.pg.toNat
  omega
theorem Rel.giveYes (h : Rel l rl) (hk : k < rl.length) (hg : grIs en (rl.getD k Gr.no) = true) (hw : ¬ (rl.getD k Gr.no).tk = 0) (h0 : Go.Spec.giveE rl en = 0) : Rel (giveG l en) (rl.set k (tkDn (rl.getD k Gr.no))) := by
  rw [giveG, h.giveE, if_pos h0]
  have hm : rl.getD k Gr.no ∈ rl := by rw [show rl.getD k Gr.no = rl[k] by simp [List.getD, hk]]; exact List.getElem_mem hk
  refine h.upd hk hg (fun g => rfl) (fun g => rfl) (fun g => rfl) ?_
  have h3 := UInt32.le_iff_toNat_le.1 (h.tk _ hm)
  generalize rl.getD k Gr.no = g at h3 hw
  have h2 : g.tk.toNat ≠ 0 := fun q => hw (UInt32.toNat_inj.1 q)
  refine UInt32.le_iff_toNat_le.2 ?_
  show (g.tk - 1).toNat ≤ g.pg.toNat
  rw [UInt32.toNat_sub]
  have := g.tk.toNat_lt
  show (2 ^ 32 - 1 + g.tk.toNat) % 2 ^ 32 ≤ g.pg.toNat
  omega
theorem Rel.takeNo (h : Rel l rl) (h0 : Go.Spec.takeE rl en ≠ 0) : Rel (takeG l en) rl := by rw [takeG, h.takeE, if_neg h0]; exact h
theorem Rel.giveNo (h : Rel l rl) (h0 : Go.Spec.giveE rl en ≠ 0) : Rel (giveG l en) rl := by rw [giveG, h.giveE, if_neg h0]; exact h
end
end Go.Spec
namespace Go.Spec
theorem obs_fit {rl : List Gr} (h : ∀ g ∈ rl, g.ps.length < 2 ^ 40 ∧ g.xs.length < 2 ^ 40) (en : Int) : (obs rl en).ps.length < 2 ^ 40 ∧ (obs rl en).xs.length < 2 ^ 40 := by
  cases h1 : hasE rl en with
  | false => rw [obs_no h1]; exact ⟨by decide, by decide⟩
  | true => exact h _ (obs_yes h1).1
end Go.Spec
namespace Go.Spec
open Go.Owl
section
variable {l rl : List Gr} {en : Int} {pg mp pages : UInt32} {he : List UInt32} {xs : List Xt} {ps : List UInt16} {con : Bool} {k : Nat}
theorem hardMay_1 (h : k < he.length) (h2 : he.getD k 0 > 1024) : decide (hardE pg he = 0) = false :=
  decide_eq_false (fun e => by rw [hardE, if_pos (.inr (.inr (any_yes (p := fun x : UInt32 => decide (x > 1024)) (d := 0) h (decide_eq_true h2))))] at e; cases e)
theorem hardMay_2 (h : ∀ j, j < he.length → decide (he.getD j 0 > 1024) = false) : decide (hardE pg he = 0) = (decide (pg ≤ 4096) && decide (he.length ≤ 16)) := by
  have h1 : he.any (fun x => decide (x > 1024)) = false := any_no (d := 0) h
  rw [hardE]
  by_cases h2 : pg > 4096
  · have h4 : decide (pg ≤ 4096) = false := decide_eq_false (fun k => by have := UInt32.le_iff_toNat_le.1 k; have := UInt32.lt_iff_toNat_lt.1 h2; omega)
    rw [if_pos (.inl h2), h4]; rfl
  · by_cases h3 : he.length > 16
    · have h4 : decide (he.length ≤ 16) = false := decide_eq_false (by omega)
      rw [if_pos (.inr (.inl h3)), h4, Bool.and_false]; rfl
    · have h4 : decide (he.length ≤ 16) = true := decide_eq_true (by omega)
      have h5 : decide (pg ≤ 4096) = true := decide_eq_true (UInt32.le_iff_toNat_le.2 (Nat.le_of_not_lt fun q => h2 (UInt32.lt_iff_toNat_lt.2 q)))
      rw [if_neg (fun q => q.elim h2 (fun q => q.elim h3 (fun q => by rw [h1] at q; cases q))), h4, h5]; rfl
theorem rgE_2 (h : mfMay mp xs ps = false ∨ pages > 4096) : rgE pg he rl en mp xs ps pages = 2 :=
  if_pos (.inr (h.imp (fun h => by rw [mfE, h]; decide) id))
theorem rgE_n (h1 : 1 ≤ en) (h8 : en ≤ 8) (hm : mfMay mp xs ps = true) (hp : ¬ pages > 4096) : rgE pg he rl en mp xs ps pages = if hasE rl en = true then 9 else rgW pg he rl mp xs ps pages :=
  if_neg (fun q => q.elim (fun q => by omega) (fun q => q.elim (fun q => q (by rw [mfE, hm]; rfl)) hp))
theorem rgE_9 (h1 : 1 ≤ en) (h8 : en ≤ 8) (hm : mfMay mp xs ps = true) (hp : ¬ pages > 4096) (h : hasE rl en = true) : rgE pg he rl en mp xs ps pages = 9 := (rgE_n h1 h8 hm hp).trans (if_pos h)
theorem rgE_w (h1 : 1 ≤ en) (h8 : en ≤ 8) (hm : mfMay mp xs ps = true) (hp : ¬ pages > 4096) (h : hasE rl en = false) : rgE pg he rl en mp xs ps pages = rgW pg he rl mp xs ps pages := (rgE_n h1 h8 hm hp).trans (if_neg (by rw [h]; decide))
theorem rgW_3 (h : noneE he xs = 3) : rgW pg he rl mp xs ps pages = 3 := by rw [rgW, h]; rfl
theorem rgW_5 (h0 : noneE he xs = 0) (h : longE he xs = 5) : rgW pg he rl mp xs ps pages = 5 := by rw [rgW, h0, h]; rfl
theorem rgW_190 (h0 : noneE he xs = 0) (h : longE he xs = 0) (h2 : busyR rl xs ps = true) : rgW pg he rl mp xs ps pages = 190 := by rw [rgW, h0, h, h2]; rfl
theorem rgW_f (h0 : noneE he xs = 0) (h : longE he xs = 0) (h2 : busyR rl xs ps = false) : rgW pg he rl mp xs ps pages = fullE pg rl mp pages := by rw [rgW, h0, h, h2]; rfl
theorem noneX_u {he : List UInt32} {x : Xt} (h : he.length < 2 ^ 32) : decide (x.id ≥ UInt32.ofNat he.length) = noneX he x := by
  refine decide_eq_decide.2 ?_
  show UInt32.ofNat he.length ≤ x.id ↔ he.length ≤ x.id.toNat
  rw [UInt32.le_iff_toNat_le, UInt32.toNat_ofNat', Nat.mod_eq_of_lt h]
theorem longX_n {he : List UInt32} {x : Xt} (h : decide (x.bl > he.getD x.id.toNat 0) = false) : longX he x = false := by rw [longX, h, Bool.and_false]
theorem longX_y {he : List UInt32} {x : Xt} (h0 : x.id.toNat < he.length) (h : decide (x.bl > he.getD x.id.toNat 0) = true) : longX he x = true := by rw [longX, h, decide_eq_true h0]; rfl
theorem dpIns {D : Deep Gr} {w : World} {rl : List Gr} {G : Gr} {k : Nat} (h : D.list.ok w rl) (h2 : D.ok w G) : D.list.ok w (rl.take k ++ [G] ++ rl.drop k) := fun x hx => by
  rcases List.mem_append.1 hx with hx | hx
  · rcases List.mem_append.1 hx with hx | hx
    · exact h x (List.mem_of_mem_take hx)
    · rw [List.mem_singleton] at hx; subst hx; exact h2
  · exact h x (List.mem_of_mem_drop hx)
theorem DpTo.ins {w : World} {rl : List Gr} {G : Gr} {k : Nat} (h : ∀ b ∈ grD.ft G, w.heap.size ≤ b) : DpTo w rl (rl.take k ++ [G] ++ rl.drop k) := fun b hb => by
  obtain ⟨x, hx, hb2⟩ := List.mem_flatMap.1 hb
  rcases List.mem_append.1 hx with hx | hx
  · rcases List.mem_append.1 hx with hx | hx
    · exact .inr (List.mem_flatMap.2 ⟨x, List.mem_of_mem_take hx, hb2⟩)
    · rw [List.mem_singleton] at hx; subst hx; exact .inl (h b hb2)
  · exact .inr (List.mem_flatMap.2 ⟨x, List.mem_of_mem_drop hx, hb2⟩)
theorem DpTo.cut {w : World} {rl : List Gr} {k : Nat} : DpTo w rl (rl.take k ++ rl.drop (k + 1)) := DpTo.sub (fun g hg => by
  rcases List.mem_append.1 hg with hg | hg
  · exact List.mem_of_mem_take hg
  · exact List.mem_of_mem_drop hg)
theorem DpTo.set {w : World} {rl : List Gr} {k : Nat} {G : Gr} (hk : k < rl.length) (h : grD.ft G = grD.ft (rl.getD k Gr.no)) : DpTo w rl (rl.set k G) := fun b hb => .inr (by
  obtain ⟨x, hx, hb2⟩ := List.mem_flatMap.1 hb
  rcases List.mem_or_eq_of_mem_set hx with h3 | rfl
  · exact List.mem_flatMap.2 ⟨x, h3, hb2⟩
  · refine List.mem_flatMap.2 ⟨rl.getD k Gr.no, ?_, by rw [← h]; exact hb2⟩
    rw [show rl.getD k Gr.no = rl[k] by simp [List.getD, hk]]; exact List.getElem_mem hk)
end
end Go.Spec
namespace Go.Spec
theorem dpInsFt {rl : List Gr} {G : Gr} {k : Nat} {b : Nat} (hb : b ∈ grD.list.ft (rl.take k ++ [G] ++ rl.drop k)) : b ∈ grD.list.ft rl ∨ b ∈ grD.ft G := by
  obtain ⟨x, hx, hb2⟩ := List.mem_flatMap.1 hb
  rcases List.mem_append.1 hx with hx | hx
  · rcases List.mem_append.1 hx with hx | hx
    · exact .inl (List.mem_flatMap.2 ⟨x, List.mem_of_mem_take hx, hb2⟩)
    · rw [List.mem_singleton] at hx; subst hx; exact .inr hb2
  · exact .inl (List.mem_flatMap.2 ⟨x, List.mem_of_mem_drop hx, hb2⟩)
end Go.Spec
namespace Go.Spec
open Go.Owl
section
variable {rl l' : List Gr} {en : Int} {k : Nat} {G : Gr}
theorem takeE_y (hh : hasE rl en = true) (ht : (obs rl en).tk ≤ (obs rl en).pg) (h : (obs rl en).pg - (obs rl en).tk = 0) : takeE rl en = 4 := by rw [takeE, if_pos hh, if_pos ((left_0 ht).1 h)]
theorem takeE_n (hh : hasE rl en = true) (ht : (obs rl en).tk ≤ (obs rl en).pg) (h : ¬ (obs rl en).pg - (obs rl en).tk = 0) : takeE rl en = 0 := by rw [takeE, if_pos hh, if_neg (fun q => h ((left_0 ht).2 q))]
theorem takeE_3 (hh : hasE rl en = false) : takeE rl en = 3 := by rw [takeE, if_neg (by rw [hh]; decide)]
theorem giveE_3 (hh : hasE rl en = false) : giveE rl en = 3 := by rw [giveE, if_neg (by rw [hh]; decide)]
theorem giveE_y (hh : hasE rl en = true) (h : (obs rl en).tk = 0) : giveE rl en = 2 := by rw [giveE, if_pos hh, if_pos h]
theorem giveE_n (hh : hasE rl en = true) (h : ¬ (obs rl en).tk = 0) : giveE rl en = 0 := by rw [giveE, if_pos hh, if_neg h]
theorem obs_tk (hh : hasE rl en = true) (ht : ∀ g ∈ rl, g.tk ≤ g.pg) : (obs rl en).tk ≤ (obs rl en).pg := ht _ (obs_yes hh).1
theorem ft_sub (h : ∀ g ∈ l', g ∈ rl) : ∀ b ∈ grD.list.ft l', b ∈ grD.list.ft rl := fun b hb => by
  obtain ⟨g, hg, hb2⟩ := List.mem_flatMap.1 hb
  exact List.mem_flatMap.2 ⟨g, h g hg, hb2⟩
theorem cut_sub : ∀ g ∈ rl.take k ++ rl.drop (k + 1), g ∈ rl := fun g hg => by
  rcases List.mem_append.1 hg with hg | hg
  · exact List.mem_of_mem_take hg
  · exact List.mem_of_mem_drop hg
theorem gr_mem_getD (hk : k < rl.length) : rl.getD k Gr.no ∈ rl := by
  rw [show rl.getD k Gr.no = rl[k] by simp [List.getD, hk]]; exact List.getElem_mem hk
theorem dpSet {w : World} (hk : k < rl.length) (h : grD.list.ok w rl) (hG : grD.ok w (rl.getD k Gr.no) → grD.ok w G) : grD.list.ok w (rl.set k G) := fun x hx => by
  rcases List.mem_or_eq_of_mem_set hx with h3 | rfl
  · exact h x h3
  · exact hG (h _ (gr_mem_getD hk))
theorem ft_set (hk : k < rl.length) (hG : grD.ft G = grD.ft (rl.getD k Gr.no)) : ∀ b ∈ grD.list.ft (rl.set k G), b ∈ grD.list.ft rl := fun b hb => by
  obtain ⟨x, hx, hb2⟩ := List.mem_flatMap.1 hb
  rcases List.mem_or_eq_of_mem_set hx with h3 | rfl
  · exact List.mem_flatMap.2 ⟨x, h3, hb2⟩
  · exact List.mem_flatMap.2 ⟨_, gr_mem_getD hk, by rw [← hG]; exact hb2⟩
end
end Go.Spec
/-! from SpecCap6 -/
/- Caps: copies; both sides at once. Plain Lean. -/
namespace Go.Spec
open Go.Owl
def Gr.core (g : Gr) : Gr := { g with b := 0, r := 0 }
section
variable {gs gs2 sn rs l rl : List Gr} {g : Gr} {cn c2 : Nat} {w w1 : World}
theorem core_mem (h : gs2.map Gr.core = sn.map Gr.core) {x : Gr} (hx : x ∈ gs2) : ∃ s ∈ sn, s.core = x.core := by
  have : x.core ∈ sn.map Gr.core := by rw [← h]; exact List.mem_map.2 ⟨x, hx, rfl⟩
  exact List.mem_map.1 this
theorem copy_ne (hI : CapI gs cn) (hp : gs.Perm ((sn ++ [g]) ++ rs)) (h : gs2.map Gr.core = sn.map Gr.core) {x : ME} (hx : x ∈ gs2.map Gr.me) (hk : x.k = g.e) : False := by
  obtain ⟨y, hy, rfl⟩ := List.mem_map.1 hx
  obtain ⟨s, hs, e⟩ := core_mem h hy
  have h1 := (hp.map Gr.e).nodup_iff.1 hI.kn
  rw [List.append_assoc, List.map_append, List.singleton_append, List.map_cons, nodup_mid] at h1
  have h2 : s.e = g.e := (congrArg Gr.e e).trans hk
  exact h1.1 (List.mem_append.2 (.inl (List.mem_map.2 ⟨s, hs, h2⟩)))
theorem copy_me {b : Nat} (hI : CapI gs cn) (hp : gs.Perm ((sn ++ [g]) ++ rs)) (h : gs2.map Gr.core = sn.map Gr.core) (hm : MEok (gs2.map Gr.me) c2) : MEok ((gs2 ++ [Gr.mk g.e b c2 g.pg g.ev g.xs g.pv g.ps g.con g.pp g.tk]).map Gr.me) (c2 + 1) := by
  rw [List.map_append]
  exact hm.add (fun x hx hk => copy_ne hI hp h hx hk)
theorem core_snoc {b : Nat} (h : gs2.map Gr.core = sn.map Gr.core) : (gs2 ++ [Gr.mk g.e b c2 g.pg g.ev g.xs g.pv g.ps g.con g.pp g.tk]).map Gr.core = (sn ++ [g]).map Gr.core := by
  rw [List.map_append, List.map_append, h]; rfl
theorem core_bare (h : gs2.map Gr.core = sn.map Gr.core) : gs2.map Gr.bare = sn.map Gr.bare := by
  have e : ∀ l : List Gr, l.map Gr.bare = (l.map Gr.core).map Gr.bare := fun l => by rw [List.map_map]; rfl
  rw [e gs2, h, ← e]
theorem core_ok (h : gs2.map Gr.core = sn.map Gr.core) (hp : gs.Perm sn) (hd : grD.list.ok w gs) : grD.list.ok w gs2 := fun x hx => by
  obtain ⟨s, hs, e⟩ := core_mem h hx
  have h1 : grD.ok w s.core := hd s (hp.mem_iff.2 hs)
  rw [e] at h1; exact h1
theorem core_ft (h : gs2.map Gr.core = sn.map Gr.core) (hp : gs.Perm sn) : ∀ b ∈ grD.list.ft gs2, b ∈ grD.list.ft gs := fun b hb => by
  obtain ⟨x, hx, hb2⟩ := List.mem_flatMap.1 hb
  obtain ⟨s, hs, e⟩ := core_mem h hx
  have h1 : grD.ft s.core = grD.ft x.core := congrArg grD.ft e
  refine List.mem_flatMap.2 ⟨s, hp.mem_iff.2 hs, ?_⟩
  have h2 : grD.ft s = grD.ft x := h1
  rw [h2]; exact hb2
theorem copy_R (hI : CapI gs cn) (h : gs2.map Gr.core = sn.map Gr.core) (hp : gs.Perm sn) (hm : MEok (gs2.map Gr.me) c2) : CapR gs2 c2 (gs2.map Gr.bare) :=
  ⟨⟨hm, fun x hx => by
    obtain ⟨s, hs, e⟩ := core_mem h hx
    have h1 := hI.fit s (hp.mem_iff.2 hs)
    have e1 : s.core.ps = x.core.ps := congrArg Gr.ps e
    have e2 : s.core.xs = x.core.xs := congrArg Gr.xs e
    have e3 : s.ps = x.ps := e1
    have e4 : s.xs = x.xs := e2
    rw [← e3, ← e4]; exact h1⟩, rfl⟩
theorem copy_perm (h : gs2.map Gr.core = sn.map Gr.core) (hp : gs.Perm sn) (hl : gs.map Gr.bare = l) : l.Perm (gs2.map Gr.bare) := by
  rw [core_bare h, ← hl]; exact hp.map _
theorem Rel.len (h : Rel l rl) : rl.length ≤ 8 := by
  have := nodup_le (n := 8) h.nd (fun x hx => by
    obtain ⟨g, hg, rfl⟩ := List.mem_map.1 hx
    exact h.en g hg)
  rw [List.length_map] at this; exact this
theorem Rel.glen (h : Rel l rl) (hR : CapR gs cn l) : gs.length ≤ 8 := by
  have h1 := h.perm.length_eq
  rw [← hR.2, List.length_map, List.length_map] at h1
  have := h.len; omega
theorem Rel.fit (h : Rel l rl) (hR : CapR gs cn l) : ∀ g ∈ rl, g.ps.length < 2 ^ 40 ∧ g.xs.length < 2 ^ 40 := fun g hg => by
  have h1 : g.bare ∈ gs.map Gr.bare := by rw [hR.2]; exact h.perm.mem_iff.1 (List.mem_map.2 ⟨g, hg, rfl⟩)
  obtain ⟨s, hs, e⟩ := List.mem_map.1 h1
  have h2 := hR.1.fit s hs
  have e1 : s.bare.ps = g.bare.ps := congrArg Gr.ps e
  have e2 : s.bare.xs = g.bare.xs := congrArg Gr.xs e
  have e3 : s.ps = g.ps := e1
  have e4 : s.xs = g.xs := e2
  rw [← e3, ← e4]; exact h2
theorem mapE_getD {k : Nat} (hk : k < rl.length) : (rl.map Gr.e).getD k 0 = (rl.getD k Gr.no).e := by simp [List.getD, hk]
theorem eqB_of {a b : Bool} (h : a = b) : (a == b) = true := by subst h; cases a <;> rfl
end
end Go.Spec
namespace Go.Owl
theorem capTr6 {r : Nat} {cs x1 x2 x3 x4 : List Value} {t t2 : TypeId} {v1 v2 v3 rv : Value} {s1 s2 s3 s4 n1 n2 n3 n4 : Nat} {β : Type} {D : Deep β} {a : β} :
    ∀ b ∈ blks [Ent.blk r cs t, Ent.ar v1 s1 n1 x1, .row rv t2 s4 n4 x4, Ent.dp D a, Ent.ar v2 s2 n2 x2, Ent.ar v3 s3 n3 x3], b = r ∨ some b = rv.ownBlock := by
  intro b hb
  obtain ⟨m, e, hm, ho⟩ := mem_blks.1 hb
  match m, hm, ho with
  | 0, hm, ho => cases hm; exact .inl (Option.some.inj ho).symm
  | 1, hm, ho => cases hm; cases ho
  | 2, hm, ho => cases hm; exact .inr ho.symm
  | 3, hm, ho => cases hm; cases ho
  | 4, hm, ho => cases hm; cases ho
  | 5, hm, ho => cases hm; cases ho
  | m + 6, hm, ho => simp at hm
end Go.Owl
