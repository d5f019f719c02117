/- General lemmas and walks: SpecDem, SpecDem0, SpecObj, SpecObj2, SpecSort, SpecSort2, SpecSort3, SpecSort5, SpecDem2, SpecDem3, SpecSort4, SpecDem4, SpecDem5, SpecDem6. No condition but what each theorem names. -/
import Derived.Test.YtnngbnenekjffaaQe6bf9a58
import Derived.Test.YtnngbnenekjffaaQ48cb4255
/-! from SpecDem -/
/- Manifests: which may be. Plain Lean. -/
namespace Go.Owl
end Go.Owl
namespace Go.Spec
open Go.Owl
structure Xt where
  id : UInt32
  bl : UInt32
deriving DecidableEq
def Xt.zero : Xt := ⟨0, 0⟩
def xtc (x : Xt) : List Value := [vU32 x.id, vU32 x.bl]
structure Sg where
  a : UInt32
  p : UInt8
  b : List UInt8
deriving DecidableEq
def Sg.zero : Sg := ⟨0, 0, []⟩
section
variable {α : Type} {p : α → Bool} {l : List α} {d : α} {k : Nat} {r : α → α → Bool}
/-- The first that is so. -/
def fidx (p : α → Bool) (l : List α) : Int := match l.findIdx? p with
  | some k => (k : Int)
  | none => -1
theorem getD_at (h : k < l.length) : l.getD k d = l[k] := by rw [List.getD, List.getElem?_eq_getElem h]; rfl
theorem fidx_yes (hk : k < l.length) (h : ∀ j, j < k → p (l.getD j d) = false) (hp : p (l.getD k d) = true) : fidx p l = (k : Int) := by
  have e : l.findIdx? p = some k := by
    rw [List.findIdx?_eq_some_iff_getElem]
    refine ⟨hk, by rw [getD_at hk] at hp; exact hp, fun j hj => ?_⟩
    have h1 := h j hj
    rw [getD_at (by omega)] at h1
    simp [h1]
  rw [fidx, e]
theorem fidx_no (h : ∀ j, j < l.length → p (l.getD j d) = false) : fidx p l = -1 := by
  have e : l.findIdx? p = none := by
    rw [List.findIdx?_eq_none_iff]
    intro x hx
    obtain ⟨j, hj, rfl⟩ := List.getElem_of_mem hx
    have h1 := h j hj
    rw [getD_at hj] at h1
    exact h1
  rw [fidx, e]
theorem fidx_any : decide (fidx p l ≥ 0) = l.any p := by
  rw [← List.findIdx?_isSome, fidx]
  cases l.findIdx? p with
  | none => rfl
  | some k => simp
/-- Each two side by side are so. -/
def ris (r : α → α → Bool) : List α → Bool
  | a :: b :: l => r a b && ris r (b :: l)
  | _ => true
theorem ris_no : ∀ {l : List α} {k : Nat}, k + 1 < l.length → r (l.getD k d) (l.getD (k + 1) d) = false → ris r l = false
  | [], _, h, _ => by simp at h
  | [_], _, h, _ => by simp at h
  | a :: b :: l, 0, _, h => by
    have h1 : r a b = false := h
    rw [ris, h1]; rfl
  | a :: b :: l, k + 1, hk, h => by
    rw [ris, ris_no (l := b :: l) (k := k) (by simpa using hk) h, Bool.and_false]
theorem ris_yes : ∀ {l : List α}, (∀ k, k + 1 < l.length → r (l.getD k d) (l.getD (k + 1) d) = true) → ris r l = true
  | [], _ => rfl
  | [_], _ => rfl
  | a :: b :: l, h => by
    have h1 : r a b = true := h 0 (by simp)
    rw [ris, h1, Bool.true_and]
    exact ris_yes (l := b :: l) fun k hk => h (k + 1) (by simpa using hk)
theorem allPrev {P : Nat → Prop} (h : ∀ j, j < k → P j) (h2 : P k) : ∀ j, j < k + 1 → P j := fun j hj => by
  rcases Nat.lt_or_ge j k with h3 | h3
  · exact h j h3
  · rw [show j = k by omega]; exact h2
end
def xtBad (x : Xt) : Bool := decide (x.id ≥ 16) || (decide (x.bl < 1) || decide (x.bl > 1024))
def xtLt (x y : Xt) : Bool := decide (x.id < y.id)
def u16Lt (x y : UInt16) : Bool := decide (x < y)
def u16Is (y x : UInt16) : Bool := decide (y = x)
def mfMay (pg : UInt32) (xs : List Xt) (ps : List UInt16) : Bool := !(xs.any xtBad) && (ris xtLt xs && (ris u16Lt ps && (!(ps.any (u16Is 0)) && (!decide (ps.length > 16) && !decide (pg > 1024)))))
def mfE (pg : UInt32) (xs : List Xt) (ps : List UInt16) : Nat := if mfMay pg xs ps then 0 else 2
theorem mfE_yes {pg : UInt32} {xs : List Xt} {ps : List UInt16} (h : mfMay pg xs ps = true) : mfE pg xs ps = 0 := if_pos h
theorem mfE_no {pg : UInt32} {xs : List Xt} {ps : List UInt16} (h : mfMay pg xs ps = false) : mfE pg xs ps = 2 := if_neg (by rw [h]; decide)
end Go.Spec
/-! from SpecDem0 -/
/- Manifests: which are the same, which may be. Plain Lean. -/
namespace Go.Owl
section
variable {S : List Nat} {w0 w : World} {L : List Ent} {i : Nat}
end
end Go.Owl
namespace Go.Spec
open Go.Owl
theorem list_eqD {α : Type} {d : α} {a b : List α} (hl : a.length = b.length) (h : ∀ j, j < a.length → a.getD j d = b.getD j d) : a = b := by
  refine List.ext_getElem hl fun i h1 h2 => ?_
  have := h i h1
  rwa [getD_at h1, getD_at h2] at this
theorem xt_eq {x y : Xt} (h : (decide (x.id = y.id) && decide (x.bl = y.bl)) = true) : x = y := by
  simp only [Bool.and_eq_true, decide_eq_true_eq] at h
  cases x; cases y; simp_all
theorem xt_ne {x y : Xt} (h : (decide (x.id = y.id) && decide (x.bl = y.bl)) = false) : x ≠ y := by
  rintro rfl; simp at h
def sameM (pg : UInt32) (c : Bool) (xs : List Xt) (ps : List UInt16) (pg' : UInt32) (c' : Bool) (xs' : List Xt) (ps' : List UInt16) : Bool := decide (pg = pg') && ((c == c') && (decide (xs = xs') && decide (ps = ps')))
section
variable {pg pg' : UInt32} {c c' : Bool} {xs xs' : List Xt} {ps ps' : List UInt16}
theorem sameM_iff : sameM pg c xs ps pg' c' xs' ps' = true ↔ pg = pg' ∧ c = c' ∧ xs = xs' ∧ ps = ps' := by simp [sameM]
theorem sameM_no (h : ¬(pg = pg' ∧ c = c' ∧ xs = xs' ∧ ps = ps')) : sameM pg c xs ps pg' c' xs' ps' = false := by
  rw [← sameM_iff] at h; simpa using h
end
end Go.Spec
/-! from SpecObj -/
/- Symbols: which may be. Plain Lean. -/
namespace Go.Spec
open Go.Owl
structure Rl where
  off : UInt32
  kind : UInt8
  nm : List UInt8
  add : UInt32
deriving DecidableEq
def Rl.zero : Rl := ⟨0, 0, [], 0⟩
structure Nt where
  kind : UInt8
  n : UInt32
  m : UInt32
deriving DecidableEq
def Nt.zero : Nt := ⟨0, 0, 0⟩
def ntc (x : Nt) : List Value := [vU8 x.kind, vU32 x.n, vU32 x.m]
structure Sy where
  nm : List UInt8
  bind : UInt8
  kind : UInt8
  size : UInt32
  b : List UInt8
  rv : Value
  rl : List Rl
  nv : Value
  nt : List Nt
def Sy.zero : Sy := ⟨[], 0, 0, 0, [], .slice none 0 0, [], .slice none 0 0, []⟩
structure Ob where
  nm : List UInt8
  sv : Value
  sy : List Sy
def Ob.zero : Ob := ⟨[], .slice none 0 0, []⟩
section
variable {w : World} {x : Sy} {o : Ob}
end
section
variable {p : UInt8 → Bool} {s t : List UInt8}
end
section
variable {s : List UInt8} {k : Nat}
end
end Go.Spec
/-! from SpecObj2 -/
/- Symbols: notes, places, sizes. Plain Lean. -/
namespace Go.Spec
open Go.Owl
def noteB (x : Nt) : Bool :=
  bif decide (x.kind = 1) then decide (x.n ≤ 1024) && decide (x.m = 0)
  else bif decide (x.kind = 2) then (decide (x.n < 16) && decide (x.m ≥ 1)) && decide (x.m ≤ 1024)
  else bif decide (x.kind = 3) then (decide (x.n ≥ 1) && decide (x.n ≤ 65535)) && decide (x.m = 0)
  else bif decide (x.kind = 4) then decide (x.n = 0) && decide (x.m = 0) else false
def toldN (b : Bool) : Nat := bif b then 0 else 2
def noteE (x : Nt) : Nat := toldN (noteB x)
theorem or_nil (a b : UInt32) : decide ((a ||| b) = 0) = (decide (a = 0) && decide (b = 0)) := by
  rw [← Bool.decide_and]
  refine decide_eq_decide.2 ⟨fun h => ?_, fun h => by rw [h.1, h.2]; rfl⟩
  have h1 : a.toBitVec ||| b.toBitVec = 0#32 := by
    have := congrArg UInt32.toBitVec h
    simpa using this
  have e : ∀ i, a.toBitVec.getLsbD i = false ∧ b.toBitVec.getLsbD i = false := fun i => by
    have := congrArg (fun v => BitVec.getLsbD v i) h1
    simpa using this
  exact ⟨UInt32.toBitVec_inj.1 (BitVec.eq_of_getLsbD_eq fun i _ => by simp [e i]), UInt32.toBitVec_inj.1 (BitVec.eq_of_getLsbD_eq fun i _ => by simp [e i])⟩
section
variable {l : List Rl} {b e k : Nat} {x : Rl}
end
section
variable {x y : Sy}
end
section
variable {x : Rl} {b e : Nat} {l : List Rl} {k : Nat}
end
section
variable {x : Sy} {k : Nat}
end
end Go.Spec
/-! from SpecSort -/
/- Lists that are sorted by swaps. Plain Lean. -/
namespace Go.Spec
structure LtOK {α : Type} (lt : α → α → Bool) : Prop where
  irr : ∀ a, lt a a = false
  asym : ∀ a b, lt a b = true → lt b a = false
  neg : ∀ a b c, lt a b = false → lt b c = false → lt a c = false
def swapL {α : Type} (d : α) (l : List α) (i j : Nat) : List α := (l.set i (l.getD j d)).set j (l.getD i d)
inductive Sw {α : Type} (d : α) (a b : Nat) : List α → List α → Prop
  | refl (l : List α) : Sw d a b l l
  | step {l l' : List α} {i j : Nat} : Sw d a b l l' → a ≤ i → i < b → a ≤ j → j < b → Sw d a b l (swapL d l' i j)
def SortS {α : Type} (lt : α → α → Bool) (d : α) (a b : Nat) (l : List α) : Prop := ∀ p q, a ≤ p → p < q → q < b → lt (l.getD q d) (l.getD p d) = false
section
variable {α : Type} {d : α} {l l' l'' : List α} {a b i j k : Nat} {lt : α → α → Bool}
theorem swapL_len : (swapL d l i j).length = l.length := by simp [swapL]
theorem getD_set (l : List α) (i k : Nat) (x : α) (hi : i < l.length) : (l.set i x).getD k d = if k = i then x else l.getD k d := by
  simp only [List.getD, List.getElem?_set]
  by_cases h : i = k
  · subst h; simp [hi]
  · rw [if_neg h, if_neg (fun e => h e.symm)]
theorem swap_get (hi : i < l.length) (hj : j < l.length) (k : Nat) : (swapL d l i j).getD k d = if k = j then l.getD i d else if k = i then l.getD j d else l.getD k d := by
  rw [swapL, getD_set _ _ _ _ (by simpa using hj), getD_set _ _ _ _ hi]
theorem ext_get (h : l.length = l'.length) (hg : ∀ k, l.getD k d = l'.getD k d) : l = l' := by
  apply List.ext_getElem h
  intro k h1 h2
  have := hg k
  simpa [List.getD, h1, h2] using this
theorem swap_swap (hi : i < l.length) (hj : j < l.length) : swapL d (swapL d l i j) i j = l := by
  apply ext_get (d := d) (by rw [swapL_len, swapL_len])
  intro k
  have hi' : i < (swapL d l i j).length := by rw [swapL_len]; exact hi
  have hj' : j < (swapL d l i j).length := by rw [swapL_len]; exact hj
  rw [swap_get hi' hj', swap_get hi hj, swap_get hi hj, swap_get hi hj]
  by_cases h1 : k = j
  · subst h1
    by_cases h2 : i = k
    · subst h2; simp
    · simp [h2]
  · by_cases h2 : k = i
    · subst h2; simp [h1]
    · simp [h1, h2]
theorem Sw.len (h : Sw d a b l l') : l'.length = l.length := by
  induction h with
  | refl => rfl
  | step _ _ _ _ _ ih => rw [swapL_len, ih]
theorem Sw.trans (h1 : Sw d a b l l') (h2 : Sw d a b l' l'') : Sw d a b l l'' := by
  induction h2 with
  | refl => exact h1
  | step _ h1 h2 h3 h4 ih => exact Sw.step ih h1 h2 h3 h4
theorem Sw.mono {a' b' : Nat} (ha : a' ≤ a) (hb : b ≤ b') (h : Sw d a b l l') : Sw d a' b' l l' := by
  induction h with
  | refl => exact .refl _
  | step _ h1 h2 h3 h4 ih => exact Sw.step ih (by omega) (by omega) (by omega) (by omega)
theorem Sw.one (hi : a ≤ i) (hi2 : i < b) (hj : a ≤ j) (hj2 : j < b) : Sw d a b l (swapL d l i j) := Sw.step (.refl _) hi hi2 hj hj2
theorem Sw.symm (hb : b ≤ l.length) (h : Sw d a b l l') : Sw d a b l' l := by
  induction h with
  | refl => exact .refl _
  | step h h1 h2 h3 h4 ih =>
    rename_i l1 i j
    have hl := h.len
    have h5 : Sw d a b (swapL d l1 i j) (swapL d (swapL d l1 i j) i j) := Sw.one h1 h2 h3 h4
    rw [swap_swap (by omega) (by omega)] at h5
    exact h5.trans ih
theorem Sw.out (hb : b ≤ l.length) (h : Sw d a b l l') (hk : k < a ∨ b ≤ k) : l'.getD k d = l.getD k d := by
  induction h with
  | refl => rfl
  | step h h1 h2 h3 h4 ih =>
    have hl := h.len
    rw [swap_get (by omega) (by omega), if_neg (by omega), if_neg (by omega), ih]
theorem Sw.all {p : α → Prop} (hb : b ≤ l.length) (h : Sw d a b l l') (hp : ∀ k, a ≤ k → k < b → p (l.getD k d)) : ∀ k, a ≤ k → k < b → p (l'.getD k d) := by
  induction h with
  | refl => exact hp
  | step h h1 h2 h3 h4 ih =>
    have hl := h.len
    intro k hk1 hk2
    rw [swap_get (by omega) (by omega)]
    split
    · exact ih _ h1 h2
    · split
      · exact ih _ h3 h4
      · exact ih _ hk1 hk2
theorem getD_mem (hk : k < l.length) : l.getD k d ∈ l := by
  rw [show l.getD k d = l[k] by simp [List.getD, hk]]; exact List.getElem_mem hk
theorem mem_getD {x : α} (h : x ∈ l) : ∃ k, k < l.length ∧ l.getD k d = x := by
  obtain ⟨k, hk, e⟩ := List.getElem_of_mem h
  exact ⟨k, hk, by simp [List.getD, hk, e]⟩
theorem Sw.sub (hb : b ≤ l.length) (h : Sw d a b l l') : ∀ x, x ∈ l' → x ∈ l := by
  intro x hx
  obtain ⟨k, hk, rfl⟩ := mem_getD (d := d) hx
  rw [h.len] at hk
  by_cases hin : a ≤ k ∧ k < b
  · exact h.all (p := fun y => y ∈ l) hb (fun k h1 h2 => getD_mem (by omega)) k hin.1 hin.2
  · rw [h.out hb (by omega)]; exact getD_mem hk
theorem Sw.mem (hb : b ≤ l.length) (h : Sw d a b l l') (x : α) : x ∈ l' ↔ x ∈ l :=
  ⟨h.sub hb x, (h.symm hb).sub (by rw [h.len]; exact hb) x⟩
theorem SortS.nil (h : b ≤ a + 1) : SortS lt d a b l := fun p q h1 h2 h3 => by omega
def InsI (lt : α → α → Bool) (d : α) (a i j : Nat) (l : List α) : Prop := ∀ p q, a ≤ p → p < q → q ≤ i → q ≠ j → lt (l.getD q d) (l.getD p d) = false
theorem ins_init (h : SortS lt d a i l) : InsI lt d a i i l := fun p q h1 h2 h3 h4 => h p q h1 h2 (by omega)
theorem ins_done (ok : LtOK lt) (h : InsI lt d a i j l) (hj : j ≤ a ∨ lt (l.getD j d) (l.getD (j - 1) d) = false) (ha : a ≤ j) : SortS lt d a (i + 1) l := by
  intro p q h1 h2 h3
  by_cases hq : q = j
  · subst hq
    rcases hj with hj | hj
    · omega
    · by_cases hp : p = q - 1
      · rw [hp]; exact hj
      · exact ok.neg _ _ _ hj (h p (q - 1) h1 (by omega) (by omega) (by omega))
  · exact h p q h1 h2 (by omega) hq
theorem ins_step (ok : LtOK lt) (hi : i < l.length) (h : InsI lt d a i j l) (ha : a < j) (hj : j ≤ i) (hlt : lt (l.getD j d) (l.getD (j - 1) d) = true) : InsI lt d a i (j - 1) (swapL d l j (j - 1)) := by
  intro p q h1 h2 h3 h4
  have hs := swap_get (d := d) (l := l) (i := j) (j := j - 1) (by omega) (by omega)
  rw [hs p, hs q, if_neg h4]
  by_cases hq : q = j
  · subst hq
    rw [if_pos rfl]
    by_cases hp : p = q - 1
    · rw [if_pos hp]; exact ok.asym _ _ hlt
    · rw [if_neg hp, if_neg (by omega)]; exact h p (q - 1) h1 (by omega) (by omega) (by omega)
  · rw [if_neg hq]
    by_cases hp : p = j - 1
    · rw [if_pos hp]; exact h j q (by omega) (by omega) h3 hq
    · rw [if_neg hp]
      by_cases hp2 : p = j
      · rw [if_pos hp2]; exact h (j - 1) q (by omega) (by omega) h3 hq
      · rw [if_neg hp2]; exact h p q h1 h2 h3 hq
end
end Go.Spec
/-! from SpecSort2 -/
/- Orders of one-cell elements. Plain Lean. -/
namespace Go.Spec
def ltU16 (a b : UInt16) : Bool := decide (a < b)
theorem ltU16OK : LtOK ltU16 := by
  have h : ∀ a b : UInt16, ltU16 a b = decide (a.toNat < b.toNat) := fun a b => decide_eq_decide.2 UInt16.lt_iff_toNat_lt
  refine ⟨fun a => ?_, fun a b h1 => ?_, fun a b c h1 h2 => ?_⟩
  · rw [h]; exact decide_eq_false (by omega)
  · rw [h] at h1 ⊢; have := of_decide_eq_true h1; exact decide_eq_false (by omega)
  · rw [h] at h1 h2 ⊢; have := of_decide_eq_false h1; have := of_decide_eq_false h2; exact decide_eq_false (by omega)
end Go.Spec
/-! from SpecSort3 -/
/- Heaps, partitions, and what a sort asks of them. Plain Lean. -/
namespace Go.Spec
open Go.Owl
section
variable {α : Type} {d : α} {l l1 l2 l' : List α} {a b i j k f lo hi x c n mid : Nat} {lt : α → α → Bool} {pv : α}
def HeapX (lt : α → α → Bool) (d : α) (lo hi f x : Nat) (l : List α) : Prop := ∀ r c, lo ≤ r → r ≠ x → c < hi → (c = 2 * r + 1 ∨ c = 2 * r + 2) → lt (l.getD (f + r) d) (l.getD (f + c) d) = false
def HeapG (lt : α → α → Bool) (d : α) (lo hi f x : Nat) (l : List α) : Prop := ∀ y c, lo ≤ y → (x = 2 * y + 1 ∨ x = 2 * y + 2) → c < hi → (c = 2 * x + 1 ∨ c = 2 * x + 2) → lt (l.getD (f + y) d) (l.getD (f + c) d) = false
def HeapA (lt : α → α → Bool) (d : α) (lo hi f : Nat) (l : List α) : Prop := ∀ r c, lo ≤ r → c < hi → (c = 2 * r + 1 ∨ c = 2 * r + 2) → lt (l.getD (f + r) d) (l.getD (f + c) d) = false
/-- The greater child. -/
def Och (lt : α → α → Bool) (d : α) (hi f x c : Nat) (l : List α) : Prop := c < hi ∧ (c = 2 * x + 1 ∨ c = 2 * x + 2) ∧ ∀ o, o < hi → (o = 2 * x + 1 ∨ o = 2 * x + 2) → lt (l.getD (f + c) d) (l.getD (f + o) d) = false
theorem sift_init (h : HeapA lt d (lo + 1) hi f l) : HeapX lt d lo hi f lo l ∧ HeapG lt d lo hi f lo l :=
  ⟨fun r c h1 h2 h3 h4 => h r c (by omega) h3 h4, fun y c h1 h2 => by omega⟩
theorem sift_leaf (h : HeapX lt d lo hi f x l) (hx : hi ≤ 2 * x + 1) : HeapA lt d lo hi f l := fun r c h1 h2 h3 => by
  by_cases e : r = x
  · subst e; omega
  · exact h r c h1 e h2 h3
theorem och_2 (ok : LtOK lt) (h : 2 * x + 1 + 1 < hi) (hlt : lt (l.getD (f + (2 * x + 1)) d) (l.getD (f + (2 * x + 1) + 1) d) = true) : Och lt d hi f x (2 * x + 1 + 1) l := by
  refine ⟨h, .inr rfl, fun o h1 h2 => ?_⟩
  rcases h2 with rfl | rfl
  · exact ok.asym _ _ hlt
  · exact ok.irr _
theorem och_1 (ok : LtOK lt) (h : 2 * x + 1 < hi) (h2 : ¬ 2 * x + 1 + 1 < hi ∨ lt (l.getD (f + (2 * x + 1)) d) (l.getD (f + (2 * x + 1) + 1) d) = false) : Och lt d hi f x (2 * x + 1) l := by
  refine ⟨h, .inl rfl, fun o h3 h4 => ?_⟩
  rcases h4 with rfl | rfl
  · exact ok.irr _
  · rcases h2 with h2 | h2
    · omega
    · exact h2
theorem sift_stop (ok : LtOK lt) (h : HeapX lt d lo hi f x l) (ho : Och lt d hi f x c l) (hlt : lt (l.getD (f + x) d) (l.getD (f + c) d) = false) : HeapA lt d lo hi f l := fun r o h1 h2 h3 => by
  by_cases e : r = x
  · subst e; exact ok.neg _ _ _ hlt (ho.2.2 o h2 h3)
  · exact h r o h1 e h2 h3
theorem sift_step (ok : LtOK lt) (hf : f + hi ≤ l.length) (h : HeapX lt d lo hi f x l) (hg : HeapG lt d lo hi f x l) (ho : Och lt d hi f x c l) (hx : lo ≤ x) (hlt : lt (l.getD (f + x) d) (l.getD (f + c) d) = true) :
    HeapX lt d lo hi f c (swapL d l (f + x) (f + c)) ∧ HeapG lt d lo hi f c (swapL d l (f + x) (f + c)) := by
  obtain ⟨h1, h2, h3⟩ := ho
  have hs := swap_get (d := d) (l := l) (i := f + x) (j := f + c) (by omega) (by omega)
  constructor
  · intro r o q1 q2 q3 q4
    rw [hs, hs, if_neg (by omega)]
    by_cases e : r = x
    · subst e
      rw [if_pos rfl]
      by_cases e2 : o = c
      · subst e2; rw [if_pos rfl]; exact ok.asym _ _ hlt
      · rw [if_neg (by omega), if_neg (by omega)]; exact h3 o q3 q4
    · rw [if_neg (by omega)]
      by_cases e2 : o = c
      · exfalso; omega
      · rw [if_neg (by omega)]
        by_cases e3 : o = x
        · subst e3; rw [if_pos rfl]; exact hg r c q1 q4 h1 h2
        · rw [if_neg (by omega)]; exact h r o q1 e q3 q4
  · intro y o q1 q2 q3 q4
    have e : y = x := by omega
    subst e
    rw [hs, hs, if_neg (by omega), if_pos rfl, if_neg (by omega), if_neg (by omega)]
    exact h c o (by omega) (by omega) q3 q4
theorem heap_max (ok : LtOK lt) (h : HeapA lt d 0 hi f l) : ∀ p, p < hi → lt (l.getD f d) (l.getD (f + p) d) = false := by
  intro p
  induction p using Nat.strongRecOn with
  | _ p ih =>
    intro hp
    by_cases h0 : p = 0
    · subst h0; exact ok.irr _
    · have h1 := h ((p - 1) / 2) p (Nat.zero_le _) hp (by omega)
      exact ok.neg _ _ _ (ih ((p - 1) / 2) (by omega) (by omega)) h1
/-- The second half of a heap sort. -/
def HeapT (lt : α → α → Bool) (d : α) (a n k : Nat) (l : List α) : Prop := HeapA lt d 0 k a l ∧ ∀ p q, p < q → k ≤ q → q < n → lt (l.getD (a + q) d) (l.getD (a + p) d) = false
theorem heapT_init (h : HeapA lt d 0 n a l) : HeapT lt d a n n l := ⟨h, fun p q h1 h2 h3 => by omega⟩
theorem heapT_pre (hn : a + n ≤ l.length) (hk : i < n) (h : HeapT lt d a n (i + 1) l) : HeapA lt d 1 i a (swapL d l a (a + i)) := fun r c h1 h2 h3 => by
  have hs := swap_get (d := d) (l := l) (i := a) (j := a + i) (by omega) (by omega)
  rw [hs, hs, if_neg (by omega), if_neg (by omega), if_neg (by omega), if_neg (by omega)]
  exact h.1 r c (by omega) (by omega) h3
theorem heapT_step (ok : LtOK lt) (hn : a + n ≤ l.length) (hk : i < n) (h : HeapT lt d a n (i + 1) l) (hw : Sw d a (a + i) (swapL d l a (a + i)) l2) (hh : HeapA lt d 0 i a l2) : HeapT lt d a n i l2 := by
  refine ⟨hh, fun p q h1 h2 h3 => ?_⟩
  have hs := swap_get (d := d) (l := l) (i := a) (j := a + i) (by omega) (by omega)
  have hl : (swapL d l a (a + i)).length = l.length := swapL_len
  have hout : ∀ k, a + i ≤ k → l2.getD k d = (swapL d l a (a + i)).getD k d := fun k hk2 => hw.out (by omega) (.inr hk2)
  have hmax := heap_max ok h.1
  have hi2 : l2.getD (a + i) d = l.getD a d := by rw [hout _ (Nat.le_refl _), hs, if_pos rfl]
  by_cases e : q = i
  · subst e
    rw [hi2]
    have := hw.all (p := fun y => lt (l.getD a d) y = false) (by omega) (fun k q1 q2 => by
      rw [hs, if_neg (by omega)]
      split
      · exact hmax q (by omega)
      · have := hmax (k - a) (by omega)
        rw [show a + (k - a) = k by omega] at this; exact this) (a + p) (by omega) (by omega)
    exact this
  · have hq : l2.getD (a + q) d = l.getD (a + q) d := by rw [hout _ (by omega), hs, if_neg (by omega), if_neg (by omega)]
    rw [hq]
    by_cases e2 : p = i
    · subst e2; rw [hi2]
      have := h.2 0 q (by omega) (by omega) h3
      exact this
    · by_cases e3 : p < i
      · exact hw.all (p := fun y => lt (l.getD (a + q) d) y = false) (by omega) (fun k q1 q2 => by
          rw [hs, if_neg (by omega)]
          split
          · exact h.2 i q (by omega) (by omega) h3
          · have := h.2 (k - a) q (by omega) (by omega) h3
            rw [show a + (k - a) = k by omega] at this; exact this) (a + p) (by omega) (by omega)
      · rw [hout _ (by omega), hs, if_neg (by omega), if_neg (by omega)]
        exact h.2 p q h1 (by omega) h3
theorem heapT_end (h : HeapT lt d a n 0 l) (hb : a + n = b) : SortS lt d a b l := fun p q h1 h2 h3 => by
  have := h.2 (p - a) (q - a) (by omega) (by omega) (by omega)
  rw [show a + (q - a) = q by omega, show a + (p - a) = p by omega] at this; exact this
def PartI (lt : α → α → Bool) (d : α) (a b i j : Nat) (l : List α) (pv : α) : Prop :=
  a + 1 ≤ i ∧ i ≤ j + 1 ∧ j + 1 ≤ b ∧ l.getD a d = pv ∧ (∀ k, a + 1 ≤ k → k < i → lt (l.getD k d) pv = true) ∧ (∀ k, j < k → k < b → lt (l.getD k d) pv = false)
def PartP (lt : α → α → Bool) (d : α) (a b mid : Nat) (l : List α) : Prop :=
  a ≤ mid ∧ mid < b ∧ (∀ k, a ≤ k → k < mid → lt (l.getD k d) (l.getD mid d) = true) ∧ (∀ k, mid < k → k < b → lt (l.getD k d) (l.getD mid d) = false)
theorem part_init (h : a < b) (hv : l.getD a d = pv) : PartI lt d a b (a + 1) (b - 1) l pv := ⟨Nat.le_refl _, by omega, by omega, hv, fun k h1 h2 => by omega, fun k h1 h2 => by omega⟩
theorem part_i (h : PartI lt d a b i j l pv) (hij : i ≤ j) (hlt : lt (l.getD i d) (l.getD a d) = true) : PartI lt d a b (i + 1) j l pv := by
  obtain ⟨h1, h2, h3, h4, h5, h6⟩ := h
  rw [h4] at hlt
  refine ⟨by omega, by omega, h3, h4, fun k q1 q2 => ?_, h6⟩
  by_cases e : k = i
  · subst e; exact hlt
  · exact h5 k q1 (by omega)
theorem part_j (h : PartI lt d a b i j l pv) (hij : i ≤ j) (hlt : lt (l.getD j d) (l.getD a d) = false) : PartI lt d a b i (j - 1) l pv := by
  obtain ⟨h1, h2, h3, h4, h5, h6⟩ := h
  rw [h4] at hlt
  refine ⟨h1, by omega, by omega, h4, h5, fun k q1 q2 => ?_⟩
  by_cases e : k = j
  · subst e; exact hlt
  · exact h6 k (by omega) q2
theorem part_swap (hl : b ≤ l.length) (h : PartI lt d a b i j l pv) (hij : i ≤ j) (hi : lt (l.getD i d) (l.getD a d) = false) (hj : lt (l.getD j d) (l.getD a d) = true) : PartI lt d a b (i + 1) (j - 1) (swapL d l i j) pv := by
  obtain ⟨h1, h2, h3, h4, h5, h6⟩ := h
  rw [h4] at hi hj
  have hne : i ≠ j := fun e => by subst e; rw [hi] at hj; cases hj
  have hs := swap_get (d := d) (l := l) (i := i) (j := j) (by omega) (by omega)
  refine ⟨by omega, by omega, by omega, ?_, fun k q1 q2 => ?_, fun k q1 q2 => ?_⟩
  · rw [hs, if_neg (by omega), if_neg (by omega)]; exact h4
  · rw [hs, if_neg (by omega)]
    split
    · exact hj
    · exact h5 k q1 (by omega)
  · rw [hs]
    split
    · exact hi
    · rw [if_neg (by omega)]; exact h6 k (by omega) q2
theorem part_done (hl : b ≤ l.length) (h : PartI lt d a b i j l pv) (hij : j < i) : PartP lt d a b j (swapL d l j a) := by
  obtain ⟨h1, h2, h3, h4, h5, h6⟩ := h
  have hs := swap_get (d := d) (l := l) (i := j) (j := a) (by omega) (by omega)
  have hm : (swapL d l j a).getD j d = pv := by
    rw [hs]
    split
    · rename_i e; rw [e]; exact h4
    · rw [if_pos rfl]; exact h4
  refine ⟨by omega, by omega, fun k q1 q2 => ?_, fun k q1 q2 => ?_⟩
  · rw [hm, hs]
    split
    · exact h5 j (by omega) (by omega)
    · rw [if_neg (by omega)]; exact h5 k (by omega) (by omega)
  · rw [hm, hs, if_neg (by omega), if_neg (by omega)]; exact h6 k q1 q2
def EqI (lt : α → α → Bool) (d : α) (a b i j : Nat) (l : List α) (pv : α) : Prop :=
  a + 1 ≤ i ∧ i ≤ j + 1 ∧ j + 1 ≤ b ∧ l.getD a d = pv ∧ (∀ k, a + 1 ≤ k → k < i → lt pv (l.getD k d) = false) ∧ (∀ k, j < k → k < b → lt pv (l.getD k d) = true)
/-- Those that equal the least one stand first. -/
def EqP (lt : α → α → Bool) (d : α) (a b mid : Nat) (l : List α) (pv : α) : Prop := a + 1 ≤ mid ∧ mid ≤ b ∧ (∀ k, a ≤ k → k < mid → lt pv (l.getD k d) = false)
theorem eq_init (h : a < b) (hv : l.getD a d = pv) : EqI lt d a b (a + 1) (b - 1) l pv := ⟨Nat.le_refl _, by omega, by omega, hv, fun k h1 h2 => by omega, fun k h1 h2 => by omega⟩
theorem eq_i (h : EqI lt d a b i j l pv) (hij : i ≤ j) (hlt : lt (l.getD a d) (l.getD i d) = false) : EqI lt d a b (i + 1) j l pv := by
  obtain ⟨h1, h2, h3, h4, h5, h6⟩ := h
  rw [h4] at hlt
  refine ⟨by omega, by omega, h3, h4, fun k q1 q2 => ?_, h6⟩
  by_cases e : k = i
  · subst e; exact hlt
  · exact h5 k q1 (by omega)
theorem eq_j (h : EqI lt d a b i j l pv) (hij : i ≤ j) (hlt : lt (l.getD a d) (l.getD j d) = true) : EqI lt d a b i (j - 1) l pv := by
  obtain ⟨h1, h2, h3, h4, h5, h6⟩ := h
  rw [h4] at hlt
  refine ⟨h1, by omega, by omega, h4, h5, fun k q1 q2 => ?_⟩
  by_cases e : k = j
  · subst e; exact hlt
  · exact h6 k (by omega) q2
theorem eq_swap (hl : b ≤ l.length) (h : EqI lt d a b i j l pv) (hij : i ≤ j) (hi : lt (l.getD a d) (l.getD i d) = true) (hj : lt (l.getD a d) (l.getD j d) = false) : EqI lt d a b (i + 1) (j - 1) (swapL d l i j) pv := by
  obtain ⟨h1, h2, h3, h4, h5, h6⟩ := h
  rw [h4] at hi hj
  have hne : i ≠ j := fun e => by subst e; rw [hi] at hj; cases hj
  have hs := swap_get (d := d) (l := l) (i := i) (j := j) (by omega) (by omega)
  refine ⟨by omega, by omega, by omega, ?_, fun k q1 q2 => ?_, fun k q1 q2 => ?_⟩
  · rw [hs, if_neg (by omega), if_neg (by omega)]; exact h4
  · rw [hs, if_neg (by omega)]
    split
    · exact hj
    · exact h5 k q1 (by omega)
  · rw [hs]
    split
    · exact hi
    · rw [if_neg (by omega)]; exact h6 k (by omega) q2
theorem eq_done (ok : LtOK lt) (h : EqI lt d a b i j l pv) (hij : j < i) : EqP lt d a b i l pv := by
  obtain ⟨h1, h2, h3, h4, h5, h6⟩ := h
  refine ⟨h1, by omega, fun k q1 q2 => ?_⟩
  by_cases e : k = a
  · subst e; rw [h4]; exact ok.irr _
  · exact h5 k (by omega) q2
def OutS (lt : α → α → Bool) (d : α) (a b a' b' : Nat) (l : List α) : Prop := ∀ p q, a ≤ p → p < q → q < b → ¬ (a' ≤ p ∧ q < b') → lt (l.getD q d) (l.getD p d) = false
def PreS (lt : α → α → Bool) (d : α) (a b : Nat) (l : List α) : Prop := a = 0 ∨ ∀ x, a ≤ x → x < b → lt (l.getD x d) (l.getD (a - 1) d) = false
variable {a' b' : Nat}
theorem out_init : OutS lt d a b a b l := fun p q h1 h2 h3 h4 => by omega
theorem out_done (h : OutS lt d a b a' b' l) (hs : SortS lt d a' b' l) : SortS lt d a b l := fun p q h1 h2 h3 => by
  by_cases e : a' ≤ p ∧ q < b'
  · exact hs p q e.1 h2 e.2
  · exact h p q h1 h2 h3 e
theorem out_sw (ha : a ≤ a') (hb' : b' ≤ b) (hb : b' ≤ l.length) (h : OutS lt d a b a' b' l) (hw : Sw d a' b' l l') : OutS lt d a b a' b' l' := fun p q h1 h2 h3 h4 => by
  by_cases hp : a' ≤ p ∧ p < b'
  · rw [hw.out (k := q) hb (by omega)]
    exact hw.all (p := fun y => lt (l.getD q d) y = false) hb (fun k q1 q2 => h k q (by omega) (by omega) h3 (by omega)) p hp.1 hp.2
  · rw [hw.out (k := p) hb (by omega)]
    by_cases hq : a' ≤ q ∧ q < b'
    · exact hw.all (p := fun y => lt y (l.getD p d) = false) hb (fun k q1 q2 => h p k h1 (by omega) (by omega) (by omega)) q hq.1 hq.2
    · rw [hw.out (k := q) hb (by omega)]; exact h p q h1 h2 h3 h4
theorem pre_sw (hb : b' ≤ l.length) (h : PreS lt d a' b' l) (hw : Sw d a' b' l l') : PreS lt d a' b' l' := by
  by_cases e : a' = 0
  · exact .inl e
  · refine .inr ?_
    rw [hw.out (k := a' - 1) hb (by omega)]
    exact hw.all (p := fun y => lt y (l.getD (a' - 1) d) = false) hb (fun k q1 q2 => (h.resolve_left e) k q1 q2)
theorem pre_left (h : PreS lt d a b l) (hm : mid ≤ b) : PreS lt d a mid l := h.imp id fun h x h1 h2 => h x h1 (by omega)
theorem pre_right (h : PartP lt d a b mid l) : PreS lt d (mid + 1) b l := .inr fun x h1 h2 => h.2.2.2 x (by omega) h2
theorem part_left (ok : LtOK lt) (hl : b' ≤ l.length) (ha : a ≤ a') (ho : OutS lt d a b a' b' l) (hb' : b' ≤ b) (h : PartP lt d a' b' mid l) (hw : Sw d a' mid l l') (hs : SortS lt d a' mid l') : OutS lt d a b (mid + 1) b' l' ∧ PreS lt d (mid + 1) b' l' := by
  obtain ⟨h1, h2, h3, h4⟩ := h
  have ho' := out_sw ha hb' hl ho (hw.mono (Nat.le_refl _) (by omega))
  have hm : l'.getD mid d = l.getD mid d := hw.out (by omega) (.inr (Nat.le_refl _))
  have h3' := hw.all (p := fun y => lt y (l.getD mid d) = true) (by omega) h3
  have h4' : ∀ k, mid < k → k < b' → lt (l'.getD k d) (l.getD mid d) = false := fun k q1 q2 => by rw [hw.out (by omega) (.inr (by omega))]; exact h4 k q1 q2
  refine ⟨fun p q q1 q2 q3 q4 => ?_, .inr fun x q1 q2 => ?_⟩
  · by_cases e : a' ≤ p ∧ q < b'
    · by_cases e1 : q < mid
      · exact hs p q e.1 q2 e1
      · by_cases e2 : q = mid
        · subst e2; rw [hm]; exact ok.asym _ _ (h3' p e.1 q2)
        · by_cases e3 : p = mid
          · subst e3; rw [hm]; exact h4' q q2 e.2
          · exact ok.neg _ _ _ (h4' q (by omega) e.2) (ok.asym _ _ (h3' p e.1 (by omega)))
    · exact ho' p q q1 q2 q3 e
  · rw [Nat.add_sub_cancel, hm]; exact h4' x (by omega) q2
theorem part_right (ok : LtOK lt) (hl : b' ≤ l.length) (ha : a ≤ a') (ho : OutS lt d a b a' b' l) (hb' : b' ≤ b) (h : PartP lt d a' b' mid l) (hw : Sw d (mid + 1) b' l l') (hs : SortS lt d (mid + 1) b' l') : OutS lt d a b a' mid l' := by
  obtain ⟨h1, h2, h3, h4⟩ := h
  have ho' := out_sw ha hb' hl ho (hw.mono (by omega) (Nat.le_refl _))
  have hm : l'.getD mid d = l.getD mid d := hw.out hl (.inl (by omega))
  have h3' : ∀ k, a' ≤ k → k < mid → lt (l'.getD k d) (l.getD mid d) = true := fun k q1 q2 => by rw [hw.out hl (.inl (by omega))]; exact h3 k q1 q2
  have h4' := hw.all (p := fun y => lt y (l.getD mid d) = false) hl (fun k q1 q2 => h4 k (by omega) q2)
  intro p q q1 q2 q3 q4
  by_cases e : a' ≤ p ∧ q < b'
  · by_cases e1 : mid < p
    · exact hs p q (by omega) q2 e.2
    · by_cases e2 : q = mid
      · subst e2; rw [hm]; exact ok.asym _ _ (h3' p e.1 q2)
      · by_cases e3 : p = mid
        · subst e3; rw [hm]; exact h4' q (by omega) e.2
        · exact ok.neg _ _ _ (h4' q (by omega) e.2) (ok.asym _ _ (h3' p e.1 (by omega)))
  · exact ho' p q q1 q2 q3 e
theorem pre_right_sw (hl : b' ≤ l.length) (h : PreS lt d a' b' l) (hm : a' ≤ mid) (hm2 : mid < b') (hw : Sw d (mid + 1) b' l l') : PreS lt d a' mid l' := by
  by_cases e : a' = 0
  · exact .inl e
  · refine .inr fun x h1 h2 => ?_
    rw [hw.out hl (.inl (by omega)), hw.out hl (.inl (by omega))]
    exact (h.resolve_left e) x h1 (by omega)
theorem eq_left (ok : LtOK lt) (hl : b' ≤ l.length) (ha : a ≤ a') (ho : OutS lt d a b a' b' l) (hb' : b' ≤ b) (hp : PreS lt d a' b' l) (h0 : 0 < a') (hpv : lt (l.getD (a' - 1) d) pv = false) (hw : Sw d a' b' l l') (h : EqP lt d a' b' mid l' pv) : OutS lt d a b mid b' l' ∧ PreS lt d mid b' l' := by
  obtain ⟨h1, h2, h3⟩ := h
  have ho' := out_sw ha hb' hl ho hw
  have hmin := hw.all (p := fun y => lt y pv = false) hl (fun k q1 q2 => ok.neg _ _ _ ((hp.resolve_left (by omega)) k q1 q2) hpv)
  refine ⟨fun p q q1 q2 q3 q4 => ?_, .inr fun x q1 q2 => ok.neg _ _ _ (hmin x (by omega) q2) (h3 (mid - 1) (by omega) (by omega))⟩
  by_cases e : a' ≤ p ∧ q < b'
  · exact ok.neg _ _ _ (hmin q (by omega) e.2) (h3 p e.1 (by omega))
  · exact ho' p q q1 q2 q3 e
theorem swap_fst (ha : i < l.length) (hp : j < l.length) : (swapL d l i j).getD i d = l.getD j d := by
  rw [swap_get ha hp]
  split
  · rename_i e; rw [e]
  · rw [if_pos rfl]
theorem pre_gt (hp : PreS lt d a b l) (haj : a ≤ j) (h1 : 1 ≤ j) (hab : a < b) (hlt : lt (l.getD j d) (l.getD (j - 1) d) = true) : a < j := by
  rcases Nat.lt_or_ge a j with h | h
  · exact h
  · have e : j = a := by omega
    subst e
    rw [hp.resolve_left (by omega) j (Nat.le_refl _) hab] at hlt; cases hlt
theorem sort_snoc (ok : LtOK lt) (h : SortS lt d a i l) (hi : a < i) (hlt : lt (l.getD i d) (l.getD (i - 1) d) = false) : SortS lt d a (i + 1) l := fun p q h1 h2 h3 => by
  by_cases e : q = i
  · subst e
    by_cases e2 : p = q - 1
    · rw [e2]; exact hlt
    · exact ok.neg _ _ _ hlt (h p (q - 1) h1 (by omega) (by omega))
  · exact h p q h1 h2 (by omega)
/-- A sort that goes on where it stands: the elements ahead stay, the one that was out of order goes to its place. -/
theorem sort_swap (hi : i < l.length) (ha : a < i) (h : SortS lt d a i l) : SortS lt d a (i - 1) (swapL d l i (i - 1)) := fun p q h1 h2 h3 => by
  have hs := swap_get (d := d) (l := l) (i := i) (j := i - 1) hi (by omega)
  rw [hs, hs, if_neg (by omega), if_neg (by omega), if_neg (by omega), if_neg (by omega)]
  exact h p q h1 h2 (by omega)
theorem sort_keep (hb : b ≤ l.length) (h : SortS lt d a i l) (hw : Sw d i b l l') : SortS lt d a i l' := fun p q h1 h2 h3 => by
  rw [hw.out hb (.inl (by omega)), hw.out hb (.inl (by omega))]; exact h p q h1 h2 h3
end
def lenN (n : Nat) : Nat := if n = 0 then 0 else Nat.log2 n + 1
theorem lenN_shift {n k : Nat} (h : 2 ^ k ≤ n) : lenN (n / 2 ^ k) + k = lenN n := by
  have hp : 0 < 2 ^ k := Nat.two_pow_pos k
  have h1 : n / 2 ^ k ≠ 0 := by
    have := (Nat.le_div_iff_mul_le hp).2 (by rw [Nat.one_mul]; exact h)
    omega
  have hn : n ≠ 0 := by omega
  rw [lenN, lenN, if_neg h1, if_neg hn]
  have e : Nat.log2 n = Nat.log2 (n / 2 ^ k) + k := by
    rw [Nat.log2_eq_iff hn]
    have h2 := (Nat.log2_eq_iff (k := Nat.log2 (n / 2 ^ k)) h1).1 rfl
    constructor
    · rw [Nat.pow_add]; exact (Nat.le_div_iff_mul_le hp).1 h2.1
    · rw [show Nat.log2 (n / 2 ^ k) + k + 1 = (Nat.log2 (n / 2 ^ k) + 1) + k by omega, Nat.pow_add]; exact (Nat.div_lt_iff_lt_mul hp).1 h2.2
  omega
theorem lenN_pow {n : Nat} (h : 0 < n) : 2 ^ lenN n ≤ 2 * n := by
  rw [lenN, if_neg (by omega), Nat.pow_succ]
  have := (Nat.log2_eq_iff (k := Nat.log2 n) (by omega : n ≠ 0)).1 rfl
  omega
theorem lenN_le {n k : Nat} (h : n < 2 ^ k) : lenN n ≤ k := by
  unfold lenN
  split
  · omega
  · rename_i hn
    have := (Nat.log2_lt hn).2 h
    omega
theorem vN_I {a : Nat} {z : Int} (h : (a : Int) = z) : vN a = vI z := by subst h; rfl
theorem vI_N {a : Nat} {z : Int} (h : z = (a : Int)) : vI z = vN a := by subst h; rfl
theorem brk_lt {y : UInt64} {n : Nat} (h : 0 < n) (hn : n < 2 ^ 61) : (y &&& (shlU64 1 (lenN (UInt64.ofNat n).toNat) - 1)).toNat < 2 * n := by
  have e : (UInt64.ofNat n).toNat = n := by rw [UInt64.toNat_ofNat', Nat.mod_eq_of_lt (by omega)]
  have h1 := lenN_pow h
  have h2 : lenN n ≤ 61 := lenN_le hn
  have h3 : 2 ^ lenN n < 2 ^ 64 := Nat.pow_lt_pow_right (by omega) (by omega)
  have h4 : (shlU64 1 (lenN n)).toNat = 2 ^ lenN n := by
    rw [shlU64, UInt64.toNat_ofNat', Nat.shiftLeft_eq, show (1 : UInt64).toNat = 1 from rfl, Nat.one_mul, Nat.mod_eq_of_lt h3]
  have h5 : 0 < 2 ^ lenN n := Nat.two_pow_pos _
  have h6 : (shlU64 1 (lenN n) - 1).toNat = 2 ^ lenN n - 1 := by
    rw [UInt64.toNat_sub_of_le _ _ (by rw [UInt64.le_iff_toNat_le, h4]; exact h5), h4]; rfl
  rw [e, UInt64.toNat_and, h6]
  have := Nat.and_le_right (n := y.toNat) (m := 2 ^ lenN n - 1)
  omega
end Go.Spec
/-! from SpecSort5 -/
/- Rising lists without twins: what a sort and a compaction give. Plain Lean. -/
namespace Go.Spec
section
variable {α : Type} {lt : α → α → Bool} {d : α} {l l' : List α} {n k : Nat}
/-- Each element is below all behind it. -/
def Rise (lt : α → α → Bool) (l : List α) : Prop := l.Pairwise fun a b => lt a b = true
structure LtTot {α : Type} (lt : α → α → Bool) : Prop extends LtOK lt where
  tri : ∀ a b, lt a b = false → lt b a = false → a = b
theorem Rise.ext (irr : ∀ a, lt a a = false) (asym : ∀ a b, lt a b = true → lt b a = false) : ∀ {l l' : List α}, Rise lt l → Rise lt l' → (∀ x, x ∈ l ↔ x ∈ l') → l = l'
  | [], [], _, _, _ => rfl
  | [], b :: l', _, _, h => by have := (h b).2 (by simp); simp at this
  | a :: l, [], _, _, h => by have := (h a).1 (by simp); simp at this
  | a :: l, b :: l', h1, h2, h => by
    have h1' := List.pairwise_cons.1 h1
    have h2' := List.pairwise_cons.1 h2
    have e : a = b := by
      rcases List.mem_cons.1 ((h a).1 (by simp)) with e | e
      · exact e
      · rcases List.mem_cons.1 ((h b).2 (by simp)) with e2 | e2
        · exact e2.symm
        · have q1 := h2'.1 a e
          have q2 := h1'.1 b e2
          rw [asym _ _ q1] at q2; cases q2
    subst e
    have : l = l' := Rise.ext irr asym h1'.2 h2'.2 fun x => by
      constructor
      · intro hx
        rcases List.mem_cons.1 ((h x).1 (List.mem_cons_of_mem _ hx)) with e | e
        · subst e; have := h1'.1 x hx; rw [irr] at this; cases this
        · exact e
      · intro hx
        rcases List.mem_cons.1 ((h x).2 (List.mem_cons_of_mem _ hx)) with e | e
        · subst e; have := h2'.1 x hx; rw [irr] at this; cases this
        · exact e
    rw [this]
theorem LtTot.trans (ok : LtTot lt) {a b c : α} (h1 : lt a b = true) (h2 : lt b c = true) : lt a c = true := by
  cases h : lt a c with
  | true => rfl
  | false =>
    have := ok.neg _ _ _ h (ok.asym _ _ h2)
    rw [h1] at this; cases this
theorem take_snocD (hk : k < l.length) : l.take (k + 1) = l.take k ++ [l.getD k d] := by
  rw [List.take_add_one, List.getD_eq_getElem?_getD]
  simp [List.getElem?_eq_getElem hk]
theorem getDrop (l : List α) (k i : Nat) : (l.drop k).getD i d = l.getD (k + i) d := by simp [List.getD, List.getElem?_drop]
theorem take_set_snoc {x : α} (h : k < l.length) : l.take k ++ [x] = (l.set k x).take (k + 1) := by
  rw [take_snocD (d := x) (by rw [List.length_set]; exact h), List.take_set_of_le (Nat.le_refl _), getD_set _ _ _ _ h, if_pos rfl]
/-- The first n elements, without those that are as the one ahead. -/
def cpt [DecidableEq α] (d : α) (l : List α) : Nat → List α
  | 0 => []
  | n + 1 => if n ≠ 0 ∧ l.getD n d = l.getD (n - 1) d then cpt d l n else cpt d l n ++ [l.getD n d]
variable [DecidableEq α]
theorem cpt_same (h0 : 0 < k) (h : l.getD k d = l.getD (k - 1) d) : cpt d l (k + 1) = cpt d l k := if_pos ⟨by omega, h⟩
theorem cpt_other (h : k = 0 ∨ l.getD k d ≠ l.getD (k - 1) d) : cpt d l (k + 1) = cpt d l k ++ [l.getD k d] := if_neg fun q => h.elim (fun e => q.1 e) (fun e => e q.2)
theorem cpt_take (hk : k ≤ l.length) (h : ∀ j, 0 < j → j < k → l.getD j d ≠ l.getD (j - 1) d) : cpt d l k = l.take k := by
  induction k with
  | zero => simp [cpt]
  | succ k ih =>
    rw [cpt_other (by rcases Nat.eq_zero_or_pos k with e | e; exact .inl e; exact .inr (h k e (by omega))), ih (by omega) (fun j h1 h2 => h j h1 (by omega)), take_snocD (d := d) (by omega)]
theorem cpt_short (h : n < 2) (hn : l.length = n) : cpt d l n = l := by
  match l, hn with
  | [], hn => subst hn; rfl
  | [a], hn => subst hn; rfl
  | a :: b :: l, hn => simp at hn; omega
theorem cpt_cut {l1 r : List α} {j : Nat} (hj : j ≤ l1.length) (hc : cpt d l n = l1.take j) : (l1.take j ++ r).take j = cpt d l n := by
  rw [hc, List.take_append_of_le_length (by rw [List.length_take]; omega), List.take_take, Nat.min_self]
theorem cpt_mem (x : α) : ∀ n, x ∈ cpt d l n ↔ ∃ j, j < n ∧ l.getD j d = x
  | 0 => by simp [cpt]
  | n + 1 => by
    rw [cpt]
    split
    · rename_i h
      rw [cpt_mem x n]
      constructor
      · rintro ⟨j, h1, h2⟩; exact ⟨j, by omega, h2⟩
      · rintro ⟨j, h1, h2⟩
        rcases Nat.lt_or_ge j n with h3 | h3
        · exact ⟨j, h3, h2⟩
        · obtain rfl : j = n := by omega
          exact ⟨j - 1, by omega, by rw [← h.2]; exact h2⟩
    · rw [List.mem_append, cpt_mem x n, List.mem_singleton]
      constructor
      · rintro (⟨j, h1, h2⟩ | rfl)
        · exact ⟨j, by omega, h2⟩
        · exact ⟨n, by omega, rfl⟩
      · rintro ⟨j, h1, h2⟩
        rcases Nat.lt_or_ge j n with h3 | h3
        · exact .inl ⟨j, h3, h2⟩
        · obtain rfl : j = n := by omega
          exact .inr h2.symm
theorem cpt_rise (ok : LtTot lt) (hs : SortS lt d 0 n l) : ∀ k, k ≤ n → Rise lt (cpt d l k)
  | 0, _ => List.Pairwise.nil
  | k + 1, hk => by
    have ih := cpt_rise ok hs k (by omega)
    rw [cpt]; split
    · exact ih
    · rename_i h
      refine List.pairwise_append.2 ⟨ih, List.pairwise_singleton _ _, fun x hx y hy => ?_⟩
      rw [List.mem_singleton] at hy; subst hy
      obtain ⟨j, h1, rfl⟩ := (cpt_mem x k).1 hx
      cases e : lt (l.getD j d) (l.getD k d) with
      | true => rfl
      | false =>
        exfalso; apply h
        have h2 : lt (l.getD (k - 1) d) (l.getD j d) = false := by
          by_cases e2 : j = k - 1
          · rw [e2]; exact ok.irr _
          · exact hs j (k - 1) (by omega) (by omega) (by omega)
        exact ⟨by omega, ok.tri _ _ (hs (k - 1) k (by omega) (by omega) (by omega)) (ok.neg _ _ _ h2 e)⟩
/-- What a sort and a compaction of a list give. -/
theorem cpt_all (ok : LtTot lt) (hn : l'.length = n) (hn2 : l.length = n) (hw : Sw d 0 n l l') (hs : SortS lt d 0 n l') : Rise lt (cpt d l' n) ∧ ∀ x, x ∈ cpt d l' n ↔ x ∈ l := by
  refine ⟨cpt_rise ok hs n (Nat.le_refl _), fun x => ?_⟩
  rw [cpt_mem, ← hw.mem (by omega)]
  constructor
  · rintro ⟨j, h1, rfl⟩; exact getD_mem (by omega)
  · intro hx
    obtain ⟨k, h1, h2⟩ := mem_getD (d := d) hx
    exact ⟨k, by omega, h2⟩
end
section
variable {α : Type} {lt : α → α → Bool} {d : α} {k : Nat}
/-- Those below x; then x, once; then those above. -/
def put1 [DecidableEq α] (lt : α → α → Bool) (x : α) : List α → List α
  | [] => [x]
  | y :: l => if lt y x = true then y :: put1 lt x l else if y = x then y :: l else x :: y :: l
variable [DecidableEq α]
theorem put_mem {x z : α} : ∀ {l : List α}, z ∈ put1 lt x l ↔ z = x ∨ z ∈ l
  | [] => by simp [put1]
  | y :: l => by
    rw [put1]
    split
    · rw [List.mem_cons, put_mem, List.mem_cons]
      constructor
      · rintro (h | h | h); exact .inr (.inl h); exact .inl h; exact .inr (.inr h)
      · rintro (h | h | h); exact .inr (.inl h); exact .inl h; exact .inr (.inr h)
    · split
      · rename_i h; subst h
        rw [List.mem_cons]
        constructor
        · rintro (h | h); exact .inl h; exact .inr (.inr h)
        · rintro (h | h | h); exact .inl h; exact .inl h; exact .inr h
      · rw [List.mem_cons]
theorem put_rise (ok : LtTot lt) {x : α} : ∀ {l : List α}, Rise lt l → Rise lt (put1 lt x l)
  | [], _ => List.pairwise_singleton _ _
  | y :: l, h => by
    have h' := List.pairwise_cons.1 h
    rw [put1]
    split
    · rename_i h1
      refine List.pairwise_cons.2 ⟨fun z hz => ?_, put_rise ok h'.2⟩
      rcases put_mem.1 hz with rfl | hz
      · exact h1
      · exact h'.1 z hz
    · rename_i h1
      split
      · exact h
      · rename_i h2
        have h3 : lt x y = true := by
          cases e : lt x y with
          | true => rfl
          | false => exact absurd (ok.tri _ _ (by simpa using h1) e) h2
        refine List.pairwise_cons.2 ⟨fun z hz => ?_, h⟩
        rcases List.mem_cons.1 hz with rfl | hz
        · exact h3
        · exact ok.trans h3 (h'.1 z hz)
end
theorem ltU16Tot : LtTot ltU16 where
  toLtOK := ltU16OK
  tri a b h1 h2 := by
    have h : ∀ a b : UInt16, ltU16 a b = decide (a.toNat < b.toNat) := fun a b => decide_eq_decide.2 UInt16.lt_iff_toNat_lt
    rw [h] at h1 h2
    have := of_decide_eq_false h1; have := of_decide_eq_false h2
    exact UInt16.toNat_inj.1 (by omega)
end Go.Spec
/-! from SpecDem2 -/
/- Manifests as what notes ask for: each note, the greatest of all. Plain Lean. -/
namespace Go.Spec
open Go.Owl
structure Mf where
  pg : UInt32
  xs : List Xt
  ps : List UInt16
  con : Bool
deriving DecidableEq
def Mf.none : Mf := ⟨0, [], [], false⟩
def Mf.may (m : Mf) : Bool := mfMay m.pg m.xs m.ps
def p16 (x : UInt32) : UInt16 := UInt16.ofNat x.toNat
def p32 (x : UInt16) : UInt32 := UInt32.ofNat x.toNat
def sup {α : Type} (f : α → Nat) : List α → Nat
  | [] => 0
  | n :: l => max (f n) (sup f l)
section
variable {α : Type} {f : α → Nat} {l l' : List α} {n : α} {b : Nat}
theorem sup_le : ∀ {l : List α}, sup f l ≤ b ↔ ∀ n ∈ l, f n ≤ b
  | [] => by simp [sup]
  | n :: l => by rw [sup, Nat.max_le, sup_le]; simp
theorem sup_mem (h : n ∈ l) : f n ≤ sup f l := sup_le.1 (Nat.le_refl _) n h
theorem sup_app : ∀ {l : List α}, sup f (l ++ l') = max (sup f l) (sup f l')
  | [] => by simp [sup]
  | n :: l => by rw [List.cons_append, sup, sup, sup_app, Nat.max_assoc]
theorem sup_snoc : sup f (l ++ [n]) = max (sup f l) (f n) := by rw [sup_app]; simp [sup]
theorem sup_at : ∀ {l : List α}, sup f l = 0 ∨ ∃ n ∈ l, f n = sup f l
  | [] => .inl rfl
  | n :: l => by
    rw [sup]
    rcases Nat.le_total (f n) (sup f l) with h | h
    · rw [Nat.max_eq_right h]
      rcases sup_at (l := l) with h2 | ⟨m, h2, h3⟩
      · exact .inl h2
      · exact .inr ⟨m, List.mem_cons_of_mem _ h2, h3⟩
    · rw [Nat.max_eq_left h]; exact .inr ⟨n, by simp, rfl⟩
end
def fPg (n : Nt) : Nat := if n.kind = 1 then n.n.toNat else 0
def fBl (k : UInt32) (n : Nt) : Nat := if n.kind = 2 ∧ n.n = k then n.m.toNat else 0
def isP (p : UInt16) (n : Nt) : Prop := n.kind = 3 ∧ p16 n.n = p
def isC (n : Nt) : Prop := n.kind ≠ 1 ∧ n.kind ≠ 2 ∧ n.kind ≠ 3
/-- A manifest is what the notes ask for. -/
structure Den (m : Mf) (l : List Nt) : Prop where
  pg : m.pg.toNat = sup fPg l
  xr : m.xs.Pairwise fun a b => xtLt a b = true
  xm : ∀ x, x ∈ m.xs ↔ x.bl.toNat = sup (fBl x.id) l ∧ 0 < x.bl.toNat
  pr : Rise ltU16 m.ps
  pm : ∀ p, p ∈ m.ps ↔ ∃ n ∈ l, isP p n
  cn : m.con = true ↔ ∃ n ∈ l, isC n
/-- Notes ask for no more than others do. -/
structure LeD (l l' : List Nt) : Prop where
  pg : sup fPg l ≤ sup fPg l'
  bl : ∀ k, sup (fBl k) l ≤ sup (fBl k) l'
  pm : ∀ p, (∃ n ∈ l, isP p n) → ∃ n ∈ l', isP p n
  cn : (∃ n ∈ l, isC n) → ∃ n ∈ l', isC n
section
variable {l l' l2 : List Nt} {m m' : Mf} {n : Nt} {x y z : Xt}
theorem LeD.sub (h : ∀ n ∈ l, n ∈ l') : LeD l l' :=
  ⟨sup_le.2 fun n hn => sup_mem (h n hn), fun _ => sup_le.2 fun n hn => sup_mem (h n hn), fun _ ⟨n, h1, h2⟩ => ⟨n, h n h1, h2⟩, fun ⟨n, h1, h2⟩ => ⟨n, h n h1, h2⟩⟩
theorem LeD.refl : LeD l l := .sub fun _ h => h
theorem LeD.trans (h : LeD l l') (k : LeD l' l2) : LeD l l2 :=
  ⟨Nat.le_trans h.pg k.pg, fun i => Nat.le_trans (h.bl i) (k.bl i), fun p h1 => k.pm p (h.pm p h1), fun h1 => k.cn (h.cn h1)⟩
theorem LeD.each : LeD l l' ↔ ∀ n ∈ l, LeD [n] l' := by
  constructor
  · exact fun h n hn => (LeD.sub fun x hx => by rw [List.mem_singleton.1 hx]; exact hn).trans h
  · intro h
    exact ⟨sup_le.2 fun n hn => Nat.le_trans (sup_mem (f := fPg) (List.mem_singleton.2 rfl)) (h n hn).pg, fun k => sup_le.2 fun n hn => Nat.le_trans (sup_mem (f := fBl k) (List.mem_singleton.2 rfl)) ((h n hn).bl k),
      fun p ⟨n, h1, h2⟩ => (h n h1).pm p ⟨n, by simp, h2⟩, fun ⟨n, h1, h2⟩ => (h n h1).cn ⟨n, by simp, h2⟩⟩
theorem LeD.app (h : LeD l l2) (k : LeD l' l2) : LeD (l ++ l') l2 := by
  rw [LeD.each] at *
  intro n hn
  rcases List.mem_append.1 hn with h1 | h1
  · exact h n h1
  · exact k n h1
theorem LeD.left : LeD l (l ++ l') := .sub fun _ h => List.mem_append.2 (.inl h)
theorem LeD.right : LeD l' (l ++ l') := .sub fun _ h => List.mem_append.2 (.inr h)
theorem sup32 (l : List Nt) (k : UInt32) : sup (fBl k) l < 2 ^ 32 := by
  rcases sup_at (f := fBl k) (l := l) with h | ⟨n, _, h⟩
  · omega
  · have := n.m.toNat_lt
    rw [← h, fBl]; split <;> omega
theorem sup_xt (h : Den m l) (k : UInt32) (h0 : 0 < sup (fBl k) l) : ⟨k, UInt32.ofNat (sup (fBl k) l)⟩ ∈ m.xs := by
  have e : (UInt32.ofNat (sup (fBl k) l)).toNat = sup (fBl k) l := by rw [UInt32.toNat_ofNat', Nat.mod_eq_of_lt (sup32 l k)]
  exact (h.xm _).2 ⟨e, by rw [e]; exact h0⟩
theorem Den.le (h : Den m l) (h' : Den m l') : LeD l l' := by
  refine ⟨by rw [← h.pg, h'.pg]; exact Nat.le_refl _, fun k => ?_, fun p hp => (h'.pm p).1 ((h.pm p).2 hp), fun hc => h'.cn.1 (h.cn.2 hc)⟩
  rcases Nat.eq_zero_or_pos (sup (fBl k) l) with e | e
  · omega
  · have h1 := (h.xm _).1 (sup_xt h k e)
    have h2 := (h'.xm _).1 (sup_xt h k e)
    exact Nat.le_of_eq (h1.1.symm.trans h2.1)
theorem Den.uniq (h : Den m l) (h' : Den m' l') (k : LeD l l') (k' : LeD l' l) : m = m' := by
  have e1 : m.pg = m'.pg := UInt32.toNat_inj.1 (by rw [h.pg, h'.pg]; exact Nat.le_antisymm k.pg k'.pg)
  have e2 : m.xs = m'.xs := by
    refine Rise.ext (lt := xtLt) (fun a => ?_) (fun a b => ?_) h.xr h'.xr fun x => ?_
    · rw [xtLt, decide_eq_false_iff_not, UInt32.lt_iff_toNat_lt]; omega
    · rw [xtLt, xtLt, decide_eq_true_eq, decide_eq_false_iff_not, UInt32.lt_iff_toNat_lt, UInt32.lt_iff_toNat_lt]; omega
    · rw [h.xm, h'.xm, Nat.le_antisymm (k.bl x.id) (k'.bl x.id)]
  have e3 : m.ps = m'.ps := Rise.ext ltU16OK.irr ltU16OK.asym h.pr h'.pr fun p => by rw [h.pm, h'.pm]; exact ⟨k.pm p, k'.pm p⟩
  have e4 : m.con = m'.con := by rw [Bool.eq_iff_iff, h.cn, h'.cn]; exact ⟨k.cn, k'.cn⟩
  obtain ⟨a, b, c, d⟩ := m
  obtain ⟨a', b', c', d'⟩ := m'
  simp only at e1 e2 e3 e4
  rw [e1, e2, e3, e4]
theorem Den.same (h : Den m l) (k : LeD l l') (k' : LeD l' l) : Den m l' :=
  ⟨by rw [h.pg]; exact Nat.le_antisymm k.pg k'.pg, h.xr, fun x => by rw [h.xm, Nat.le_antisymm (k.bl x.id) (k'.bl x.id)], h.pr, fun p => by rw [h.pm]; exact ⟨k.pm p, k'.pm p⟩, by rw [h.cn]; exact ⟨k.cn, k'.cn⟩⟩
def putX (x : Xt) : List Xt → List Xt
  | [] => [x]
  | y :: l => if y.id < x.id then y :: putX x l else if y.id = x.id then ⟨x.id, maxU32 x.bl y.bl⟩ :: l else x :: y :: l
def addM (m : Mf) (n : Nt) : Mf :=
  if n.kind = 1 then { m with pg := maxU32 m.pg n.n } else if n.kind = 2 then { m with xs := putX ⟨n.n, n.m⟩ m.xs }
  else if n.kind = 3 then { m with ps := put1 ltU16 (p16 n.n) m.ps } else { m with con := true }
def canon (l : List Nt) : Mf := l.foldl addM Mf.none
theorem max32 (a b : UInt32) : (maxU32 a b).toNat = max a.toNat b.toNat := by
  unfold maxU32
  split
  · rename_i h; rw [UInt32.lt_iff_toNat_lt] at h; omega
  · rename_i h; rw [UInt32.lt_iff_toNat_lt] at h; omega
theorem xt_lt {a b : Xt} : xtLt a b = true ↔ a.id.toNat < b.id.toNat := by rw [xtLt, decide_eq_true_eq, UInt32.lt_iff_toNat_lt]
theorem putX_mem (x z : Xt) : ∀ {l : List Xt}, l.Pairwise (fun a b => xtLt a b = true) → (z ∈ putX x l ↔ (z.id ≠ x.id ∧ z ∈ l) ∨ (z.id = x.id ∧ ((∃ y ∈ l, y.id = x.id ∧ z.bl = maxU32 x.bl y.bl) ∨ ((∀ y ∈ l, y.id ≠ x.id) ∧ z.bl = x.bl))))
  | [], _ => by
    rw [putX, List.mem_singleton]
    constructor
    · rintro rfl; exact .inr ⟨rfl, .inr ⟨by simp, rfl⟩⟩
    · rintro (⟨_, h⟩ | ⟨h1, ⟨_, h, _⟩ | ⟨_, h2⟩⟩)
      · simp at h
      · simp at h
      · obtain ⟨a, b⟩ := z; obtain ⟨c, d⟩ := x; simp only at h1 h2; rw [h1, h2]
  | y :: l, h => by
    have h' := List.pairwise_cons.1 h
    rw [putX]
    split
    · rename_i h1
      have hne : y.id ≠ x.id := fun e => by rw [e, UInt32.lt_iff_toNat_lt] at h1; omega
      rw [List.mem_cons, putX_mem x z h'.2]
      constructor
      · rintro (rfl | ⟨a, b⟩ | ⟨a, ⟨w, b, c⟩ | ⟨b, c⟩⟩)
        · exact .inl ⟨hne, by simp⟩
        · exact .inl ⟨a, List.mem_cons_of_mem _ b⟩
        · exact .inr ⟨a, .inl ⟨w, List.mem_cons_of_mem _ b, c⟩⟩
        · exact .inr ⟨a, .inr ⟨fun w hw => by rcases List.mem_cons.1 hw with rfl | hw; exact hne; exact b w hw, c⟩⟩
      · rintro (⟨a, b⟩ | ⟨a, ⟨w, b, c⟩ | ⟨b, c⟩⟩)
        · rcases List.mem_cons.1 b with rfl | b
          · exact .inl rfl
          · exact .inr (.inl ⟨a, b⟩)
        · rcases List.mem_cons.1 b with rfl | b
          · exact absurd c.1 hne
          · exact .inr (.inr ⟨a, .inl ⟨w, b, c⟩⟩)
        · exact .inr (.inr ⟨a, .inr ⟨fun w hw => b w (List.mem_cons_of_mem _ hw), c⟩⟩)
    · rename_i h1
      split
      · rename_i h2
        have hl : ∀ w ∈ l, w.id ≠ x.id := fun w hw e => by have := xt_lt.1 (h'.1 w hw); rw [e, h2] at this; omega
        rw [List.mem_cons]
        constructor
        · rintro (rfl | a)
          · exact .inr ⟨rfl, .inl ⟨y, by simp, h2, rfl⟩⟩
          · exact .inl ⟨hl z a, List.mem_cons_of_mem _ a⟩
        · rintro (⟨a, b⟩ | ⟨a, ⟨w, b, c, d⟩ | ⟨b, c⟩⟩)
          · rcases List.mem_cons.1 b with rfl | b
            · exact absurd h2 a
            · exact .inr b
          · rcases List.mem_cons.1 b with rfl | b
            · left; obtain ⟨p, q⟩ := z; simp only at a d; rw [a, d]
            · exact absurd c (hl w b)
          · exact absurd h2 (b y (by simp))
      · rename_i h2
        have hl : ∀ w ∈ y :: l, w.id ≠ x.id := fun w hw e => by
          rcases List.mem_cons.1 hw with rfl | hw
          · exact h2 e
          · have := xt_lt.1 (h'.1 w hw); rw [UInt32.lt_iff_toNat_lt] at h1; rw [e] at this; omega
        rw [List.mem_cons]
        constructor
        · rintro (rfl | a)
          · exact .inr ⟨rfl, .inr ⟨hl, rfl⟩⟩
          · exact .inl ⟨hl z a, a⟩
        · rintro (⟨a, b⟩ | ⟨a, ⟨w, b, c, d⟩ | ⟨b, c⟩⟩)
          · exact .inr b
          · exact absurd c (hl w b)
          · left; obtain ⟨p, q⟩ := z; obtain ⟨r, s⟩ := x; simp only at a c; rw [a, c]
theorem putX_rise (x : Xt) : ∀ {l : List Xt}, l.Pairwise (fun a b => xtLt a b = true) → (putX x l).Pairwise (fun a b => xtLt a b = true)
  | [], _ => List.pairwise_singleton _ _
  | y :: l, h => by
    have h' := List.pairwise_cons.1 h
    have h2 : ∀ z ∈ l, y.id.toNat < z.id.toNat := fun z hz => xt_lt.1 (h'.1 z hz)
    rw [putX]
    split
    · rename_i h1
      rw [UInt32.lt_iff_toNat_lt] at h1
      refine List.pairwise_cons.2 ⟨fun z hz => xt_lt.2 ?_, putX_rise x h'.2⟩
      rcases (putX_mem x z h'.2).1 hz with ⟨_, b⟩ | ⟨a, _⟩
      · exact h2 z b
      · rw [a]; exact h1
    · rename_i h1
      rw [UInt32.lt_iff_toNat_lt] at h1
      split
      · rename_i h3
        exact List.pairwise_cons.2 ⟨fun z hz => xt_lt.2 (by rw [← h3]; exact h2 z hz), h'.2⟩
      · rename_i h3
        have h4 : x.id.toNat < y.id.toNat := by
          have : y.id.toNat ≠ x.id.toNat := fun e => h3 (UInt32.toNat_inj.1 e)
          omega
        refine List.pairwise_cons.2 ⟨fun z hz => xt_lt.2 ?_, h⟩
        rcases List.mem_cons.1 hz with rfl | hz
        · exact h4
        · have := h2 z hz; omega
theorem ex_snoc {p : Nt → Prop} : (∃ a ∈ l ++ [n], p a) ↔ (∃ a ∈ l, p a) ∨ p n := by
  constructor
  · rintro ⟨a, h, k⟩
    rcases List.mem_append.1 h with h | h
    · exact .inl ⟨a, h, k⟩
    · rw [List.mem_singleton.1 h] at k; exact .inr k
  · rintro (⟨a, h, k⟩ | k)
    · exact ⟨a, List.mem_append.2 (.inl h), k⟩
    · exact ⟨n, by simp, k⟩
theorem Den.none : Den Mf.none [] := ⟨rfl, List.Pairwise.nil, fun x => by simp [Mf.none, sup], List.Pairwise.nil, fun p => by simp [Mf.none], by simp [Mf.none]⟩
theorem note_2 (hn : noteB n = true) (h : n.kind = 2) : n.n.toNat < 16 ∧ 1 ≤ n.m.toNat ∧ n.m.toNat ≤ 1024 := by
  have h1 : ¬ (n.kind = 1) := by rw [h]; decide
  rw [noteB, decide_eq_false h1, decide_eq_true h] at hn
  simp only [cond_false, cond_true, Bool.and_eq_true, decide_eq_true_eq, ge_iff_le, UInt32.lt_iff_toNat_lt, UInt32.le_iff_toNat_le] at hn
  exact ⟨hn.1.1, hn.1.2, hn.2⟩
theorem note_1 (hn : noteB n = true) (h : n.kind = 1) : n.n.toNat ≤ 1024 := by
  rw [noteB, decide_eq_true h] at hn
  simp only [cond_true, Bool.and_eq_true, decide_eq_true_eq, UInt32.le_iff_toNat_le] at hn
  exact hn.1
theorem note_3 (hn : noteB n = true) (h : n.kind = 3) : 1 ≤ n.n.toNat ∧ n.n.toNat ≤ 65535 := by
  have h1 : ¬ (n.kind = 1) := by rw [h]; decide
  have h2 : ¬ (n.kind = 2) := by rw [h]; decide
  rw [noteB, decide_eq_false h1, decide_eq_false h2, decide_eq_true h] at hn
  simp only [cond_false, cond_true, Bool.and_eq_true, decide_eq_true_eq, ge_iff_le, UInt32.le_iff_toNat_le] at hn
  exact hn.1
theorem fBl_no (h : ¬ (n.kind = 2)) (k : UInt32) : fBl k n = 0 := if_neg fun q => h q.1
theorem Den.add (h : Den m l) (hn : noteB n = true) : Den (addM m n) (l ++ [n]) := by
  have k1 : ∀ p, n.kind = 1 ∨ n.kind = 2 ∨ ¬ (n.kind = 3) → ¬ isP p n := fun p q e => by have := e.1; rw [this] at q; revert q; decide
  by_cases e1 : n.kind = 1
  · have e2 : ¬ n.kind = 2 := by rw [e1]; decide
    rw [addM, if_pos e1]
    exact ⟨by rw [sup_snoc, max32, h.pg, fPg, if_pos e1], h.xr, fun x => by rw [sup_snoc, fBl_no e2, Nat.max_zero]; exact h.xm x, h.pr,
      fun p => by rw [ex_snoc, h.pm]; exact ⟨.inl, fun q => q.resolve_right (k1 p (.inl e1))⟩, by rw [ex_snoc]; exact h.cn.trans ⟨.inl, fun q => q.resolve_right fun c => c.1 e1⟩⟩
  have q1 : fPg n = 0 := if_neg e1
  by_cases e2 : n.kind = 2
  · obtain ⟨b1, b2, b3⟩ := note_2 hn e2
    rw [addM, if_neg e1, if_pos e2]
    refine ⟨by rw [sup_snoc, q1, Nat.max_zero]; exact h.pg, putX_rise _ h.xr, fun z => ?_, h.pr,
      fun p => by rw [ex_snoc, h.pm]; exact ⟨.inl, fun q => q.resolve_right (k1 p (.inr (.inl e2)))⟩, by rw [ex_snoc]; exact h.cn.trans ⟨.inl, fun q => q.resolve_right fun c => c.2.1 e2⟩⟩
    show z ∈ putX ⟨n.n, n.m⟩ m.xs ↔ _
    rw [putX_mem _ _ h.xr, sup_snoc]
    by_cases ez : z.id = n.n
    · have ef : fBl z.id n = n.m.toNat := if_pos ⟨e2, ez.symm⟩
      rw [ef]
      constructor
      · rintro (⟨a, _⟩ | ⟨a, ⟨y, b, c, d⟩ | ⟨b, c⟩⟩)
        · exact absurd ez a
        · have hy := (h.xm y).1 b
          have c : y.id = n.n := c
          have d : z.bl = maxU32 n.m y.bl := d
          rw [d, max32, hy.1, c, ez]
          omega
        · have c : z.bl = n.m := c
          have h0 : sup (fBl z.id) l = 0 := by
            rcases Nat.eq_zero_or_pos (sup (fBl z.id) l) with e | e
            · exact e
            · exact absurd ez (b ⟨z.id, UInt32.ofNat (sup (fBl z.id) l)⟩ (sup_xt h z.id e))
          rw [h0, c]; omega
      · rintro ⟨a, _⟩
        right
        refine ⟨ez, ?_⟩
        rcases Nat.eq_zero_or_pos (sup (fBl z.id) l) with e | e
        · right
          refine ⟨fun y hy ey => ?_, UInt32.toNat_inj.1 (by rw [a, e]; simp)⟩
          have hy := (h.xm y).1 hy
          have ey : y.id = n.n := ey
          rw [ey, ← ez, e] at hy; omega
        · left
          refine ⟨_, sup_xt h z.id e, ez, UInt32.toNat_inj.1 ?_⟩
          show z.bl.toNat = (maxU32 n.m (UInt32.ofNat (sup (fBl z.id) l))).toNat
          rw [a, max32, UInt32.toNat_ofNat', Nat.mod_eq_of_lt (sup32 l z.id)]
          omega
    · have ef : fBl z.id n = 0 := if_neg fun q => ez q.2.symm
      rw [ef, Nat.max_zero, ← h.xm]
      exact ⟨fun q => q.elim (fun a => a.2) (fun a => absurd a.1 ez), fun q => .inl ⟨ez, q⟩⟩
  by_cases e3 : n.kind = 3
  · rw [addM, if_neg e1, if_neg e2, if_pos e3]
    refine ⟨by rw [sup_snoc, q1, Nat.max_zero]; exact h.pg, h.xr, fun x => by rw [sup_snoc, fBl_no e2, Nat.max_zero]; exact h.xm x, put_rise ltU16Tot h.pr,
      fun p => ?_, by rw [ex_snoc]; exact h.cn.trans ⟨.inl, fun q => q.resolve_right fun c => c.2.2 e3⟩⟩
    show p ∈ put1 ltU16 (p16 n.n) m.ps ↔ _
    rw [ex_snoc, put_mem, h.pm]
    constructor
    · rintro (rfl | q); exact .inr ⟨e3, rfl⟩; exact .inl q
    · rintro (q | q); exact .inr q; exact .inl q.2.symm
  · rw [addM, if_neg e1, if_neg e2, if_neg e3]
    exact ⟨by rw [sup_snoc, q1, Nat.max_zero]; exact h.pg, h.xr, fun x => by rw [sup_snoc, fBl_no e2, Nat.max_zero]; exact h.xm x, h.pr,
      fun p => by rw [ex_snoc, h.pm]; exact ⟨.inl, fun q => q.resolve_right (k1 p (.inr (.inr e3)))⟩, by rw [ex_snoc]; exact ⟨fun _ => .inr ⟨e1, e2, e3⟩, fun _ => rfl⟩⟩
theorem den_fold : ∀ (l2 : List Nt) {l : List Nt} {m : Mf}, Den m l → (∀ n ∈ l2, noteB n = true) → Den (l2.foldl addM m) (l ++ l2)
  | [], l, m, h, _ => by rw [List.append_nil]; exact h
  | n :: l2, l, m, h, hn => by
    have := den_fold l2 (h.add (hn n (by simp))) (fun a ha => hn a (List.mem_cons_of_mem _ ha))
    rw [List.append_assoc] at this
    exact this
theorem den_canon (hn : l.all noteB = true) : Den (canon l) l := den_fold l Den.none fun n h => List.all_eq_true.1 hn n h
end
theorem ris_iff {α : Type} {r : α → α → Bool} (tr : ∀ a b c, r a b = true → r b c = true → r a c = true) : ∀ {l : List α}, ris r l = true ↔ l.Pairwise fun a b => r a b = true
  | [] => by simp [ris]
  | [a] => by simp [ris]
  | a :: b :: l => by
    rw [ris, Bool.and_eq_true, ris_iff tr, List.pairwise_cons (a := a)]
    constructor
    · rintro ⟨h1, h2⟩
      refine ⟨fun c hc => ?_, h2⟩
      rcases List.mem_cons.1 hc with rfl | hc
      · exact h1
      · exact tr _ _ _ h1 ((List.pairwise_cons.1 h2).1 c hc)
    · rintro ⟨h1, h2⟩
      exact ⟨h1 b (by simp), h2⟩
theorem risX_iff {l : List Xt} : ris xtLt l = true ↔ l.Pairwise fun a b => xtLt a b = true := ris_iff fun a b c h1 h2 => by rw [xt_lt] at *; omega
theorem ris16_iff {l : List UInt16} : ris u16Lt l = true ↔ Rise ltU16 l := ris_iff (r := ltU16) fun _ _ _ h1 h2 => ltU16Tot.trans h1 h2
theorem may_iff {m : Mf} : m.may = true ↔ (∀ x ∈ m.xs, x.id.toNat < 16 ∧ 1 ≤ x.bl.toNat ∧ x.bl.toNat ≤ 1024) ∧ m.xs.Pairwise (fun a b => xtLt a b = true) ∧ Rise ltU16 m.ps ∧ (∀ p ∈ m.ps, p ≠ 0) ∧ m.ps.length ≤ 16 ∧ m.pg.toNat ≤ 1024 := by
  rw [Mf.may, mfMay, Bool.and_eq_true, Bool.and_eq_true, Bool.and_eq_true, Bool.and_eq_true, Bool.and_eq_true, risX_iff, ris16_iff]
  have e1 : (!(m.xs.any xtBad)) = true ↔ ∀ x ∈ m.xs, x.id.toNat < 16 ∧ 1 ≤ x.bl.toNat ∧ x.bl.toNat ≤ 1024 := by
    rw [Bool.not_eq_true', Bool.eq_false_iff, ne_eq, List.any_eq_true]
    constructor
    · intro h x hx
      have h1 : ¬ xtBad x = true := fun e => h ⟨x, hx, e⟩
      simp only [xtBad, Bool.or_eq_true, decide_eq_true_eq, ge_iff_le, gt_iff_lt, UInt32.le_iff_toNat_le, UInt32.lt_iff_toNat_lt, not_or] at h1
      have a1 := h1.1; have a2 := h1.2.1; have a3 := h1.2.2
      simp at a1 a2 a3
      omega
    · rintro h ⟨x, hx, h1⟩
      have h2 := h x hx
      simp only [xtBad, Bool.or_eq_true, decide_eq_true_eq, ge_iff_le, gt_iff_lt, UInt32.le_iff_toNat_le, UInt32.lt_iff_toNat_lt] at h1
      simp at h1
      omega
  have e2 : (!(m.ps.any (u16Is 0))) = true ↔ ∀ p ∈ m.ps, p ≠ 0 := by
    rw [Bool.not_eq_true', Bool.eq_false_iff, ne_eq, List.any_eq_true]
    constructor
    · rintro h p hp rfl; exact h ⟨0, hp, rfl⟩
    · rintro h ⟨p, hp, h1⟩; exact h p hp (of_decide_eq_true h1).symm
  have e3 : (!decide (m.ps.length > 16)) = true ↔ m.ps.length ≤ 16 := by simp
  have e4 : (!decide (m.pg > 1024)) = true ↔ m.pg.toNat ≤ 1024 := by
    rw [Bool.not_eq_true', decide_eq_false_iff_not, gt_iff_lt, UInt32.lt_iff_toNat_lt]; simp
  rw [e1, e2, e3, e4]
section
variable {l l' l2 : List Nt} {m m' u : Mf} {n : Nt} {x y z : Xt}
theorem Den.may (h : Den m l) (hn : l.all noteB = true) (hp : m.ps.length ≤ 16) : m.may = true := by
  have hn := List.all_eq_true.1 hn
  refine may_iff.2 ⟨fun x hx => ?_, h.xr, h.pr, fun p hp => ?_, hp, ?_⟩
  · obtain ⟨h1, h2⟩ := (h.xm x).1 hx
    rcases sup_at (f := fBl x.id) (l := l) with h3 | ⟨n, h3, h4⟩
    · omega
    · rw [fBl] at h4
      split at h4
      · rename_i h5
        obtain ⟨b1, b2, b3⟩ := note_2 (hn n h3) h5.1
        rw [h5.2] at b1
        exact ⟨b1, by omega, by omega⟩
      · omega
  · obtain ⟨n, h1, h2, h3⟩ := (h.pm p).1 hp
    obtain ⟨b1, b2⟩ := note_3 (hn n h1) h2
    rintro rfl
    have := congrArg UInt16.toNat h3
    rw [p16, UInt16.toNat_ofNat', Nat.mod_eq_of_lt (by omega)] at this
    have e0 : (0 : UInt16).toNat = 0 := rfl
    omega
  · rw [h.pg, sup_le]
    intro n h1
    rw [fPg]; split
    · exact note_1 (hn n h1) (by assumption)
    · omega
def notes0 (m : Mf) : List Nt :=
  (if m.pg > 0 then [⟨1, m.pg, 0⟩] else []) ++ m.xs.map (fun x => ⟨2, x.id, x.bl⟩) ++ m.ps.map (fun p => ⟨3, p32 p, 0⟩) ++ (if m.con then [⟨4, 0, 0⟩] else [])
def notesM (m : Mf) : List Nt := if m.may then notes0 m else []
theorem mem_notes0 : n ∈ notes0 m ↔ (m.pg > 0 ∧ n = ⟨1, m.pg, 0⟩) ∨ (∃ x ∈ m.xs, n = ⟨2, x.id, x.bl⟩) ∨ (∃ p ∈ m.ps, n = ⟨3, p32 p, 0⟩) ∨ (m.con = true ∧ n = ⟨4, 0, 0⟩) := by
  simp only [notes0, List.mem_append, List.mem_map]
  have e1 : (n ∈ if m.pg > 0 then [(⟨1, m.pg, 0⟩ : Nt)] else []) ↔ (m.pg > 0 ∧ n = ⟨1, m.pg, 0⟩) := by
    split
    · rename_i h; simp [h]
    · rename_i h; simp [h]
  have e2 : (n ∈ if m.con = true then [(⟨4, 0, 0⟩ : Nt)] else []) ↔ (m.con = true ∧ n = ⟨4, 0, 0⟩) := by
    split
    · rename_i h; simp [h]
    · rename_i h; simp [h]
  rw [e1, e2]
  constructor
  · rintro (((h | ⟨x, h, k⟩) | ⟨x, h, k⟩) | h)
    · exact .inl h
    · exact .inr (.inl ⟨x, h, k.symm⟩)
    · exact .inr (.inr (.inl ⟨x, h, k.symm⟩))
    · exact .inr (.inr (.inr h))
  · rintro (h | ⟨x, h, k⟩ | ⟨x, h, k⟩ | h)
    · exact .inl (.inl (.inl h))
    · exact .inl (.inl (.inr ⟨x, h, k.symm⟩))
    · exact .inl (.inr ⟨x, h, k.symm⟩)
    · exact .inr h
theorem p16_32 (p : UInt16) : p16 (p32 p) = p := by
  have := p.toNat_lt
  refine UInt16.toNat_inj.1 ?_
  rw [p16, p32, UInt32.toNat_ofNat', Nat.mod_eq_of_lt (by omega), UInt16.toNat_ofNat', Nat.mod_eq_of_lt (by omega)]
theorem notes_ok (h : m.may = true) : (notes0 m).all noteB = true := by
  obtain ⟨h1, h2, h3, h4, h5, h6⟩ := may_iff.1 h
  rw [List.all_eq_true]
  intro n hn
  rcases mem_notes0.1 hn with ⟨_, rfl⟩ | ⟨x, hx, rfl⟩ | ⟨p, hp, rfl⟩ | ⟨_, rfl⟩
  · have : m.pg ≤ 1024 := UInt32.le_iff_toNat_le.2 h6
    simp [noteB, this]
  · have := h1 x hx
    have a1 : x.id < 16 := UInt32.lt_iff_toNat_lt.2 this.1
    have a2 : x.bl ≥ 1 := UInt32.le_iff_toNat_le.2 this.2.1
    have a3 : x.bl ≤ 1024 := UInt32.le_iff_toNat_le.2 this.2.2
    have e1 : ((2 : UInt8) = 1) = False := by decide
    simp only [noteB, decide_eq_true a1, decide_eq_true a2, decide_eq_true a3]; rfl
  · have hp0 := h4 p hp
    have hl := p.toNat_lt
    have e : (p32 p).toNat = p.toNat := by rw [p32, UInt32.toNat_ofNat', Nat.mod_eq_of_lt (by omega)]
    have a1 : p32 p ≥ 1 := UInt32.le_iff_toNat_le.2 (by
      rw [e]
      rcases Nat.eq_zero_or_pos p.toNat with z | z
      · exact absurd (UInt16.toNat_inj.1 z) hp0
      · exact z)
    have a2 : p32 p ≤ 65535 := UInt32.le_iff_toNat_le.2 (by rw [e]; show p.toNat ≤ 65535; omega)
    simp only [noteB, decide_eq_true a1, decide_eq_true a2]; rfl
  · rfl
theorem notes_den (h : m.may = true) : Den m (notes0 m) := by
  obtain ⟨h1, h2, h3, h4, h5, h6⟩ := may_iff.1 h
  have hx : ∀ x y : Xt, x ∈ m.xs → y ∈ m.xs → x.id = y.id → x = y := fun x y hx hy e => by
    obtain ⟨i, hi, rfl⟩ := List.getElem_of_mem hx
    obtain ⟨j, hj, rfl⟩ := List.getElem_of_mem hy
    rcases Nat.lt_trichotomy i j with q | q | q
    · have := xt_lt.1 (List.pairwise_iff_getElem.1 h2 i j hi hj q); rw [e] at this; omega
    · subst q; rfl
    · have := xt_lt.1 (List.pairwise_iff_getElem.1 h2 j i hj hi q); rw [e] at this; omega
  have hpg : ∀ a : UInt32, a > 0 ↔ 0 < a.toNat := fun a => by rw [gt_iff_lt, UInt32.lt_iff_toNat_lt]; rfl
  refine ⟨?_, h2, fun x => ?_, h3, fun p => ?_, ?_⟩
  · refine Nat.le_antisymm ?_ (sup_le.2 fun n hn => ?_)
    · rcases Nat.eq_zero_or_pos m.pg.toNat with e | e
      · omega
      · exact sup_mem (f := fPg) (mem_notes0.2 (.inl ⟨(hpg _).2 e, rfl⟩))
    · rcases mem_notes0.1 hn with ⟨_, rfl⟩ | ⟨x, hx, rfl⟩ | ⟨p, hp, rfl⟩ | ⟨_, rfl⟩
      · exact Nat.le_refl _
      · exact Nat.zero_le _
      · exact Nat.zero_le _
      · exact Nat.zero_le _
  · have hle : ∀ n ∈ notes0 m, fBl x.id n = 0 ∨ ∃ y ∈ m.xs, y.id = x.id ∧ fBl x.id n = y.bl.toNat := fun n hn => by
      rcases mem_notes0.1 hn with ⟨_, rfl⟩ | ⟨y, hy, rfl⟩ | ⟨p, hp, rfl⟩ | ⟨_, rfl⟩
      · exact .inl rfl
      · rw [fBl]; split
        · rename_i h; exact .inr ⟨y, hy, h.2, rfl⟩
        · exact .inl rfl
      · exact .inl rfl
      · exact .inl rfl
    constructor
    · intro hm
      have hb := h1 x hm
      refine ⟨Nat.le_antisymm ?_ (sup_le.2 fun n hn => ?_), hb.2.1⟩
      · have := sup_mem (f := fBl x.id) (mem_notes0.2 (.inr (.inl ⟨x, hm, rfl⟩)))
        rwa [show fBl x.id ⟨2, x.id, x.bl⟩ = x.bl.toNat from if_pos ⟨rfl, rfl⟩] at this
      · rcases hle n hn with e | ⟨y, a, b, c⟩
        · omega
        · rw [c, hx y x a hm b]; exact Nat.le_refl _
    · rintro ⟨a, b⟩
      rcases sup_at (f := fBl x.id) (l := notes0 m) with e | ⟨n, hn, e⟩
      · omega
      · rcases hle n hn with e2 | ⟨y, c, d, e2⟩
        · omega
        · have : x = y := by
            obtain ⟨i, b1⟩ := x; obtain ⟨j, b2⟩ := y
            simp only at *
            rw [d, UInt32.toNat_inj.1 (show b1.toNat = b2.toNat by omega)]
          rw [this]; exact c
  · constructor
    · intro hp
      exact ⟨_, mem_notes0.2 (.inr (.inr (.inl ⟨p, hp, rfl⟩))), rfl, p16_32 p⟩
    · rintro ⟨n, hn, a, b⟩
      rcases mem_notes0.1 hn with ⟨_, rfl⟩ | ⟨x, hx, rfl⟩ | ⟨q, hp, rfl⟩ | ⟨_, rfl⟩
      · cases a
      · cases a
      · rw [← b]; show p16 (p32 q) ∈ _; rw [p16_32]; exact hp
      · cases a
  · constructor
    · intro hc
      exact ⟨_, mem_notes0.2 (.inr (.inr (.inr ⟨hc, rfl⟩))), by decide, by decide, by decide⟩
    · rintro ⟨n, hn, a, b, c⟩
      rcases mem_notes0.1 hn with ⟨_, rfl⟩ | ⟨x, hx, rfl⟩ | ⟨q, hp, rfl⟩ | ⟨h, rfl⟩
      · exact absurd rfl a
      · exact absurd rfl b
      · exact absurd rfl c
      · exact h
def covN (m : Mf) (n : Nt) : Bool :=
  bif decide (n.kind = 1) then decide (m.pg ≥ n.n) else bif decide (n.kind = 2) then m.xs.any (fun x => bif decide (x.id = n.n) then decide (x.bl ≥ n.m) else false)
  else bif decide (n.kind = 3) then m.ps.any (u16Is (p16 n.n)) else m.con
def covM (m m' : Mf) : Bool := m.may && (m'.may && !((notesM m').any fun n => !covN m n))
def ofE (l : List Nt) : Nat := if l.all noteB then (if (canon l).ps.length > 16 then 4 else 0) else 2
def ofM (l : List Nt) : Mf := if ofE l = 0 then canon l else Mf.none
def unE (ms : List Mf) : Nat := if ms.all Mf.may then ofE (ms.flatMap notes0) else 2
def unM (ms : List Mf) : Mf := if unE ms = 0 then canon (ms.flatMap notes0) else Mf.none
theorem ofE_0 : ofE l = 0 ↔ l.all noteB = true ∧ (canon l).ps.length ≤ 16 := by
  rw [ofE]
  by_cases h : l.all noteB = true
  · rw [if_pos h]
    by_cases h2 : (canon l).ps.length > 16
    · rw [if_pos h2]; exact ⟨fun q => (by cases q), fun q => by omega⟩
    · rw [if_neg h2]; exact ⟨fun _ => ⟨h, by omega⟩, fun _ => rfl⟩
  · rw [if_neg h]; exact ⟨fun q => (by cases q), fun q => absurd q.1 h⟩
theorem of_may (h : ofE l = 0) : (ofM l).may = true ∧ Den (ofM l) l := by
  obtain ⟨h1, h2⟩ := ofE_0.1 h
  rw [ofM, if_pos h]
  exact ⟨(den_canon h1).may h1 h2, den_canon h1⟩
theorem un_0 {ms : List Mf} : unE ms = 0 ↔ ms.all Mf.may = true ∧ ofE (ms.flatMap notes0) = 0 := by
  rw [unE]
  by_cases h : ms.all Mf.may = true
  · rw [if_pos h]; exact ⟨fun q => ⟨h, q⟩, fun q => q.2⟩
  · rw [if_neg h]; exact ⟨fun q => (by cases q), fun q => absurd q.1 h⟩
theorem un_may {ms : List Mf} (h : unE ms = 0) : (unM ms).may = true ∧ Den (unM ms) (ms.flatMap notes0) := by
  obtain ⟨h1, h2⟩ := un_0.1 h
  rw [unM, if_pos h]
  have := of_may h2
  rwa [ofM, if_pos h2] at this
theorem rise_len {p q : List UInt16} (h1 : Rise ltU16 p) (h2 : Rise ltU16 q) (h : ∀ x ∈ p, x ∈ q) : p.length ≤ q.length := by
  have e : p = q.filter (fun x => decide (x ∈ p)) := Rise.ext ltU16OK.irr ltU16OK.asym h1 (List.Pairwise.filter _ h2) fun x => by
    rw [List.mem_filter, decide_eq_true_eq]; exact ⟨fun k => ⟨h x k, k⟩, fun k => k.2⟩
  rw [e]; exact List.length_filter_le _ _
/-- Notes that ask for no more. -/
theorem of_less (h : ofE l = 0) (hn : l'.all noteB = true) (k : LeD l' l) : ofE l' = 0 := by
  obtain ⟨h1, h2⟩ := ofE_0.1 h
  refine ofE_0.2 ⟨hn, Nat.le_trans (rise_len (den_canon hn).pr (den_canon h1).pr fun p hp => ?_) h2⟩
  exact ((den_canon h1).pm p).2 (k.pm p (((den_canon hn).pm p).1 hp))
theorem of_same (hn : l.all noteB = l'.all noteB) (k : LeD l l') (k' : LeD l' l) : ofE l = ofE l' ∧ ofM l = ofM l' := by
  by_cases h : l.all noteB = true
  · have h' : l'.all noteB = true := by rw [← hn]; exact h
    have e : canon l = canon l' := (den_canon h).uniq (den_canon h') k k'
    have e2 : ofE l = ofE l' := by rw [ofE, ofE, if_pos h, if_pos h', e]
    exact ⟨e2, by rw [ofM, ofM, e2, e]⟩
  · have h' : ¬ l'.all noteB = true := by rw [← hn]; exact h
    have e2 : ofE l = ofE l' := by rw [ofE, ofE, if_neg h, if_neg h']
    have e3 : ofE l ≠ 0 := by rw [ofE, if_neg h]; decide
    exact ⟨e2, by rw [ofM, ofM, if_neg e3, if_neg (by rw [← e2]; exact e3)]⟩
end
end Go.Spec
/-! from SpecDem3 -/
/- Manifests with the slices that they hang on; the program's gatherer. Plain Lean. -/
namespace Go.Owl
def Deep.arrM {β : Type} (g : β → Value) : Deep (Value × List β) where
  ok := fun w p => Arr w p.1 1 p.2.length (p.2.map g)
  ft := fun p => footA p.1 (p.2.map g)
  lt := fun w p => (Arr.stable p.1 1 p.2.length (p.2.map g)).lt w
  fr := fun T w w' p hf hT h => (Arr.stable p.1 1 p.2.length (p.2.map g)).fr T w w' hf hT h
section
variable {w : World} {E l : List Ent} {j sz n m : Nat} {v v' : Value} {xs xs' : List Value}
/-- A slice that hangs on what is new, or on what another hangs on. -/
def ArFit (w : World) (v' : Value) (xs' : List Value) (v : Value) (xs : List Value) : Prop := ∀ b ∈ footA v' xs', w.heap.size ≤ b ∨ b ∈ footA v xs
theorem ArFit.refl : ArFit w v xs v xs := fun _ hb => .inr hb
theorem ArFit.new (h : ∀ b ∈ footA v' xs', w.heap.size ≤ b) : ArFit w v' xs' v xs := fun b hb => .inl (h b hb)
end
end Go.Owl
namespace Go.Spec
open Go.Owl
structure Mm where
  pg : UInt32
  ev : Value
  xs : List Xt
  pv : Value
  ps : List UInt16
  con : Bool
def Mm.zero : Mm := ⟨0, .slice none 0 0, [], .slice none 0 0, [], false⟩
def Mm.f (m : Mm) : Mf := ⟨m.pg, m.xs, m.ps, m.con⟩
def mmc (x : Mm) : List Value := [vU32 x.pg, x.ev, x.pv, .bool x.con]
def MmD : Deep Mm := ((Deep.arr 2 xtc).on (fun x : Mm => (x.ev, x.xs))).and ((Deep.arrM vU16).on (fun x : Mm => (x.pv, x.ps)))
section
variable {w : World} {x : Mm} {l : List Mm} {k : Nat}
theorem MmD_mk (h : Arr w x.ev 2 x.xs.length (x.xs.flatMap xtc)) (k : Arr w x.pv 1 x.ps.length (x.ps.map vU16)) : MmD.ok w x := ⟨h, k⟩
theorem MmD_xs (h : MmD.ok w x) : Arr w x.ev 2 x.xs.length (x.xs.flatMap xtc) := h.1
theorem MmD_ps (h : MmD.ok w x) : Arr w x.pv 1 x.ps.length (x.ps.map vU16) := h.2
theorem MmD_zero (w : World) : MmD.ok w Mm.zero := ⟨Arr.nil w 2, Arr.nil w 1⟩
end
structure Ga where
  pg : UInt32
  bl : List UInt32
  ps : List UInt16
  con : Bool
def Ga.none : Ga := ⟨0, List.replicate 16 0, [], false⟩
def gaAdd (g : Ga) (n : Nt) : Ga :=
  if n.kind = 1 then { g with pg := maxU32 g.pg n.n } else if n.kind = 2 then { g with bl := g.bl.set n.n.toNat (maxU32 (g.bl.getD n.n.toNat 0) n.m) }
  else if n.kind = 3 then { g with ps := g.ps ++ [p16 n.n] } else if n.kind = 4 then { g with con := true } else g
def gaTo (l : List Nt) : Nat → Ga
  | 0 => Ga.none
  | k + 1 => gaAdd (gaTo l k) (l.getD k Nt.zero)
/-- The extents that a table has. -/
def xsTo (bl : List UInt32) : Nat → List Xt
  | 0 => []
  | k + 1 => if bl.getD k 0 > 0 then xsTo bl k ++ [⟨UInt32.ofNat k, bl.getD k 0⟩] else xsTo bl k
structure GaDen (g : Ga) (l : List Nt) : Prop where
  pg : g.pg.toNat = sup fPg l
  len : g.bl.length = 16
  bl : ∀ k, k < 16 → (g.bl.getD k 0).toNat = sup (fBl (UInt32.ofNat k)) l
  ps : ∀ p, p ∈ g.ps ↔ ∃ n ∈ l, isP p n
  con : g.con = true ↔ ∃ n ∈ l, isC n
section
variable {l : List Nt} {g : Ga} {n : Nt} {k : Nat} {bl : List UInt32}
theorem u32k {k : Nat} {n : UInt32} (hk : k < 16) : n = UInt32.ofNat k ↔ n.toNat = k := by
  rw [← UInt32.toNat_inj, UInt32.toNat_ofNat', Nat.mod_eq_of_lt (by omega)]
theorem note_4 (hn : noteB n = true) (h1 : ¬ n.kind = 1) (h2 : ¬ n.kind = 2) (h3 : ¬ n.kind = 3) : n.kind = 4 := by
  rw [noteB, decide_eq_false h1, decide_eq_false h2, decide_eq_false h3] at hn
  by_cases h : n.kind = 4
  · exact h
  · rw [decide_eq_false h] at hn; cases hn
theorem GaDen.none : GaDen Ga.none [] := ⟨rfl, rfl, fun k hk => by
  have : Ga.none.bl.getD k 0 = 0 := by
    show (List.replicate 16 (0 : UInt32)).getD k 0 = 0
    rw [List.getD, List.getElem?_replicate, if_pos hk]; rfl
  rw [this]; rfl, fun p => by simp [Ga.none], by simp [Ga.none]⟩
theorem GaDen.add (h : GaDen g l) (hn : noteB n = true) : GaDen (gaAdd g n) (l ++ [n]) := by
  have k1 : ∀ p, n.kind = 1 ∨ n.kind = 2 ∨ ¬ (n.kind = 3) → ¬ isP p n := fun p q e => by have := e.1; rw [this] at q; revert q; decide
  by_cases e1 : n.kind = 1
  · have e2 : ¬ n.kind = 2 := by rw [e1]; decide
    rw [gaAdd, if_pos e1]
    exact ⟨by rw [sup_snoc, max32, h.pg, fPg, if_pos e1], h.len, fun k hk => by rw [sup_snoc, fBl_no e2, Nat.max_zero]; exact h.bl k hk,
      fun p => by rw [ex_snoc, h.ps]; exact ⟨.inl, fun q => q.resolve_right (k1 p (.inl e1))⟩, by rw [ex_snoc]; exact h.con.trans ⟨.inl, fun q => q.resolve_right fun c => c.1 e1⟩⟩
  have q1 : fPg n = 0 := if_neg e1
  by_cases e2 : n.kind = 2
  · obtain ⟨b1, b2, b3⟩ := note_2 hn e2
    rw [gaAdd, if_neg e1, if_pos e2]
    refine ⟨by rw [sup_snoc, q1, Nat.max_zero]; exact h.pg, by show (g.bl.set _ _).length = 16; rw [List.length_set]; exact h.len, fun k hk => ?_,
      fun p => by rw [ex_snoc, h.ps]; exact ⟨.inl, fun q => q.resolve_right (k1 p (.inr (.inl e2)))⟩, by rw [ex_snoc]; exact h.con.trans ⟨.inl, fun q => q.resolve_right fun c => c.2.1 e2⟩⟩
    show ((g.bl.set n.n.toNat (maxU32 (g.bl.getD n.n.toNat 0) n.m)).getD k 0).toNat = _
    rw [getD_set _ _ _ _ (by rw [h.len]; exact b1), sup_snoc]
    by_cases ek : k = n.n.toNat
    · rw [if_pos ek, max32, h.bl _ b1, ek, fBl, if_pos ⟨e2, (u32k b1).2 rfl⟩]
    · rw [if_neg ek, h.bl k hk, fBl, if_neg (fun q => ek ((u32k hk).1 q.2).symm), Nat.max_zero]
  by_cases e3 : n.kind = 3
  · rw [gaAdd, if_neg e1, if_neg e2, if_pos e3]
    refine ⟨by rw [sup_snoc, q1, Nat.max_zero]; exact h.pg, h.len, fun k hk => by rw [sup_snoc, fBl_no e2, Nat.max_zero]; exact h.bl k hk, fun p => ?_, by rw [ex_snoc]; exact h.con.trans ⟨.inl, fun q => q.resolve_right fun c => c.2.2 e3⟩⟩
    show p ∈ g.ps ++ [p16 n.n] ↔ _
    rw [ex_snoc, List.mem_append, h.ps, List.mem_singleton]
    constructor
    · rintro (q | rfl); exact .inl q; exact .inr ⟨e3, rfl⟩
    · rintro (q | q); exact .inl q; exact .inr q.2.symm
  · rw [gaAdd, if_neg e1, if_neg e2, if_neg e3, if_pos (note_4 hn e1 e2 e3)]
    exact ⟨by rw [sup_snoc, q1, Nat.max_zero]; exact h.pg, h.len, fun k hk => by rw [sup_snoc, fBl_no e2, Nat.max_zero]; exact h.bl k hk,
      fun p => by rw [ex_snoc, h.ps]; exact ⟨.inl, fun q => q.resolve_right (k1 p (.inr (.inr e3)))⟩, by rw [ex_snoc]; exact ⟨fun _ => .inr ⟨e1, e2, e3⟩, fun _ => rfl⟩⟩
theorem gaTo_den : ∀ k, k ≤ l.length → (∀ j, j < k → noteB (l.getD j Nt.zero) = true) → GaDen (gaTo l k) (l.take k)
  | 0, _, _ => by rw [List.take_zero]; exact GaDen.none
  | k + 1, hk, hn => by
    rw [take_snocD (d := Nt.zero) (by omega)]
    exact (gaTo_den k (by omega) fun j hj => hn j (by omega)).add (hn k (by omega))
theorem gaTo_ps : ∀ k, (gaTo l k).ps.length ≤ k
  | 0 => Nat.le_refl _
  | k + 1 => by
    have := gaTo_ps k
    rw [gaTo, gaAdd]
    split
    · exact Nat.le_succ_of_le this
    · split
      · exact Nat.le_succ_of_le this
      · split
        · show ((gaTo l k).ps ++ [_]).length ≤ _; rw [List.length_append]; exact Nat.succ_le_succ this
        · split
          · exact Nat.le_succ_of_le this
          · exact Nat.le_succ_of_le this
theorem xsTo_len : ∀ k, (xsTo bl k).length ≤ k
  | 0 => Nat.le_refl _
  | k + 1 => by
    have := xsTo_len k
    rw [xsTo]; split
    · rw [List.length_append]; exact Nat.succ_le_succ this
    · omega
theorem xsTo_mem (x : Xt) : ∀ k, k ≤ 16 → (x ∈ xsTo bl k ↔ x.id.toNat < k ∧ x.bl = bl.getD x.id.toNat 0 ∧ 0 < x.bl.toNat)
  | 0, _ => by simp [xsTo]
  | k + 1, hk => by
    have hp : ∀ a : UInt32, a > 0 ↔ 0 < a.toNat := fun a => by rw [gt_iff_lt, UInt32.lt_iff_toNat_lt]; rfl
    have hx : x = ⟨UInt32.ofNat k, bl.getD k 0⟩ ↔ x.id.toNat = k ∧ x.bl = bl.getD k 0 := by
      obtain ⟨a, b⟩ := x
      rw [Xt.mk.injEq, u32k (by omega)]
    rw [xsTo]
    split
    · rename_i h
      rw [List.mem_append, xsTo_mem x k (by omega), List.mem_singleton, hx]
      constructor
      · rintro (⟨a, b, c⟩ | ⟨a, b⟩)
        · exact ⟨by omega, b, c⟩
        · exact ⟨by omega, by rw [a]; exact b, by rw [b]; exact (hp _).1 h⟩
      · rintro ⟨a, b, c⟩
        rcases Nat.lt_or_ge x.id.toNat k with q | q
        · exact .inl ⟨q, b, c⟩
        · have e : x.id.toNat = k := by omega
          exact .inr ⟨e, by rw [← e]; exact b⟩
    · rename_i h
      rw [xsTo_mem x k (by omega)]
      constructor
      · rintro ⟨a, b, c⟩; exact ⟨by omega, b, c⟩
      · rintro ⟨a, b, c⟩
        refine ⟨?_, b, c⟩
        rcases Nat.lt_or_ge x.id.toNat k with q | q
        · exact q
        · have e : x.id.toNat = k := by omega
          rw [b, e] at c
          exact absurd ((hp _).2 c) h
theorem xsTo_rise : ∀ k, k ≤ 16 → (xsTo bl k).Pairwise fun a b => xtLt a b = true
  | 0, _ => List.Pairwise.nil
  | k + 1, hk => by
    rw [xsTo]; split
    · refine List.pairwise_append.2 ⟨xsTo_rise k (by omega), List.pairwise_singleton _ _, fun x hx y hy => ?_⟩
      rw [List.mem_singleton] at hy; subst hy
      refine xt_lt.2 ?_
      have := ((xsTo_mem x k (by omega)).1 hx).1
      show x.id.toNat < (UInt32.ofNat k).toNat
      rw [UInt32.toNat_ofNat', Nat.mod_eq_of_lt (by omega)]; exact this
    · exact xsTo_rise k (by omega)
/-- What the program puts together is what the notes ask for. -/
theorem gaDen (h : GaDen g l) (hn : ∀ n ∈ l, noteB n = true) {ps : List UInt16} (hr : Rise ltU16 ps) (hm : ∀ p, p ∈ ps ↔ p ∈ g.ps) : Den ⟨g.pg, xsTo g.bl 16, ps, g.con⟩ l := by
  refine ⟨h.pg, xsTo_rise 16 (Nat.le_refl _), fun x => ?_, hr, fun p => by rw [hm, h.ps], h.con⟩
  rw [xsTo_mem x 16 (Nat.le_refl _)]
  have hid : ∀ q : x.id.toNat < 16, UInt32.ofNat x.id.toNat = x.id := fun q => ((u32k q).2 rfl).symm
  constructor
  · rintro ⟨a, b, c⟩
    refine ⟨?_, c⟩
    rw [b, h.bl _ a, hid a]
  · rintro ⟨a, c⟩
    have q : x.id.toNat < 16 := by
      rcases sup_at (f := fBl x.id) (l := l) with e | ⟨n, h1, h2⟩
      · omega
      · rw [fBl] at h2
        split at h2
        · rename_i h3
          have := (note_2 (hn n h1) h3.1).1
          rw [h3.2] at this; exact this
        · omega
    exact ⟨q, UInt32.toNat_inj.1 (by rw [a, h.bl _ q, hid q]), c⟩
/-- So is the document's. -/
theorem ga_canon (hn : l.all noteB = true) {ps : List UInt16} (hr : Rise ltU16 ps) (hm : ∀ p, p ∈ ps ↔ p ∈ (gaTo l l.length).ps) :
    canon l = ⟨(gaTo l l.length).pg, xsTo (gaTo l l.length).bl 16, ps, (gaTo l l.length).con⟩ := by
  have h := List.all_eq_true.1 hn
  have hg := gaTo_den (l := l) l.length (Nat.le_refl _) fun j hj => h _ (getD_mem hj)
  rw [List.take_length] at hg
  exact (den_canon hn).uniq (gaDen hg h hr hm) LeD.refl LeD.refl
theorem ofE_bad {k : Nat} (hk : k < l.length) (h : noteB (l.getD k Nt.zero) = false) : ofE l = 2 := by
  rw [ofE, if_neg]
  intro ha
  rw [List.all_eq_true.1 ha _ (getD_mem hk)] at h; cases h
theorem all_get (h : ∀ j, j < l.length → noteB (l.getD j Nt.zero) = true) : l.all noteB = true := by
  rw [List.all_eq_true]; intro x hx
  obtain ⟨j, h1, rfl⟩ := mem_getD (d := Nt.zero) hx
  exact h j h1
end
end Go.Spec
/-! from SpecSort4 -/
/- Lengths in bits, by a table. Plain Lean. -/
namespace Go.Spec
open Go.Owl
def tab8 : List UInt8 := (List.range 256).map (fun n => UInt8.ofNat (lenN n))
theorem tab8_len : tab8.length = 256 := by simp [tab8]
theorem tab8_get {n : Nat} (h : n < 256) : (tab8.getD n 0).toNat = lenN n := by
  have h1 : lenN n ≤ 8 := lenN_le (k := 8) h
  simp only [tab8, List.getD, List.getElem?_map, List.getElem?_range h, Option.map_some, Option.getD_some, UInt8.toNat_ofNat']
  omega
theorem shr64 (x : UInt64) {k : Nat} : (shrU64 x k).toNat = x.toNat / 2 ^ k := by
  have := x.toNat_lt
  rw [shrU64, UInt64.toNat_ofNat', Nat.shiftRight_eq_div_pow]
  exact Nat.mod_eq_of_lt (Nat.lt_of_le_of_lt (Nat.div_le_self _ _) this)
theorem blen_all {x x1 x2 x3 : UInt64} {n1 n2 n3 : Nat} (h1 : (4294967296 ≤ x.toNat ∧ x1 = shrU64 x 32 ∧ n1 = 32) ∨ (x.toNat < 4294967296 ∧ x1 = x ∧ n1 = 0)) (h2 : (65536 ≤ x1.toNat ∧ x2 = shrU64 x1 16 ∧ n2 = n1 + 16) ∨ (x1.toNat < 65536 ∧ x2 = x1 ∧ n2 = n1))
    (h3 : (256 ≤ x2.toNat ∧ x3 = shrU64 x2 8 ∧ n3 = n2 + 8) ∨ (x2.toNat < 256 ∧ x3 = x2 ∧ n3 = n2)) : n3 + (tab8.getD (UInt8.ofNat x3.toNat).toNat 0).toNat = lenN x.toNat := by
  have hx := x.toNat_lt
  have a1 : x1.toNat < 4294967296 ∧ lenN x.toNat = n1 + lenN x1.toNat := by
    rcases h1 with ⟨h, rfl, rfl⟩ | ⟨h, rfl, rfl⟩
    · rw [shr64]
      have := lenN_shift (n := x.toNat) (k := 32) h
      exact ⟨by omega, by omega⟩
    · exact ⟨h, by omega⟩
  have a2 : x2.toNat < 65536 ∧ lenN x1.toNat + n1 = n2 + lenN x2.toNat := by
    rcases h2 with ⟨h, rfl, rfl⟩ | ⟨h, rfl, rfl⟩
    · rw [shr64]
      have := lenN_shift (n := x1.toNat) (k := 16) h
      exact ⟨by omega, by omega⟩
    · exact ⟨h, by omega⟩
  have a3 : x3.toNat < 256 ∧ lenN x2.toNat + n2 = n3 + lenN x3.toNat := by
    rcases h3 with ⟨h, rfl, rfl⟩ | ⟨h, rfl, rfl⟩
    · rw [shr64]
      have := lenN_shift (n := x2.toNat) (k := 8) h
      exact ⟨by omega, by omega⟩
    · exact ⟨h, by omega⟩
  rw [show (UInt8.ofNat x3.toNat).toNat = x3.toNat by rw [UInt8.toNat_ofNat']; omega, tab8_get a3.1]
  omega
theorem tab8_add (c : UInt8) {k : Nat} (h : k ≤ 56) : k + c.toNat ≤ 9223372036854775807 := by have := c.toNat_lt; omega
theorem tab8_in (c : UInt8) : c.toNat < tab8.length := by rw [tab8_len]; exact c.toNat_lt
end Go.Spec
/-! from SpecDem4 -/
/- What the program answers for notes is what the document answers. Plain Lean. -/
namespace Go.Owl
section
variable {S : List Nat} {w0 w : World} {L : List Ent}
/-- Of no thing. -/
def Ent.triv : Ent := .ro (fun _ => True) [] ⟨fun _ _ b hb => (by cases hb), fun _ _ _ _ _ _ => trivial⟩
theorem Own.triv (H : Own S w0 w L) : Own S w0 w (Ent.triv :: L) := by
  refine ⟨H.fr, fun i e h => ?_, fun i j e f hi hj hij b hb => ?_, fun i e h b hb => ?_⟩
  · cases i with
    | zero => cases h; trivial
    | succ i => exact H.ok i e h
  · cases i with
    | zero => cases hi; cases hb
    | succ i =>
      cases j with
      | zero => cases hj; intro hf; cases hf
      | succ j => exact H.sep i j e f hi hj (fun q => hij (by rw [q])) b hb
  · cases i with
    | zero => cases h; cases hb
    | succ i => exact H.own i e h b hb
end
end Go.Owl
namespace Go.Spec
open Go.Owl
def gaM (g : Ga) (ps : List UInt16) : Mf := if ps.length > 16 then Mf.none else ⟨g.pg, xsTo g.bl 16, ps, g.con⟩
def gaE (ps : List UInt16) : Nat := if ps.length > 16 then 4 else 0
section
variable {l : List Nt} {m : Mf} {n : Nt} {k : Nat}
theorem xsTo_yes {bl : List UInt32} (h : decide (bl.getD k 0 > 0) = true) : xsTo bl (k + 1) = xsTo bl k ++ [⟨UInt32.ofNat k, bl.getD k 0⟩] := if_pos (of_decide_eq_true h)
theorem xsTo_not {bl : List UInt32} (h : decide (bl.getD k 0 > 0) = false) : xsTo bl (k + 1) = xsTo bl k := if_neg (of_decide_eq_false h)
theorem gaTo_len : ∀ k, (gaTo l k).bl.length = 16
  | 0 => rfl
  | k + 1 => by
    have h := gaTo_len k
    rw [gaTo, gaAdd]
    split
    · exact h
    · split
      · show ((gaTo l k).bl.set _ _).length = 16; rw [List.length_set]; exact h
      · split
        · exact h
        · split <;> exact h
theorem noteE_ok {x : Nt} (h : decide (noteE x ≠ 0) = false) : noteB x = true := by
  rw [noteE, toldN] at h
  cases e : noteB x with
  | true => rfl
  | false => rw [e] at h; cases h
theorem noteE_bad {x : Nt} (h : decide (noteE x ≠ 0) = true) : noteB x = false ∧ noteE x = 2 := by
  rw [noteE, toldN] at h ⊢
  cases e : noteB x with
  | true => rw [e] at h; cases h
  | false => exact ⟨rfl, rfl⟩
theorem of_ga (hn : ∀ j, j < l.length → noteB (l.getD j Nt.zero) = true) {ps : List UInt16} (hr : Rise ltU16 ps) (hm : ∀ p, p ∈ ps ↔ p ∈ (gaTo l l.length).ps) : ofE l = gaE ps ∧ ofM l = gaM (gaTo l l.length) ps := by
  have ha := all_get hn
  have hc := ga_canon ha hr hm
  have e : ofE l = gaE ps := by rw [ofE, if_pos ha, hc]; rfl
  refine ⟨e, ?_⟩
  rw [ofM, e, gaE, gaM]
  by_cases h : ps.length > 16
  · rw [if_pos h, if_pos h, if_neg (by decide)]
  · rw [if_neg h, if_neg h, if_pos rfl, hc]
theorem of_bad (hk : k < l.length) (h : noteB (l.getD k Nt.zero) = false) : ofE l = 2 ∧ ofM l = Mf.none := by
  have e := ofE_bad hk h
  exact ⟨e, by rw [ofM, e, if_neg (by decide)]⟩
theorem rise_idx : ∀ {xs : List Xt} (b : Nat), xs.Pairwise (fun a b => xtLt a b = true) → (∀ x ∈ xs, b ≤ x.id.toNat ∧ x.id.toNat < 16) → b + xs.length ≤ 16 ∨ xs = []
  | [], _, _, _ => .inr rfl
  | x :: xs, b, h, hb => by
    left
    have h' := List.pairwise_cons.1 h
    have hx := hb x (by simp)
    rcases rise_idx (b + 1) h'.2 (fun y hy => ⟨by have := xt_lt.1 (h'.1 y hy); omega, (hb y (List.mem_cons_of_mem _ hy)).2⟩) with q | q
    · rw [List.length_cons]; omega
    · subst q; simp; omega
theorem may_len (h : m.may = true) : m.xs.length ≤ 16 ∧ m.ps.length ≤ 16 := by
  obtain ⟨h1, h2, h3, h4, h5, h6⟩ := may_iff.1 h
  refine ⟨?_, h5⟩
  rcases rise_idx 0 h2 (fun x hx => ⟨Nat.zero_le _, (h1 x hx).1⟩) with q | q
  · omega
  · rw [q]; simp
theorem notes_len (h : m.may = true) : (notes0 m).length ≤ 34 := by
  have := may_len h
  simp only [notes0, List.length_append, List.length_map]
  split <;> split <;> simp <;> omega
end
end Go.Spec
/-! from SpecDem5 -/
/- Manifests: what the walks of the document's answer and of unions ask for. Plain Lean. -/
namespace Go.Owl
section
variable {w w1 : World} {v v' : Value} {xs xs' : List Value}
theorem ArFit.fresh (hf : ArFit w1 v' xs' v xs) (hs : w.heap.size ≤ w1.heap.size) (h : ∀ b ∈ footA v xs, w.heap.size ≤ b) : ∀ b ∈ footA v' xs', w.heap.size ≤ b := fun b hb => by
  rcases hf b hb with h1 | h1
  · omega
  · exact h b h1
theorem ArFit.mono (hf : ArFit w1 v' xs' v xs) (hs : w.heap.size ≤ w1.heap.size) : ArFit w v' xs' v xs := fun b hb => (hf b hb).imp (fun h => by omega) id
end
end Go.Owl
namespace Go.Spec
open Go.Owl
section
variable {x : Xt} {m m' : Mf} {n : Nt} {k : Nat}
def fxN (x : Xt) : Nt := ⟨2, x.id, x.bl⟩
def fpN (p : UInt16) : Nt := ⟨3, p32 p, 0⟩
def nA (m : Mf) : List Nt := if m.pg > 0 then [⟨1, m.pg, 0⟩] else []
def nX (m : Mf) : Nat → List Nt
  | 0 => nA m
  | k + 1 => nX m k ++ [fxN (m.xs.getD k Xt.zero)]
def nP (m : Mf) : Nat → List Nt
  | 0 => nX m m.xs.length
  | k + 1 => nP m k ++ [fpN (m.ps.getD k 0)]
theorem nA_yes (h : decide (m.pg > 0) = true) : nA m = [⟨1, m.pg, 0⟩] := if_pos (of_decide_eq_true h)
theorem nA_no (h : decide (m.pg > 0) = false) : nA m = [] := if_neg (of_decide_eq_false h)
theorem nX_take : ∀ k, k ≤ m.xs.length → nX m k = nA m ++ (m.xs.take k).map fxN
  | 0, _ => by simp [nX]
  | k + 1, h => by rw [nX, nX_take k (by omega), take_snocD (d := Xt.zero) (by omega), List.map_append, List.map_singleton, List.append_assoc]
theorem nP_take : ∀ k, k ≤ m.ps.length → nP m k = nA m ++ m.xs.map fxN ++ (m.ps.take k).map fpN
  | 0, _ => by rw [nP, nX_take _ (Nat.le_refl _), List.take_length]; simp
  | k + 1, h => by rw [nP, nP_take k (by omega), take_snocD (d := 0) (by omega), List.map_append, List.map_singleton, List.append_assoc]
theorem nP_all : notes0 m = nP m m.ps.length ++ (if m.con then [⟨4, 0, 0⟩] else []) := by
  rw [nP_take _ (Nat.le_refl _), List.take_length]; rfl
theorem notes_yes (hm : m.may = true) (h : m.con = true) : notesM m = nP m m.ps.length ++ [⟨4, 0, 0⟩] := by rw [notesM, if_pos hm, nP_all, if_pos h]
theorem notes_no (hm : m.may = true) (h : m.con = false) : notesM m = nP m m.ps.length := by rw [notesM, if_pos hm, nP_all, if_neg (by rw [h]; decide), List.append_nil]
theorem notes_may (h : m.may = true) : notesM m = notes0 m := if_pos h
theorem notes_not (h : m.may = false) : notesM m = [] := if_neg (by rw [h]; decide)
theorem mfE_may (h : decide (mfE m.pg m.xs m.ps ≠ 0) = false) : m.may = true := by
  have := Decidable.not_not.mp (of_decide_eq_false h)
  rw [mfE] at this
  split at this
  · assumption
  · cases this
theorem mfE_not (h : decide (mfE m.pg m.xs m.ps ≠ 0) = true) : m.may = false ∧ mfE m.pg m.xs m.ps = 2 := by
  have := of_decide_eq_true h
  cases e : m.may with
  | true => exact absurd (mfE_yes e) this
  | false => exact ⟨rfl, mfE_no e⟩
theorem mfE_dec : decide (mfE m.pg m.xs m.ps = 0) = m.may := by
  cases e : m.may with
  | true => rw [mfE_yes e]; rfl
  | false => rw [mfE_no e]; rfl
theorem noteE_dec : decide (noteE n = 0) = noteB n := by
  rw [noteE, toldN]; cases noteB n <;> rfl
theorem nX_len : ∀ k, (nX m k).length ≤ k + 1
  | 0 => by rw [nX, nA]; split <;> simp
  | k + 1 => by rw [nX, List.length_append]; have := nX_len k; simp; omega
theorem nP_len : ∀ k, (nP m k).length ≤ m.xs.length + k + 1
  | 0 => nX_len _
  | k + 1 => by rw [nP, List.length_append]; have := nP_len k; simp; omega
def unL (ms : List Mm) : Nat → List Nt
  | 0 => []
  | k + 1 => unL ms k ++ notes0 (ms.getD k Mm.zero).f
variable {ms : List Mm}
theorem unL_take : ∀ k, k ≤ ms.length → unL ms k = ((ms.take k).map Mm.f).flatMap notes0
  | 0, _ => by simp [unL]
  | k + 1, h => by rw [unL, unL_take k (by omega), take_snocD (d := Mm.zero) (by omega), List.map_append, List.flatMap_append]; simp
theorem unL_all : unL ms ms.length = (ms.map Mm.f).flatMap notes0 := by rw [unL_take _ (Nat.le_refl _), List.take_length]
theorem unL_len (h : ∀ j, j < k → ((ms.getD j Mm.zero).f).may = true) : (unL ms k).length ≤ 34 * k := by
  induction k with
  | zero => exact Nat.le_refl _
  | succ k ih =>
    have h1 := ih fun j hj => h j (by omega)
    have h2 := notes_len (h k (by omega))
    rw [unL, List.length_append]; omega
theorem un_bad (hk : k < ms.length) (h : ((ms.getD k Mm.zero).f).may = false) : unE (ms.map Mm.f) = 2 ∧ unM (ms.map Mm.f) = Mf.none := by
  have e : unE (ms.map Mm.f) = 2 := by
    rw [unE, if_neg]
    intro ha
    have := List.all_eq_true.1 ha (ms.getD k Mm.zero).f (List.mem_map.2 ⟨_, getD_mem hk, rfl⟩)
    rw [h] at this; cases this
  exact ⟨e, by rw [unM, e, if_neg (by decide)]⟩
theorem un_end (h : ∀ j, j < ms.length → ((ms.getD j Mm.zero).f).may = true) : unE (ms.map Mm.f) = ofE (unL ms ms.length) ∧ unM (ms.map Mm.f) = ofM (unL ms ms.length) := by
  have ha : (ms.map Mm.f).all Mf.may = true := by
    rw [List.all_eq_true]; intro a ha
    obtain ⟨b, hb, rfl⟩ := List.mem_map.1 ha
    obtain ⟨j, h1, rfl⟩ := mem_getD (d := Mm.zero) hb
    exact h j h1
  have e : unE (ms.map Mm.f) = ofE (unL ms ms.length) := by rw [unE, if_pos ha, unL_all]
  refine ⟨e, ?_⟩
  rw [unM, ofM, e, unL_all]
def rNote (m : Mf) (n : Nt) : Bool := m.may && (noteB n && covN m n)
end
def covX (n : Nt) (x : Xt) : Bool := bif decide (x.id = n.n) then decide (x.bl ≥ n.m) else false
theorem covN_x {m : Mf} {n : Nt} (h1 : decide (n.kind = 1) = false) (h2 : decide (n.kind = 2) = true) : covN m n = m.xs.any (covX n) := by rw [covN, h1, h2]; rfl
theorem same_of {P : Program} {f : FuncId} {args : Array Value} {w : World} {a b : Mf} (h : Calls P f args w fun e w' => e = .returned (.bool (sameM a.pg a.con a.xs a.ps b.pg b.con b.xs b.ps)) ∧ Fr [] w w') :
    Calls P f args w fun e w' => e = .returned (.bool (decide (a = b))) ∧ Fr [] w w' := by
  have e : sameM a.pg a.con a.xs a.ps b.pg b.con b.xs b.ps = decide (a = b) := by
    rw [Bool.eq_iff_iff, sameM_iff, decide_eq_true_eq]
    obtain ⟨a1, a2, a3, a4⟩ := a
    obtain ⟨b1, b2, b3, b4⟩ := b
    simp only [Mf.mk.injEq]
    exact ⟨fun ⟨p, q, r, s⟩ => ⟨p, r, s, q⟩, fun ⟨p, r, s, q⟩ => ⟨p, q, r, s⟩⟩
  rw [e] at h; exact h
section
variable {l : List Mm} {k : Nat}
end
theorem get_prop {α : Type} {p : α → Prop} {l : List α} {d : α} (h : ∀ x ∈ l, p x) (hd : p d) (k : Nat) : p (l.getD k d) := by
  rcases Nat.lt_or_ge k l.length with hk | hk
  · exact h _ (getD_mem hk)
  · rw [List.getD, List.getElem?_eq_none hk]; exact hd
theorem notesM_len {m : Mf} : (notesM m).length ≤ (nP m m.ps.length).length + 1 := by
  rw [notesM]; split
  · rw [nP_all, List.length_append]; split <;> simp
  · simp
end Go.Spec
/-! from SpecDem6 -/
/- The statements of layer 11, in plain Lean. -/
namespace Go.Spec
open Go.Owl
abbrev aL : List Nt := [Nt.mk 2 2 3, Nt.mk 3 9 0, Nt.mk 2 2 5, Nt.mk 3 7 0]
theorem aE : ofE aL = 0 := by decide
theorem aM : ofM aL = Mf.mk 0 [Xt.mk 2 5] [7, 9] false := by decide
theorem al1 : decide (ofE aL = 0) = true := decide_eq_true aE
theorem al2 : decide (ofM aL = Mf.mk 0 [Xt.mk 2 5] [7, 9] false) = true := decide_eq_true aM
theorem al3 : decide (ofE [Nt.mk 0 0 0] = 2) = true := by decide
theorem al4 : decide (mfE (ofM aL).pg (ofM aL).xs (ofM aL).ps = 0) = true := by rw [aM]; decide
theorem al5 : rNote (ofM aL) (Nt.mk 3 7 0) = true := by rw [aM]; decide
theorem al6 : rNote (ofM aL) (Nt.mk 4 0 0) = false := by rw [aM]; decide
theorem al7 : covM (ofM aL) (ofM aL) = true := by rw [aM]; decide
theorem al8 : (ofM aL).xs.length < 2 ^ 42 := by rw [aM]; decide
theorem al9 : (ofM aL).ps.length < 2 ^ 42 := by rw [aM]; decide
theorem MmL_cons {w : World} {x : Mm} {l : List Mm} (h : MmD.ok w x) (k : MmD.list.ok w l) : MmD.list.ok w (x :: l) := fun y hy => by
  rcases List.mem_cons.1 hy with rfl | hy
  · exact h
  · exact k y hy
theorem MmL_nil {w : World} : MmD.list.ok w [] := fun y hy => by cases hy
section
variable {α : Type} {p : α → Prop} {a b c : α}
theorem all1 (h : p a) : ∀ x ∈ [a], p x := fun x hx => by rw [List.mem_singleton.1 hx]; exact h
theorem all2 (h : p a) (k : p b) : ∀ x ∈ [a, b], p x := fun x hx => by
  rcases List.mem_cons.1 hx with rfl | hx
  · exact h
  · exact all1 k x hx
theorem all3 (h : p a) (k : p b) (q : p c) : ∀ x ∈ [a, b, c], p x := fun x hx => by
  rcases List.mem_cons.1 hx with rfl | hx
  · exact h
  · exact all2 k q x hx
end
section
variable {m x : Mf} {l : List Nt} {ms : List Mm} {k t : Nat}
theorem un_len (h : unE (ms.map Mm.f) = 0) : (unM (ms.map Mm.f)).xs.length ≤ 16 ∧ (unM (ms.map Mm.f)).ps.length ≤ 16 := may_len (un_may h).1
theorem of_len : (ofM l).xs.length ≤ 16 ∧ (ofM l).ps.length ≤ 16 := by
  by_cases h : ofE l = 0
  · exact may_len (of_may h).1
  · rw [ofM, if_neg h]; exact ⟨Nat.zero_le _, Nat.zero_le _⟩
theorem un_len' : (unM (ms.map Mm.f)).xs.length ≤ 16 ∧ (unM (ms.map Mm.f)).ps.length ≤ 16 := by
  by_cases h : unE (ms.map Mm.f) = 0
  · exact un_len h
  · rw [unM, if_neg h]; exact ⟨Nat.zero_le _, Nat.zero_le _⟩
def turnL (l : List Nt) (t : Nat) : Nat → List Nt
  | 0 => []
  | k + 1 => turnL l t k ++ [l.getD ((k + t) % l.length) Nt.zero]
theorem turn_len : ∀ k, (turnL l t k).length = k
  | 0 => rfl
  | k + 1 => by rw [turnL, List.length_append, turn_len k]; rfl
theorem turn_mem (hl : 0 < l.length) : ∀ k, ∀ x ∈ turnL l t k, x ∈ l
  | 0, x, hx => by cases hx
  | k + 1, x, hx => by
    rw [turnL] at hx
    rcases List.mem_append.1 hx with h | h
    · exact turn_mem hl k x h
    · rw [List.mem_singleton.1 h]; exact getD_mem (Nat.mod_lt _ hl)
theorem turn_sub (x : Nt) (hx : x ∈ turnL l t l.length) : x ∈ l := by
  rcases Nat.eq_zero_or_pos l.length with e | e
  · rw [e] at hx; cases hx
  · exact turn_mem e _ x hx
theorem turn_of : ofE (turnL l t l.length ++ l) = ofE l ∧ ofM (turnL l t l.length ++ l) = ofM l := by
  have hs : ∀ x ∈ turnL l t l.length ++ l, x ∈ l := fun x hx => (List.mem_append.1 hx).elim (turn_sub x) id
  refine of_same ?_ (LeD.sub hs) (LeD.sub fun x hx => List.mem_append.2 (.inr hx))
  rw [Bool.eq_iff_iff, List.all_eq_true, List.all_eq_true]
  exact ⟨fun h x hx => h x (List.mem_append.2 (.inr hx)), fun h x hx => h x (hs x hx)⟩
theorem part_of (h : ofE l = 0) : ofE (l.take k) = 0 ∧ ofE (l.drop k) = 0 := by
  have ha := List.all_eq_true.1 (ofE_0.1 h).1
  have s1 : ∀ x ∈ l.take k, x ∈ l := fun x hx => List.mem_of_mem_take hx
  have s2 : ∀ x ∈ l.drop k, x ∈ l := fun x hx => List.mem_of_mem_drop hx
  exact ⟨of_less h (List.all_eq_true.2 fun x hx => ha x (s1 x hx)) (LeD.sub s1), of_less h (List.all_eq_true.2 fun x hx => ha x (s2 x hx)) (LeD.sub s2)⟩
theorem notes_of (h : ofE l = 0) : ofE (notesM (ofM l)) = 0 ∧ ofM (notesM (ofM l)) = ofM l := by
  obtain ⟨h1, h2⟩ := of_may h
  have h3 := notes_den h1
  rw [notes_may h1]
  have := of_same (l := notes0 (ofM l)) (l' := l) ((notes_ok h1).trans (ofE_0.1 h).1.symm) (h3.le h2) (h2.le h3)
  rw [this.1]; exact ⟨h, this.2⟩
theorem union_of (h : ofE l = 0) : unE [ofM (l.drop k), ofM (l.take k), ofM l] = 0 ∧ unM [ofM (l.drop k), ofM (l.take k), ofM l] = ofM l := by
  obtain ⟨p1, p2⟩ := part_of (k := k) h
  obtain ⟨a1, a2⟩ := of_may h
  obtain ⟨c1, c2⟩ := of_may p1
  obtain ⟨d1, d2⟩ := of_may p2
  have ha : ([ofM (l.drop k), ofM (l.take k), ofM l]).all Mf.may = true := by simp [a1, c1, d1]
  have e : [ofM (l.drop k), ofM (l.take k), ofM l].flatMap notes0 = notes0 (ofM (l.drop k)) ++ (notes0 (ofM (l.take k)) ++ notes0 (ofM l)) := by simp
  have n1 := notes_den a1; have n2 := notes_den c1; have n3 := notes_den d1
  have hs := of_same (l := notes0 (ofM (l.drop k)) ++ (notes0 (ofM (l.take k)) ++ notes0 (ofM l))) (l' := l)
    (by rw [List.all_append, List.all_append, notes_ok a1, notes_ok c1, notes_ok d1, (ofE_0.1 h).1]; rfl)
    (((n3.le d2).trans (LeD.sub fun x hx => List.mem_of_mem_drop hx)).app (((n2.le c2).trans (LeD.sub fun x hx => List.mem_of_mem_take hx)).app (n1.le a2)))
    ((a2.le n1).trans (LeD.right.trans LeD.right))
  have e1 : unE [ofM (l.drop k), ofM (l.take k), ofM l] = 0 := by rw [unE, if_pos ha, e, hs.1]; exact h
  refine ⟨e1, ?_⟩
  have e2 := hs.1.trans h
  rw [unM, if_pos e1, e]
  have := hs.2
  rwa [ofM, if_pos e2] at this
end
theorem notesM_34 (m : Mf) : (notesM m).length ≤ 34 := by
  rw [notesM]; split
  · exact notes_len (by assumption)
  · simp
end Go.Spec
