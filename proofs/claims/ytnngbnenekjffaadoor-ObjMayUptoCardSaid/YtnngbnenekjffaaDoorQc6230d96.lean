/- General lemmas and walks: SpecObj3, SpecObj4, SpecSort4, SpecDem2, SpecDem3, SpecDem4, SpecDem5. No condition but what each theorem names. -/
import Derived.Test.YtnngbnenekjffaaDoorQ7f878364
import Derived.Test.YtnngbnenekjffaaDoorQ8317ca71
import Derived.Test.YtnngbnenekjffaaDoorQ2ad7965d
import Derived.Test.YtnngbnenekjffaaDoorQ66c3e74a
/-! from SpecObj3 -/
/- Objects: which may be, which names they have. Plain Lean. -/
namespace Go.Spec
open Go.Owl
theorem mget_set {β : Type} (a k : List UInt8) (v : β) : ∀ m : List (List UInt8 × β), mget a (mset k v m) = if k = a then some v else mget a m
  | [] => rfl
  | (c, u) :: m => by
    rw [mset]
    split
    · rename_i h
      rw [mget, mget]
      subst h
      split <;> rfl
    · rename_i h
      rw [mget, mget_set a k v m, mget]
      split
      · rename_i h1
        subst h1
        rw [if_neg (fun e => h e.symm)]
      · rfl
def FitY (x : Sy) : Prop := x.nm.length ≤ 1048576 ∧ x.b.length ≤ 1048576 ∧ x.rl.length ≤ 1048576 ∧ x.nt.length ≤ 1048576 ∧ ∀ y ∈ x.rl, y.nm.length ≤ 1048576
def FitU (o : Ob) : Prop := o.nm.length ≤ 1048576 ∧ o.sy.length ≤ 1048576 ∧ ∀ x ∈ o.sy, FitY x
section
variable {x : Sy}
theorem getP {α : Type} {p : α → Prop} {l : List α} {d : α} (h : ∀ x ∈ l, p x) (hd : p d) (k : Nat) : p (l.getD k d) := by
  rcases Nat.lt_or_ge k l.length with hk | hk
  · exact h _ (getDmem hk)
  · rw [List.getD, List.getElem?_eq_none hk]; exact hd
end
def mayOb (nm : List UInt8) (l : List Sy) : Bool := l.all symB && (decide ((l.map Sy.nm).Nodup) && (nameB nm && decide (l.length ≤ 64)))
def Ob.may (o : Ob) : Bool := mayOb o.nm o.sy
/-- The first k names are none of them twice. -/
def Dst (l : List Sy) (k : Nat) : Prop := ∀ i j, i < j → j < k → (l.getD i Sy.zero).nm ≠ (l.getD j Sy.zero).nm
section
variable {nm s : List UInt8} {l : List Sy} {i j k : Nat}
theorem nodup_dst : (l.map Sy.nm).Nodup ↔ Dst l l.length := by
  rw [List.Nodup, List.pairwise_iff_getElem]
  constructor
  · intro h i j h1 h2
    have := h i j (by simp; omega) (by simpa using h2) h1
    simpa [List.getD, show i < l.length by omega, h2] using this
  · intro h i j h1 h2 h3
    simp only [List.length_map] at h1 h2
    have := h i j h3 h2
    simpa [List.getD, h1, h2] using this
theorem may_sym (hk : k < l.length) (h : symB (l.getD k Sy.zero) = false) : mayOb nm l = false := by
  have : l.all symB = false := by
    rw [Bool.eq_false_iff]; intro ha
    rw [List.all_eq_true.1 ha _ (getDmem hk)] at h; cases h
  rw [mayOb, this]; rfl
theorem may_dup (hk : k < l.length) (hj : j < k) (h : (l.getD j Sy.zero).nm = (l.getD k Sy.zero).nm) : mayOb nm l = false := by
  have : ¬ (l.map Sy.nm).Nodup := fun hn => nodup_dst.1 hn j k hj hk h
  rw [mayOb, decide_eq_false this, Bool.false_and, Bool.and_false]
theorem may_end (h : ∀ j, j < l.length → symB (l.getD j Sy.zero) = true) (hd : Dst l l.length) : mayOb nm l = (nameB nm && decide (l.length ≤ 64)) := by
  have : l.all symB = true := by
    rw [List.all_eq_true]; intro x hx
    obtain ⟨j, h1, rfl⟩ := mem_getD (d := Sy.zero) hx
    exact h j h1
  rw [mayOb, this, decide_eq_true (nodup_dst.2 hd)]; rfl
theorem may_iff2 : mayOb nm l = true ↔ (∀ x ∈ l, symB x = true) ∧ Dst l l.length ∧ nameB nm = true ∧ l.length ≤ 64 := by
  rw [mayOb, Bool.and_eq_true, Bool.and_eq_true, Bool.and_eq_true, decide_eq_true_eq, decide_eq_true_eq, nodup_dst, List.all_eq_true]
/-- What the program's map knows. -/
def MI (m : List (List UInt8 × Nat)) (l : List Sy) (k : Nat) : Prop := ∀ s, 0 < (mget s m).getD 0 ↔ ∃ j, j < k ∧ (l.getD j Sy.zero).nm = s
theorem MI.nil : MI [] l 0 := fun s => by simp [mget]
theorem MI.add {m : List (List UInt8 × Nat)} (h : MI m l k) : MI (mset (l.getD k Sy.zero).nm ((mget (l.getD k Sy.zero).nm m).getD 0 + 1) m) l (k + 1) := fun s => by
  rw [mget_set]
  split
  · rename_i e
    exact ⟨fun _ => ⟨k, by omega, e⟩, fun _ => Nat.succ_pos _⟩
  · rename_i e
    rw [h s]
    constructor
    · rintro ⟨j, h1, h2⟩; exact ⟨j, by omega, h2⟩
    · rintro ⟨j, h1, h2⟩
      rcases Nat.lt_or_ge j k with h3 | h3
      · exact ⟨j, h3, h2⟩
      · rw [show j = k by omega] at h2; exact absurd h2 e
theorem MI.dst {m : List (List UInt8 × Nat)} (h : MI m l k) (hd : Dst l k) (h0 : ¬ (mget (l.getD k Sy.zero).nm m).getD 0 > 0) : Dst l (k + 1) := fun i j h1 h2 => by
  rcases Nat.lt_or_ge j k with h3 | h3
  · exact hd i j h1 h3
  · rw [show j = k by omega]
    intro e
    exact h0 ((h _).2 ⟨i, by omega, e⟩)
theorem MI.dup {m : List (List UInt8 × Nat)} (h : MI m l k) (h0 : (mget (l.getD k Sy.zero).nm m).getD 0 > 0) : ∃ j, j < k ∧ (l.getD j Sy.zero).nm = (l.getD k Sy.zero).nm := (h _).1 h0
/-- Finding by name. -/
def findN (s : List UInt8) (l : List Sy) : Int := fidx (fun x => decide (x.nm = s)) l
def findI (nm s : List UInt8) (l : List Sy) : Nat := if mayOb nm l = true ∧ ¬ findN s l < 0 then (findN s l).toNat else 0
def findB (nm s : List UInt8) (l : List Sy) : Bool := mayOb nm l && !decide (findN s l < 0)
theorem find_at (hm : mayOb nm l = true) (hk : k < l.length) (h : ∀ j, j < k → decide ((l.getD j Sy.zero).nm = s) = false) (h2 : decide ((l.getD k Sy.zero).nm = s) = true) : findI nm s l = k ∧ findB nm s l = true := by
  have e : findN s l = (k : Int) := fidx_yes (d := Sy.zero) hk h h2
  have hn : ¬ findN s l < 0 := by rw [e]; omega
  exact ⟨by rw [findI, if_pos ⟨hm, hn⟩, e]; rfl, by rw [findB, hm, decide_eq_false hn]; rfl⟩
theorem find_no (h : mayOb nm l = false ∨ ∀ j, j < l.length → decide ((l.getD j Sy.zero).nm = s) = false) : findI nm s l = 0 ∧ findB nm s l = false := by
  rcases h with h | h
  · exact ⟨if_neg (fun q => by rw [h] at q; cases q.1), by rw [findB, h]; rfl⟩
  · have e : findN s l = -1 := fidx_no (d := Sy.zero) h
    have hn : findN s l < 0 := by rw [e]; decide
    exact ⟨if_neg (fun q => q.2 hn), by rw [findB, decide_eq_true hn]; simp⟩
def nmTo (l : List Sy) : Nat → List (List UInt8)
  | 0 => []
  | j + 1 => nmTo l j ++ [(l.getD j Sy.zero).nm]
def nmAll (l : List Ob) : Nat → List (List UInt8)
  | 0 => []
  | i + 1 => if (l.getD i Ob.zero).may then nmAll l i ++ nmTo (l.getD i Ob.zero).sy (l.getD i Ob.zero).sy.length else nmAll l i
def ptTo (acc : List (List UInt8)) (l : List Sy) : Nat → List (List UInt8)
  | 0 => acc
  | j + 1 => put1 ltStr (l.getD j Sy.zero).nm (ptTo acc l j)
def ptAll (l : List Ob) : Nat → List (List UInt8)
  | 0 => []
  | i + 1 => if (l.getD i Ob.zero).may then ptTo (ptAll l i) (l.getD i Ob.zero).sy (l.getD i Ob.zero).sy.length else ptAll l i
def resN (l : List Ob) : List (List UInt8) := ptAll l l.length
variable {acc : List (List UInt8)} {lo : List Ob}
theorem nmTo_len : ∀ j, (nmTo l j).length = j
  | 0 => rfl
  | j + 1 => by rw [nmTo, List.length_append, nmTo_len j]; rfl
theorem ptTo_mem : ∀ j, s ∈ ptTo acc l j ↔ s ∈ acc ∨ s ∈ nmTo l j
  | 0 => by simp [ptTo, nmTo]
  | j + 1 => by
    rw [ptTo, put1_mem, ptTo_mem j, nmTo, List.mem_append, List.mem_singleton]
    constructor
    · rintro (h | h | h); exact .inr (.inr h); exact .inl h; exact .inr (.inl h)
    · rintro (h | h | h); exact .inr (.inl h); exact .inr (.inr h); exact .inl h
theorem ptTo_rise (h : Rise ltStr acc) : ∀ j, Rise ltStr (ptTo acc l j)
  | 0 => h
  | j + 1 => put1_rise ltStrTot (ptTo_rise h j)
theorem ptAll_mem : ∀ i, s ∈ ptAll lo i ↔ s ∈ nmAll lo i
  | 0 => Iff.rfl
  | i + 1 => by
    rw [ptAll, nmAll]
    split
    · rw [ptTo_mem, ptAll_mem i, List.mem_append]
    · exact ptAll_mem i
theorem ptAll_rise : ∀ i, Rise ltStr (ptAll lo i)
  | 0 => List.Pairwise.nil
  | i + 1 => by
    rw [ptAll]; split
    · exact ptTo_rise (ptAll_rise i) _
    · exact ptAll_rise i
theorem names_eq {p : List (List UInt8)} (hr : Rise ltStr p) (hm : ∀ s, s ∈ p ↔ s ∈ nmAll lo lo.length) : p = resN lo :=
  Rise.ext ltStr_irr ltStr_asym hr (ptAll_rise _) fun s => by rw [hm, resN, ptAll_mem]
theorem may_64 (h : mayOb nm l = true) : l.length ≤ 64 := (may_iff2.1 h).2.2.2
theorem nmAll_len : ∀ i, (nmAll lo i).length ≤ 64 * i
  | 0 => Nat.le_refl _
  | i + 1 => by
    have := nmAll_len i
    rw [nmAll]; split
    · rename_i h
      have := may_64 h
      rw [List.length_append, nmTo_len]; omega
    · omega
end
end Go.Spec
/-! from SpecObj4 -/
/- Objects: what their walks ask. Plain Lean. -/
namespace Go.Spec
open Go.Owl
def FitH (x : Sy) : Prop := x.nm.length < 2 ^ 47 ∧ x.b.length < 2 ^ 32 ∧ (∀ y ∈ x.rl, y.nm.length < 2 ^ 47) ∧ x.rl.length < 2 ^ 40 ∧ x.nt.length < 2 ^ 40
def FitOb (o : Ob) : Prop := o.nm.length < 2 ^ 47 ∧ o.sy.length < 2 ^ 46 ∧ ∀ x ∈ o.sy, FitH x
section
variable {w : World} {nm s : List UInt8} {l l' : List Sy} {lo : List Ob} {i j k : Nat} {b c : Bool} {o : Ob} {x y : Sy}
theorem fitH_zero : FitH Sy.zero := ⟨by decide, by decide, (fun y hy => by cases hy), by decide, by decide⟩
theorem fitH_getD (h : ∀ x ∈ l, FitH x) (k : Nat) : FitH (l.getD k Sy.zero) := getP h fitH_zero k
theorem fitU_H (h : FitY x) : FitH x := ⟨by have := h.1; omega, by have := h.2.1; omega, fun y hy => by have := h.2.2.2.2 y hy; omega, by have := h.2.2.1; omega, by have := h.2.2.2.1; omega⟩
theorem hF_ob (h : ∀ o ∈ lo, FitOb o) (i : Nat) : FitOb (lo.getD i Ob.zero) := getP h ⟨by decide, by decide, fun x hx => by cases hx⟩ i
theorem told_no (h : decide (toldN b ≠ 0) = true) : b = false := by
  cases b
  · rfl
  · exact absurd rfl (of_decide_eq_true h)
theorem told_yes (h : decide (toldN b ≠ 0) = false) : b = true := by
  cases b
  · exact absurd (by decide : toldN false ≠ 0) (of_decide_eq_false h)
  · rfl
theorem told_is (b : Bool) : decide (toldN b = 0) = b := by cases b <;> rfl
theorem told_2 (h : decide (toldN b = 0) = false) : decide (toldN b ≠ 2) = false := by
  cases b
  · rfl
  · exact absurd rfl (of_decide_eq_false h)
theorem find_neg (h : findN s l < 0) : findI nm s l = 0 ∧ findB nm s l = false :=
  ⟨if_neg (fun q => q.2 h), by rw [findB, decide_eq_true h]; simp⟩
theorem find_yes (hm : mayOb nm l = true) (h : ¬ findN s l < 0) : ((findI nm s l : Nat) : Int) = findN s l ∧ findB nm s l = true :=
  ⟨by rw [findI, if_pos ⟨hm, h⟩]; omega, by rw [findB, hm, decide_eq_false h]; rfl⟩
theorem nmAll_not (h : mayOb (lo.getD i Ob.zero).nm (lo.getD i Ob.zero).sy = false) : nmAll lo (i + 1) = nmAll lo i := by
  rw [nmAll]; exact if_neg (by show ¬ mayOb _ _ = true; rw [h]; decide)
theorem nmAll_yes (h : mayOb (lo.getD i Ob.zero).nm (lo.getD i Ob.zero).sy = true) (hk : k = (lo.getD i Ob.zero).sy.length) : nmAll lo (i + 1) = nmAll lo i ++ nmTo (lo.getD i Ob.zero).sy k := by
  rw [nmAll, hk]; exact if_pos h
theorem ObL_cons (h : ObD.ok w o) (k : ObD.list.ok w lo) : ObD.list.ok w (o :: lo) := fun x hx => by
  rcases List.mem_cons.1 hx with rfl | hx
  · exact h
  · exact k x hx
theorem bare_len (h : l'.map Sy.bare = l.map Sy.bare) : l'.length = l.length := by simpa using congrArg List.length h
theorem bare_at (h : l'.map Sy.bare = l.map Sy.bare) (k : Nat) : (l'.getD k Sy.zero).bare = (l.getD k Sy.zero).bare := by
  have hl := bare_len h
  rcases Nat.lt_or_ge k l.length with hk | hk
  · have := congrArg (fun q : List Sy => q.getD k Sy.zero.bare) h
    simpa [List.getD, hk, show k < l'.length by omega] using this
  · simp [List.getD, List.getElem?_eq_none hk, List.getElem?_eq_none (show l'.length ≤ k by omega)]
theorem bare_sym (h : l'.map Sy.bare = l.map Sy.bare) (k : Nat) : symB (l'.getD k Sy.zero) = symB (l.getD k Sy.zero) := by
  rw [← symB_bare, bare_at h k, symB_bare]
theorem bare_nms (h : l'.map Sy.bare = l.map Sy.bare) : l'.map Sy.nm = l.map Sy.nm := by
  have := congrArg (List.map Sy.nm) h
  rw [List.map_map, List.map_map] at this
  exact this
theorem bare_may (h : l'.map Sy.bare = l.map Sy.bare) : mayOb nm l' = mayOb nm l := by
  have e : l'.all symB = l.all symB := by
    have := congrArg (fun q : List Sy => q.all symB) h
    rw [List.all_map, List.all_map] at this
    exact this
  rw [mayOb, mayOb, e, bare_nms h, bare_len h]
theorem findN_nms : findN s l = fidx (fun x => decide (x = s)) (l.map Sy.nm) := by
  unfold findN fidx
  rw [List.findIdx?_map]; rfl
theorem bare_findN (h : l'.map Sy.bare = l.map Sy.bare) : findN s l' = findN s l := by rw [findN_nms, findN_nms, bare_nms h]
theorem bare_find (h : l'.map Sy.bare = l.map Sy.bare) : findI nm s l' = findI nm s l ∧ findB nm s l' = findB nm s l := by
  rw [findI, findB, findI, findB, bare_may h, bare_findN h]; exact ⟨rfl, rfl⟩
theorem bare_fit (h : l'.map Sy.bare = l.map Sy.bare) (hf : ∀ x ∈ l, FitH x) : ∀ x ∈ l', FitH x := by
  intro x hx
  obtain ⟨k, hk, rfl⟩ := mem_getD (d := Sy.zero) hx
  have e := bare_at h k
  have hg : FitH (l.getD k Sy.zero).bare := fitH_getD hf k
  rw [← e] at hg; exact hg
/-- Two objects. -/
def sameO (n m : List UInt8) (l l' : List Sy) : Bool := decide (n = m) && (decide (l.length = l'.length) && (List.range l.length).all fun k => sameY (l.getD k Sy.zero) (l'.getD k Sy.zero))
theorem sameO_yes (h1 : nm = s) (h2 : l.length = l'.length) (h : ∀ j, j < l.length → sameY (l.getD j Sy.zero) (l'.getD j Sy.zero) = true) : sameO nm s l l' = true := by
  rw [sameO, decide_eq_true h1, decide_eq_true h2, Bool.true_and, Bool.true_and, List.all_eq_true]
  intro k hk
  exact h k (List.mem_range.1 hk)
theorem sameO_no (hk : k < l.length) (h : sameY (l.getD k Sy.zero) (l'.getD k Sy.zero) = false) : sameO nm s l l' = false := by
  rw [Bool.eq_false_iff]; intro q
  rw [sameO, Bool.and_eq_true, Bool.and_eq_true, List.all_eq_true] at q
  have := q.2.2 k (List.mem_range.2 hk)
  rw [h] at this; cases this
theorem sameO_nm (h : nm ≠ s) : sameO nm s l l' = false := by rw [sameO, decide_eq_false h]; rfl
theorem sameO_len (h : l.length ≠ l'.length) : sameO nm s l l' = false := by rw [sameO, decide_eq_false h, Bool.false_and, Bool.and_false]
theorem sameO_bare (h : l'.map Sy.bare = l.map Sy.bare) : sameO nm nm l' l = true :=
  sameO_yes rfl (bare_len h) fun j _ => sameY_bare (bare_at h j)
theorem dst_step (hd : Dst l k) (h : ∀ j, j < k → decide ((l.getD j Sy.zero).nm = (l.getD k Sy.zero).nm) = false) : Dst l (k + 1) := fun i j h1 h2 => by
  rcases Nat.lt_or_ge j k with h3 | h3
  · exact hd i j h1 h3
  · rw [show j = k by omega]
    exact of_decide_eq_false (h i (by omega))
end
end Go.Spec
namespace Go.Spec
open Go.Owl
section
variable {w : World} {nm s : List UInt8} {l l' : List Sy} {lo : List Ob} {i j k : Nat} {b c : Bool} {o : Ob} {x y : Sy} {v : Value}
theorem neq_self (b : Bool) : (!(b == b)) = false := by cases b <;> rfl
theorem told_ne {n : Nat} (h : decide (n ≠ 0) = true) : decide (n = 0) = false := decide_eq_false (of_decide_eq_true h)
theorem small_rl {m : List Rl} (h : m.all (fun y => decide (y.nm.length < 2 ^ 47)) = true) : ∀ y ∈ m, y.nm.length < 2 ^ 47 := fun y hy => of_decide_eq_true (List.all_eq_true.1 h y hy)
theorem fitO_ob (h : FitU o) : ∀ u ∈ [o], FitO u := fun u hu => by
  rw [List.mem_singleton] at hu; subst hu
  refine ⟨by have := h.2.1; omega, fun x hx => ?_⟩
  have g := h.2.2 x hx
  exact ⟨by have := g.1; omega, by have := g.2.1; omega, by have := g.2.2.1; omega, by have := g.2.2.2.1; omega, fun y hy => by have := g.2.2.2.2 y hy; omega⟩
end
end Go.Spec
namespace Go.Spec
open Go.Owl
section
variable {v u z : Value} {m : List Rl} {o : Ob}
theorem fitH_main (h : m.all (fun y => decide (y.nm.length < 2 ^ 47)) = true) (hm : m.length < 2 ^ 40) : ∀ x ∈ [Sy.mk [109, 97, 105, 110] 1 1 8 [40, 0, 0, 0, 0, 0, 0, 0] v m u []], FitH x := fun x hx => by
  rw [List.mem_singleton] at hx; subst hx
  exact ⟨by show 4 < 2 ^ 47; decide, by show 8 < 2 ^ 32; decide, small_rl h, hm, by show 0 < 2 ^ 40; decide⟩
theorem fitOb_main (h : m.all (fun y => decide (y.nm.length < 2 ^ 47)) = true) (hm : m.length < 2 ^ 40) : FitOb (Ob.mk [111] z [Sy.mk [109, 97, 105, 110] 1 1 8 [40, 0, 0, 0, 0, 0, 0, 0] v m u []]) :=
  ⟨by show 1 < 2 ^ 47; decide, by show 1 < 2 ^ 46; decide, fitH_main h hm⟩
theorem fitOb_two (h : FitOb o) : ∀ a ∈ [o, o], FitOb a := fun a ha => by
  rcases List.mem_cons.1 ha with rfl | ha
  · exact h
  · rw [List.mem_singleton] at ha; subst ha; exact h
end
end Go.Spec
/-! from SpecSort4 -/
/- Lengths in bits, by a table. Plain Lean. -/
namespace Go.Spec
open Go.Owl
def tab8 : List UInt8 := (List.range 256).map (fun n => UInt8.ofNat (lenN n))
theorem tab8_len : tab8.length = 256 := by simp [tab8]
theorem tab8_get {n : Nat} (h : n < 256) : (tab8.getD n 0).toNat = lenN n := by
  have h1 : lenN n ≤ 8 := lenN_le (k := 8) h
  simp only [tab8, List.getD, List.getElem?_map, List.getElem?_range h, Option.map_some, Option.getD_some, UInt8.toNat_ofNat']
  omega
theorem shr64 (x : UInt64) {k : Nat} : (shrU64 x k).toNat = x.toNat / 2 ^ k := by
  have := x.toNat_lt
  rw [shrU64, UInt64.toNat_ofNat', Nat.shiftRight_eq_div_pow]
  exact Nat.mod_eq_of_lt (Nat.lt_of_le_of_lt (Nat.div_le_self _ _) this)
theorem blen_all {x x1 x2 x3 : UInt64} {n1 n2 n3 : Nat} (h1 : (4294967296 ≤ x.toNat ∧ x1 = shrU64 x 32 ∧ n1 = 32) ∨ (x.toNat < 4294967296 ∧ x1 = x ∧ n1 = 0)) (h2 : (65536 ≤ x1.toNat ∧ x2 = shrU64 x1 16 ∧ n2 = n1 + 16) ∨ (x1.toNat < 65536 ∧ x2 = x1 ∧ n2 = n1))
    (h3 : (256 ≤ x2.toNat ∧ x3 = shrU64 x2 8 ∧ n3 = n2 + 8) ∨ (x2.toNat < 256 ∧ x3 = x2 ∧ n3 = n2)) : n3 + (tab8.getD (UInt8.ofNat x3.toNat).toNat 0).toNat = lenN x.toNat := by
  have hx := x.toNat_lt
  have a1 : x1.toNat < 4294967296 ∧ lenN x.toNat = n1 + lenN x1.toNat := by
    rcases h1 with ⟨h, rfl, rfl⟩ | ⟨h, rfl, rfl⟩
    · rw [shr64]
      have := lenN_shift (n := x.toNat) (k := 32) h
      exact ⟨by omega, by omega⟩
    · exact ⟨h, by omega⟩
  have a2 : x2.toNat < 65536 ∧ lenN x1.toNat + n1 = n2 + lenN x2.toNat := by
    rcases h2 with ⟨h, rfl, rfl⟩ | ⟨h, rfl, rfl⟩
    · rw [shr64]
      have := lenN_shift (n := x1.toNat) (k := 16) h
      exact ⟨by omega, by omega⟩
    · exact ⟨h, by omega⟩
  have a3 : x3.toNat < 256 ∧ lenN x2.toNat + n2 = n3 + lenN x3.toNat := by
    rcases h3 with ⟨h, rfl, rfl⟩ | ⟨h, rfl, rfl⟩
    · rw [shr64]
      have := lenN_shift (n := x2.toNat) (k := 8) h
      exact ⟨by omega, by omega⟩
    · exact ⟨h, by omega⟩
  rw [show (UInt8.ofNat x3.toNat).toNat = x3.toNat by rw [UInt8.toNat_ofNat']; omega, tab8_get a3.1]
  omega
theorem tab8_add (c : UInt8) {k : Nat} (h : k ≤ 56) : k + c.toNat ≤ 9223372036854775807 := by have := c.toNat_lt; omega
theorem tab8_in (c : UInt8) : c.toNat < tab8.length := by rw [tab8_len]; exact c.toNat_lt
end Go.Spec
/-! from SpecDem2 -/
/- Manifests as what notes ask for: each note, the greatest of all. Plain Lean. -/
namespace Go.Spec
open Go.Owl
structure Mf where
  pg : UInt32
  xs : List Xt
  ps : List UInt16
  con : Bool
deriving DecidableEq
def Mf.none : Mf := ⟨0, [], [], false⟩
def Mf.may (m : Mf) : Bool := mfMay m.pg m.xs m.ps
def p16 (x : UInt32) : UInt16 := UInt16.ofNat x.toNat
def sup {α : Type} (f : α → Nat) : List α → Nat
  | [] => 0
  | n :: l => max (f n) (sup f l)
section
variable {α : Type} {f : α → Nat} {l l' : List α} {n : α} {b : Nat}
theorem sup_le : ∀ {l : List α}, sup f l ≤ b ↔ ∀ n ∈ l, f n ≤ b
  | [] => by simp [sup]
  | n :: l => by rw [sup, Nat.max_le, sup_le]; simp
theorem sup_mem (h : n ∈ l) : f n ≤ sup f l := sup_le.1 (Nat.le_refl _) n h
theorem sup_app : ∀ {l : List α}, sup f (l ++ l') = max (sup f l) (sup f l')
  | [] => by simp [sup]
  | n :: l => by rw [List.cons_append, sup, sup, sup_app, Nat.max_assoc]
theorem sup_snoc : sup f (l ++ [n]) = max (sup f l) (f n) := by rw [sup_app]; simp [sup]
theorem sup_at : ∀ {l : List α}, sup f l = 0 ∨ ∃ n ∈ l, f n = sup f l
  | [] => .inl rfl
  | n :: l => by
    rw [sup]
    rcases Nat.le_total (f n) (sup f l) with h | h
    · rw [Nat.max_eq_right h]
      rcases sup_at (l := l) with h2 | ⟨m, h2, h3⟩
      · exact .inl h2
      · exact .inr ⟨m, List.mem_cons_of_mem _ h2, h3⟩
    · rw [Nat.max_eq_left h]; exact .inr ⟨n, by simp, rfl⟩
end
def fPg (n : Nt) : Nat := if n.kind = 1 then n.n.toNat else 0
def fBl (k : UInt32) (n : Nt) : Nat := if n.kind = 2 ∧ n.n = k then n.m.toNat else 0
def isP (p : UInt16) (n : Nt) : Prop := n.kind = 3 ∧ p16 n.n = p
def isC (n : Nt) : Prop := n.kind ≠ 1 ∧ n.kind ≠ 2 ∧ n.kind ≠ 3
/-- A manifest is what the notes ask for. -/
structure Den (m : Mf) (l : List Nt) : Prop where
  pg : m.pg.toNat = sup fPg l
  xr : m.xs.Pairwise fun a b => xtLt a b = true
  xm : ∀ x, x ∈ m.xs ↔ x.bl.toNat = sup (fBl x.id) l ∧ 0 < x.bl.toNat
  pr : Rise ltU16 m.ps
  pm : ∀ p, p ∈ m.ps ↔ ∃ n ∈ l, isP p n
  cn : m.con = true ↔ ∃ n ∈ l, isC n
/-- Notes ask for no more than others do. -/
structure LeD (l l' : List Nt) : Prop where
  pg : sup fPg l ≤ sup fPg l'
  bl : ∀ k, sup (fBl k) l ≤ sup (fBl k) l'
  pm : ∀ p, (∃ n ∈ l, isP p n) → ∃ n ∈ l', isP p n
  cn : (∃ n ∈ l, isC n) → ∃ n ∈ l', isC n
section
variable {l l' l2 : List Nt} {m m' : Mf} {n : Nt} {x y z : Xt}
theorem LeD.sub (h : ∀ n ∈ l, n ∈ l') : LeD l l' :=
  ⟨sup_le.2 fun n hn => sup_mem (h n hn), fun _ => sup_le.2 fun n hn => sup_mem (h n hn), fun _ ⟨n, h1, h2⟩ => ⟨n, h n h1, h2⟩, fun ⟨n, h1, h2⟩ => ⟨n, h n h1, h2⟩⟩
theorem LeD.refl : LeD l l := .sub fun _ h => h
theorem LeD.trans (h : LeD l l') (k : LeD l' l2) : LeD l l2 :=
  ⟨Nat.le_trans h.pg k.pg, fun i => Nat.le_trans (h.bl i) (k.bl i), fun p h1 => k.pm p (h.pm p h1), fun h1 => k.cn (h.cn h1)⟩
theorem LeD.each : LeD l l' ↔ ∀ n ∈ l, LeD [n] l' := by
  constructor
  · exact fun h n hn => (LeD.sub fun x hx => by rw [List.mem_singleton.1 hx]; exact hn).trans h
  · intro h
    exact ⟨sup_le.2 fun n hn => Nat.le_trans (sup_mem (f := fPg) (List.mem_singleton.2 rfl)) (h n hn).pg, fun k => sup_le.2 fun n hn => Nat.le_trans (sup_mem (f := fBl k) (List.mem_singleton.2 rfl)) ((h n hn).bl k),
      fun p ⟨n, h1, h2⟩ => (h n h1).pm p ⟨n, by simp, h2⟩, fun ⟨n, h1, h2⟩ => (h n h1).cn ⟨n, by simp, h2⟩⟩
theorem LeD.left : LeD l (l ++ l') := .sub fun _ h => List.mem_append.2 (.inl h)
theorem LeD.right : LeD l' (l ++ l') := .sub fun _ h => List.mem_append.2 (.inr h)
theorem sup32 (l : List Nt) (k : UInt32) : sup (fBl k) l < 2 ^ 32 := by
  rcases sup_at (f := fBl k) (l := l) with h | ⟨n, _, h⟩
  · omega
  · have := n.m.toNat_lt
    rw [← h, fBl]; split <;> omega
theorem sup_xt (h : Den m l) (k : UInt32) (h0 : 0 < sup (fBl k) l) : ⟨k, UInt32.ofNat (sup (fBl k) l)⟩ ∈ m.xs := by
  have e : (UInt32.ofNat (sup (fBl k) l)).toNat = sup (fBl k) l := by rw [UInt32.toNat_ofNat', Nat.mod_eq_of_lt (sup32 l k)]
  exact (h.xm _).2 ⟨e, by rw [e]; exact h0⟩
theorem Den.same (h : Den m l) (k : LeD l l') (k' : LeD l' l) : Den m l' :=
  ⟨by rw [h.pg]; exact Nat.le_antisymm k.pg k'.pg, h.xr, fun x => by rw [h.xm, Nat.le_antisymm (k.bl x.id) (k'.bl x.id)], h.pr, fun p => by rw [h.pm]; exact ⟨k.pm p, k'.pm p⟩, by rw [h.cn]; exact ⟨k.cn, k'.cn⟩⟩
def putXt (x : Xt) : List Xt → List Xt
  | [] => [x]
  | y :: l => if y.id < x.id then y :: putXt x l else if y.id = x.id then ⟨x.id, maxU32 x.bl y.bl⟩ :: l else x :: y :: l
def addM (m : Mf) (n : Nt) : Mf :=
  if n.kind = 1 then { m with pg := maxU32 m.pg n.n } else if n.kind = 2 then { m with xs := putXt ⟨n.n, n.m⟩ m.xs }
  else if n.kind = 3 then { m with ps := put1 ltU16 (p16 n.n) m.ps } else { m with con := true }
theorem max32 (a b : UInt32) : (maxU32 a b).toNat = max a.toNat b.toNat := by
  unfold maxU32
  split
  · rename_i h; rw [UInt32.lt_iff_toNat_lt] at h; omega
  · rename_i h; rw [UInt32.lt_iff_toNat_lt] at h; omega
theorem xt_lt {a b : Xt} : xtLt a b = true ↔ a.id.toNat < b.id.toNat := by rw [xtLt, decide_eq_true_eq, UInt32.lt_iff_toNat_lt]
theorem putXt_mem (x z : Xt) : ∀ {l : List Xt}, l.Pairwise (fun a b => xtLt a b = true) → (z ∈ putXt x l ↔ (z.id ≠ x.id ∧ z ∈ l) ∨ (z.id = x.id ∧ ((∃ y ∈ l, y.id = x.id ∧ z.bl = maxU32 x.bl y.bl) ∨ ((∀ y ∈ l, y.id ≠ x.id) ∧ z.bl = x.bl))))
  | [], _ => by
    rw [putXt, List.mem_singleton]
    constructor
    · rintro rfl; exact .inr ⟨rfl, .inr ⟨by simp, rfl⟩⟩
    · rintro (⟨_, h⟩ | ⟨h1, ⟨_, h, _⟩ | ⟨_, h2⟩⟩)
      · simp at h
      · simp at h
      · obtain ⟨a, b⟩ := z; obtain ⟨c, d⟩ := x; simp only at h1 h2; rw [h1, h2]
  | y :: l, h => by
    have h' := List.pairwise_cons.1 h
    rw [putXt]
    split
    · rename_i h1
      have hne : y.id ≠ x.id := fun e => by rw [e, UInt32.lt_iff_toNat_lt] at h1; omega
      rw [List.mem_cons, putXt_mem x z h'.2]
      constructor
      · rintro (rfl | ⟨a, b⟩ | ⟨a, ⟨w, b, c⟩ | ⟨b, c⟩⟩)
        · exact .inl ⟨hne, by simp⟩
        · exact .inl ⟨a, List.mem_cons_of_mem _ b⟩
        · exact .inr ⟨a, .inl ⟨w, List.mem_cons_of_mem _ b, c⟩⟩
        · exact .inr ⟨a, .inr ⟨fun w hw => by rcases List.mem_cons.1 hw with rfl | hw; exact hne; exact b w hw, c⟩⟩
      · rintro (⟨a, b⟩ | ⟨a, ⟨w, b, c⟩ | ⟨b, c⟩⟩)
        · rcases List.mem_cons.1 b with rfl | b
          · exact .inl rfl
          · exact .inr (.inl ⟨a, b⟩)
        · rcases List.mem_cons.1 b with rfl | b
          · exact absurd c.1 hne
          · exact .inr (.inr ⟨a, .inl ⟨w, b, c⟩⟩)
        · exact .inr (.inr ⟨a, .inr ⟨fun w hw => b w (List.mem_cons_of_mem _ hw), c⟩⟩)
    · rename_i h1
      split
      · rename_i h2
        have hl : ∀ w ∈ l, w.id ≠ x.id := fun w hw e => by have := xt_lt.1 (h'.1 w hw); rw [e, h2] at this; omega
        rw [List.mem_cons]
        constructor
        · rintro (rfl | a)
          · exact .inr ⟨rfl, .inl ⟨y, by simp, h2, rfl⟩⟩
          · exact .inl ⟨hl z a, List.mem_cons_of_mem _ a⟩
        · rintro (⟨a, b⟩ | ⟨a, ⟨w, b, c, d⟩ | ⟨b, c⟩⟩)
          · rcases List.mem_cons.1 b with rfl | b
            · exact absurd h2 a
            · exact .inr b
          · rcases List.mem_cons.1 b with rfl | b
            · left; obtain ⟨p, q⟩ := z; simp only at a d; rw [a, d]
            · exact absurd c (hl w b)
          · exact absurd h2 (b y (by simp))
      · rename_i h2
        have hl : ∀ w ∈ y :: l, w.id ≠ x.id := fun w hw e => by
          rcases List.mem_cons.1 hw with rfl | hw
          · exact h2 e
          · have := xt_lt.1 (h'.1 w hw); rw [UInt32.lt_iff_toNat_lt] at h1; rw [e] at this; omega
        rw [List.mem_cons]
        constructor
        · rintro (rfl | a)
          · exact .inr ⟨rfl, .inr ⟨hl, rfl⟩⟩
          · exact .inl ⟨hl z a, a⟩
        · rintro (⟨a, b⟩ | ⟨a, ⟨w, b, c, d⟩ | ⟨b, c⟩⟩)
          · exact .inr b
          · exact absurd c (hl w b)
          · left; obtain ⟨p, q⟩ := z; obtain ⟨r, s⟩ := x; simp only at a c; rw [a, c]
theorem putXt_rise (x : Xt) : ∀ {l : List Xt}, l.Pairwise (fun a b => xtLt a b = true) → (putXt x l).Pairwise (fun a b => xtLt a b = true)
  | [], _ => List.pairwise_singleton _ _
  | y :: l, h => by
    have h' := List.pairwise_cons.1 h
    have h2 : ∀ z ∈ l, y.id.toNat < z.id.toNat := fun z hz => xt_lt.1 (h'.1 z hz)
    rw [putXt]
    split
    · rename_i h1
      rw [UInt32.lt_iff_toNat_lt] at h1
      refine List.pairwise_cons.2 ⟨fun z hz => xt_lt.2 ?_, putXt_rise x h'.2⟩
      rcases (putXt_mem x z h'.2).1 hz with ⟨_, b⟩ | ⟨a, _⟩
      · exact h2 z b
      · rw [a]; exact h1
    · rename_i h1
      rw [UInt32.lt_iff_toNat_lt] at h1
      split
      · rename_i h3
        exact List.pairwise_cons.2 ⟨fun z hz => xt_lt.2 (by rw [← h3]; exact h2 z hz), h'.2⟩
      · rename_i h3
        have h4 : x.id.toNat < y.id.toNat := by
          have : y.id.toNat ≠ x.id.toNat := fun e => h3 (UInt32.toNat_inj.1 e)
          omega
        refine List.pairwise_cons.2 ⟨fun z hz => xt_lt.2 ?_, h⟩
        rcases List.mem_cons.1 hz with rfl | hz
        · exact h4
        · have := h2 z hz; omega
theorem ex_snoc {p : Nt → Prop} : (∃ a ∈ l ++ [n], p a) ↔ (∃ a ∈ l, p a) ∨ p n := by
  constructor
  · rintro ⟨a, h, k⟩
    rcases List.mem_append.1 h with h | h
    · exact .inl ⟨a, h, k⟩
    · rw [List.mem_singleton.1 h] at k; exact .inr k
  · rintro (⟨a, h, k⟩ | k)
    · exact ⟨a, List.mem_append.2 (.inl h), k⟩
    · exact ⟨n, by simp, k⟩
theorem Den.none : Den Mf.none [] := ⟨rfl, List.Pairwise.nil, fun x => by simp [Mf.none, sup], List.Pairwise.nil, fun p => by simp [Mf.none], by simp [Mf.none]⟩
theorem note_2 (hn : noteB n = true) (h : n.kind = 2) : n.n.toNat < 16 ∧ 1 ≤ n.m.toNat ∧ n.m.toNat ≤ 1024 := by
  have h1 : ¬ (n.kind = 1) := by rw [h]; decide
  rw [noteB, decide_eq_false h1, decide_eq_true h] at hn
  simp only [cond_false, cond_true, Bool.and_eq_true, decide_eq_true_eq, ge_iff_le, UInt32.lt_iff_toNat_lt, UInt32.le_iff_toNat_le] at hn
  exact ⟨hn.1.1, hn.1.2, hn.2⟩
theorem note_1 (hn : noteB n = true) (h : n.kind = 1) : n.n.toNat ≤ 1024 := by
  rw [noteB, decide_eq_true h] at hn
  simp only [cond_true, Bool.and_eq_true, decide_eq_true_eq, UInt32.le_iff_toNat_le] at hn
  exact hn.1
theorem note_3 (hn : noteB n = true) (h : n.kind = 3) : 1 ≤ n.n.toNat ∧ n.n.toNat ≤ 65535 := by
  have h1 : ¬ (n.kind = 1) := by rw [h]; decide
  have h2 : ¬ (n.kind = 2) := by rw [h]; decide
  rw [noteB, decide_eq_false h1, decide_eq_false h2, decide_eq_true h] at hn
  simp only [cond_false, cond_true, Bool.and_eq_true, decide_eq_true_eq, ge_iff_le, UInt32.le_iff_toNat_le] at hn
  exact hn.1
theorem fBl_no (h : ¬ (n.kind = 2)) (k : UInt32) : fBl k n = 0 := if_neg fun q => h q.1
theorem Den.add (h : Den m l) (hn : noteB n = true) : Den (addM m n) (l ++ [n]) := by
  have k1 : ∀ p, n.kind = 1 ∨ n.kind = 2 ∨ ¬ (n.kind = 3) → ¬ isP p n := fun p q e => by have := e.1; rw [this] at q; revert q; decide
  by_cases e1 : n.kind = 1
  · have e2 : ¬ n.kind = 2 := by rw [e1]; decide
    rw [addM, if_pos e1]
    exact ⟨by rw [sup_snoc, max32, h.pg, fPg, if_pos e1], h.xr, fun x => by rw [sup_snoc, fBl_no e2, Nat.max_zero]; exact h.xm x, h.pr,
      fun p => by rw [ex_snoc, h.pm]; exact ⟨.inl, fun q => q.resolve_right (k1 p (.inl e1))⟩, by rw [ex_snoc]; exact h.cn.trans ⟨.inl, fun q => q.resolve_right fun c => c.1 e1⟩⟩
  have q1 : fPg n = 0 := if_neg e1
  by_cases e2 : n.kind = 2
  · obtain ⟨b1, b2, b3⟩ := note_2 hn e2
    rw [addM, if_neg e1, if_pos e2]
    refine ⟨by rw [sup_snoc, q1, Nat.max_zero]; exact h.pg, putXt_rise _ h.xr, fun z => ?_, h.pr,
      fun p => by rw [ex_snoc, h.pm]; exact ⟨.inl, fun q => q.resolve_right (k1 p (.inr (.inl e2)))⟩, by rw [ex_snoc]; exact h.cn.trans ⟨.inl, fun q => q.resolve_right fun c => c.2.1 e2⟩⟩
    show z ∈ putXt ⟨n.n, n.m⟩ m.xs ↔ _
    rw [putXt_mem _ _ h.xr, sup_snoc]
    by_cases ez : z.id = n.n
    · have ef : fBl z.id n = n.m.toNat := if_pos ⟨e2, ez.symm⟩
      rw [ef]
      constructor
      · rintro (⟨a, _⟩ | ⟨a, ⟨y, b, c, d⟩ | ⟨b, c⟩⟩)
        · exact absurd ez a
        · have hy := (h.xm y).1 b
          have c : y.id = n.n := c
          have d : z.bl = maxU32 n.m y.bl := d
          rw [d, max32, hy.1, c, ez]
          omega
        · have c : z.bl = n.m := c
          have h0 : sup (fBl z.id) l = 0 := by
            rcases Nat.eq_zero_or_pos (sup (fBl z.id) l) with e | e
            · exact e
            · exact absurd ez (b ⟨z.id, UInt32.ofNat (sup (fBl z.id) l)⟩ (sup_xt h z.id e))
          rw [h0, c]; omega
      · rintro ⟨a, _⟩
        right
        refine ⟨ez, ?_⟩
        rcases Nat.eq_zero_or_pos (sup (fBl z.id) l) with e | e
        · right
          refine ⟨fun y hy ey => ?_, UInt32.toNat_inj.1 (by rw [a, e]; simp)⟩
          have hy := (h.xm y).1 hy
          have ey : y.id = n.n := ey
          rw [ey, ← ez, e] at hy; omega
        · left
          refine ⟨_, sup_xt h z.id e, ez, UInt32.toNat_inj.1 ?_⟩
          show z.bl.toNat = (maxU32 n.m (UInt32.ofNat (sup (fBl z.id) l))).toNat
          rw [a, max32, UInt32.toNat_ofNat', Nat.mod_eq_of_lt (sup32 l z.id)]
          omega
    · have ef : fBl z.id n = 0 := if_neg fun q => ez q.2.symm
      rw [ef, Nat.max_zero, ← h.xm]
      exact ⟨fun q => q.elim (fun a => a.2) (fun a => absurd a.1 ez), fun q => .inl ⟨ez, q⟩⟩
  by_cases e3 : n.kind = 3
  · rw [addM, if_neg e1, if_neg e2, if_pos e3]
    refine ⟨by rw [sup_snoc, q1, Nat.max_zero]; exact h.pg, h.xr, fun x => by rw [sup_snoc, fBl_no e2, Nat.max_zero]; exact h.xm x, put1_rise ltU16Tot h.pr,
      fun p => ?_, by rw [ex_snoc]; exact h.cn.trans ⟨.inl, fun q => q.resolve_right fun c => c.2.2 e3⟩⟩
    show p ∈ put1 ltU16 (p16 n.n) m.ps ↔ _
    rw [ex_snoc, put1_mem, h.pm]
    constructor
    · rintro (rfl | q); exact .inr ⟨e3, rfl⟩; exact .inl q
    · rintro (q | q); exact .inr q; exact .inl q.2.symm
  · rw [addM, if_neg e1, if_neg e2, if_neg e3]
    exact ⟨by rw [sup_snoc, q1, Nat.max_zero]; exact h.pg, h.xr, fun x => by rw [sup_snoc, fBl_no e2, Nat.max_zero]; exact h.xm x, h.pr,
      fun p => by rw [ex_snoc, h.pm]; exact ⟨.inl, fun q => q.resolve_right (k1 p (.inr (.inr e3)))⟩, by rw [ex_snoc]; exact ⟨fun _ => .inr ⟨e1, e2, e3⟩, fun _ => rfl⟩⟩
end
theorem ris_iff {α : Type} {r : α → α → Bool} (tr : ∀ a b c, r a b = true → r b c = true → r a c = true) : ∀ {l : List α}, ris r l = true ↔ l.Pairwise fun a b => r a b = true
  | [] => by simp [ris]
  | [a] => by simp [ris]
  | a :: b :: l => by
    rw [ris, Bool.and_eq_true, ris_iff tr, List.pairwise_cons (a := a)]
    constructor
    · rintro ⟨h1, h2⟩
      refine ⟨fun c hc => ?_, h2⟩
      rcases List.mem_cons.1 hc with rfl | hc
      · exact h1
      · exact tr _ _ _ h1 ((List.pairwise_cons.1 h2).1 c hc)
    · rintro ⟨h1, h2⟩
      exact ⟨h1 b (by simp), h2⟩
theorem risX_iff {l : List Xt} : ris xtLt l = true ↔ l.Pairwise fun a b => xtLt a b = true := ris_iff fun a b c h1 h2 => by rw [xt_lt] at *; omega
theorem ris16_iff {l : List UInt16} : ris u16Lt l = true ↔ Rise ltU16 l := ris_iff (r := ltU16) fun _ _ _ h1 h2 => ltU16Tot.trans h1 h2
theorem may_iff {m : Mf} : m.may = true ↔ (∀ x ∈ m.xs, x.id.toNat < 16 ∧ 1 ≤ x.bl.toNat ∧ x.bl.toNat ≤ 1024) ∧ m.xs.Pairwise (fun a b => xtLt a b = true) ∧ Rise ltU16 m.ps ∧ (∀ p ∈ m.ps, p ≠ 0) ∧ m.ps.length ≤ 16 ∧ m.pg.toNat ≤ 1024 := by
  rw [Mf.may, mfMay, Bool.and_eq_true, Bool.and_eq_true, Bool.and_eq_true, Bool.and_eq_true, Bool.and_eq_true, risX_iff, ris16_iff]
  have e1 : (!(m.xs.any xtBad)) = true ↔ ∀ x ∈ m.xs, x.id.toNat < 16 ∧ 1 ≤ x.bl.toNat ∧ x.bl.toNat ≤ 1024 := by
    rw [Bool.not_eq_true', Bool.eq_false_iff, ne_eq, List.any_eq_true]
    constructor
    · intro h x hx
      have h1 : ¬ xtBad x = true := fun e => h ⟨x, hx, e⟩
      simp only [xtBad, Bool.or_eq_true, decide_eq_true_eq, ge_iff_le, gt_iff_lt, UInt32.le_iff_toNat_le, UInt32.lt_iff_toNat_lt, not_or] at h1
      have a1 := h1.1; have a2 := h1.2.1; have a3 := h1.2.2
      simp at a1 a2 a3
      omega
    · rintro h ⟨x, hx, h1⟩
      have h2 := h x hx
      simp only [xtBad, Bool.or_eq_true, decide_eq_true_eq, ge_iff_le, gt_iff_lt, UInt32.le_iff_toNat_le, UInt32.lt_iff_toNat_lt] at h1
      simp at h1
      omega
  have e2 : (!(m.ps.any (u16Is 0))) = true ↔ ∀ p ∈ m.ps, p ≠ 0 := by
    rw [Bool.not_eq_true', Bool.eq_false_iff, ne_eq, List.any_eq_true]
    constructor
    · rintro h p hp rfl; exact h ⟨0, hp, rfl⟩
    · rintro h ⟨p, hp, h1⟩; exact h p hp (of_decide_eq_true h1).symm
  have e3 : (!decide (m.ps.length > 16)) = true ↔ m.ps.length ≤ 16 := by simp
  have e4 : (!decide (m.pg > 1024)) = true ↔ m.pg.toNat ≤ 1024 := by
    rw [Bool.not_eq_true', decide_eq_false_iff_not, gt_iff_lt, UInt32.lt_iff_toNat_lt]; simp
  rw [e1, e2, e3, e4]
section
variable {l l' l2 : List Nt} {m m' u : Mf} {n : Nt} {x y z : Xt}
theorem Den.may (h : Den m l) (hn : l.all noteB = true) (hp : m.ps.length ≤ 16) : m.may = true := by
  have hn := List.all_eq_true.1 hn
  refine may_iff.2 ⟨fun x hx => ?_, h.xr, h.pr, fun p hp => ?_, hp, ?_⟩
  · obtain ⟨h1, h2⟩ := (h.xm x).1 hx
    rcases sup_at (f := fBl x.id) (l := l) with h3 | ⟨n, h3, h4⟩
    · omega
    · rw [fBl] at h4
      split at h4
      · rename_i h5
        obtain ⟨b1, b2, b3⟩ := note_2 (hn n h3) h5.1
        rw [h5.2] at b1
        exact ⟨b1, by omega, by omega⟩
      · omega
  · obtain ⟨n, h1, h2, h3⟩ := (h.pm p).1 hp
    obtain ⟨b1, b2⟩ := note_3 (hn n h1) h2
    rintro rfl
    have := congrArg UInt16.toNat h3
    rw [p16, UInt16.toNat_ofNat', Nat.mod_eq_of_lt (by omega)] at this
    have e0 : (0 : UInt16).toNat = 0 := rfl
    omega
  · rw [h.pg, sup_le]
    intro n h1
    rw [fPg]; split
    · exact note_1 (hn n h1) (by assumption)
    · omega
end
end Go.Spec
/-! from SpecDem3 -/
/- Manifests with the slices that they hang on; the program's gatherer. Plain Lean. -/
namespace Go.Owl
section
variable {w : World} {E l : List Ent} {j sz n m : Nat} {v v' : Value} {xs xs' : List Value}
/-- A slice that hangs on what is new, or on what another hangs on. -/
def ArFit (w : World) (v' : Value) (xs' : List Value) (v : Value) (xs : List Value) : Prop := ∀ b ∈ footA v' xs', w.heap.size ≤ b ∨ b ∈ footA v xs
theorem ArFit.refl : ArFit w v xs v xs := fun _ hb => .inr hb
theorem ArFit.new (h : ∀ b ∈ footA v' xs', w.heap.size ≤ b) : ArFit w v' xs' v xs := fun b hb => .inl (h b hb)
end
end Go.Owl
namespace Go.Spec
open Go.Owl
structure Mm where
  pg : UInt32
  ev : Value
  xs : List Xt
  pv : Value
  ps : List UInt16
  con : Bool
def Mm.zero : Mm := ⟨0, .slice none 0 0, [], .slice none 0 0, [], false⟩
def Mm.f (m : Mm) : Mf := ⟨m.pg, m.xs, m.ps, m.con⟩
section
variable {w : World} {x : Mm} {l : List Mm} {k : Nat}
end
structure Ga where
  pg : UInt32
  bl : List UInt32
  ps : List UInt16
  con : Bool
def Ga.none : Ga := ⟨0, List.replicate 16 0, [], false⟩
def gaAdd (g : Ga) (n : Nt) : Ga :=
  if n.kind = 1 then { g with pg := maxU32 g.pg n.n } else if n.kind = 2 then { g with bl := g.bl.set n.n.toNat (maxU32 (g.bl.getD n.n.toNat 0) n.m) }
  else if n.kind = 3 then { g with ps := g.ps ++ [p16 n.n] } else if n.kind = 4 then { g with con := true } else g
structure GaDen (g : Ga) (l : List Nt) : Prop where
  pg : g.pg.toNat = sup fPg l
  len : g.bl.length = 16
  bl : ∀ k, k < 16 → (g.bl.getD k 0).toNat = sup (fBl (UInt32.ofNat k)) l
  ps : ∀ p, p ∈ g.ps ↔ ∃ n ∈ l, isP p n
  con : g.con = true ↔ ∃ n ∈ l, isC n
section
variable {l : List Nt} {g : Ga} {n : Nt} {k : Nat} {bl : List UInt32}
theorem u32k {k : Nat} {n : UInt32} (hk : k < 16) : n = UInt32.ofNat k ↔ n.toNat = k := by
  rw [← UInt32.toNat_inj, UInt32.toNat_ofNat', Nat.mod_eq_of_lt (by omega)]
theorem note_4 (hn : noteB n = true) (h1 : ¬ n.kind = 1) (h2 : ¬ n.kind = 2) (h3 : ¬ n.kind = 3) : n.kind = 4 := by
  rw [noteB, decide_eq_false h1, decide_eq_false h2, decide_eq_false h3] at hn
  by_cases h : n.kind = 4
  · exact h
  · rw [decide_eq_false h] at hn; cases hn
theorem GaDen.none : GaDen Ga.none [] := ⟨rfl, rfl, fun k hk => by
  have : Ga.none.bl.getD k 0 = 0 := by
    show (List.replicate 16 (0 : UInt32)).getD k 0 = 0
    rw [List.getD, List.getElem?_replicate, if_pos hk]; rfl
  rw [this]; rfl, fun p => by simp [Ga.none], by simp [Ga.none]⟩
theorem GaDen.add (h : GaDen g l) (hn : noteB n = true) : GaDen (gaAdd g n) (l ++ [n]) := by
  have k1 : ∀ p, n.kind = 1 ∨ n.kind = 2 ∨ ¬ (n.kind = 3) → ¬ isP p n := fun p q e => by have := e.1; rw [this] at q; revert q; decide
  by_cases e1 : n.kind = 1
  · have e2 : ¬ n.kind = 2 := by rw [e1]; decide
    rw [gaAdd, if_pos e1]
    exact ⟨by rw [sup_snoc, max32, h.pg, fPg, if_pos e1], h.len, fun k hk => by rw [sup_snoc, fBl_no e2, Nat.max_zero]; exact h.bl k hk,
      fun p => by rw [ex_snoc, h.ps]; exact ⟨.inl, fun q => q.resolve_right (k1 p (.inl e1))⟩, by rw [ex_snoc]; exact h.con.trans ⟨.inl, fun q => q.resolve_right fun c => c.1 e1⟩⟩
  have q1 : fPg n = 0 := if_neg e1
  by_cases e2 : n.kind = 2
  · obtain ⟨b1, b2, b3⟩ := note_2 hn e2
    rw [gaAdd, if_neg e1, if_pos e2]
    refine ⟨by rw [sup_snoc, q1, Nat.max_zero]; exact h.pg, by show (g.bl.set _ _).length = 16; rw [List.length_set]; exact h.len, fun k hk => ?_,
      fun p => by rw [ex_snoc, h.ps]; exact ⟨.inl, fun q => q.resolve_right (k1 p (.inr (.inl e2)))⟩, by rw [ex_snoc]; exact h.con.trans ⟨.inl, fun q => q.resolve_right fun c => c.2.1 e2⟩⟩
    show ((g.bl.set n.n.toNat (maxU32 (g.bl.getD n.n.toNat 0) n.m)).getD k 0).toNat = _
    rw [getD_set _ _ _ _ (by rw [h.len]; exact b1), sup_snoc]
    by_cases ek : k = n.n.toNat
    · rw [if_pos ek, max32, h.bl _ b1, ek, fBl, if_pos ⟨e2, (u32k b1).2 rfl⟩]
    · rw [if_neg ek, h.bl k hk, fBl, if_neg (fun q => ek ((u32k hk).1 q.2).symm), Nat.max_zero]
  by_cases e3 : n.kind = 3
  · rw [gaAdd, if_neg e1, if_neg e2, if_pos e3]
    refine ⟨by rw [sup_snoc, q1, Nat.max_zero]; exact h.pg, h.len, fun k hk => by rw [sup_snoc, fBl_no e2, Nat.max_zero]; exact h.bl k hk, fun p => ?_, by rw [ex_snoc]; exact h.con.trans ⟨.inl, fun q => q.resolve_right fun c => c.2.2 e3⟩⟩
    show p ∈ g.ps ++ [p16 n.n] ↔ _
    rw [ex_snoc, List.mem_append, h.ps, List.mem_singleton]
    constructor
    · rintro (q | rfl); exact .inl q; exact .inr ⟨e3, rfl⟩
    · rintro (q | q); exact .inl q; exact .inr q.2.symm
  · rw [gaAdd, if_neg e1, if_neg e2, if_neg e3, if_pos (note_4 hn e1 e2 e3)]
    exact ⟨by rw [sup_snoc, q1, Nat.max_zero]; exact h.pg, h.len, fun k hk => by rw [sup_snoc, fBl_no e2, Nat.max_zero]; exact h.bl k hk,
      fun p => by rw [ex_snoc, h.ps]; exact ⟨.inl, fun q => q.resolve_right (k1 p (.inr (.inr e3)))⟩, by rw [ex_snoc]; exact ⟨fun _ => .inr ⟨e1, e2, e3⟩, fun _ => rfl⟩⟩
end
end Go.Spec
/-! from SpecDem4 -/
/- What the program answers for notes is what the document answers. Plain Lean. -/
namespace Go.Owl
section
variable {S : List Nat} {w0 w : World} {L : List Ent}
end
end Go.Owl
namespace Go.Spec
open Go.Owl
section
variable {l : List Nt} {m : Mf} {n : Nt} {k : Nat}
end
end Go.Spec
/-! from SpecDem5 -/
/- Manifests: what the walks of the document's answer and of unions ask for. Plain Lean. -/
namespace Go.Owl
section
variable {w w1 : World} {v v' : Value} {xs xs' : List Value}
theorem ArFit.fresh (hf : ArFit w1 v' xs' v xs) (hs : w.heap.size ≤ w1.heap.size) (h : ∀ b ∈ footA v xs, w.heap.size ≤ b) : ∀ b ∈ footA v' xs', w.heap.size ≤ b := fun b hb => by
  rcases hf b hb with h1 | h1
  · omega
  · exact h b h1
theorem ArFit.mono (hf : ArFit w1 v' xs' v xs) (hs : w.heap.size ≤ w1.heap.size) : ArFit w v' xs' v xs := fun b hb => (hf b hb).imp (fun h => by omega) id
end
end Go.Owl
namespace Go.Spec
open Go.Owl
section
variable {x : Xt} {m m' : Mf} {n : Nt} {k : Nat}
variable {ms : List Mm}
end
section
variable {l : List Mm} {k : Nat}
end
end Go.Spec
