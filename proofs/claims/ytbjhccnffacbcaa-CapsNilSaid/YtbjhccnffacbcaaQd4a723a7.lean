/- General lemmas and walks: SpecSort, SpecSort2, SpecSort3, SpecSort5. No condition but what each theorem names. -/
import Derived.Test.YtbjhccnffacbcaaQ260550bd
import Derived.Test.YtbjhccnffacbcaaQ355cdda6
/-! from SpecSort -/
/- Lists that are sorted by swaps. Plain Lean. -/
namespace Go.Spec
structure LtOK {α : Type} (lt : α → α → Bool) : Prop where
  irr : ∀ a, lt a a = false
  asym : ∀ a b, lt a b = true → lt b a = false
  neg : ∀ a b c, lt a b = false → lt b c = false → lt a c = false
def swapL {α : Type} (d : α) (l : List α) (i j : Nat) : List α := (l.set i (l.getD j d)).set j (l.getD i d)
inductive Sw {α : Type} (d : α) (a b : Nat) : List α → List α → Prop
  | refl (l : List α) : Sw d a b l l
  | step {l l' : List α} {i j : Nat} : Sw d a b l l' → a ≤ i → i < b → a ≤ j → j < b → Sw d a b l (swapL d l' i j)
def SortS {α : Type} (lt : α → α → Bool) (d : α) (a b : Nat) (l : List α) : Prop := ∀ p q, a ≤ p → p < q → q < b → lt (l.getD q d) (l.getD p d) = false
section
variable {α : Type} {d : α} {l l' l'' : List α} {a b i j k : Nat} {lt : α → α → Bool}
theorem swapL_len : (swapL d l i j).length = l.length := by simp [swapL]
theorem getD_set (l : List α) (i k : Nat) (x : α) (hi : i < l.length) : (l.set i x).getD k d = if k = i then x else l.getD k d := by
  simp only [List.getD, List.getElem?_set]
  by_cases h : i = k
  · subst h; simp [hi]
  · rw [if_neg h, if_neg (fun e => h e.symm)]
theorem swap_get (hi : i < l.length) (hj : j < l.length) (k : Nat) : (swapL d l i j).getD k d = if k = j then l.getD i d else if k = i then l.getD j d else l.getD k d := by
  rw [swapL, getD_set _ _ _ _ (by simpa using hj), getD_set _ _ _ _ hi]
theorem ext_get (h : l.length = l'.length) (hg : ∀ k, l.getD k d = l'.getD k d) : l = l' := by
  apply List.ext_getElem h
  intro k h1 h2
  have := hg k
  simpa [List.getD, h1, h2] using this
theorem swap_swap (hi : i < l.length) (hj : j < l.length) : swapL d (swapL d l i j) i j = l := by
  apply ext_get (d := d) (by rw [swapL_len, swapL_len])
  intro k
  have hi' : i < (swapL d l i j).length := by rw [swapL_len]; exact hi
  have hj' : j < (swapL d l i j).length := by rw [swapL_len]; exact hj
  rw [swap_get hi' hj', swap_get hi hj, swap_get hi hj, swap_get hi hj]
  by_cases h1 : k = j
  · subst h1
    by_cases h2 : i = k
    · subst h2; simp
    · simp [h2]
  · by_cases h2 : k = i
    · subst h2; simp [h1]
    · simp [h1, h2]
theorem Sw.len (h : Sw d a b l l') : l'.length = l.length := by
  induction h with
  | refl => rfl
  | step _ _ _ _ _ ih => rw [swapL_len, ih]
theorem Sw.trans (h1 : Sw d a b l l') (h2 : Sw d a b l' l'') : Sw d a b l l'' := by
  induction h2 with
  | refl => exact h1
  | step _ h1 h2 h3 h4 ih => exact Sw.step ih h1 h2 h3 h4
theorem Sw.mono {a' b' : Nat} (ha : a' ≤ a) (hb : b ≤ b') (h : Sw d a b l l') : Sw d a' b' l l' := by
  induction h with
  | refl => exact .refl _
  | step _ h1 h2 h3 h4 ih => exact Sw.step ih (by omega) (by omega) (by omega) (by omega)
theorem Sw.one (hi : a ≤ i) (hi2 : i < b) (hj : a ≤ j) (hj2 : j < b) : Sw d a b l (swapL d l i j) := Sw.step (.refl _) hi hi2 hj hj2
theorem Sw.symm (hb : b ≤ l.length) (h : Sw d a b l l') : Sw d a b l' l := by
  induction h with
  | refl => exact .refl _
  | step h h1 h2 h3 h4 ih =>
    rename_i l1 i j
    have hl := h.len
    have h5 : Sw d a b (swapL d l1 i j) (swapL d (swapL d l1 i j) i j) := Sw.one h1 h2 h3 h4
    rw [swap_swap (by omega) (by omega)] at h5
    exact h5.trans ih
theorem Sw.out (hb : b ≤ l.length) (h : Sw d a b l l') (hk : k < a ∨ b ≤ k) : l'.getD k d = l.getD k d := by
  induction h with
  | refl => rfl
  | step h h1 h2 h3 h4 ih =>
    have hl := h.len
    rw [swap_get (by omega) (by omega), if_neg (by omega), if_neg (by omega), ih]
theorem Sw.all {p : α → Prop} (hb : b ≤ l.length) (h : Sw d a b l l') (hp : ∀ k, a ≤ k → k < b → p (l.getD k d)) : ∀ k, a ≤ k → k < b → p (l'.getD k d) := by
  induction h with
  | refl => exact hp
  | step h h1 h2 h3 h4 ih =>
    have hl := h.len
    intro k hk1 hk2
    rw [swap_get (by omega) (by omega)]
    split
    · exact ih _ h1 h2
    · split
      · exact ih _ h3 h4
      · exact ih _ hk1 hk2
theorem getDmem (hk : k < l.length) : l.getD k d ∈ l := by
  rw [show l.getD k d = l[k] by simp [List.getD, hk]]; exact List.getElem_mem hk
theorem mem_getD {x : α} (h : x ∈ l) : ∃ k, k < l.length ∧ l.getD k d = x := by
  obtain ⟨k, hk, e⟩ := List.getElem_of_mem h
  exact ⟨k, hk, by simp [List.getD, hk, e]⟩
theorem Sw.sub (hb : b ≤ l.length) (h : Sw d a b l l') : ∀ x, x ∈ l' → x ∈ l := by
  intro x hx
  obtain ⟨k, hk, rfl⟩ := mem_getD (d := d) hx
  rw [h.len] at hk
  by_cases hin : a ≤ k ∧ k < b
  · exact h.all (p := fun y => y ∈ l) hb (fun k h1 h2 => getDmem (by omega)) k hin.1 hin.2
  · rw [h.out hb (by omega)]; exact getDmem hk
theorem Sw.mem (hb : b ≤ l.length) (h : Sw d a b l l') (x : α) : x ∈ l' ↔ x ∈ l :=
  ⟨h.sub hb x, (h.symm hb).sub (by rw [h.len]; exact hb) x⟩
theorem SortS.nil (h : b ≤ a + 1) : SortS lt d a b l := fun p q h1 h2 h3 => by omega
end
end Go.Spec
/-! from SpecSort2 -/
/- Orders of one-cell elements. Plain Lean. -/
namespace Go.Spec
def ltU16 (a b : UInt16) : Bool := decide (a < b)
theorem ltU16OK : LtOK ltU16 := by
  have h : ∀ a b : UInt16, ltU16 a b = decide (a.toNat < b.toNat) := fun a b => decide_eq_decide.2 UInt16.lt_iff_toNat_lt
  refine ⟨fun a => ?_, fun a b h1 => ?_, fun a b c h1 h2 => ?_⟩
  · rw [h]; exact decide_eq_false (by omega)
  · rw [h] at h1 ⊢; have := of_decide_eq_true h1; exact decide_eq_false (by omega)
  · rw [h] at h1 h2 ⊢; have := of_decide_eq_false h1; have := of_decide_eq_false h2; exact decide_eq_false (by omega)
end Go.Spec
/-! from SpecSort3 -/
/- Heaps, partitions, and what a sort asks of them. Plain Lean. -/
namespace Go.Spec
open Go.Owl
section
variable {α : Type} {d : α} {l l1 l2 l' : List α} {a b i j k f lo hi x c n mid : Nat} {lt : α → α → Bool} {pv : α}
variable {a' b' : Nat}
end
end Go.Spec
/-! from SpecSort5 -/
/- Rising lists without twins: what a sort and a compaction give. Plain Lean. -/
namespace Go.Spec
section
variable {α : Type} {lt : α → α → Bool} {d : α} {l l' : List α} {n k : Nat}
/-- Each element is below all behind it. -/
def Rise (lt : α → α → Bool) (l : List α) : Prop := l.Pairwise fun a b => lt a b = true
structure LtTot {α : Type} (lt : α → α → Bool) : Prop extends LtOK lt where
  tri : ∀ a b, lt a b = false → lt b a = false → a = b
theorem Rise.ext (irr : ∀ a, lt a a = false) (asym : ∀ a b, lt a b = true → lt b a = false) : ∀ {l l' : List α}, Rise lt l → Rise lt l' → (∀ x, x ∈ l ↔ x ∈ l') → l = l'
  | [], [], _, _, _ => rfl
  | [], b :: l', _, _, h => by have := (h b).2 (by simp); simp at this
  | a :: l, [], _, _, h => by have := (h a).1 (by simp); simp at this
  | a :: l, b :: l', h1, h2, h => by
    have h1' := List.pairwise_cons.1 h1
    have h2' := List.pairwise_cons.1 h2
    have e : a = b := by
      rcases List.mem_cons.1 ((h a).1 (by simp)) with e | e
      · exact e
      · rcases List.mem_cons.1 ((h b).2 (by simp)) with e2 | e2
        · exact e2.symm
        · have q1 := h2'.1 a e
          have q2 := h1'.1 b e2
          rw [asym _ _ q1] at q2; cases q2
    subst e
    have : l = l' := Rise.ext irr asym h1'.2 h2'.2 fun x => by
      constructor
      · intro hx
        rcases List.mem_cons.1 ((h x).1 (List.mem_cons_of_mem _ hx)) with e | e
        · subst e; have := h1'.1 x hx; rw [irr] at this; cases this
        · exact e
      · intro hx
        rcases List.mem_cons.1 ((h x).2 (List.mem_cons_of_mem _ hx)) with e | e
        · subst e; have := h2'.1 x hx; rw [irr] at this; cases this
        · exact e
    rw [this]
theorem LtTot.trans (ok : LtTot lt) {a b c : α} (h1 : lt a b = true) (h2 : lt b c = true) : lt a c = true := by
  cases h : lt a c with
  | true => rfl
  | false =>
    have := ok.neg _ _ _ h (ok.asym _ _ h2)
    rw [h1] at this; cases this
variable [DecidableEq α]
end
section
variable {α : Type} {lt : α → α → Bool} {d : α} {k : Nat}
/-- Those below x; then x, once; then those above. -/
def put1 [DecidableEq α] (lt : α → α → Bool) (x : α) : List α → List α
  | [] => [x]
  | y :: l => if lt y x = true then y :: put1 lt x l else if y = x then y :: l else x :: y :: l
variable [DecidableEq α]
theorem put1_mem {x z : α} : ∀ {l : List α}, z ∈ put1 lt x l ↔ z = x ∨ z ∈ l
  | [] => by simp [put1]
  | y :: l => by
    rw [put1]
    split
    · rw [List.mem_cons, put1_mem, List.mem_cons]
      constructor
      · rintro (h | h | h); exact .inr (.inl h); exact .inl h; exact .inr (.inr h)
      · rintro (h | h | h); exact .inr (.inl h); exact .inl h; exact .inr (.inr h)
    · split
      · rename_i h; subst h
        rw [List.mem_cons]
        constructor
        · rintro (h | h); exact .inl h; exact .inr (.inr h)
        · rintro (h | h | h); exact .inl h; exact .inl h; exact .inr h
      · rw [List.mem_cons]
theorem put1_rise (ok : LtTot lt) {x : α} : ∀ {l : List α}, Rise lt l → Rise lt (put1 lt x l)
  | [], _ => List.pairwise_singleton _ _
  | y :: l, h => by
    have h' := List.pairwise_cons.1 h
    rw [put1]
    split
    · rename_i h1
      refine List.pairwise_cons.2 ⟨fun z hz => ?_, put1_rise ok h'.2⟩
      rcases put1_mem.1 hz with rfl | hz
      · exact h1
      · exact h'.1 z hz
    · rename_i h1
      split
      · exact h
      · rename_i h2
        have h3 : lt x y = true := by
          cases e : lt x y with
          | true => rfl
          | false => exact absurd (ok.tri _ _ (by simpa using h1) e) h2
        refine List.pairwise_cons.2 ⟨fun z hz => ?_, h⟩
        rcases List.mem_cons.1 hz with rfl | hz
        · exact h3
        · exact ok.trans h3 (h'.1 z hz)
end
theorem ltU16Tot : LtTot ltU16 where
  toLtOK := ltU16OK
  tri a b h1 h2 := by
    have h : ∀ a b : UInt16, ltU16 a b = decide (a.toNat < b.toNat) := fun a b => decide_eq_decide.2 UInt16.lt_iff_toNat_lt
    rw [h] at h1 h2
    have := of_decide_eq_false h1; have := of_decide_eq_false h2
    exact UInt16.toNat_inj.1 (by omega)
end Go.Spec
