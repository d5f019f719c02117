/- The symbolic heap: what is known of the blocks that a call owns, and how it is kept. -/
import Derived.Test.YtpnghdalnghpcaaOwl1
namespace Go.Owl

/-- From w to w' no block is changed but those of T; new ones may be. -/
structure Fr (T : List Nat) (w w' : World) : Prop where
  os : w'.os = w.os
  tape : w'.tape = w.tape
  output : w'.output = w.output
  size : w.heap.size ≤ w'.heap.size
  block : ∀ k, k < w.heap.size → k ∉ T → w'.heap[k]? = w.heap[k]?

theorem Fr.refl (T : List Nat) (w : World) : Fr T w w := ⟨rfl, rfl, rfl, Nat.le_refl _, fun _ _ _ => rfl⟩
theorem Fr.trans {T : List Nat} {a b c : World} (h : Fr T a b) (k : Fr T b c) : Fr T a c :=
  ⟨k.os.trans h.os, k.tape.trans h.tape, k.output.trans h.output, Nat.le_trans h.size k.size, fun i hi hT => (k.block i (Nat.lt_of_lt_of_le hi h.size) hT).trans (h.block i hi hT)⟩
theorem Fr.mono {T T' : List Nat} {a b : World} (h : Fr T a b) (hT : ∀ x ∈ T, x ∈ T') : Fr T' a b :=
  ⟨h.os, h.tape, h.output, h.size, fun i hi hn => h.block i hi fun hm => hn (hT i hm)⟩
theorem Fr.nil {T : List Nat} {a b : World} (h : Fr [] a b) : Fr T a b := h.mono (fun _ hx => by cases hx)
theorem Fr.below {w w' : World} (h : Fr [] w w') : RowKit.Below w.heap.size w w' := ⟨h.os, h.tape, h.output, h.size, fun k hk => h.block k hk (by simp)⟩
theorem Fr.ofBelow {w w' : World} (h : RowKit.Below w.heap.size w w') : Fr [] w w' := ⟨h.os, h.tape, h.output, h.size, fun k hk _ => h.block k hk⟩
theorem Fr.ofGrown {w w' : World} {r : Option Nat} (h : w.grownBy w' r) : Fr r.toList w w' :=
  ⟨h.os, h.tape, h.output, h.size, fun k hk hn => h.block k hk (by intro e; subst e; simp at hn)⟩
theorem Fr.alloc (w : World) (o : Obj) : Fr [] w (w.alloc o) := ⟨rfl, rfl, rfl, by simp, fun k hk _ => RowKit.Below.heap_alloc w o k hk⟩
theorem Fr.drew (w : World) : Fr [] w w.drew := ⟨rfl, rfl, rfl, Nat.le_refl _, fun _ _ _ => rfl⟩
theorem Fr.setRow (w : World) (g : Nat) (cs : Array Value) : Fr [g] w (w.setRow g cs) :=
  ⟨rfl, rfl, rfl, by simp, fun k _ hn => setRow_other w g k cs (by simpa using hn)⟩
theorem Fr.setObj (w : World) (g : Nat) (o : Obj) : Fr [g] w { w with heap := w.heap.setIfInBounds g o } :=
  ⟨rfl, rfl, rfl, by simp, fun k _ hn => by
    have : k ≠ g := by simpa using hn
    show (w.heap.setIfInBounds g o)[k]? = _
    rw [Array.getElem?_setIfInBounds_ne (Ne.symm this)]⟩

/-- Cells below k may be written. -/
def thaw (k : Nat) (fr : Nat × Nat) : Prop := fr.2 ≤ fr.1 ∨ k ≤ fr.1

def Blk (w : World) (b : Nat) (cs : List Value) (t : TypeId) : Prop := ∃ fr, thaw cs.length fr ∧ w.heap[b]? = some (.cells cs.toArray t fr)

theorem Blk.lt {w b cs t} (h : Blk w b cs t) : b < w.heap.size := by
  obtain ⟨fr, _, h⟩ := h
  exact (Array.getElem?_eq_some_iff.1 h).1
theorem Blk.fr {T : List Nat} {w w' : World} {b cs t} (h : Blk w b cs t) (hf : Fr T w w') (hb : b ∉ T) : Blk w' b cs t := by
  have hl := h.lt
  obtain ⟨fr, h1, h2⟩ := h
  exact ⟨fr, h1, (hf.block b hl hb).trans h2⟩
theorem Blk.cell {w : World} {b : Nat} {cs : List Value} {t : TypeId} (h : Blk w b cs t) (j : Nat) : w.cell? ⟨b, j, none⟩ = cs[j]? := by
  obtain ⟨fr, _, h⟩ := h
  simp [World.cell?, h]
theorem Blk.frozen {w : World} {b : Nat} {cs : List Value} {t : TypeId} (h : Blk w b cs t) {j : Nat} (hj : j < cs.length) : w.frozen? ⟨b, j, none⟩ = false := by
  obtain ⟨⟨lo, hi⟩, h1, h⟩ := h
  simp only [World.frozen?, h]
  simp only [thaw] at h1
  simp; omega
theorem Blk.alloc (w : World) (cs : List Value) (t : TypeId) : Blk (w.alloc (.cells cs.toArray t)) w.heap.size cs t := ⟨(0, 0), .inl (Nat.le_refl _), heap_alloc_new w _⟩

theorem Blk.setRow {w : World} {b : Nat} {cs : List Value} {t : TypeId} (h : Blk w b cs t) (cs' : List Value) (hl : cs'.length = cs.length) : Blk (w.setRow b cs'.toArray) b cs' t := by
  obtain ⟨fr, h1, h⟩ := h
  exact ⟨fr, by rw [hl]; exact h1, setRow_heap w b cs.toArray cs'.toArray t fr h⟩

theorem Addr.add_at (b off k : Nat) : (⟨b, off, none⟩ : Addr).add k = ⟨b, off + k, none⟩ := by unfold Addr.add; split <;> simp_all

/-- Stores of consecutive cells. -/
theorem run_storeCells_blk (P : Program) (b o : Nat) (t : TypeId) : ∀ (vs : List Value) (i : Nat) (cs : List Value) (w : World), Blk w b cs t → o + i + vs.length ≤ cs.length → (∀ v ∈ vs, v.oneCell' = true) →
    (storeCells ⟨b, o, none⟩ vs i).run P w = .ok () (w.setRow b (cs.take (o + i) ++ vs ++ cs.drop (o + i + vs.length)).toArray)
  | [], i, cs, w, hb, _, _ => by
    obtain ⟨fr, _, h⟩ := hb
    simp only [storeCells, List.append_nil, List.length_nil, Nat.add_zero, List.take_append_drop]
    rw [setRow_self w b cs.toArray t fr h]
    rfl
  | v :: rest, i, cs, w, hb, hl, h1 => by
    have hi : o + i < cs.length := by simp at hl; omega
    have hcell : w.cell? ⟨b, o + i, none⟩ = some cs[o + i] := by rw [hb.cell]; simp [hi]
    have hfro := hb.frozen hi
    have hst : (store ((⟨b, o, none⟩ : Addr).add i) v).run P w = .ok () (w.setRow b (cs.set (o + i) v).toArray) := by
      rw [Addr.add_at, run_store P w _ v _ (h1 v (by simp)), hcell]
      obtain ⟨fr, _, h⟩ := hb
      simp [hfro, setCell_eq_setRow w b (o + i) cs.toArray t fr v h]
    have hb' : Blk (w.setRow b (cs.set (o + i) v).toArray) b (cs.set (o + i) v) t := hb.setRow _ (by simp)
    have ih := run_storeCells_blk P b o t rest (i + 1) (cs.set (o + i) v) _ hb' (by simp at hl ⊢; omega) (fun x hx => h1 x (by simp [hx]))
    simp only [storeCells, Sem.run_bind, hst, Result.andThen_ok, ih, setRow_setRow]
    congr 3
    have e1 : List.take (o + (i + 1)) (cs.set (o + i) v) = List.take (o + i) cs ++ [v] := by
      rw [← Nat.add_assoc, List.take_add_one, List.take_set_of_le (by omega)]
      simp [hi]
    have e2 : List.drop (o + (i + 1) + rest.length) (cs.set (o + i) v) = List.drop (o + i + (v :: rest).length) cs := by
      rw [List.drop_set_of_lt (by omega)]
      congr 1
      simp; omega
    rw [e1, e2]
    simp

/-! Slices. -/
def sBlk : Value → Nat
  | .slice (some a) _ _ => a.block
  | _ => 0
def sOff : Value → Nat
  | .slice (some a) _ _ => a.off
  | _ => 0
/-- The place of cell k of a slice. -/
def sp (v : Value) (k : Nat) : Addr := ⟨sBlk v, sOff v + k, none⟩

/-- A slice of n elements of sz cells, which hold xs; whoever owns it. -/
structure Arr (w : World) (v : Value) (sz n : Nat) (xs : List Value) : Prop where
  form : ∃ a cap, v = .slice a n cap ∧ n ≤ cap ∧ cap ≤ maxLen ∧ (a = none → n = 0 ∧ cap = 0) ∧ (n ≠ 0 → ∀ ad, a = some ad → ad.spot = none)
  len : xs.length = n * sz
  cell : ∀ j, j < xs.length → w.cell? (sp v j) = xs[j]?

theorem Arr.fr {T : List Nat} {w w' : World} {v sz n xs} (h : Arr w v sz n xs) (hf : Fr T w w') (hb : sBlk v ∉ T) : Arr w' v sz n xs := by
  refine ⟨h.form, h.len, fun j hj => ?_⟩
  have h1 := h.cell j hj
  rw [← h1]
  refine World.cell?_of_block (hf.block _ ?_ hb)
  have : (w.cell? (sp v j)) = some xs[j] := by rw [h1]; simp [hj]
  exact block_lt_of_cell (a := sp v j) this

theorem Arr.nil (w : World) (sz : Nat) : Arr w (.slice none 0 0) sz 0 [] := ⟨⟨none, 0, rfl, by omega, by simp [maxLen], fun _ => ⟨rfl, rfl⟩, fun _ _ h => by cases h⟩, by simp, fun j hj => by simp at hj⟩

/-- A slice that may be appended to: nil, or at the head of what is left of a block that is owned. -/
def RowOK (w : World) (v : Value) (t : TypeId) (sz n : Nat) (xs : List Value) : Prop :=
  xs.length = n * sz ∧ ((v = .slice none 0 0 ∧ n = 0) ∨
    ∃ g cap pre junk, v = .slice (some ⟨g, pre.length, none⟩) n cap ∧ Blk w g (pre ++ (xs ++ junk)) t ∧ n ≤ cap ∧ cap ≤ maxLen ∧ cap * sz ≤ xs.length + junk.length)

theorem RowOK.arr {w v t sz n xs} (h : RowOK w v t sz n xs) : Arr w v sz n xs := by
  obtain ⟨hl, ⟨rfl, rfl⟩ | ⟨g, cap, pre, junk, rfl, hb, hn, hc, hj⟩⟩ := h
  · have : xs = [] := List.eq_nil_of_length_eq_zero (by simpa using hl)
    subst this
    exact Arr.nil w sz
  · refine ⟨⟨some ⟨g, pre.length, none⟩, cap, rfl, hn, hc, (fun h => by cases h), (fun _ ad h => by cases h; rfl)⟩, hl, fun j hj => ?_⟩
    show w.cell? ⟨g, pre.length + j, none⟩ = _
    rw [hb.cell, List.getElem?_append_right (by omega), Nat.add_sub_cancel_left, List.getElem?_append_left hj]

/-- What hangs on the blocks of F alone. -/
structure Stable (p : World → Prop) (F : List Nat) : Prop where
  lt : ∀ w, p w → ∀ b ∈ F, b < w.heap.size
  fr : ∀ (T : List Nat) w w', Fr T w w' → (∀ b ∈ F, b ∉ T) → p w → p w'

inductive Ent where
  | blk (b : Nat) (cs : List Value) (t : TypeId)
  | row (v : Value) (t : TypeId) (sz n : Nat) (xs : List Value)
  | obj (b : Nat) (o : Obj)
  | ro (p : World → Prop) (F : List Nat) (st : Stable p F)

def Ent.block : Ent → Option Nat
  | .blk b _ _ => some b
  | .row v _ _ _ _ => v.ownBlock
  | .obj b _ => some b
  | .ro _ _ _ => none

def Ent.foot : Ent → List Nat
  | .blk b _ _ => [b]
  | .row v _ _ _ _ => v.ownBlock.toList
  | .obj b _ => [b]
  | .ro _ F _ => F

theorem Ent.block_foot {e : Ent} {b : Nat} (h : e.block = some b) : b ∈ e.foot := by
  cases e with
  | blk b' cs t => simp only [Ent.block, Option.some.injEq] at h; simp [Ent.foot, h]
  | obj b' o => simp only [Ent.block, Option.some.injEq] at h; simp [Ent.foot, h]
  | row v t sz n xs => simp only [Ent.block] at h; simp [Ent.foot, h]
  | ro p F st => cases h

def Ent.ok (w : World) : Ent → Prop
  | .blk b cs t => Blk w b cs t
  | .row v t sz n xs => RowOK w v t sz n xs
  | .obj b o => w.heap[b]? = some o
  | .ro p _ _ => p w

theorem Ent.ltF {w : World} {e : Ent} (h : e.ok w) {b : Nat} (hb : b ∈ e.foot) : b < w.heap.size := by
  cases e with
  | blk b' cs t => simp only [Ent.foot, List.mem_singleton] at hb; subst hb; exact Blk.lt h
  | obj b' o => simp only [Ent.foot, List.mem_singleton] at hb; subst hb; exact (Array.getElem?_eq_some_iff.1 h).1
  | row v t sz n xs =>
    obtain ⟨_, ⟨rfl, rfl⟩ | ⟨g, cap, pre, junk, rfl, hk, _⟩⟩ := h
    · simp [Ent.foot, Value.ownBlock] at hb
    · simp only [Ent.foot, Value.ownBlock, Option.toList_some, List.mem_singleton] at hb; subst hb; exact hk.lt
  | ro p F st => exact st.lt w h b hb
theorem Ent.lt {w : World} {e : Ent} (h : e.ok w) {b : Nat} (hb : e.block = some b) : b < w.heap.size := Ent.ltF h (Ent.block_foot hb)

theorem Ent.fr {T : List Nat} {w w' : World} {e : Ent} (h : e.ok w) (hf : Fr T w w') (hb : ∀ b ∈ e.foot, b ∉ T) : e.ok w' := by
  cases e with
  | blk b cs t => exact Blk.fr h hf (hb b (by simp [Ent.foot]))
  | obj b o => exact (hf.block b (Ent.lt h rfl) (hb b (by simp [Ent.foot]))).trans h
  | row v t sz n xs =>
    obtain ⟨hl, ⟨rfl, rfl⟩ | ⟨g, cap, pre, junk, rfl, hk, hr⟩⟩ := h
    · exact ⟨hl, .inl ⟨rfl, rfl⟩⟩
    · exact ⟨hl, .inr ⟨g, cap, pre, junk, rfl, hk.fr hf (hb g (by simp [Ent.foot, Value.ownBlock])), hr⟩⟩
  | ro p F st => exact st.fr T w w' hf hb h

structure Own (S : List Nat) (w0 w : World) (L : List Ent) : Prop where
  fr : Fr S w0 w
  ok : ∀ (i : Nat) (e : Ent), L[i]? = some e → e.ok w
  sep : ∀ (i j : Nat) (e f : Ent), L[i]? = some e → L[j]? = some f → i ≠ j → ∀ b, e.block = some b → b ∉ f.foot
  own : ∀ (i : Nat) (e : Ent), L[i]? = some e → ∀ b, e.block = some b → w0.heap.size ≤ b ∨ b ∈ S

theorem Own.start (w : World) (S : List Nat) : Own S w w [] := ⟨Fr.refl _ _, fun i e h => by simp at h, fun i j e f h => by simp at h, fun i e h => by simp at h⟩

theorem Own.upd' {S w0 w w1 L} {i : Nat} {e e' : Ent} {T : List Nat} (h : Own S w0 w L) (hi : L[i]? = some e) (hf : Fr T w w1) (hT : ∀ b ∈ T, e.block = some b) (he : Ent.ok w1 e')
    (hb : ∀ b, e'.block = some b → e.block = some b ∨ w.heap.size ≤ b) (hff : ∀ b ∈ e'.foot, b ∈ e.foot ∨ w.heap.size ≤ b) : Own S w0 w1 (L.set i e') := by
  have hil : i < L.length := (List.getElem?_eq_some_iff.1 hi).1
  have hsub : ∀ b ∈ T, w0.heap.size ≤ b ∨ b ∈ S := fun b hbT => h.own i e hi b (hT b hbT)
  refine ⟨⟨hf.os.trans h.fr.os, hf.tape.trans h.fr.tape, hf.output.trans h.fr.output, Nat.le_trans h.fr.size hf.size, fun k hk hS => ?_⟩, fun j f hj => ?_, fun j k f g hj hk hjk b hfb => ?_, fun j f hj b hfb => ?_⟩
  · have hkT : k ∉ T := fun hm => (hsub k hm).elim (fun h => by omega) hS
    exact (hf.block k (Nat.lt_of_lt_of_le hk h.fr.size) hkT).trans (h.fr.block k hk hS)
  · rw [List.getElem?_set] at hj
    by_cases hij : i = j
    · subst hij; simp [hil] at hj; subst hj; exact he
    · rw [if_neg hij] at hj
      exact Ent.fr (h.ok j f hj) hf fun b hfb hbT => h.sep i j e f hi hj hij b (hT b hbT) hfb
  · rw [List.getElem?_set] at hj hk
    by_cases hij : i = j
    · subst hij
      simp [hil] at hj; subst hj
      rw [if_neg hjk] at hk
      rcases hb b hfb with h1 | h1
      · exact h.sep i k e g hi hk hjk b h1
      · intro hgb; have := Ent.ltF (h.ok k g hk) hgb; omega
    · rw [if_neg hij] at hj
      by_cases hik : i = k
      · subst hik
        simp [hil] at hk; subst hk
        intro hgb
        rcases hff b hgb with h1 | h1
        · exact h.sep j i f e hj hi hjk b hfb h1
        · have := Ent.lt (h.ok j f hj) hfb; omega
      · rw [if_neg hik] at hk
        exact h.sep j k f g hj hk hjk b hfb
  · rw [List.getElem?_set] at hj
    by_cases hij : i = j
    · subst hij; simp [hil] at hj; subst hj
      rcases hb b hfb with h1 | h1
      · exact h.own i e hi b h1
      · left; have := h.fr.size; omega
    · rw [if_neg hij] at hj
      exact h.own j f hj b hfb

/-- Not a thing that is only read. -/
def Ent.solid : Ent → Prop
  | .ro _ _ _ => False
  | _ => True
theorem Ent.foot_solid {e : Ent} (h : e.solid) {b : Nat} (hb : b ∈ e.foot) : e.block = some b := by
  cases e with
  | blk b' cs t => simp only [Ent.foot, List.mem_singleton] at hb; simp [Ent.block, hb]
  | obj b' o => simp only [Ent.foot, List.mem_singleton] at hb; simp [Ent.block, hb]
  | row v t sz n xs => simp only [Ent.foot, Option.mem_toList] at hb; exact hb
  | ro p F st => exact h.elim

theorem Own.upd {S w0 w w1 L} {i : Nat} {e e' : Ent} {T : List Nat} (h : Own S w0 w L) (hi : L[i]? = some e) (hf : Fr T w w1) (hT : ∀ b ∈ T, e.block = some b) (he : Ent.ok w1 e')
    (hb : ∀ b, e'.block = some b → e.block = some b ∨ w.heap.size ≤ b) (hs : e'.solid := by exact True.intro) : Own S w0 w1 (L.set i e') :=
  h.upd' hi hf hT he hb (fun b hfb => (hb b (Ent.foot_solid hs hfb)).imp Ent.block_foot id)

theorem Own.fr' {S w0 w w1 L} (h : Own S w0 w L) (hf : Fr [] w w1) : Own S w0 w1 L :=
  ⟨h.fr.trans hf.nil, fun j f hj => Ent.fr (h.ok j f hj) hf (fun _ _ => by simp), h.sep, h.own⟩

theorem Own.new' {S w0 w w1 L e} (h : Own S w0 w L) (hf : Fr [] w w1) (he : Ent.ok w1 e) (hb : ∀ b, e.block = some b → w.heap.size ≤ b)
    (hff : ∀ b ∈ e.foot, ∀ (i : Nat) (f : Ent), L[i]? = some f → f.block ≠ some b) : Own S w0 w1 (L ++ [e]) := by
  have h1 := h.fr' hf
  have key : ∀ j f, (L ++ [e])[j]? = some f → L[j]? = some f ∨ (j = L.length ∧ f = e) := fun j f hj => by
    rcases Nat.lt_trichotomy j L.length with hlt | heq | hgt
    · left; rwa [List.getElem?_append_left hlt] at hj
    · right; subst heq; simp at hj; exact ⟨rfl, hj.symm⟩
    · rw [List.getElem?_append_right (by omega)] at hj
      have : ([e] : List Ent)[j - L.length]? = none := by rw [List.getElem?_eq_none]; simp; omega
      rw [this] at hj; cases hj
  refine ⟨h1.fr, fun j f hj => ?_, fun j k f g hj hk hjk b hfb => ?_, fun j f hj b hfb => ?_⟩
  · rcases key j f hj with hj | ⟨_, rfl⟩
    · exact h1.ok j f hj
    · exact he
  · rcases key j f hj with hj | ⟨rfl, rfl⟩
    · rcases key k g hk with hk | ⟨hk1, hk2⟩
      · exact h.sep j k f g hj hk hjk b hfb
      · intro hgb; rw [hk2] at hgb; exact hff b hgb j f hj hfb
    · rcases key k g hk with hk | ⟨rfl, rfl⟩
      · intro hgb; have h2 := hb b hfb; have h3 := Ent.ltF (h.ok k g hk) hgb; omega
      · exact absurd rfl hjk
  · rcases key j f hj with hj | ⟨rfl, rfl⟩
    · exact h.own j f hj b hfb
    · left; have := hb b hfb; have := h.fr.size; omega
theorem Own.new {S w0 w w1 L e} (h : Own S w0 w L) (hf : Fr [] w w1) (he : Ent.ok w1 e) (hb : ∀ b, e.block = some b → w.heap.size ≤ b) (hs : e.solid := by exact True.intro) : Own S w0 w1 (L ++ [e]) :=
  h.new' hf he hb (fun b hfb i f hi hfb' => by
    have h2 := hb b (Ent.foot_solid hs hfb); have h3 := Ent.lt (h.ok i f hi) hfb'; omega)

/-- Forget what stands behind the first k. -/
theorem Own.take {S w0 w L} (h : Own S w0 w L) (k : Nat) : Own S w0 w (L.take k) := by
  have key : ∀ j f, (L.take k)[j]? = some f → L[j]? = some f := fun j f hj => by
    rw [List.getElem?_take] at hj; split at hj
    · exact hj
    · cases hj
  exact ⟨h.fr, fun j f hj => h.ok j f (key j f hj), fun j k f g hj hk hjk => h.sep j k f g (key j f hj) (key k g hk) hjk, fun j f hj => h.own j f (key j f hj)⟩

theorem Own.blk {S w0 w L} {i : Nat} {b cs t} (h : Own S w0 w L) (hi : L[i]? = some (Ent.blk b cs t)) : Blk w b cs t := h.ok i _ hi
theorem Own.row {S w0 w L} {i : Nat} {v t sz n xs} (h : Own S w0 w L) (hi : L[i]? = some (Ent.row v t sz n xs)) : RowOK w v t sz n xs := h.ok i _ hi

theorem Own.alloc {S w0 w L} (h : Own S w0 w L) (cs : List Value) (t : TypeId) : Own S w0 (w.alloc (.cells cs.toArray t)) (L ++ [.blk w.heap.size cs t]) :=
  h.new (Fr.alloc _ _) (Blk.alloc _ _ _) (fun b hb => by simp only [Ent.block, Option.some.injEq] at hb; omega)

theorem Own.setBlk {S w0 w L} {i : Nat} {b cs t} (h : Own S w0 w L) (hi : L[i]? = some (Ent.blk b cs t)) (cs' : List Value) (hl : cs'.length = cs.length) :
    Own S w0 (w.setRow b cs'.toArray) (L.set i (.blk b cs' t)) :=
  h.upd hi (Fr.setRow _ _ _) (fun x hx => by simp at hx; subst hx; rfl) ((h.blk hi).setRow _ hl) (fun x hx => .inl hx)

end Go.Owl
