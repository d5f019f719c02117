/- General lemmas and walks: Owl13, Owl14, Owl15, Owl16, Owl17, OwlRow, OwlOpen, Owl18, Owl19, Owl20, Owl21, Owl22, Owl23, Owl24, Owl25, Owl26. No condition but what each theorem names. -/
import Derived.Test.YtpnghdalnghpcaaQ793b7ef6
import Derived.Lib.Builder
import Derived.Lib.UnsafeStr
import Derived.Laws.Externs
import Derived.ProofKit
import Derived.HandedShaped
import Derived.Deep.Slices
import Derived.Lib.SliceRun
/-! from Owl13 -/
/- A callee that changes what its caller owns: any number of things; what stays. -/
namespace Go.Owl
variable {S T : List Nat} {w0 w w1 : World} {L E F N : List Ent} {I : List Nat}

def picks (L : List Ent) : List Nat → Option (List Ent)
  | [] => some []
  | i :: I => match L[i]?, picks L I with
    | some e, some l => some (e :: l)
    | _, _ => none
def puts (L : List Ent) : List Nat → List Ent → List Ent
  | i :: I, e :: E => puts (L.set i e) I E
  | _, _ => L
def blks (E : List Ent) : List Nat := E.filterMap Ent.block
def nodupB : List Nat → Bool
  | [] => true
  | i :: I => !(I.any (Nat.beq i)) && nodupB I

theorem picks_get : ∀ {I : List Nat} {E : List Ent}, picks L I = some E → E.length = I.length ∧ ∀ (m i : Nat), I[m]? = some i → ∃ e, E[m]? = some e ∧ L[i]? = some e
  | [], E, h => by simp [picks] at h; subst h; simp
  | i :: I, E, h => by
    simp only [picks] at h
    split at h
    · rename_i e l h1 h2
      injection h with h; subst h
      obtain ⟨hl, ih⟩ := picks_get h2
      refine ⟨by simp [hl], fun m j hm => ?_⟩
      cases m with
      | zero => simp at hm; subst hm; exact ⟨e, rfl, h1⟩
      | succ m => simpa using ih m j (by simpa using hm)
    · cases h
theorem picks_of (h : picks L I = some E) {m : Nat} {e : Ent} (hm : E[m]? = some e) : ∃ i, I[m]? = some i ∧ L[i]? = some e := by
  obtain ⟨hl, ih⟩ := picks_get h
  have hlt : m < I.length := by rw [← hl]; exact (List.getElem?_eq_some_iff.1 hm).1
  obtain ⟨e', h1, h2⟩ := ih m I[m] (by simp [hlt])
  rw [hm] at h1; injection h1 with h1; subst h1
  exact ⟨I[m], by simp [hlt], h2⟩
theorem nodup_of : ∀ {I : List Nat}, nodupB I = true → I.Nodup
  | [], _ => List.nodup_nil
  | i :: I, h => by
    simp only [nodupB, Bool.and_eq_true, Bool.not_eq_true', List.any_eq_false] at h
    refine List.nodup_cons.2 ⟨fun hm => ?_, nodup_of h.2⟩
    exact absurd (Nat.beq_refl i) (by simpa using h.1 i hm)
theorem mem_blks {b : Nat} : b ∈ blks E ↔ ∃ (m : Nat) (e : Ent), E[m]? = some e ∧ e.block = some b := by
  simp only [blks, List.mem_filterMap]
  constructor
  · rintro ⟨e, he, hb⟩
    obtain ⟨m, hm, rfl⟩ := List.getElem_of_mem he
    exact ⟨m, _, by simp [hm], hb⟩
  · rintro ⟨m, e, he, hb⟩
    exact ⟨e, List.mem_of_getElem? he, hb⟩

/-- Some of the things owned, for a callee. -/
theorem Own.part (H : Own S w0 w L) (I : List Nat) (hn : nodupB I = true) (hp : picks L I = some E) : Own (blks E) w w E := by
  have hnd := nodup_of hn
  refine ⟨Fr.refl _ _, fun k x hk => ?_, fun k l x y hk hl hkl b hb => ?_, fun k x hk b hb => .inr (mem_blks.2 ⟨k, x, hk, hb⟩)⟩
  · obtain ⟨i, _, h⟩ := picks_of hp hk
    exact H.ok i x h
  · obtain ⟨i, hi, h1⟩ := picks_of hp hk
    obtain ⟨j, hj, h2⟩ := picks_of hp hl
    refine H.sep i j x y h1 h2 (fun e => hkl ?_) b hb
    subst e
    have hk' := List.getElem?_eq_some_iff.1 hi
    have hl' := List.getElem?_eq_some_iff.1 hj
    exact (List.getElem_inj hnd).1 (hk'.2.trans hl'.2.symm)

theorem Own.blks_own (H : Own S w0 w L) (hp : picks L I = some E) {b : Nat} (hb : b ∈ blks E) : w0.heap.size ≤ b ∨ b ∈ S := by
  obtain ⟨m, e, he, hb⟩ := mem_blks.1 hb
  obtain ⟨i, _, h⟩ := picks_of hp he
  exact H.own i e h b hb

/-- What a callee may change, its caller might. -/
theorem Own.frPart (H : Own S w0 w L) (hp : picks L I = some E) (R : Fr (blks E) w w1) : Fr S w0 w1 :=
  ⟨R.os.trans H.fr.os, R.tape.trans H.fr.tape, R.output.trans H.fr.output, Nat.le_trans H.fr.size R.size, fun k hk hS =>
    have hkT : k ∉ blks E := fun hm => (H.blks_own hp hm).elim (fun h => by omega) hS
    (R.block k (Nat.lt_of_lt_of_le hk H.fr.size) hkT).trans (H.fr.block k hk hS)⟩

/-- What was not handed on stays. -/
theorem Own.stay (H : Own S w0 w L) (hp : picks L I = some E) {k : Nat} {e : Ent} (hk : L[k]? = some e) (hkI : I.any (Nat.beq k) = false) (R : Fr (blks E) w w1) : e.ok w1 := by
  refine Ent.fr (H.ok k e hk) R fun b hb hT => ?_
  obtain ⟨m, f, hm, hfb⟩ := mem_blks.1 hT
  obtain ⟨i, hi, h⟩ := picks_of hp hm
  refine H.sep i k f e h hk (fun x => ?_) b hfb hb
  exact (List.any_eq_false.1 hkI i (List.mem_of_getElem? hi)) (by rw [x]; exact Nat.beq_refl _)
theorem Own.stayR {v : Value} {t : TypeId} {sz m : Nat} {xs : List Value} (H : Own S w0 w L) (hp : picks L I = some E) {k : Nat} (hk : L[k]? = some (Ent.row v t sz m xs)) (hkI : I.any (Nat.beq k) = false) :
    ∀ w1, Fr (blks E) w w1 → Arr w1 v sz m xs := fun _ R => RowOK.arr (H.stay hp hk hkI R)

theorem puts_get : ∀ {I : List Nat} {F L : List Ent} {k : Nat} {x : Ent}, F.length = I.length → (puts L I F)[k]? = some x →
    (∃ m : Nat, I[m]? = some k ∧ F[m]? = some x) ∨ (k ∉ I ∧ L[k]? = some x)
  | [], [], L, k, x, _, h => .inr ⟨by simp, by simpa [puts] using h⟩
  | i :: I, e :: F, L, k, x, hl, h => by
    simp only [puts] at h
    rcases puts_get (by simpa using hl) h with ⟨m, h1, h2⟩ | ⟨h1, h2⟩
    · exact .inl ⟨m + 1, by simpa using h1, by simpa using h2⟩
    · rw [List.getElem?_set] at h2
      by_cases hik : i = k
      · subst hik
        rw [if_pos rfl] at h2
        split at h2
        · exact .inl ⟨0, rfl, by simpa using h2⟩
        · cases h2
      · rw [if_neg hik] at h2
        exact .inr ⟨by simp [h1, Ne.symm hik], h2⟩
  | [], _ :: _, _, _, _, hl, _ => by simp at hl
  | _ :: _, [], _, _, _, hl, _ => by simp at hl
theorem puts_length : ∀ (I : List Nat) (F L : List Ent), (puts L I F).length = L.length
  | [], _, L => by simp [puts]
  | i :: I, [], L => by simp [puts]
  | i :: I, e :: F, L => by simp [puts, puts_length I F]

/-- What a callee hands back hangs on its own, or new, or handed blocks. -/
def Fits (w : World) (E l : List Ent) : Prop := ∀ x ∈ l, ∀ b ∈ x.foot, x.block = some b ∨ w.heap.size ≤ b ∨ ∃ (k : Nat) (e : Ent), E[k]? = some e ∧ b ∈ e.foot
theorem Fits.nil : Fits w E [] := fun x hx => by cases hx
theorem Fits.cons {x : Ent} {l : List Ent} (h : ∀ b ∈ x.foot, x.block = some b ∨ w.heap.size ≤ b ∨ ∃ (k : Nat) (e : Ent), E[k]? = some e ∧ b ∈ e.foot) (k : Fits w E l) : Fits w E (x :: l) := fun y hy => by
  rcases List.mem_cons.1 hy with rfl | hy
  · exact h
  · exact k y hy
theorem Fits.solid {x : Ent} {l : List Ent} (h : x.solid) (k : Fits w E l) : Fits w E (x :: l) := k.cons (fun _ hb => .inl (Ent.foot_solid h hb))
theorem Fits.same {x : Ent} {l : List Ent} {j : Nat} (h : E[j]? = some x) (k : Fits w E l) : Fits w E (x :: l) := k.cons (fun _ hb => .inr (.inr ⟨j, x, h, hb⟩))
/-- What a callee hands back: what it was handed, and new things. -/
theorem Own.splice (H : Own S w0 w L) (I : List Nat) (F N : List Ent) (hp : picks L I = some E) (hF : F.length = I.length) (R : Own (blks E) w w1 (F ++ N))
    (hff0 : Fits w E (F ++ N)) : Own S w0 w1 (puts L I F ++ N) := by
  have hff : ∀ (m : Nat) (x : Ent), (F ++ N)[m]? = some x → ∀ b ∈ x.foot, w.heap.size ≤ b ∨ ∃ (k : Nat) (e : Ent), E[k]? = some e ∧ b ∈ e.foot := fun m x hm b hb => by
    rcases hff0 x (List.mem_of_getElem? hm) b hb with h | h | h
    · rcases R.own m x hm b h with h | h
      · exact .inl h
      · obtain ⟨m', e, he, hb'⟩ := mem_blks.1 h
        exact .inr ⟨m', e, he, Ent.block_foot hb'⟩
    · exact .inl h
    · exact .inr h
  have key : ∀ k x, (puts L I F ++ N)[k]? = some x → (∃ m : Nat, (F ++ N)[m]? = some x ∧ (if m < I.length then I[m]? = some k else k = L.length + (m - I.length))) ∨ (k ∉ I ∧ k < L.length ∧ L[k]? = some x) := fun k x hk => by
    rcases Nat.lt_or_ge k L.length with hlt | hge
    · rw [List.getElem?_append_left (by rw [puts_length]; exact hlt)] at hk
      rcases puts_get hF hk with ⟨m, h1, h2⟩ | ⟨h1, h2⟩
      · have hm := (List.getElem?_eq_some_iff.1 h1).1
        refine .inl ⟨m, ?_, by rw [if_pos hm]; exact h1⟩
        rw [List.getElem?_append_left (by omega)]; exact h2
      · exact .inr ⟨h1, hlt, h2⟩
    · rw [List.getElem?_append_right (by rw [puts_length]; exact hge), puts_length] at hk
      refine .inl ⟨I.length + (k - L.length), ?_, ?_⟩
      · rw [List.getElem?_append_right (by omega), hF, Nat.add_sub_cancel_left]; exact hk
      · rw [if_neg (by omega)]; omega
  have inj : ∀ (m m' k l : Nat), (if m < I.length then I[m]? = some k else k = L.length + (m - I.length)) → (if m' < I.length then I[m']? = some l else l = L.length + (m' - I.length)) → k ≠ l → m ≠ m' := fun m m' k l h1 h2 hkl e => by
    subst e
    split at h1
    · rename_i h; rw [if_pos h] at h2; rw [h1] at h2; exact hkl (Option.some.inj h2)
    · rename_i h; rw [if_neg h] at h2; exact hkl (h1.trans h2.symm)
  -- a new thing against one that stayed
  have apart : ∀ (m : Nat) (x : Ent), (F ++ N)[m]? = some x → ∀ (k : Nat) (g : Ent), k ∉ I → L[k]? = some g → ∀ b, x.block = some b → b ∉ g.foot := fun m x hm k g hkI hk b hb hg => by
    rcases R.own m x hm b hb with h | h
    · have := Ent.ltF (H.ok k g hk) hg; omega
    · obtain ⟨m', e, he, hb'⟩ := mem_blks.1 h
      obtain ⟨i, hi, h⟩ := picks_of hp he
      exact H.sep i k e g h hk (fun x => hkI (x ▸ List.mem_of_getElem? hi)) b hb' hg
  have apart' : ∀ (m : Nat) (x : Ent), (F ++ N)[m]? = some x → ∀ (k : Nat) (g : Ent), k ∉ I → L[k]? = some g → ∀ b, g.block = some b → b ∉ x.foot := fun m x hm k g hkI hk b hb hg => by
    rcases hff m x hm b hg with h | ⟨m', e, he, hb'⟩
    · have := Ent.lt (H.ok k g hk) hb; omega
    · obtain ⟨i, hi, h⟩ := picks_of hp he
      exact H.sep k i g e hk h (fun x => hkI (x ▸ List.mem_of_getElem? hi)) b hb hb'
  refine ⟨H.frPart hp R.fr, fun k x hk => ?_, fun k l x y hk hl hkl b hb => ?_, fun k x hk b hb => ?_⟩
  · rcases key k x hk with ⟨m, h1, _⟩ | ⟨h1, h2, h3⟩
    · exact R.ok m x h1
    · refine Ent.fr (H.ok k x h3) R.fr fun b hxb hbT => ?_
      obtain ⟨m', e, he, hb'⟩ := mem_blks.1 hbT
      obtain ⟨i, hi, h⟩ := picks_of hp he
      exact H.sep i k e x h h3 (fun x => h1 (x ▸ List.mem_of_getElem? hi)) b hb' hxb
  · rcases key k x hk with ⟨m, h1, h2⟩ | ⟨h1, h2, h3⟩ <;> rcases key l y hl with ⟨m', h1', h2'⟩ | ⟨h1', h2', h3'⟩
    · exact R.sep m m' x y h1 h1' (inj m m' k l h2 h2' hkl) b hb
    · exact apart m x h1 l y h1' h3' b hb
    · exact apart' m' y h1' k x h1 h3 b hb
    · exact H.sep k l x y h3 h3' hkl b hb
  · rcases key k x hk with ⟨m, h1, _⟩ | ⟨_, _, h3⟩
    · rcases R.own m x h1 b hb with h | h
      · left; have := H.fr.size; omega
      · exact H.blks_own hp h
    · exact H.own k x h3 b hb
/-- Some of what is owned, in whatever order. -/
theorem Own.sel (H : Own S w0 w L) (I : List Nat) (hn : nodupB I = true) (hp : picks L I = some E) : Own S w0 w E := by
  have P := H.part I hn hp
  exact ⟨H.fr, P.ok, P.sep, fun i e hi b hb => by obtain ⟨j, _, h⟩ := picks_of hp hi; exact H.own j e h b hb⟩

def footA (v : Value) (xs : List Value) : List Nat := if xs.isEmpty then [] else [sBlk v]
theorem Arr.stable (v : Value) (sz n : Nat) (xs : List Value) : Stable (fun w => Arr w v sz n xs) (footA v xs) where
  lt := fun w h b hb => by
    cases xs with
    | nil => simp [footA] at hb
    | cons x l =>
      simp [footA] at hb; subst hb
      have := h.cell 0 (by simp)
      exact block_lt_of_cell (a := sp v 0) (v := x) (by simpa using this)
  fr := fun T w w' hf hT h => by
    cases xs with
    | nil => exact ⟨h.form, h.len, fun j hj => by simp at hj⟩
    | cons x l => exact h.fr hf (hT _ (by simp [footA]))
def Ent.ar (v : Value) (sz n : Nat) (xs : List Value) : Ent := .ro (fun w => Arr w v sz n xs) (footA v xs) (Arr.stable v sz n xs)
theorem Own.arrO {v : Value} {sz n i : Nat} {xs : List Value} (H : Own S w0 w L) (hi : L[i]? = some (Ent.ar v sz n xs)) : Arr w v sz n xs := H.ok i _ hi
/-- What is no longer written. -/
theorem Own.freeze {i : Nat} {v : Value} {t : TypeId} {sz n : Nat} {xs : List Value} (H : Own S w0 w L) (hi : L[i]? = some (Ent.row v t sz n xs)) : Own S w0 w (L.set i (Ent.ar v sz n xs)) := by
  refine H.upd' hi (Fr.refl [] w) (fun b hb => by cases hb) (H.row hi).arr (fun b hb => by cases hb) (fun b hb => .inl ?_)
  obtain ⟨hl, ⟨rfl, rfl⟩ | ⟨g, cap, pre, junk, rfl, hk, hr⟩⟩ := H.row hi
  · have hx : xs = [] := List.eq_nil_of_length_eq_zero (by simpa using hl)
    subst hx
    simp [Ent.ar, Ent.foot, footA] at hb
  · simp only [Ent.ar, Ent.foot, footA] at hb
    split at hb
    · cases hb
    · simpa [Ent.foot, Value.ownBlock, sBlk] using hb
/-- A second look at a thing that is only read. -/
theorem Own.dup {p : World → Prop} {Ft : List Nat} {st : Stable p Ft} {i : Nat} (H : Own S w0 w L) (hi : L[i]? = some (.ro p Ft st)) : Own S w0 w (L ++ [.ro p Ft st]) :=
  H.new' (Fr.refl _ _) (H.ok i _ hi) (fun b hb => by cases hb) (fun b hb j f hj hfb => by
    have hne : j ≠ i := fun e => by subst e; rw [hi] at hj; injection hj with hj; subst hj; cases hfb
    exact H.sep j i f _ hj hi hne b hfb hb)
/-- What was there at the start. -/
theorem Own.old {p : World → Prop} {Ft : List Nat} (st : Stable p Ft) (H : Own [] w0 w L) (h0 : p w0) : Own [] w0 w (L ++ [.ro p Ft st]) :=
  H.new' (Fr.refl _ _) (st.fr [] _ _ H.fr (fun _ _ => by simp) h0) (fun b hb => by cases hb) (fun b hb j f hj hfb => by
    have h1 := st.lt _ h0 b hb
    rcases H.own j f hj b hfb with h | h
    · omega
    · cases h)
theorem Arr.cutM {α : Type} {f : α → Value} {l : List α} {v : Value} {q : Nat} (hA : Arr w v 1 q (l.map f)) {a b : Nat} (hab : a ≤ b) (hb : b ≤ q) : Arr w (cutV v a b 1) 1 (b - a) (((l.drop a).take (b - a)).map f) := by
  rw [← cutL_map]; exact hA.cut hab hb
theorem Own.cutM {α : Type} {f : α → Value} {l : List α} {v : Value} {q i : Nat} {t : TypeId} (H : Own S w0 w L) (hi : L[i]? = some (Ent.row v t 1 q (l.map f))) {a b : Nat} (hab : a ≤ b) (hb : b ≤ q) :
    Own S w0 w (L.set i (.row (cutV v a b 1) t 1 (b - a) (((l.drop a).take (b - a)).map f))) := by
  rw [← cutL_map]; exact H.cut hi hab hb
theorem Arr.mapLen {α : Type} {f : α → Value} {l : List α} {v : Value} {q : Nat} (hA : Arr w v 1 q (l.map f)) : l.length = q := by simpa using hA.len
theorem Arr.cutLoM {α : Type} {f : α → Value} {l : List α} {v : Value} {q : Nat} (hA : Arr w v 1 q (l.map f)) {a : Nat} (hab : a ≤ q) : Arr w (cutV v a q 1) 1 (q - a) ((l.drop a).map f) := by
  have h := hA.cutM hab (Nat.le_refl q)
  rwa [List.take_of_length_le (by rw [List.length_drop, hA.mapLen]; exact Nat.le_refl _)] at h
theorem Arr.cutHiM {α : Type} {f : α → Value} {l : List α} {v : Value} {q : Nat} (hA : Arr w v 1 q (l.map f)) {b : Nat} (hb : b ≤ q) : Arr w (cutV v 0 b 1) 1 b ((l.take b).map f) := hA.cutM (Nat.zero_le b) hb
theorem Own.cutLoM {α : Type} {f : α → Value} {l : List α} {v : Value} {q i : Nat} {t : TypeId} (H : Own S w0 w L) (hi : L[i]? = some (Ent.row v t 1 q (l.map f))) {a : Nat} (hab : a ≤ q) :
    Own S w0 w (L.set i (.row (cutV v a q 1) t 1 (q - a) ((l.drop a).map f))) := by
  have h := H.cutM hi hab (Nat.le_refl q)
  rwa [List.take_of_length_le (by rw [List.length_drop, (H.arrR hi).mapLen]; exact Nat.le_refl _)] at h
theorem Own.cutHiM {α : Type} {f : α → Value} {l : List α} {v : Value} {q i : Nat} {t : TypeId} (H : Own S w0 w L) (hi : L[i]? = some (Ent.row v t 1 q (l.map f))) {b : Nat} (hb : b ≤ q) :
    Own S w0 w (L.set i (.row (cutV v 0 b 1) t 1 b ((l.take b).map f))) := H.cutM hi (Nat.zero_le b) hb
theorem Arr.one {v : Value} {sz m : Nat} {xs : List Value} (h : Arr w v sz m xs) : v.oneCell' = true := by
  obtain ⟨a, cap, rfl, _⟩ := h.form
  rfl
theorem one_nil : ([] : List Value).all (·.oneCell') = true := rfl
theorem one_cons {v : Value} {l : List Value} (h : v.oneCell' = true) (k : l.all (·.oneCell') = true) : (v :: l).all (·.oneCell') = true := by simp only [List.all_cons, h, k, Bool.and_self]
end Go.Owl
/-! from Owl14 -/
/- Rows in the form of a list's image: append, store, make. -/
namespace Go.Owl
section
variable {P : Program} {n : Nat} {D : List Deferred} {ρ : Env} {w w0 : World} {R : Value → World → Prop} {dst : Option Tmp} {ty : TypeId} {pos : String} {af : Array Edge} {g : Option (Nat × Bool)}
variable {S : List Nat} {L : List Ent} {i : Nat} {t t' T T' : TypeId} {x y : Operand} {z : List Value} {sz by_ : Nat} {d : TypeDesc}

theorem op_appendM {α : Type} {f : α → Value} {l l' : List α} {v u : Value} {q m : Nat} (H : Own S w0 w L) (hu : P.underlying T = some (.slice t)) (hz : tiB P t = some (z, 1, by_)) (hzl : z.length = 1) (hx : ev ρ x = some v) (hy : ev ρ y = some u)
    (hi : L[i]? = some (Ent.row v t 1 q (l.map f))) (hs : Src P w T' 1 u m (l'.map f)) (h1 : ∀ c ∈ l'.map f, c.oneCell' = true) (h63 : q + m ≤ 9223372036854775807) (hby : (q + m) * by_ ≤ 140737488355328)
    (h : ∀ v' w', Own S w0 w' (L.set i (.row v' t 1 (q + m) ((l ++ l').map f))) → R v' w') : Op1 P n D ⟨dst, .call { callee := .builtin .append, args := #[x, y], argTypes := #[T, T'] }, ty, pos, af, g⟩ ρ w R :=
  op_append H hu hz hzl hx hy hi hs h1 h63 hby (fun v' w' H' => h v' w' (by rw [List.map_append]; exact H'))

theorem one_mapM {α : Type} {f : α → Value} (h : ∀ a, (f a).oneCell' = true) {l : List α} : ∀ c ∈ l.map f, c.oneCell' = true := fun c hc => by
  obtain ⟨a, _, rfl⟩ := List.mem_map.1 hc
  exact h a
theorem zeros_one (c : Value) : ∀ m, zeros [c] m = List.replicate m c
  | 0 => rfl
  | m + 1 => by rw [zeros, zeros_one c m, List.replicate_succ]; rfl

theorem op_makeSlice {m : Nat} {k k' : IntKind} (H : Own S w0 w L) (hu : P.underlying T = some (.slice t)) (hz : tiB P t = some (z, sz, by_)) (hzl : z.length = sz) (hx : ev ρ x = some (.int k (m : Int))) (hy : ev ρ y = some (.int k' (m : Int)))
    (hb : by_ * m ≤ 281474976710656) (h63 : m ≤ 9223372036854775807) (h : ∀ b w', Own S w0 w' (L ++ [.row (.slice (some ⟨b, 0, none⟩) m m) t sz m (zeros z m)]) → R (.slice (some ⟨b, 0, none⟩) m m) w') :
    Op1 P n D ⟨dst, .makeSlice T x y, ty, pos, af, g⟩ ρ w R := by
  obtain ⟨i, v, hi, hv, hc, hs, hby⟩ := tiB_spec hz
  have hvs : v.cells.size = sz := by rw [← hzl, ← hc]; simp
  have hr := run_make (P := P) w T t i v hu hi hv k k' m m (by omega) (Int.le_refl _) (by rw [hby]; omega) (by omega)
  simp only [Int.toNat_natCast] at hr
  have e : madeCells v.cells (m * i.size) = (zeros z m).toArray := by
    rw [← hc]; exact range_zeros v.cells m (m * i.size) (by rw [hs, hvs])
  rw [e] at hr
  refine Op1.val (w' := w.alloc (.cells (zeros z m).toArray t)) (v := .slice (some ⟨w.heap.size, 0, none⟩) m m) (fun a ha => ?_) (h _ _ ?_)
  · simp only [execOp, ha.ev hx, ha.ev hy, Sem.run_bind, hr, Result.andThen_ok, Sem.run_pure]
  · refine H.new (Fr.alloc _ _) ⟨by rw [zeros_length, hzl], .inr ⟨w.heap.size, m, [], [], rfl, ?_, Nat.le_refl _, by unfold maxLen; omega, by rw [zeros_length, hzl]; simp⟩⟩ (fun b hb => ?_)
    · simpa using Blk.alloc w (zeros z m) t
    · simp only [Ent.block, Value.ownBlock, Option.some.injEq] at hb; omega

theorem op_makeSliceM {α : Type} {f : α → Value} {c : α} {m : Nat} {k k' : IntKind} (H : Own S w0 w L) (hu : P.underlying T = some (.slice t)) (hz : tiB P t = some ([f c], 1, by_)) (hx : ev ρ x = some (.int k (m : Int))) (hy : ev ρ y = some (.int k' (m : Int)))
    (hb : by_ * m ≤ 281474976710656) (h63 : m ≤ 9223372036854775807) (h : ∀ b w', Own S w0 w' (L ++ [.row (.slice (some ⟨b, 0, none⟩) m m) t 1 m ((List.replicate m c).map f)]) → R (.slice (some ⟨b, 0, none⟩) m m) w') :
    Op1 P n D ⟨dst, .makeSlice T x y, ty, pos, af, g⟩ ρ w R :=
  op_makeSlice H hu hz rfl hx hy hb h63 (fun b w' H' => h b w' (by rw [zeros_one] at H'; rw [List.map_replicate]; exact H'))

theorem op_storeRM {α : Type} {f : α → Value} {l : List α} {c : α} {v : Value} {m k : Nat} (H : Own S w0 w L) (hx : ev ρ x = some (.pointer (some (sp v k)))) (hy : ev ρ y = some (f c)) (hi : L[i]? = some (Ent.row v t 1 m (l.map f))) (hk : k < m)
    (h1 : (f c).oneCell' = true) (hz : tiB P T = some (z, 1, by_)) (h : ∀ w', Own S w0 w' (L.set i (.row v t 1 m ((l.set k c).map f))) → R undef w') : Op1 P n D ⟨dst, .store T x y, ty, pos, af, g⟩ ρ w R :=
  op_storeR H hx hy hi (by have := (H.row hi).1; simp at this; simpa [this] using hk) h1 hz (fun w' H' => h w' (by rw [List.map_set]; exact H'))
theorem map_len {α : Type} {f : α → Value} {l : List α} {v : Value} {m : Nat} (H : Own S w0 w L) (hi : L[i]? = some (Ent.row v t 1 m (l.map f))) : l.length = m := (H.arrR hi).mapLen
theorem Own.rowEq {α : Type} {f : α → Value} {l l' : List α} {v : Value} {m : Nat} (H : Own S w0 w L) (hi : L[i]? = some (Ent.row v t 1 m (l.map f))) (e : l = l') : Own S w0 w (L.set i (.row v t 1 m (l'.map f))) := by
  subst e
  have h := List.getElem?_eq_some_iff.1 hi
  have e : L.set i (.row v t 1 m (l.map f)) = L := by rw [← h.2]; exact List.set_getElem_self h.1
  rw [e]; exact H
theorem Own.rowEqN {α : Type} {f : α → Value} {l l' : List α} {v : Value} {m m' : Nat} (H : Own S w0 w L) (hi : L[i]? = some (Ent.row v t 1 m (l.map f))) (e : l = l') (en : m = m') : Own S w0 w (L.set i (.row v t 1 m' (l'.map f))) := by
  subst en; exact H.rowEq hi e
end
theorem Arr.ltM {α : Type} {f : α → Value} {l : List α} {w : World} {v : Value} {q k : Nat} (hA : Arr w v 1 q (l.map f)) (hk : k < q) : k < l.length := by rw [hA.mapLen]; exact hk
end Go.Owl
/-! from Owl15 -/
/- min, max. -/
namespace Go.Owl
section
variable {P : Program} {n : Nat} {D : List Deferred} {ρ : Env} {w : World} {R : Value → World → Prop} {dst : Option Tmp} {ty : TypeId} {pos : String} {af : Array Edge} {g : Option (Nat × Bool)}
variable {t t' : TypeId} {x y : Operand}
end
end Go.Owl
/-! from Owl16 -/
/- Blocks that are only read. -/
namespace Go.Owl
/-- From a block's head on these cells stand. -/
def cellsAt (w : World) (b : Nat) (cs : List Value) : Prop := ∀ (j : Nat) (u : Value), cs[j]? = some u → w.cell? ⟨b, j, none⟩ = some u
theorem cellsAt.lt {w : World} {b : Nat} {cs : List Value} (h : cellsAt w b cs) (hne : cs ≠ []) : b < w.heap.size := by
  cases cs with
  | nil => exact absurd rfl hne
  | cons c l => exact block_lt_of_cell (a := ⟨b, 0, none⟩) (h 0 c rfl)
theorem cellsAt.stable (b : Nat) (cs : List Value) : Stable (fun w => cellsAt w b cs) (if cs.isEmpty then [] else [b]) where
  lt := fun w h b' hb => by
    cases cs with
    | nil => simp at hb
    | cons c l => simp at hb; subst hb; exact cellsAt.lt h (by simp)
  fr := fun T w w' hf hT h j u hu => by
    cases cs with
    | nil => simp at hu
    | cons c l =>
      have hb := cellsAt.lt h (by simp)
      rw [← h j u hu]
      exact World.cell?_of_block (hf.block b hb (hT b (by simp)))
def Ent.bo (b : Nat) (cs : List Value) : Ent := .ro (fun w => cellsAt w b cs) (if cs.isEmpty then [] else [b]) (cellsAt.stable b cs)
section
variable {S : List Nat} {w0 w : World} {L : List Ent} {i b : Nat} {cs vs : List Value} {t : TypeId}
theorem Own.cellO {off : Nat} {v : Value} (H : Own S w0 w L) (hi : L[i]? = some (Ent.bo b cs)) (hc : cs[off]? = some v) : w.cell? ⟨b, off, none⟩ = some v := (H.ok i _ hi) off v hc
theorem Own.cellsO {off : Nat} (H : Own S w0 w L) (hi : L[i]? = some (Ent.bo b cs)) (hc : (cs.drop off).take vs.length = vs) : ∀ j u, vs[j]? = some u → w.cell? ⟨b, off + j, none⟩ = some u := by
  intro j u hj
  rw [← hc, List.getElem?_take] at hj
  split at hj
  · rw [List.getElem?_drop] at hj; exact (H.ok i _ hi) _ u hj
  · cases hj
theorem Own.cellsAt (H : Own S w0 w L) (hi : L[i]? = some (Ent.blk b cs t)) : cellsAt w b cs := fun j u hu => H.cell hi hu
theorem Own.cellsAtO (H : Own S w0 w L) (hi : L[i]? = some (Ent.bo b cs)) : Owl.cellsAt w b cs := H.ok i _ hi
theorem Own.oldB (H : Own [] w0 w L) (h : Owl.cellsAt w0 b cs) : Own [] w0 w (L ++ [Ent.bo b cs]) := H.old (cellsAt.stable b cs) h
theorem Own.oldA {v : Value} {sz n : Nat} {xs : List Value} (H : Own [] w0 w L) (h : Arr w0 v sz n xs) : Own [] w0 w (L ++ [Ent.ar v sz n xs]) := H.old (Arr.stable v sz n xs) h
end
end Go.Owl
/-! from Owl17 -/
/- Memory seen through unsafe.Pointer: what strings.Builder does. -/
namespace Go.Owl
/-- What stays when a callee had some things and gives none back. -/
theorem Own.rest {S : List Nat} {w0 w w1 : World} {L E F : List Ent} {I J : List Nat} (H : Own S w0 w L) (hp : picks L I = some E) (hJ : nodupB J = true) (hq : picks L J = some F) (hd : J.all (fun j => !I.any (Nat.beq j)) = true)
    (R : Fr (blks E) w w1) : Own S w0 w1 F := by
  have P := H.sel J hJ hq
  refine ⟨H.frPart hp R, fun i e hi => ?_, P.sep, P.own⟩
  obtain ⟨j, hj, h⟩ := picks_of hq hi
  have := List.all_eq_true.1 hd j (List.mem_of_getElem? hj)
  exact H.stay hp h (by simpa using this) R
section
variable {P : Program} {n : Nat} {D : List Deferred} {ρ : Env} {w w0 : World} {R : Value → World → Prop} {dst : Option Tmp} {ty : TypeId} {pos : String} {af : Array Edge} {g : Option (Nat × Bool)}
variable {S : List Nat} {L : List Ent} {i b : Nat} {t t' u T0 : TypeId} {x y : Operand} {cs : List Value}
theorem Own.shape (H : Own S w0 w L) (hi : L[i]? = some (Ent.blk b cs T0)) : w.shape? b = some (T0, cs.length) := by
  obtain ⟨fr, _, h⟩ := H.blk hi
  simp [World.shape?, h]
theorem info_cells {k : Nat} (h : P.cellsOf t = k + 1) : ∃ j, P.info? t = some j ∧ j.size = k + 1 := by
  unfold Program.cellsOf at h
  cases hj : P.info? t with
  | none => rw [hj] at h; simp at h
  | some j => rw [hj] at h; exact ⟨j, rfl, by simpa using h⟩
/-- To unsafe.Pointer. -/
theorem op_toUnsafe {off k : Nat} (H : Own S w0 w L) (hs : P.underlying t = some (.pointer u)) (hd : P.underlying t' = some .unsafePointer) (hz : P.cellsOf u = k + 1) (hx : ev ρ x = some (ptr b off)) (hi : L[i]? = some (Ent.blk b cs T0)) (ho : Nat.blt off cs.length = true)
    (h : R (ptr b off) w) : Op1 P n D ⟨dst, .convert t t' x, ty, pos, af, g⟩ ρ w R := by
  obtain ⟨j, hj, hjs⟩ := info_cells hz
  have hr := Lib.run_to_unsafe (P := P) w ⟨b, off, none⟩ hs hd hj (by omega) (H.shape hi) (by simpa [Nat.blt_eq] using ho)
  exact Op1.val (fun a ha => by simp only [execOp, ha.ev hx, Sem.run_bind, hr, Result.andThen_ok, Sem.run_pure]) h
/-- Back from it. -/
theorem op_fromUnsafe {off k : Nat} (H : Own S w0 w L) (hs : P.underlying t = some .unsafePointer) (hd : P.underlying t' = some (.pointer u)) (hz : P.cellsOf u = k + 1) (hx : ev ρ x = some (ptr b off)) (hi : L[i]? = some (Ent.blk b cs T0)) (hp : Nat.blt 0 cs.length = true) (hc : P.cellsOf T0 = cs.length) (hl : liesAt P P.depth T0 1 off u 1 = true)
    (h : R (ptr b off) w) : Op1 P n D ⟨dst, .convert t t' x, ty, pos, af, g⟩ ρ w R := by
  obtain ⟨j, hj, hjs⟩ := info_cells hz
  have hpos : 0 < cs.length := by simpa [Nat.blt_eq] using hp
  have hr := Lib.run_from_unsafe (P := P) w ⟨b, off, none⟩ hs hd hj (H.shape hi) (by rw [hc, Nat.div_self hpos]; exact hl)
  exact Op1.val (fun a ha => by simp only [execOp, ha.ev hx, Sem.run_bind, hr, Result.andThen_ok, Sem.run_pure]) h
/-- internal/abi.NoEscape: the same. -/
theorem op_noEscape {f : FuncId} {fn : Func} {v : Value} {ats : Array TypeId} (hf : P.funcs[f]? = some fn) (hname : (fn.name == "runtime.NumGoroutine") = false) (hb : fn.body.isNone = true) (hn : Extern.findNext fn = none) (he : Extern.find fn = some Extern.AbiNoEscape.same)
    (hx : ev ρ x = some v) (h : R v w) : Op1 P n D ⟨dst, .call { callee := .value (.func f), args := #[x], argTypes := ats }, ty, pos, af, g⟩ ρ w R := by
  have hr := run_callFunc_extern hf hname hb hn he #[v] w
  rw [Lib.run_noEscape] at hr
  refine Op1.val (fun a ha => ?_) h
  have e0 : (execOp a.eval ⟨dst, .call { callee := .value (.func f), args := #[x], argTypes := ats }, ty, pos, af, g⟩).run P w = (callFunc f #[v]).run P w := by
    have h1 : (#[x] : Array Operand).map a.eval = #[v] := ha.evA (vs := [v]) (by simp [evL, hx])
    have h2 : a.eval (.func f) = .func (.func f) #[] #[] := rfl
    simp [execOp, resolve, h1, h2, Deferred.ofValue, invoke]
  rw [e0, hr]
  rfl
/-- A pointer against itself. -/
theorem op_neqPP {k : Nat} {ad : Addr} (hu : P.underlying t = some (.pointer u)) (hz : P.cellsOf u = k + 1) (hx : ev ρ x = some (.pointer (some ad))) (hy : ev ρ y = some (.pointer (some ad))) (h : R (.bool false) w) : Op1 P n D ⟨dst, .binOp .neq t x y t', ty, pos, af, g⟩ ρ w R := by
  obtain ⟨j, hj, hjs⟩ := info_cells hz
  have hr := Lib.run_neq_ptr_same (P := P) w ad hu hj
  exact Op1.val (fun c ha => by
    have hg : (eqGuard .neq t x y (.pointer (some ad)) (.pointer (some ad))).run P w = .ok () w := rfl
    simp only [execOp, ha.ev hx, ha.ev hy, Sem.run_bind, hg, Result.andThen_ok, hr, Sem.run_pure]) h

theorem op_sliceData {a0 : Option Addr} {q cap : Nat} {ats : TypeId} (hx : ev ρ x = some (.slice a0 q cap)) (hc : a0 = none ∨ cap ≠ 0) (h : R (.pointer a0) w) :
    Op1 P n D ⟨dst, .call { callee := .builtin .unsafeSliceData, args := #[x], argTypes := #[ats] }, ty, pos, af, g⟩ ρ w R := by
  have hr : (Builtin.unsafeSliceData_ #[ats] ty #[.slice a0 q cap]).run P w = .ok (.pointer a0) w := by
    cases a0 with
    | none => exact Lib.run_unsafeSliceData_nil w _ _ _ _
    | some a => exact Lib.run_unsafeSliceData_row w _ _ _ _ _ (hc.resolve_left (by simp))
  exact Op1.val (fun c hc => by simp [execOp, resolve, invoke, builtin, hc.ev hx, hr]) h
theorem liesAt_bytes' {e : TypeId} (hc : P.cellsOf e = 1) (count o m : Nat) (hn : o + m ≤ count) : liesAt P P.depth e count o e m = true := by
  have hd : P.depth = (2 * (P.types.size + Made.depth) + 1) + 1 := rfl
  rw [hd]
  simp only [liesAt, Bool.or_eq_true]
  left
  rw [hd]
  simp [rowAt, hc, hn, sameLayout, Nat.mod_one]
theorem run_unsafeString_at (pt it ty e : TypeId) (hp : P.underlying pt = some (.pointer e)) (hc : P.cellsOf e = 1) (g o cells : Nat) (hsh : w.shape? g = some (e, cells)) (l : List UInt8) (h0 : l ≠ []) (hn : o + l.length ≤ cells) (h63 : l.length ≤ 9223372036854775807)
    (hcell : ∀ j x, l[j]? = some x → w.cell? ((⟨g, o, none⟩ : Addr).add j) = some (.int .u8 x.toNat)) :
    (Builtin.unsafeString_ #[pt, it] ty #[.pointer (some ⟨g, o, none⟩), .int .i64 l.length]).run P w = .ok (.string ⟨l.toArray⟩) (w.freeze ⟨g, o, none⟩ l.length) := by
  have hl : l.length ≠ 0 := by simpa using h0
  have hlb := Lib.run_loadBytes (P := P) w l ⟨g, o, none⟩ .empty hcell
  have hlies := liesAt_bytes' (P := P) hc (cells / P.cellsOf e) o l.length (by rw [hc]; simpa using hn)
  have h63' : ¬ (9223372036854775807 : Int) < (l.length : Int) := by omega
  have hdef : Builtin.unsafeString_ #[pt, it] ty #[.pointer (some ⟨g, o, none⟩), .int .i64 l.length] =
      (do
        let n ← asInt (.int .i64 l.length)
        if n < 0 then runtimePanic (.error "unsafe.String: len out of range")
        if n > IntKind.i64.max then unsupported (.unsafePointer "String: a length above the largest int")
        if n = 0 then pure (.string .empty)
        else if ← variablesAt ⟨g, o, none⟩ (← elemOf pt) n.toNat then do
          let s ← loadBytes ⟨g, o, none⟩ .empty n.toNat
          freeze ⟨g, o, none⟩ n.toNat
          pure (.string s)
        else unsupported (.unsafePointer "String: not so many bytes at ptr")) := rfl
  rw [hdef]
  have hmax : IntKind.i64.max = 9223372036854775807 := rfl
  have hneg : ¬ (l.length : Int) < 0 := by omega
  simp [asInt, asIntOf, hmax, h63', hneg, hl, variablesAt, hsh, elemOf, run_underlying hp, hlies, hlb]
theorem Fr.freeze (w : World) (p : Addr) (m : Nat) : Fr [p.block] w (w.freeze p m) := by
  unfold World.freeze
  split
  · exact Fr.refl _ _
  · refine ⟨rfl, rfl, rfl, by simp, fun k _ hn => ?_⟩
    simp only [Array.getElem?_modify]
    rw [if_neg (by intro e; subst e; simp at hn)]
theorem Own.rowForm {v : Value} {sz q : Nat} {xs : List Value} (H : Own S w0 w L) (hi : L[i]? = some (Ent.row v t sz q xs)) (hz : v = .slice none 0 0 ∨ q ≠ 0) : ∃ a0 cap, v = .slice a0 q cap ∧ (a0 = none ∨ cap ≠ 0) := by
  obtain ⟨hl, ⟨rfl, rfl⟩ | ⟨g, cap, pre, junk, rfl, hb, hn, hc, hj⟩⟩ := H.row hi
  · exact ⟨none, 0, rfl, .inl rfl⟩
  · refine ⟨_, cap, rfl, .inr ?_⟩
    rcases hz with h | h
    · cases h
    · omega
/-- 'unsafe.String' of a whole row: its bytes; the row is given up. -/
theorem op_unsafeString {a0 : Option Addr} {q cap : Nat} {l : List UInt8} {e pt it : TypeId} (H : Own S w0 w L) (hi : L[i]? = some (Ent.row (.slice a0 q cap) e 1 q (l.map vU8))) (hp : P.underlying pt = some (.pointer e)) (hc : P.cellsOf e = 1) (hx : ev ρ x = some (.pointer a0)) (hy : ev ρ y = some (vN q))
    (h : ∀ w', Fr (blks [Ent.row (.slice a0 q cap) e 1 q (l.map vU8)]) w w' → R (str l) w') : Op1 P n D ⟨dst, .call { callee := .builtin .unsafeString, args := #[x, y], argTypes := #[pt, it] }, ty, pos, af, g⟩ ρ w R := by
  have hr0 := H.row hi
  have hq : l.length = q := by have := hr0.1; simpa using this
  have hr : ∃ w', Fr (blks [Ent.row (.slice a0 q cap) e 1 q (l.map vU8)]) w w' ∧ (Builtin.unsafeString_ #[pt, it] ty #[.pointer a0, vN q]).run P w = .ok (str l) w' := by
    by_cases h0 : l = []
    · subst h0
      simp at hq; subst hq
      exact ⟨w, Fr.refl _ _, Lib.run_unsafeString_none w pt it ty a0⟩
    · obtain ⟨hl, ⟨hv, hq0⟩ | ⟨gb, cap', pre, junk, hv, hb, hn, hcm, hj⟩⟩ := hr0
      · exact absurd (List.eq_nil_of_length_eq_zero (by omega)) h0
      · injection hv with h1 h2 h3
        subst h1
        refine ⟨_, (Fr.freeze w ⟨gb, pre.length, none⟩ l.length).mono (fun x hx => ?_), ?_⟩
        · simp at hx; subst hx; exact mem_blks.2 ⟨0, _, rfl, rfl⟩
        · have hsh : w.shape? gb = some (e, (pre ++ (l.map vU8 ++ junk)).length) := by
            obtain ⟨fr, _, hh⟩ := hb
            simp [World.shape?, hh]
          rw [← hq]
          refine run_unsafeString_at pt it ty e hp hc gb pre.length _ hsh l h0 (by simp) (by unfold maxLen at hcm; omega) (fun j x hx => ?_)
          rw [Addr.add_at, hb.cell, List.getElem?_append_right (by omega), Nat.add_sub_cancel_left, List.getElem?_append_left (by simpa using (List.getElem?_eq_some_iff.1 hx).1), List.getElem?_map, hx]
          try rfl
  obtain ⟨w', hf, hrun⟩ := hr
  exact Op1.val (fun c hc => by simp [execOp, resolve, invoke, builtin, hc.ev hx, hc.ev hy, hrun]) (h w' hf)
end
end Go.Owl
/-! from OwlRow -/
/- A row that says: whatever the input, true; the input reads as it did. -/
namespace Go.Owl
open Go.ChangeShapes Go.WideShapes Go.RowKit
section
variable {H : Type} {enc : TypeId × Value → H} {P : Program}

theorem trodAll_stays (hl : laidOutB P = true) {W W' : World} (hb : Below W.heap.size W W') : ∀ {ts : List TypeId} {vs : List Value} {ds : List (DataW H)} {ps : List MemPlace},
    (ts.all fun t => P.readableRec t && decide (t < P.types.size)) = true → DataW.TrodAll enc P W 0 (fun _ => true) true ts vs ds ps → (∀ x ∈ ps, x.block < W.heap.size) →
    DataW.TrodAll enc P W' 0 (fun b => decide (b < W.heap.size)) true ts vs ds ps
  | [], vs, ds, ps, _, h, _ => by
    obtain ⟨rfl, rfl, rfl⟩ := trodAll_nil h
    exact rfl
  | t :: ts, vs, ds, ps, hr, h, hlt => by
    obtain ⟨v, vs1, d, ds1, a, b, rfl, rfl, rfl, h1, h2⟩ := trodAll_cons h
    rw [List.all_cons, Bool.and_eq_true, Bool.and_eq_true, decide_eq_true_eq] at hr
    exact ⟨a, b, Below.trod hl hr.1.1 hr.1.2 h1 hb (fun x hx => hlt x (List.mem_append.2 (.inl hx))), trodAll_stays hl hb hr.2 h2 (fun x hx => hlt x (List.mem_append.2 (.inr hx))), rfl⟩

theorem trodAll_length {w : World} {base : Nat} {spare : Nat → Bool} {held : Bool} : ∀ {ts : List TypeId} {vs : List Value} {ds : List (DataW H)} {ps : List MemPlace}, DataW.TrodAll enc P w base spare held ts vs ds ps → ds.length = ts.length ∧ vs.length = ts.length
  | [], vs, ds, ps, h => by
    obtain ⟨rfl, rfl, rfl⟩ := trodAll_nil h
    exact ⟨rfl, rfl⟩
  | t :: ts, vs, ds, ps, h => by
    obtain ⟨v, vs1, d, ds1, a, b, rfl, rfl, rfl, h1, h2⟩ := trodAll_cons h
    simp [trodAll_length h2]

end

theorem u8_of {n : Int} (h : (Lit.int .u8 n).wf = true) : ∃ a : UInt8, Value.int .u8 n = vU8 a := by
  simp [Lit.wf, IntKind.min, IntKind.max, IntKind.signed, IntKind.bits] at h
  exact ⟨UInt8.ofNat n.toNat, by unfold vU8; congr 1; simp; omega⟩
theorem u32_of {n : Int} (h : (Lit.int .u32 n).wf = true) : ∃ a : UInt32, Value.int .u32 n = vU32 a := by
  simp [Lit.wf, IntKind.min, IntKind.max, IntKind.signed, IntKind.bits] at h
  exact ⟨UInt32.ofNat n.toNat, by unfold vU32; congr 1; simp; omega⟩
section
variable {H : Type} {enc : TypeId × Value → H} {P : Program} {w : World} {base b0 : Nat} {spare : Nat → Bool} {held : Bool} {r : Reach} {t : TypeId} {v : Value} {d : DataW H} {ps : List MemPlace}
end
end Go.Owl
/-! from OwlOpen -/
/- Arguments of any depth, opened; the row's proof with the form's own reach. -/
namespace Go.Owl
open Go.ChangeShapes Go.WideShapes Go.RowKit

/-- What is read at a type has this form. -/
def Opens (P : Program) (t : TypeId) {α : Type} (f : α → List Value) (ok : World → α → Prop) : Prop :=
  ∀ (H : Type) (enc : TypeId × Value → H) (w : World) (base : Nat) (spare : Nat → Bool) (held : Bool) (fuel : Nat) (cs : List Value) (x : DataW H × List MemPlace),
    DataW.trod enc P w base spare held fuel t cs = some x → (∀ k ∈ x.1.weights P t, k ≤ reachBytes) → ∃ a, cs = f a ∧ ok w a

section
variable {P : Program} {t e : TypeId}

theorem Opens.map {α β : Type} {f : α → List Value} {ok : World → α → Prop} {f' : β → List Value} {ok' : World → β → Prop} (h : Opens P t f ok) (g : α → β) (hf : ∀ a, f a = f' (g a)) (hk : ∀ w a, ok w a → ok' w (g a)) : Opens P t f' ok' := by
  intro H enc w base spare held fuel cs x hx hw
  obtain ⟨a, h1, h2⟩ := h H enc w base spare held fuel cs x hx hw
  exact ⟨g a, h1.trans (hf a), hk w a h2⟩

theorem u16_of {n : Int} (h : (Lit.int .u16 n).wf = true) : ∃ a : UInt16, Value.int .u16 n = vU16 a := by
  simp [Lit.wf, IntKind.min, IntKind.max, IntKind.signed, IntKind.bits] at h
  exact ⟨UInt16.ofNat n.toNat, by unfold vU16; congr 1; simp; omega⟩
theorem opens_u8 (ht : P.underlying t = some (.int .u8)) : Opens P t (fun a : UInt8 => [vU8 a]) (fun _ _ => True) := by
  intro H enc w base spare held fuel cs x hx _
  obtain ⟨n, rfl, -, hw⟩ := DataW.trod_int ht hx
  obtain ⟨a, ha⟩ := u8_of hw
  exact ⟨a, by rw [ha], trivial⟩
theorem opens_u16 (ht : P.underlying t = some (.int .u16)) : Opens P t (fun a : UInt16 => [vU16 a]) (fun _ _ => True) := by
  intro H enc w base spare held fuel cs x hx _
  obtain ⟨n, rfl, -, hw⟩ := DataW.trod_int ht hx
  obtain ⟨a, ha⟩ := u16_of hw
  exact ⟨a, by rw [ha], trivial⟩
theorem opens_u32 (ht : P.underlying t = some (.int .u32)) : Opens P t (fun a : UInt32 => [vU32 a]) (fun _ _ => True) := by
  intro H enc w base spare held fuel cs x hx _
  obtain ⟨n, rfl, -, hw⟩ := DataW.trod_int ht hx
  obtain ⟨a, ha⟩ := u32_of hw
  exact ⟨a, by rw [ha], trivial⟩
theorem opens_bool (ht : P.underlying t = some .bool) : Opens P t (fun a : Bool => [.bool a]) (fun _ _ => True) := by
  intro H enc w base spare held fuel cs x hx _
  obtain ⟨b, rfl, -⟩ := DataW.trod_bool ht hx
  exact ⟨b, rfl, trivial⟩
theorem opens_str (ht : P.underlying t = some .string) : Opens P t (fun l : List UInt8 => [str l]) (fun _ l => l.length ≤ 140737488351232) := by
  intro H enc w base spare held fuel cs x hx hw
  obtain ⟨s, rfl, rfl, -⟩ := DataW.trod_string ht hx
  refine ⟨s.data.toList, by simp [str], ?_⟩
  have := hw s.data.toList.length (by simp [DataW.weights])
  simpa [reachBytes] using this

theorem weightsAll_mem {H : Type} {d : DataW H} : ∀ {l : List (DataW H)}, d ∈ l → ∀ k ∈ d.weights P e, k ∈ DataW.weightsAll P e l
  | [], h, _, _ => by cases h
  | y :: l, h, k, hk => by
    rw [DataW.weightsAll, List.mem_append]
    rcases List.mem_cons.1 h with rfl | h
    · exact .inl hk
    · exact .inr (weightsAll_mem h k hk)

theorem cells?_get {w : World} {base : Nat} {a : Addr} {n : Nat} {cs : List Value} (h : w.cells? base a n = some cs) : cs.length = n ∧ ∀ i, i < n → w.cell? (a.add i) = cs[i]? := by
  unfold World.cells? at h
  split at h
  · refine ⟨by simpa using mapM_some_length h, fun i hi => ?_⟩
    have := mapM_some_get h i i (by simp [hi])
    exact this
  · cases h

theorem flatMap_len {β : Type} {g : β → List Value} {sz : Nat} (hg : ∀ b, (g b).length = sz) : ∀ l : List β, (l.flatMap g).length = l.length * sz
  | [] => by simp
  | b :: l => by rw [List.flatMap_cons, List.length_append, hg, flatMap_len hg l, List.length_cons, Nat.add_mul]; omega
theorem flatMap_at {β : Type} {g : β → List Value} {sz : Nat} (hg : ∀ b, (g b).length = sz) : ∀ (l : List β) (i k : Nat) (b : β), l[i]? = some b → k < sz → (l.flatMap g)[i * sz + k]? = (g b)[k]?
  | [], i, k, b, h, _ => by simp at h
  | c :: l, 0, k, b, h, hk => by
    simp at h; subst h
    rw [List.flatMap_cons, Nat.zero_mul, Nat.zero_add, List.getElem?_append_left (by rw [hg]; exact hk)]
  | c :: l, i + 1, k, b, h, hk => by
    rw [List.flatMap_cons, List.getElem?_append_right (by rw [hg, Nat.add_mul]; omega), hg, show (i + 1) * sz + k - sz = i * sz + k by rw [Nat.add_mul]; omega]
    exact flatMap_at hg l i k b (by simpa using h) hk

theorem spot_none {w : World} {a : Addr} {v : Value} (h : w.cell? a = some v) : a.spot = none := by
  unfold World.cell? at h
  split at h
  · split at h
    · cases h
    · rename_i hs; simpa using hs
  · cases h
theorem add0 (a : Addr) : a.add 0 = a := rfl

theorem opens_slice {β : Type} {g : β → List Value} {okE : World → β → Prop} {sz by_ : Nat} (ht : P.underlying t = some (.slice e)) (hE : Opens P e g okE) (hg : ∀ b, (g b).length = sz) (hsz : P.cellsOf e = sz) (hs0 : 0 < sz) (hby : P.bytesOf e = by_) :
    Opens P t (fun p : Value × List β => [p.1]) (fun w p => Arr w p.1 sz p.2.length (p.2.flatMap g) ∧ (∀ b ∈ p.2, okE w b) ∧ p.2.length * by_ ≤ 140737488351232) := by
  intro H enc w base spare held fuel cs x hx hw
  rcases Deep.open_slice ht hx with ⟨rfl, rfl⟩ | ⟨a, len, cap, m, n, D, Pl, rfl, hb, hl, hm, hmm, rfl, hel⟩
  · exact ⟨(.slice none 0 0, []), rfl, Arr.nil w sz, (fun b hb => by cases hb), (by simp)⟩
  · have hlm : len ≤ m := by rw [hmm]; split <;> omega
    simp only [DataW.weights, ht] at hw
    have hwl := hw _ (List.mem_cons_self ..)
    have each : ∀ i, i < len → ∃ b, okE w b ∧ ∀ k, k < sz → w.cell? ((a.add (i * sz)).add k) = (g b)[k]? := fun i hi => by
      obtain ⟨cs', h1, h2⟩ := hel i (by omega)
      have hwi : ∀ k ∈ (D i).weights P e, k ≤ reachBytes := fun k hk => hw k (List.mem_cons_of_mem _ (List.mem_append.2 (.inl (weightsAll_mem (List.mem_map.2 ⟨i, List.mem_range.2 hi, rfl⟩) k hk))))
      obtain ⟨b, hb1, hb2⟩ := hE H enc w base spare held n cs' _ h2 hwi
      subst hb1
      obtain ⟨hl1, h3⟩ := cells?_get h1
      rw [hsz] at h3
      exact ⟨b, hb2, fun k hk => by rw [← h3 k hk]⟩
    let F : Fin len → β := fun i => Classical.choose (each i.1 i.2)
    have hF : ∀ i : Fin len, okE w (F i) ∧ ∀ k, k < sz → w.cell? ((a.add (i.1 * sz)).add k) = (g (F i))[k]? := fun i => Classical.choose_spec (each i.1 i.2)
    have hspot : len ≠ 0 → a.spot = none := fun h0 => by
      have h1 := (hF ⟨0, by omega⟩).2 0 hs0
      simp only [Nat.zero_mul, add0] at h1
      exact spot_none (h1.trans (List.getElem?_eq_getElem (by rw [hg]; exact hs0)))
    refine ⟨(.slice (some a) len cap, List.ofFn F), rfl, ⟨⟨some a, cap, by simp, by simpa using hl, hm, (fun h => by cases h), fun h0 ad had => ?_⟩, ?_, ?_⟩, ?_, ?_⟩
    · injection had with had; subst had; exact hspot (by simpa using h0)
    · exact flatMap_len hg _
    · intro j hj
      rw [flatMap_len hg, List.length_ofFn] at hj
      have hi : j / sz < len := Nat.div_lt_of_lt_mul (by rw [Nat.mul_comm]; exact hj)
      have hk : j % sz < sz := Nat.mod_lt _ hs0
      have ej : j = j / sz * sz + j % sz := by rw [Nat.mul_comm]; exact (Nat.div_add_mod j sz).symm
      have h1 := (hF ⟨j / sz, hi⟩).2 (j % sz) hk
      have h2 := flatMap_at hg (List.ofFn F) (j / sz) (j % sz) (F ⟨j / sz, hi⟩) (by rw [List.getElem?_ofFn]; simp [hi]) hk
      rw [← ej] at h2
      rw [h2, ← h1]
      have hs := hspot (fun e0 => by rw [e0] at hi; exact absurd hi (Nat.not_lt_zero _))
      obtain ⟨b, o, s⟩ := a
      simp at hs; subst hs
      rw [Addr.add_at, Addr.add_at, Nat.add_assoc, ← ej]
      rfl
    · intro b hb
      rw [List.mem_ofFn] at hb
      obtain ⟨i, rfl⟩ := hb
      exact (hF i).1
    · have h5 : len * by_ ≤ reachBytes := by
        refine Nat.le_trans ?_ hwl
        rw [hby]; refine Nat.mul_le_mul_right _ ?_
        simp
      simpa [reachBytes] using h5

/-- Elements of one cell. -/
theorem flatMap_one {β : Type} (g : β → Value) : ∀ l : List β, l.flatMap (fun b => [g b]) = l.map g
  | [] => rfl
  | b :: l => by rw [List.flatMap_cons, flatMap_one g l]; rfl
theorem opens_slice1 {β : Type} {g : β → Value} {okE : World → β → Prop} {by_ : Nat} (ht : P.underlying t = some (.slice e)) (hE : Opens P e (fun b => [g b]) okE) (hsz : P.cellsOf e = 1) (hby : P.bytesOf e = by_) :
    Opens P t (fun p : Value × List β => [p.1]) (fun w p => Arr w p.1 1 p.2.length (p.2.map g) ∧ (∀ b ∈ p.2, okE w b) ∧ p.2.length * by_ ≤ 140737488351232) :=
  (opens_slice ht hE (fun _ => rfl) hsz (by decide) hby).map id (fun _ => rfl) (fun w a h => by rw [flatMap_one] at h; exact h)

def OpensF (P : Program) (fs : List Field) (o : Nat) {α : Type} (f : α → List Value) (ok : World → α → Prop) : Prop :=
  ∀ (H : Type) (enc : TypeId × Value → H) (w : World) (base : Nat) (spare : Nat → Bool) (held : Bool) (n : Nat) (cs : List Value) (xs : List (DataW H × List MemPlace)),
    (∀ (i : Nat) (g : Field), fs[i]? = some g → DataW.trod enc P w base spare held n g.type ((cs.drop g.offset).take (P.cellsOf g.type)) = xs[i]?) → xs.length = fs.length →
    (∀ k ∈ DataW.weightsEach P (fs.map (·.type)) (xs.map (·.1)), k ≤ reachBytes) → cs.length = o + (fs.map fun g => P.cellsOf g.type).sum → ∃ a, cs.drop o = f a ∧ ok w a
theorem opensF_nil {o : Nat} : OpensF P [] o (fun _ : Unit => []) (fun _ _ => True) := by
  intro H enc w base spare held n cs xs _ _ _ hl
  exact ⟨(), List.drop_of_length_le (by simp at hl; omega), trivial⟩
theorem opensF_cons {α β : Type} {f0 : Field} {fs : List Field} {o k : Nat} {g : β → List Value} {okg : World → β → Prop} {f : α → List Value} {ok : World → α → Prop} (ho : f0.offset = o) (hk : P.cellsOf f0.type = k) (hg : Opens P f0.type g okg)
    (hf : OpensF P fs (o + k) f ok) : OpensF P (f0 :: fs) o (fun p : β × α => g p.1 ++ f p.2) (fun w p => okg w p.1 ∧ ok w p.2) := by
  intro H enc w base spare held n cs xs hx hl hw hc
  cases xs with
  | nil => simp at hl
  | cons x xs =>
    simp only [List.map_cons, DataW.weightsEach, List.mem_append] at hw
    simp only [List.map_cons, List.sum_cons, hk] at hc
    have h0 := hx 0 f0 rfl
    rw [ho, hk] at h0
    obtain ⟨b, hb1, hb2⟩ := hg H enc w base spare held n _ x (by simpa using h0) (fun k hk => hw k (.inl hk))
    obtain ⟨a, ha1, ha2⟩ := hf H enc w base spare held n cs xs (fun i q hi => by simpa using hx (i + 1) q (by simpa using hi)) (by simpa using hl) (fun k hk => hw k (.inr hk)) (by omega)
    refine ⟨(b, a), ?_, hb2, ha2⟩
    show cs.drop o = g b ++ f a
    rw [← hb1, ← ha1, ← List.drop_drop, List.take_append_drop]
theorem opens_struct {α : Type} {fs : List Field} {f : α → List Value} {ok : World → α → Prop} (ht : P.underlying t = some (.struct fs.toArray)) (hc : P.cellsOf t = (fs.map fun g => P.cellsOf g.type).sum) (hf : OpensF P fs 0 f ok) : Opens P t f ok := by
  intro H enc w base spare held fuel cs x hx hw
  obtain ⟨xs, n, rfl, rfl, hl, hlen, hfs⟩ := DataW.trod_struct ht hx
  simp only [DataW.weights, ht] at hw
  obtain ⟨a, h1, h2⟩ := hf H enc w base spare held n cs xs (fun i g hi => hfs i g (by simpa using hi)) (by simpa using hlen) (by simpa using hw) (by omega)
  exact ⟨a, by simpa using h1, h2⟩

section
variable {H : Type} {enc : TypeId × Value → H} {w : World} {base b0 : Nat} {spare : Nat → Bool} {held : Bool} {r : Reach} {v : Value} {d : DataW H} {ps : List MemPlace}
theorem arg_scal {α : Type} {g : α → Value} {ok : World → α → Prop} (h : Opens P t (fun a => [g a]) ok) (hu : (match P.underlying t with | some (.int _) | some .string | some .bool | some (.slice _) => true | _ => false) = true)
    (hval : Value.okWide P w r b0 t v) (hd : DataW.Trod enc P w base spare held t v d ps) (hw : ∀ k ∈ d.weights P t, k ≤ reachBytes) : ∃ a, v = g a ∧ ok w a := by
  have hv : v.cells.toList = [v] := by
    split at hu
    · rename_i k hk; obtain ⟨n, rfl⟩ := okWide_int hk hval; rfl
    · rename_i hk; obtain ⟨n, rfl⟩ := okWide_string hk hval; rfl
    · rename_i hk; obtain ⟨n, rfl⟩ := okWide_bool hk hval; rfl
    · rename_i k hk; obtain ⟨a, l, c, rfl⟩ := okWide_slice hk hval; rfl
    · cases hu
  obtain ⟨fuel, hf⟩ := hd
  obtain ⟨a, h1, h2⟩ := h H enc w base spare held fuel _ _ hf hw
  rw [hv] at h1
  exact ⟨a, by simpa using h1, h2⟩
theorem arg_struct {α : Type} {f : α → List Value} {ok : World → α → Prop} {fs : Array Field} (hu : P.underlying t = some (.struct fs)) (h : Opens P t f ok)
    (hval : Value.okWide P w r b0 t v) (hd : DataW.Trod enc P w base spare held t v d ps) (hw : ∀ k ∈ d.weights P t, k ≤ reachBytes) : ∃ a, v = .agg (f a).toArray ∧ ok w a := by
  obtain ⟨cs, rfl, -⟩ := okWide_struct hu hval
  obtain ⟨fuel, hf⟩ := hd
  obtain ⟨a, h1, h2⟩ := h H enc w base spare held fuel _ _ hf hw
  refine ⟨a, ?_, h2⟩
  rw [← h1]; simp [Value.cells]
end

/-- The row's proof, but for the walk; the reach is handed on. -/
theorem row_sized {H : Type} {enc : TypeId × Value → H} {C : Checked} {os : Os} {f : FuncId} {fn : Func} {s : ChangeSpec} {conds : List PathCond} {apart : Bool} {tb : TypeId} (own : ownKnob C.prog.godebug = none) (started : os.Started) (noInit : C.prog.inits.idxOf? f = none)
    (hfn : C.prog.funcs[f]? = some fn)
    (witness : ∃ (w : World) (tape : Tape) (i : Input), w.os = os ∧ (w.forCall tape i).Shaped C.prog ∧ i.vars = [] ∧ Input.okWide C.prog (w.forCall tape i) .any w.heap.size f i ∧
      s.pre6 enc C.prog fn conds apart (w.forCall tape i).memory i.args ∧ ({} : Assume).holds C.prog (lone (Frame.enter C.prog f i.args .normal) [] (w.forCall tape i)))
    (hl : laidOutB C.prog = true) (hv : s.vars = []) (hv2 : s.plain.varTypes C.prog = []) (hsp : ∀ ds : List (DataW H), ds.length = fn.params.size → (s.fn H ds).results = [.lit (.bool true)] ∧ (s.fn H ds).args = ds ∧ (s.fn H ds).vars = [])
    (hres : fn.resultTypes = #[tb]) (htb : C.prog.underlying tb = some .bool) (hread : (fn.params.toList.all fun t => C.prog.readableRec t && decide (t < C.prog.types.size)) = true)
    (walk : ∀ (W : World) (base : Nat) (args : Array Value) (ds : List (DataW H)) (ps : List MemPlace), (∀ (j : Nat) t v, fn.params[j]? = some t → args[j]? = some v → Value.okWide C.prog W .any base t v) →
      DataW.TrodAll enc C.prog W 0 (fun _ => true) true fn.params.toList args.toList ds ps → (∀ k ∈ DataW.weightsEach C.prog fn.params.toList ds, k ≤ reachBytes) → Calls C.prog f args W fun e W' => e = .returned (.bool true) ∧ Fr [] W W') :
    ReturnsInHanded {} C os f .any (s.pre6 enc C.prog fn conds apart) (s.post enc C.prog fn apart true false false) := by
  refine returnsInHanded_of_change_shaped own started noInit hfn witness ?_
  intro W base args ds gs before hval hW _ hwt _ _
  have hW' := hW
  obtain ⟨p, q, hA, hV, rfl, hfz, hnd⟩ := hW
  rw [hv] at hV
  obtain ⟨rfl, rfl⟩ := trodVars_none hV
  have hlt : ∀ x ∈ p, x.block < W.heap.size := fun x hx => by simpa using hW'.lt x (by simp [hx])
  rw [hv2, List.append_nil, List.append_nil] at hwt
  refine (walk W base args ds p hval hA (fun k hk => by simpa using List.all_eq_true.1 hwt k hk)).mono fun e W' ⟨he, hw⟩ => ⟨_, he, ?_⟩
  have hb := hw.below
  obtain ⟨s1, s2, s3⟩ := hsp ds (by rw [(trodAll_length hA).1]; simp)
  refine ⟨ds, [], _, [], p, [], hW', ?_, ?_, ?_, hb.frame _, fun h => by cases h⟩
  · rw [List.append_nil, s1, hres]; exact trodAll_mk1 (shut_bool htb true)
  · rw [List.append_nil, s2]; exact trodAll_stays hl hb hread hA hlt
  · rw [List.append_nil, s3, hv]; exact rfl
end
end Go.Owl
/-! from Owl18 -/
/- Rows of structs: a list's cells, one behind the other. -/
namespace Go.Owl
section
variable {β : Type} {g : β → List Value} {sz : Nat}
theorem flatMap_piece (hg : ∀ b, (g b).length = sz) : ∀ (l : List β) (i : Nat) (d : β), i < l.length → ((l.flatMap g).drop (i * sz)).take sz = g (l.getD i d)
  | [], i, d, h => by simp at h
  | c :: l, 0, d, _ => by
    rw [List.flatMap_cons, Nat.zero_mul, List.drop_zero, List.take_append_of_le_length (by rw [hg]; exact Nat.le_refl _), List.take_of_length_le (by rw [hg]; exact Nat.le_refl _)]; rfl
  | c :: l, i + 1, d, h => by
    have e : (i + 1) * sz = sz + i * sz := by rw [Nat.add_mul]; omega
    have e2 : ((c :: l).flatMap g).drop ((i + 1) * sz) = (l.flatMap g).drop (i * sz) := by
      have h0 : ((c :: l).flatMap g).drop sz = l.flatMap g := by
        have hh := List.drop_left (l₁ := g c) (l₂ := l.flatMap g)
        rw [hg] at hh
        rw [List.flatMap_cons]; exact hh
      rw [e, ← List.drop_drop, h0]
    rw [e2]
    have := flatMap_piece hg l i d (by simpa using h)
    rw [this]; rfl
theorem flatMap_cell (hg : ∀ b, (g b).length = sz) {l : List β} {i k : Nat} {d : β} (hi : i < l.length) {u : Value} (hc : (g (l.getD i d))[k]? = some u) : (l.flatMap g)[i * sz + k]? = some u := by
  have hk : k < sz := by rw [← hg (l.getD i d)]; exact (List.getElem?_eq_some_iff.1 hc).1
  rw [flatMap_at hg l i k (l.getD i d) (by rw [List.getD, List.getElem?_eq_getElem hi]; rfl) hk]; exact hc
variable {w : World} {v : Value} {q : Nat} {l : List β}
theorem flat_len (hg : ∀ b, (g b).length = sz) (hs : 0 < sz) (h : (l.flatMap g).length = q * sz) : l.length = q := by
  rw [flatMap_len hg] at h; exact Nat.eq_of_mul_eq_mul_right hs h
theorem Arr.flatLen (hA : Arr w v sz q (l.flatMap g)) (hg : ∀ b, (g b).length = sz) (hs : 0 < sz) : l.length = q := flat_len hg hs hA.len
theorem Arr.atF {i k : Nat} {u : Value} (hA : Arr w v sz q (l.flatMap g)) (hg : ∀ b, (g b).length = sz) (hs : 0 < sz) (d : β) (hi : i < q) (hc : (g (l.getD i d))[k]? = some u) : w.cell? (sp v (i * sz + k)) = some u :=
  hA.at (flatMap_cell hg (by rw [hA.flatLen hg hs]; exact hi) hc)
theorem Arr.atsF {i : Nat} (hA : Arr w v sz q (l.flatMap g)) (hg : ∀ b, (g b).length = sz) (hs : 0 < sz) (d : β) (hi : i < q) : ∀ j u, (g (l.getD i d))[j]? = some u → w.cell? ⟨sBlk v, sOff v + i * sz + j, none⟩ = some u :=
  hA.ats (by rw [hg]; exact flatMap_piece hg l i d (by rw [hA.flatLen hg hs]; exact hi))
theorem one_flat (h : ∀ a, ∀ c ∈ g a, c.oneCell' = true) {l : List β} : ∀ c ∈ l.flatMap g, c.oneCell' = true := fun c hc => by
  obtain ⟨a, _, ha⟩ := List.mem_flatMap.1 hc
  exact h a c ha
end
section
variable {P : Program} {n : Nat} {D : List Deferred} {ρ : Env} {w w0 : World} {R : Value → World → Prop} {dst : Option Tmp} {ty : TypeId} {pos : String} {af : Array Edge} {gd : Option (Nat × Bool)}
variable {S : List Nat} {L : List Ent} {i : Nat} {t t' T T' : TypeId} {x y : Operand} {z : List Value} {sz by_ : Nat} {d : TypeDesc}
theorem op_appendF {α : Type} {f : α → List Value} {l l' : List α} {v u : Value} {q m : Nat} (H : Own S w0 w L) (hu : P.underlying T = some (.slice t)) (hz : tiB P t = some (z, sz, by_)) (hzl : z.length = sz) (hx : ev ρ x = some v) (hy : ev ρ y = some u)
    (hi : L[i]? = some (Ent.row v t sz q (l.flatMap f))) (hs : Src P w T' sz u m (l'.flatMap f)) (h1 : ∀ c ∈ l'.flatMap f, c.oneCell' = true) (h63 : q + m ≤ 9223372036854775807) (hby : (q + m) * by_ ≤ 140737488355328)
    (h : ∀ v' w', Own S w0 w' (L.set i (.row v' t sz (q + m) ((l ++ l').flatMap f))) → R v' w') : Op1 P n D ⟨dst, .call { callee := .builtin .append, args := #[x, y], argTypes := #[T, T'] }, ty, pos, af, gd⟩ ρ w R :=
  op_append H hu hz hzl hx hy hi hs h1 h63 hby (fun v' w' H' => h v' w' (by rw [List.flatMap_append]; exact H'))
/-- A struct of a row, as a whole. -/
theorem op_loadSP {v : Value} {k : Nat} {vs : List Value} (hx : ev ρ x = some (.pointer (some (sp v k)))) (hc : ∀ j u, vs[j]? = some u → w.cell? ⟨sBlk v, sOff v + k + j, none⟩ = some u) (hu : P.underlying T = some d) (hs : scal d = false)
    (hz : tiB P T = some (z, sz, by_)) (hl : vs.length = sz) (h : R (.agg vs.toArray) w) : Op1 P n D ⟨dst, .load T x, ty, pos, af, gd⟩ ρ w R :=
  op_loadS (b := sBlk v) (off := sOff v + k) hx hc hu hs hz hl h
end
end Go.Owl
/-! from Owl19 -/
/- Conversions to and from 32 bits with a sign. -/
namespace Go.Owl
def w32 (x : Int) : Int := (x + 2147483648) % 4294967296 - 2147483648
section
variable {P : Program} {n : Nat} {D : List Deferred} {ρ : Env} {w : World} {R : Value → World → Prop} {dst : Option Tmp} {ty : TypeId} {pos : String} {af : Array Edge} {g : Option (Nat × Bool)}
variable {t t' : TypeId} {x y : Operand}
end
section
variable {P : Program} {n : Nat} {D : List Deferred} {ρ : Env} {w : World} {R : Value → World → Prop} {dst : Option Tmp} {ty : TypeId} {pos : String} {af : Array Edge} {g : Option (Nat × Bool)}
variable {t t' : TypeId} {x y : Operand}
end
end Go.Owl
/-! from Owl20 -/
/- Regions that draw, with a move that nothing waits for until the end. -/
namespace Go.Owl
variable {P : Program} {ops : Array Oper} {Q : Exit → Act → World → Prop}
end Go.Owl
/-! from Owl21 -/
/- Regions that draw, with a move that nothing waits for until the end: the rule. -/
namespace Go.Owl
variable {P : Program} {n : Nat} {D : List Deferred} {ρ : Env} {w w0 : World} {S : List Nat} {L : List Ent} {Q : Exit → Act → World → Prop}
end Go.Owl
/-! from Owl22 -/
/- What is left of a head behind the tail's first operation. -/
namespace Go.Owl
variable {P : Program} {n : Nat} {D : List Deferred} {ρ : Env} {w w0 : World} {S : List Nat} {L : List Ent} {Q : Exit → Act → World → Prop}
end Go.Owl
/-! from Owl23 -/
/- Regions that draw, with a late move: the rule. -/
namespace Go.Owl
variable {P : Program} {n : Nat} {D : List Deferred} {ρ : Env} {w w0 : World} {S : List Nat} {L : List Ent} {Q : Exit → Act → World → Prop}
end Go.Owl
/-! from Owl24 -/
/- Small rules: two ways by a truth. -/
namespace Go.Owl
theorem bsplit {b : Bool} {P : Prop} (h1 : b = true → P) (h2 : b = false → P) : P := by
  cases h : b
  · exact h2 h
  · exact h1 h
section
variable {P : Program} {n : Nat} {D : List Deferred} {ρ : Env} {w : World} {R : Value → World → Prop} {dst : Option Tmp} {ty : TypeId} {pos : String} {af : Array Edge} {g : Option (Nat × Bool)} {t t' : TypeId} {x y : Operand}
end
theorem Arr.lenF {β : Type} {g : β → List Value} {w : World} {v : Value} {sz q : Nat} {l : List β} (hA : Arr w v sz q (l.flatMap g)) (hg : ∀ b, (g b).length = sz) (hs : 0 < sz) : Arr w v sz l.length (l.flatMap g) := by
  have h := hA.len
  rw [flatMap_len hg] at h
  have e : l.length = q := Nat.eq_of_mul_eq_mul_right hs h
  rw [e]; exact hA
end Go.Owl
/-! from Owl25 -/
/- Regions that draw, step by step: moves ahead of time, one operation that all others wait for, and the rest in any order. -/
namespace Go.Owl
section
variable {P : Program} {n : Nat} {D : List Deferred} {ρ : Env} {w w0 : World} {S : List Nat} {L : List Ent} {ops : Array Oper} {Q : Exit → Act → World → Prop}

/-- Only a normal end counts. -/
def Nrm (Q : Exit → Act → World → Prop) : Exit → Act → World → Prop := fun e a w => e = .normal ∧ Q .normal a w
theorem letsOut_nrm (h : LetsOut (Nrm Q)) : False := by
  obtain ⟨_, _, h, _⟩ := h; cases h
theorem wp_nrm {o : Oper} {a : Act} {w : World} {K : Act → World → Prop} (h : o.wp P a w K (Nrm Q)) : o.wp P a w K Q := by
  unfold Oper.wp at *
  generalize (execOp a.eval o).run P w = r at *
  cases r with
  | ok x w' =>
    cases x <;> simp only [Oper.upon] at h ⊢ <;> first
      | exact h
      | exact Calls.mono h (fun e w'' he => by
          cases e with
          | returned v => exact he
          | panicked c => exact absurd he.1 (by intro h; cases h)
          | outgrown => exact (letsOut_nrm he).elim)
  | halt x w' =>
    cases x <;> simp only [Oper.upon] at h ⊢ <;> first
      | exact h
      | exact absurd h.1 (by intro h; cases h)
theorem wpOp_nrm {i : Nat} {a : Act} {w : World} {K : Act → World → Prop} (h : wpOp P ops (Nrm Q) i K a w) : wpOp P ops Q i K a w := by
  unfold wpOp at *
  cases ho : ops[i]? with
  | none => simp only [ho] at h ⊢; exact h
  | some o =>
    simp only [ho] at h ⊢
    split
    · rename_i hw
      rw [if_pos hw] at h
      rcases h with h | ⟨_, h⟩
      · exact .inl (wp_nrm h)
      · exact (letsOut_nrm h).elim
    · rename_i hw
      rw [if_neg hw] at h; exact h
theorem wpAny_nrm : ∀ (fuel : Nat) (listed : Array Bool) (a : Act) (w : World), wpAny P .any ops (Nrm Q) fuel listed a w → wpAny P .any ops Q fuel listed a w
  | 0, _, _, _, h => ⟨h.1, h.2.2⟩
  | fuel + 1, _, _, _, h => ⟨fun hr => (h.1 hr).2, fun i hi => wpOp_nrm (wpOp_mono (fun a w h => wpAny_nrm fuel _ a w h) (h.2 i hi))⟩
/-- In the midst of a region that draws: what is listed was run. -/
def WD (P : Program) (n : Nat) (D : List Deferred) (ops : Array Oper) (Q : Exit → Act → World → Prop) (fuel : Nat) (listed : Array Bool) (ρ : Env) (w : World) : Prop :=
  ∀ a, Agr n D ρ a → wpAny P .any ops (Nrm Q) fuel listed a w
theorem WC.drawn {id : Nat} {l : List Oper} (N : Nat) (hN : l.length = N) (hm : P.follows .mixedOrders = true) (H : Own S w0 w L) (h : ∀ w1, Own S w0 w1 L → WD P n D l.toArray Q N (Array.replicate N false) ρ w1) : WC P n D (.region id l.toArray true) Q ρ w := by
  subst hN
  exact fun a ha => wp_region_any hm (wpAny_nrm _ _ _ _ (by have h1 := h w.drew (H.fr' (Fr.drew w)) a ha; rw [show l.length = l.toArray.size from (List.size_toArray ..).symm] at h1; exact h1))
def chkEarly (ops : Array Oper) (listed : Array Bool) (i : Nat) : Bool := Region.noSelect ops && Region.free .any ops listed i && (Region.ready .any ops listed).contains i
/-- A move ahead of time. -/
theorem WD.early {i fuel : Nat} {oi : Oper} {x : Operand} {v : Value} {listed : Array Bool} (hi : ops[i]? = some oi) (hop : oi.op = .move x) (hg : oi.guard = none) (hd : dOK n oi.dst = true) (hx : ev ρ x = some v)
    (hc : chkEarly ops listed i = true) (h : WD P n D ops Q fuel (listed.setIfInBounds i true) (ext ρ oi.dst v) w) : WD P n D ops Q (fuel + 1) listed ρ w := by
  intro a ha
  unfold chkEarly at hc
  simp only [Bool.and_eq_true] at hc
  refine wpAny_take hi hc.1.1 hc.1.2 hc.2 (fun c a w h => absurd h.1 (by intro h; cases h)) (.inl ⟨by simp [Region.wanted, hg], fun w => ?_⟩) (h _ (ha.put hd v))
  obtain ⟨dst, op, ty, pos, af, g⟩ := oi
  simp only at hop
  subst hop
  simp [execOp, ha.ev hx]
/-- One operation that all others wait for. -/
theorem WD.op {i fuel : Nat} {oi : Oper} {listed : Array Bool} (hi : ops[i]? = some oi) (hg : oi.guard = none) (hd : dOK n oi.dst = true) (hr : Region.ready .any ops listed = [i])
    (h : Op1 P n D oi ρ w (fun v w' => WD P n D ops Q fuel (listed.setIfInBounds i true) (ext ρ oi.dst v) w')) : WD P n D ops Q (fuel + 1) listed ρ w := by
  intro a ha
  refine ⟨fun h => (by rw [hr] at h; cases h), fun j hj => ?_⟩
  rw [hr] at hj
  have hji : j = i := by simpa using hj
  subst hji
  refine wpOp_of hi ?_
  rw [if_pos (by simp [Region.wanted, hg])]
  exact (h a ha).wp fun v w' hR => hR _ (ha.put hd v)
theorem WD.done {fuel : Nat} {listed : Array Bool} (hr : Region.ready .any ops listed = []) (h : WQ n D Q .normal ρ w) : WD P n D ops Q fuel listed ρ w :=
  fun a ha => wpAny_done hr ⟨rfl, h a ha⟩ fuel

def oldAt (ρ : Env) : Option Tmp → Value → Prop
  | none, _ => True
  | some d, v => Env.get ρ d = some v
def OldOK (ρ : Env) : List Oper → List Sp → Prop
  | o :: l, .det v _ :: sp => oldAt ρ o.dst v ∧ OldOK ρ l sp
  | _ :: _, .flt _ _ :: _ => False
  | _, _ => True
theorem OldOK.at : ∀ (l : List Oper) (sp : List Sp), OldOK ρ l sp → ∀ (i : Nat) (o : Oper) (v : Value) (dp : Option Nat), l[i]? = some o → sp[i]? = some (.det v dp) → oldAt ρ o.dst v
  | o :: l, .det v dp :: sp, h, 0, o', v', dp', h1, h2 => by simp at h1 h2; obtain ⟨rfl, rfl⟩ := h2; subst h1; exact h.1
  | o :: l, .det v dp :: sp, h, i + 1, o', v', dp', h1, h2 => OldOK.at l sp h.2 i o' v' dp' (by simpa using h1) (by simpa using h2)
  | _ :: _, .flt _ _ :: _, h, _, _, _, _, _, _ => h.elim
  | [], _, _, _, _, _, _, h1, _ => by simp at h1
  | _ :: _, [], _, _, _, _, _, _, h2 => by simp at h2
def chkLast (ops : Array Oper) (n : Nat) (fl : List (Bool × Option Nat)) (listed : Array Bool) (k0 fuel : Nat) : Bool :=
  Nat.beq listed.size ops.size && (List.range ops.size).all (chkOp ops n fl ops.size) &&
  (List.range ops.size).all (fun i => if Nat.blt i k0 then listed.getD i false && (fl.getD i (true, none) == (false, some i)) else !listed.getD i true && !((fl.getD i (true, none)).2 == some i)) && Nat.beq (undone ops.size listed) fuel
/-- What is left comes in any order. -/
theorem WD.last {l : List Oper} {sp : List Sp} {listed : Array Bool} {fuel : Nat} (k0 : Nat) (H : Own S w0 w L) (h : HW P n D l.toArray S w0 L 0 [] l sp ρ) (hchk : chkLast l.toArray n (sp.map Sp.mark) listed k0 fuel = true)
    (hold : OldOK ρ (l.take k0) (sp.take k0)) (tail : ∀ (β : Nat → Fp) w1, Own S w0 w1 (L ++ fents sp β 0) → WQ n D Q .normal (fenv l sp β 0 (dets l sp ρ)) w1) : WD P n D l.toArray Q fuel listed ρ w := by
  intro a ha
  unfold chkLast at hchk
  simp only [Bool.and_eq_true] at hchk
  obtain ⟨⟨⟨hsz, hall⟩, hlst⟩, hfuel⟩ := hchk
  have hsz := Nat.eq_of_beq_eq_true hsz
  have hfuel := Nat.eq_of_beq_eq_true hfuel
  have hch : ∀ i, i < l.toArray.size → chkOp l.toArray n (sp.map Sp.mark) l.toArray.size i = true := fun i hi => allRange hall hi
  have hbig : ∀ t v, Env.get ρ t = some v → n ≤ t → v = undef := fun t v hv hn => by
    have := ha.get t v hv
    rw [← this]
    have : a.tmps.size ≤ t := by rw [ha.size]; exact hn
    simp [Array.getElem?_eq_none this]
  have hlen := h.len
  have hls : l.toArray.size = l.length := by simp
  have htk : l.take l.toArray.size = l := by simp
  -- what is listed at first
  have hin : ∀ i, i < l.toArray.size → listed.getD i false = true → i < k0 ∧ (sp.map Sp.mark).getD i (true, none) = (false, some i) := fun i hi hl => by
    have h1 := allRange hlst hi
    cases hb : Nat.blt i k0 with
    | true => simp only [hb, if_true, Bool.and_eq_true, beq_iff_eq] at h1; exact ⟨by rw [Nat.blt_eq] at hb; exact hb, h1.2⟩
    | false =>
      simp only [hb, Bool.false_eq_true, if_false, Bool.and_eq_true, Bool.not_eq_true'] at h1
      rw [getD_both h1.1] at hl; cases hl
  have hout : ∀ i, i < l.toArray.size → i < k0 → listed.getD i false = true := fun i hi hk => by
    have h1 := allRange hlst hi
    rw [if_pos (by rw [Nat.blt_eq]; exact hk)] at h1
    simp only [Bool.and_eq_true] at h1
    exact h1.1
  have hmk : ∀ i (s : Sp), sp[i]? = some s → (sp.map Sp.mark).getD i (true, none) = s.mark := fun i s hs => by simp [List.getD, hs]
  have M0 : Mid P n D l.toArray S w0 L l.toArray.size sp ρ listed (fun _ => (0, undef)) [] a w := by
    refine ⟨ha.size, ha.defers, ⟨hsz, fun j oj hj hl e he hb => ?_, fun t h1 h2 => absurd h2 (by omega)⟩, by simpa using H, by simp, fun i => ?_, fun i o s d hi hl ho hs hd => ?_, fun t v hv _ => ha.get t v hv, fun i v hi hs => ?_⟩
    · have hjs := (Array.getElem?_eq_some_iff.1 hj).1
      have hc := hch j hjs
      unfold chkOp at hc
      rw [hj] at hc
      simp only [Bool.and_eq_true] at hc
      have h1 := Array.all_eq_true'.1 hc.1.2 e he
      rw [hb] at h1
      have h2 : e.on < j := by simpa [Nat.blt_eq] using h1
      exact hout _ (by omega) (by have := (hin j hjs hl).1; omega)
    · constructor
      · intro h; cases h
      · rintro ⟨hi, hl, hF⟩
        have h1 := (hin i hi hl).2
        cases hs : sp[i]? with
        | none => rw [hs] at hF; cases hF
        | some s =>
          rw [hmk i s hs] at h1
          rw [hs] at hF
          have h2 : s.isF = true := by simpa using hF
          have h3 := congrArg Prod.fst h1
          rw [show s.mark.1 = s.isF from rfl, h2] at h3; cases h3
    · obtain ⟨hik, hm⟩ := hin i hi hl
      rw [hmk i s hs] at hm
      cases s with
      | flt m e => cases (congrArg Prod.fst hm)
      | det v dp =>
        have h1 := OldOK.at _ _ hold i o v dp (by rw [List.getElem?_take, if_pos hik]; simpa using ho) (by rw [List.getElem?_take, if_pos hik]; exact hs)
        rw [hd] at h1
        exact ha.get d v h1
    · rcases Nat.lt_or_ge i k0 with hk | hk
      · exact hout i hi hk
      · have h1 := allRange hlst hi
        rw [if_neg (by rw [Nat.blt_eq]; omega)] at h1
        simp only [Bool.and_eq_true] at h1
        rw [hmk i _ hs] at h1
        simp [Sp.mark, Sp.dep] at h1
  have main : ∀ f listed β Fl a' w1, undone l.toArray.size listed = f → Mid P n D l.toArray S w0 L l.toArray.size sp ρ listed β Fl a' w1 → wpAny P .any l.toArray (Nrm Q) f listed a' w1 := by
    intro f
    induction f with
    | zero =>
      intro listed β Fl a' w1 hf M
      have hdone := undone_zero hf
      refine ⟨?_, rfl, ?_⟩
      · cases hr : Region.ready .any l.toArray listed with
        | nil => rfl
        | cons i t =>
          have hi : i ∈ Region.ready .any l.toArray listed := by rw [hr]; simp
          obtain ⟨hun, o, ho, _⟩ := mem_ready.1 hi
          have := hdone i (Array.getElem?_eq_some_iff.1 ho).1
          rw [getD_both hun] at this; cases this
      · have hO : Own S w0 w1 (L ++ fents sp β 0) := by
          rw [fents_eq β sp sp 0 (fun j => by simp)]
          refine M.heap.perm M.nodup (fidx_nodup sp 0) (fun i hi => ?_)
          have h1 := (fidx_mem sp 0 i).1 hi
          simp only [Nat.sub_zero] at h1
          have hik : i < l.toArray.size := by
            rcases Nat.lt_or_ge i l.toArray.size with h | h
            · exact h
            · rw [List.getElem?_eq_none (by omega)] at h1; cases h1.2
          exact (M.mem i).2 ⟨hik, hdone i hik, h1.2⟩
        refine tail β w1 hO a' ⟨M.size, M.defers, fun t v hv => ?_⟩
        have hop : ∀ (j : Nat) (o : Oper), l[j]? = some o → j < l.toArray.size ∧ l.toArray[j]? = some o := fun j o hj =>
          ⟨by rw [hls]; exact (List.getElem?_eq_some_iff.1 hj).1, by simpa using hj⟩
        rcases fenv_get β _ sp 0 _ t v hv with ⟨j, o, m, e, h1, h2, h3, h4⟩ | ⟨hv, hnf⟩
        · obtain ⟨hjk, ho⟩ := hop j o h1
          rw [M.done j o _ t hjk (hdone j hjk) ho h2 h3, h4]
          simp [Sp.val]
        · rcases dets_get _ sp ρ t v hv with ⟨j, o, dp, h1, h2, h3⟩ | ⟨h1, h2⟩
          · obtain ⟨hjk, ho⟩ := hop j o h1
            rw [M.done j o _ t hjk (hdone j hjk) ho h2 h3]; rfl
          · by_cases hex : ∃ (j : Nat) (o : Oper), j < l.toArray.size ∧ l.toArray[j]? = some o ∧ o.dst = some t
            · obtain ⟨j, o, hjk, ho, hd⟩ := hex
              obtain ⟨s, hs⟩ : ∃ s, sp[j]? = some s := ⟨sp[j]'(by omega), by simp [show j < sp.length by omega]⟩
              cases s with
              | det u dp => exact absurd hd (h2 j o u dp (by simpa using ho) hs)
              | flt m e => exact absurd hd (hnf j o m e (by simpa using ho) hs)
            · exact M.rest t v h1 (fun j o hj _ ho hd => hex ⟨j, o, hj, ho, hd⟩)
    | succ f ih =>
      intro listed β Fl a' w1 hf M
      obtain ⟨i0, hi0, hl0⟩ : ∃ i, i < l.toArray.size ∧ listed.getD i false = false := by
        rcases Classical.em (∃ i, i < l.toArray.size ∧ listed.getD i false = false) with h | h
        · exact h
        · exfalso
          have : undone l.toArray.size listed = 0 := by
            unfold undone
            refine List.countP_eq_zero.2 fun i hi => ?_
            have hi' := List.mem_range.1 hi
            cases hb : listed.getD i false with
            | true => simp
            | false => exact absurd ⟨i, hi', hb⟩ h
          omega
      obtain ⟨j0, hj0, hr0⟩ := some_ready (n := n) M.inv.size (Nat.le_refl _) hch i0 hi0 hl0
      refine ⟨fun h => (by rw [h] at hr0; cases hr0), fun i hi => ?_⟩
      obtain ⟨hun, o, ho, _⟩ := mem_ready.1 hi
      have hik := (Array.getElem?_eq_some_iff.1 ho).1
      refine M.step rfl (by rw [htk]; exact h) hch (Nat.le_refl _) hbig hi hik (fun β' Fl' a'' w2 M' => ih _ β' Fl' a'' w2 ?_ M')
      have := undone_set hik hun
      omega
  exact main _ _ _ _ _ _ hfuel M0
end
end Go.Owl
/-! from Owl26 -/
/- Regions that draw: a state for each set of operations that were run. -/
namespace Go.Owl
section
variable {P : Program} {n : Nat} {D : List Deferred} {ρ ρ' : Env} {w w0 : World} {S : List Nat} {L : List Ent} {ops : Array Oper} {Q : Exit → Act → World → Prop} {fuel : Nat} {listed : Array Bool}
theorem WD.named (h : ∀ W : Nat → Array Bool → Env → World → Prop, W = WD P n D ops Q → W fuel listed ρ w) : WD P n D ops Q fuel listed ρ w := h _ rfl
theorem WD.cov (hc : Cov ρ ρ') (h : WD P n D ops Q fuel listed ρ' w) : WD P n D ops Q fuel listed ρ w := fun a ha => h a (ha.cov hc)
/-- One operation of those that may come next. -/
def WS (P : Program) (n : Nat) (D : List Deferred) (ops : Array Oper) (Q : Exit → Act → World → Prop) (i fuel : Nat) (listed : Array Bool) (ρ : Env) (w : World) : Prop :=
  ∀ a, Agr n D ρ a → wpOp P ops (Nrm Q) i (wpAny P .any ops (Nrm Q) fuel (listed.setIfInBounds i true)) a w
theorem WS.op {i : Nat} {oi : Oper} (hi : ops[i]? = some oi) (hg : oi.guard = none) (hd : dOK n oi.dst = true)
    (h : Op1 P n D oi ρ w (fun v w' => WD P n D ops Q fuel (listed.setIfInBounds i true) (ext ρ oi.dst v) w')) : WS P n D ops Q i fuel listed ρ w := by
  intro a ha
  refine wpOp_of hi ?_
  rw [if_pos (by simp [Region.wanted, hg])]
  exact (h a ha).wp fun v w' hR => hR _ (ha.put hd v)
theorem WD.all {rs : List Nat} (hr : Region.ready .any ops listed = rs) (hne : rs ≠ []) (h : ∀ i, i ∈ rs → WS P n D ops Q i fuel listed ρ w) : WD P n D ops Q (fuel + 1) listed ρ w := by
  subst hr
  exact fun a ha => ⟨fun h0 => absurd h0 hne, fun i hi => h i hi a ha⟩
theorem WD.all1 {i : Nat} (hr : Region.ready .any ops listed = [i]) (h : WS P n D ops Q i fuel listed ρ w) : WD P n D ops Q (fuel + 1) listed ρ w :=
  WD.all hr (by simp) fun k hk => by
    rcases List.mem_singleton.1 hk with rfl; exact h
theorem WD.all2 {i j : Nat} (hr : Region.ready .any ops listed = [i, j]) (h : WS P n D ops Q i fuel listed ρ w) (h2 : WS P n D ops Q j fuel listed ρ w) : WD P n D ops Q (fuel + 1) listed ρ w :=
  WD.all hr (by simp) fun k hk => by
    rcases List.mem_cons.1 hk with rfl | hk
    · exact h
    · rcases List.mem_singleton.1 hk with rfl; exact h2
theorem WD.all3 {i j m : Nat} (hr : Region.ready .any ops listed = [i, j, m]) (h : WS P n D ops Q i fuel listed ρ w) (h2 : WS P n D ops Q j fuel listed ρ w) (h3 : WS P n D ops Q m fuel listed ρ w) : WD P n D ops Q (fuel + 1) listed ρ w :=
  WD.all hr (by simp) fun k hk => by
    rcases List.mem_cons.1 hk with rfl | hk
    · exact h
    · rcases List.mem_cons.1 hk with rfl | hk
      · exact h2
      · rcases List.mem_singleton.1 hk with rfl; exact h3
end
end Go.Owl
