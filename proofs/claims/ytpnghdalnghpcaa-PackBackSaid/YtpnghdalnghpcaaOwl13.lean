/- A callee that changes what its caller owns: any number of things; what stays. -/
import Derived.Test.YtpnghdalnghpcaaOwl12
namespace Go.Owl
variable {S T : List Nat} {w0 w w1 : World} {L E F N : List Ent} {I : List Nat}

def picks (L : List Ent) : List Nat → Option (List Ent)
  | [] => some []
  | i :: I => match L[i]?, picks L I with
    | some e, some l => some (e :: l)
    | _, _ => none
def puts (L : List Ent) : List Nat → List Ent → List Ent
  | i :: I, e :: E => puts (L.set i e) I E
  | _, _ => L
def blks (E : List Ent) : List Nat := E.filterMap Ent.block
def nodupB : List Nat → Bool
  | [] => true
  | i :: I => !(I.any (Nat.beq i)) && nodupB I

theorem picks_get : ∀ {I : List Nat} {E : List Ent}, picks L I = some E → E.length = I.length ∧ ∀ (m i : Nat), I[m]? = some i → ∃ e, E[m]? = some e ∧ L[i]? = some e
  | [], E, h => by simp [picks] at h; subst h; simp
  | i :: I, E, h => by
    simp only [picks] at h
    split at h
    · rename_i e l h1 h2
      injection h with h; subst h
      obtain ⟨hl, ih⟩ := picks_get h2
      refine ⟨by simp [hl], fun m j hm => ?_⟩
      cases m with
      | zero => simp at hm; subst hm; exact ⟨e, rfl, h1⟩
      | succ m => simpa using ih m j (by simpa using hm)
    · cases h
theorem picks_of (h : picks L I = some E) {m : Nat} {e : Ent} (hm : E[m]? = some e) : ∃ i, I[m]? = some i ∧ L[i]? = some e := by
  obtain ⟨hl, ih⟩ := picks_get h
  have hlt : m < I.length := by rw [← hl]; exact (List.getElem?_eq_some_iff.1 hm).1
  obtain ⟨e', h1, h2⟩ := ih m I[m] (by simp [hlt])
  rw [hm] at h1; injection h1 with h1; subst h1
  exact ⟨I[m], by simp [hlt], h2⟩
theorem nodup_of : ∀ {I : List Nat}, nodupB I = true → I.Nodup
  | [], _ => List.nodup_nil
  | i :: I, h => by
    simp only [nodupB, Bool.and_eq_true, Bool.not_eq_true', List.any_eq_false] at h
    refine List.nodup_cons.2 ⟨fun hm => ?_, nodup_of h.2⟩
    exact absurd (Nat.beq_refl i) (by simpa using h.1 i hm)
theorem mem_blks {b : Nat} : b ∈ blks E ↔ ∃ (m : Nat) (e : Ent), E[m]? = some e ∧ e.block = some b := by
  simp only [blks, List.mem_filterMap]
  constructor
  · rintro ⟨e, he, hb⟩
    obtain ⟨m, hm, rfl⟩ := List.getElem_of_mem he
    exact ⟨m, _, by simp [hm], hb⟩
  · rintro ⟨m, e, he, hb⟩
    exact ⟨e, List.mem_of_getElem? he, hb⟩

/-- Some of the things owned, for a callee. -/
theorem Own.part (H : Own S w0 w L) (I : List Nat) (hn : nodupB I = true) (hp : picks L I = some E) : Own (blks E) w w E := by
  have hnd := nodup_of hn
  refine ⟨Fr.refl _ _, fun k x hk => ?_, fun k l x y hk hl hkl b hb => ?_, fun k x hk b hb => .inr (mem_blks.2 ⟨k, x, hk, hb⟩)⟩
  · obtain ⟨i, _, h⟩ := picks_of hp hk
    exact H.ok i x h
  · obtain ⟨i, hi, h1⟩ := picks_of hp hk
    obtain ⟨j, hj, h2⟩ := picks_of hp hl
    refine H.sep i j x y h1 h2 (fun e => hkl ?_) b hb
    subst e
    have hk' := List.getElem?_eq_some_iff.1 hi
    have hl' := List.getElem?_eq_some_iff.1 hj
    exact (List.getElem_inj hnd).1 (hk'.2.trans hl'.2.symm)

theorem Own.blks_own (H : Own S w0 w L) (hp : picks L I = some E) {b : Nat} (hb : b ∈ blks E) : w0.heap.size ≤ b ∨ b ∈ S := by
  obtain ⟨m, e, he, hb⟩ := mem_blks.1 hb
  obtain ⟨i, _, h⟩ := picks_of hp he
  exact H.own i e h b hb

/-- What a callee may change, its caller might. -/
theorem Own.frPart (H : Own S w0 w L) (hp : picks L I = some E) (R : Fr (blks E) w w1) : Fr S w0 w1 :=
  ⟨R.os.trans H.fr.os, R.tape.trans H.fr.tape, R.output.trans H.fr.output, Nat.le_trans H.fr.size R.size, fun k hk hS =>
    have hkT : k ∉ blks E := fun hm => (H.blks_own hp hm).elim (fun h => by omega) hS
    (R.block k (Nat.lt_of_lt_of_le hk H.fr.size) hkT).trans (H.fr.block k hk hS)⟩

/-- What was not handed on stays. -/
theorem Own.stay (H : Own S w0 w L) (hp : picks L I = some E) {k : Nat} {e : Ent} (hk : L[k]? = some e) (hkI : I.any (Nat.beq k) = false) (R : Fr (blks E) w w1) : e.ok w1 := by
  refine Ent.fr (H.ok k e hk) R fun b hb hT => ?_
  obtain ⟨m, f, hm, hfb⟩ := mem_blks.1 hT
  obtain ⟨i, hi, h⟩ := picks_of hp hm
  refine H.sep i k f e h hk (fun x => ?_) b hfb hb
  exact (List.any_eq_false.1 hkI i (List.mem_of_getElem? hi)) (by rw [x]; exact Nat.beq_refl _)
theorem Own.stayR {v : Value} {t : TypeId} {sz m : Nat} {xs : List Value} (H : Own S w0 w L) (hp : picks L I = some E) {k : Nat} (hk : L[k]? = some (Ent.row v t sz m xs)) (hkI : I.any (Nat.beq k) = false) :
    ∀ w1, Fr (blks E) w w1 → Arr w1 v sz m xs := fun _ R => RowOK.arr (H.stay hp hk hkI R)

theorem puts_get : ∀ {I : List Nat} {F L : List Ent} {k : Nat} {x : Ent}, F.length = I.length → (puts L I F)[k]? = some x →
    (∃ m : Nat, I[m]? = some k ∧ F[m]? = some x) ∨ (k ∉ I ∧ L[k]? = some x)
  | [], [], L, k, x, _, h => .inr ⟨by simp, by simpa [puts] using h⟩
  | i :: I, e :: F, L, k, x, hl, h => by
    simp only [puts] at h
    rcases puts_get (by simpa using hl) h with ⟨m, h1, h2⟩ | ⟨h1, h2⟩
    · exact .inl ⟨m + 1, by simpa using h1, by simpa using h2⟩
    · rw [List.getElem?_set] at h2
      by_cases hik : i = k
      · subst hik
        rw [if_pos rfl] at h2
        split at h2
        · exact .inl ⟨0, rfl, by simpa using h2⟩
        · cases h2
      · rw [if_neg hik] at h2
        exact .inr ⟨by simp [h1, Ne.symm hik], h2⟩
  | [], _ :: _, _, _, _, hl, _ => by simp at hl
  | _ :: _, [], _, _, _, hl, _ => by simp at hl
theorem puts_length : ∀ (I : List Nat) (F L : List Ent), (puts L I F).length = L.length
  | [], _, L => by simp [puts]
  | i :: I, [], L => by simp [puts]
  | i :: I, e :: F, L => by simp [puts, puts_length I F]

/-- What a callee hands back hangs on its own, or new, or handed blocks. -/
def Fits (w : World) (E l : List Ent) : Prop := ∀ x ∈ l, ∀ b ∈ x.foot, x.block = some b ∨ w.heap.size ≤ b ∨ ∃ (k : Nat) (e : Ent), E[k]? = some e ∧ b ∈ e.foot
theorem Fits.nil : Fits w E [] := fun x hx => by cases hx
theorem Fits.cons {x : Ent} {l : List Ent} (h : ∀ b ∈ x.foot, x.block = some b ∨ w.heap.size ≤ b ∨ ∃ (k : Nat) (e : Ent), E[k]? = some e ∧ b ∈ e.foot) (k : Fits w E l) : Fits w E (x :: l) := fun y hy => by
  rcases List.mem_cons.1 hy with rfl | hy
  · exact h
  · exact k y hy
theorem Fits.solid {x : Ent} {l : List Ent} (h : x.solid) (k : Fits w E l) : Fits w E (x :: l) := k.cons (fun _ hb => .inl (Ent.foot_solid h hb))
theorem Fits.same {x : Ent} {l : List Ent} {j : Nat} (h : E[j]? = some x) (k : Fits w E l) : Fits w E (x :: l) := k.cons (fun _ hb => .inr (.inr ⟨j, x, h, hb⟩))
theorem Fits.fresh {x : Ent} {l : List Ent} (h : ∀ b ∈ x.foot, w.heap.size ≤ b) (k : Fits w E l) : Fits w E (x :: l) := k.cons (fun _ hb => .inr (.inl (h _ hb)))
/-- What a callee hands back: what it was handed, and new things. -/
theorem Own.splice (H : Own S w0 w L) (I : List Nat) (F N : List Ent) (hp : picks L I = some E) (hF : F.length = I.length) (R : Own (blks E) w w1 (F ++ N))
    (hff0 : Fits w E (F ++ N)) : Own S w0 w1 (puts L I F ++ N) := by
  have hff : ∀ (m : Nat) (x : Ent), (F ++ N)[m]? = some x → ∀ b ∈ x.foot, w.heap.size ≤ b ∨ ∃ (k : Nat) (e : Ent), E[k]? = some e ∧ b ∈ e.foot := fun m x hm b hb => by
    rcases hff0 x (List.mem_of_getElem? hm) b hb with h | h | h
    · rcases R.own m x hm b h with h | h
      · exact .inl h
      · obtain ⟨m', e, he, hb'⟩ := mem_blks.1 h
        exact .inr ⟨m', e, he, Ent.block_foot hb'⟩
    · exact .inl h
    · exact .inr h
  have key : ∀ k x, (puts L I F ++ N)[k]? = some x → (∃ m : Nat, (F ++ N)[m]? = some x ∧ (if m < I.length then I[m]? = some k else k = L.length + (m - I.length))) ∨ (k ∉ I ∧ k < L.length ∧ L[k]? = some x) := fun k x hk => by
    rcases Nat.lt_or_ge k L.length with hlt | hge
    · rw [List.getElem?_append_left (by rw [puts_length]; exact hlt)] at hk
      rcases puts_get hF hk with ⟨m, h1, h2⟩ | ⟨h1, h2⟩
      · have hm := (List.getElem?_eq_some_iff.1 h1).1
        refine .inl ⟨m, ?_, by rw [if_pos hm]; exact h1⟩
        rw [List.getElem?_append_left (by omega)]; exact h2
      · exact .inr ⟨h1, hlt, h2⟩
    · rw [List.getElem?_append_right (by rw [puts_length]; exact hge), puts_length] at hk
      refine .inl ⟨I.length + (k - L.length), ?_, ?_⟩
      · rw [List.getElem?_append_right (by omega), hF, Nat.add_sub_cancel_left]; exact hk
      · rw [if_neg (by omega)]; omega
  have inj : ∀ (m m' k l : Nat), (if m < I.length then I[m]? = some k else k = L.length + (m - I.length)) → (if m' < I.length then I[m']? = some l else l = L.length + (m' - I.length)) → k ≠ l → m ≠ m' := fun m m' k l h1 h2 hkl e => by
    subst e
    split at h1
    · rename_i h; rw [if_pos h] at h2; rw [h1] at h2; exact hkl (Option.some.inj h2)
    · rename_i h; rw [if_neg h] at h2; exact hkl (h1.trans h2.symm)
  -- a new thing against one that stayed
  have apart : ∀ (m : Nat) (x : Ent), (F ++ N)[m]? = some x → ∀ (k : Nat) (g : Ent), k ∉ I → L[k]? = some g → ∀ b, x.block = some b → b ∉ g.foot := fun m x hm k g hkI hk b hb hg => by
    rcases R.own m x hm b hb with h | h
    · have := Ent.ltF (H.ok k g hk) hg; omega
    · obtain ⟨m', e, he, hb'⟩ := mem_blks.1 h
      obtain ⟨i, hi, h⟩ := picks_of hp he
      exact H.sep i k e g h hk (fun x => hkI (x ▸ List.mem_of_getElem? hi)) b hb' hg
  have apart' : ∀ (m : Nat) (x : Ent), (F ++ N)[m]? = some x → ∀ (k : Nat) (g : Ent), k ∉ I → L[k]? = some g → ∀ b, g.block = some b → b ∉ x.foot := fun m x hm k g hkI hk b hb hg => by
    rcases hff m x hm b hg with h | ⟨m', e, he, hb'⟩
    · have := Ent.lt (H.ok k g hk) hb; omega
    · obtain ⟨i, hi, h⟩ := picks_of hp he
      exact H.sep k i g e hk h (fun x => hkI (x ▸ List.mem_of_getElem? hi)) b hb hb'
  refine ⟨H.frPart hp R.fr, fun k x hk => ?_, fun k l x y hk hl hkl b hb => ?_, fun k x hk b hb => ?_⟩
  · rcases key k x hk with ⟨m, h1, _⟩ | ⟨h1, h2, h3⟩
    · exact R.ok m x h1
    · refine Ent.fr (H.ok k x h3) R.fr fun b hxb hbT => ?_
      obtain ⟨m', e, he, hb'⟩ := mem_blks.1 hbT
      obtain ⟨i, hi, h⟩ := picks_of hp he
      exact H.sep i k e x h h3 (fun x => h1 (x ▸ List.mem_of_getElem? hi)) b hb' hxb
  · rcases key k x hk with ⟨m, h1, h2⟩ | ⟨h1, h2, h3⟩ <;> rcases key l y hl with ⟨m', h1', h2'⟩ | ⟨h1', h2', h3'⟩
    · exact R.sep m m' x y h1 h1' (inj m m' k l h2 h2' hkl) b hb
    · exact apart m x h1 l y h1' h3' b hb
    · exact apart' m' y h1' k x h1 h3 b hb
    · exact H.sep k l x y h3 h3' hkl b hb
  · rcases key k x hk with ⟨m, h1, _⟩ | ⟨_, _, h3⟩
    · rcases R.own m x h1 b hb with h | h
      · left; have := H.fr.size; omega
      · exact H.blks_own hp h
    · exact H.own k x h3 b hb
/-- Some of what is owned, in whatever order. -/
theorem Own.sel (H : Own S w0 w L) (I : List Nat) (hn : nodupB I = true) (hp : picks L I = some E) : Own S w0 w E := by
  have P := H.part I hn hp
  exact ⟨H.fr, P.ok, P.sep, fun i e hi b hb => by obtain ⟨j, _, h⟩ := picks_of hp hi; exact H.own j e h b hb⟩

/-! Things that are only read. -/
def footA (v : Value) (xs : List Value) : List Nat := if xs.isEmpty then [] else [sBlk v]
theorem Arr.stable (v : Value) (sz n : Nat) (xs : List Value) : Stable (fun w => Arr w v sz n xs) (footA v xs) where
  lt := fun w h b hb => by
    cases xs with
    | nil => simp [footA] at hb
    | cons x l =>
      simp [footA] at hb; subst hb
      have := h.cell 0 (by simp)
      exact block_lt_of_cell (a := sp v 0) (v := x) (by simpa using this)
  fr := fun T w w' hf hT h => by
    cases xs with
    | nil => exact ⟨h.form, h.len, fun j hj => by simp at hj⟩
    | cons x l => exact h.fr hf (hT _ (by simp [footA]))
def Ent.ar (v : Value) (sz n : Nat) (xs : List Value) : Ent := .ro (fun w => Arr w v sz n xs) (footA v xs) (Arr.stable v sz n xs)
theorem Own.arrO {v : Value} {sz n i : Nat} {xs : List Value} (H : Own S w0 w L) (hi : L[i]? = some (Ent.ar v sz n xs)) : Arr w v sz n xs := H.ok i _ hi
theorem Own.roO {p : World → Prop} {Ft : List Nat} {st : Stable p Ft} {i : Nat} (H : Own S w0 w L) (hi : L[i]? = some (.ro p Ft st)) : p w := H.ok i _ hi
/-- What is no longer written. -/
theorem Own.freeze {i : Nat} {v : Value} {t : TypeId} {sz n : Nat} {xs : List Value} (H : Own S w0 w L) (hi : L[i]? = some (Ent.row v t sz n xs)) : Own S w0 w (L.set i (Ent.ar v sz n xs)) := by
  refine H.upd' hi (Fr.refl [] w) (fun b hb => by cases hb) (H.row hi).arr (fun b hb => by cases hb) (fun b hb => .inl ?_)
  obtain ⟨hl, ⟨rfl, rfl⟩ | ⟨g, cap, pre, junk, rfl, hk, hr⟩⟩ := H.row hi
  · have hx : xs = [] := List.eq_nil_of_length_eq_zero (by simpa using hl)
    subst hx
    simp [Ent.ar, Ent.foot, footA] at hb
  · simp only [Ent.ar, Ent.foot, footA] at hb
    split at hb
    · cases hb
    · simpa [Ent.foot, Value.ownBlock, sBlk] using hb
/-- A second look at a thing that is only read. -/
theorem Own.dup {p : World → Prop} {Ft : List Nat} {st : Stable p Ft} {i : Nat} (H : Own S w0 w L) (hi : L[i]? = some (.ro p Ft st)) : Own S w0 w (L ++ [.ro p Ft st]) :=
  H.new' (Fr.refl _ _) (H.ok i _ hi) (fun b hb => by cases hb) (fun b hb j f hj hfb => by
    have hne : j ≠ i := fun e => by subst e; rw [hi] at hj; injection hj with hj; subst hj; cases hfb
    exact H.sep j i f _ hj hi hne b hfb hb)
/-- A second look at part of it, or at what hangs on no other blocks. -/
theorem Own.view {p q : World → Prop} {Ft Gt : List Nat} {st : Stable p Ft} {st' : Stable q Gt} {i : Nat} (H : Own S w0 w L) (hi : L[i]? = some (.ro p Ft st)) (hq : q w) (hs : ∀ b ∈ Gt, b ∈ Ft) : Own S w0 w (L ++ [.ro q Gt st']) :=
  H.new' (Fr.refl _ _) hq (fun b hb => by cases hb) (fun b hb j f hj hfb => by
    have hne : j ≠ i := fun e => by subst e; rw [hi] at hj; injection hj with hj; subst hj; cases hfb
    exact H.sep j i f _ hj hi hne b hfb (hs b hb))
/-- What was there at the start. -/
theorem Own.old {p : World → Prop} {Ft : List Nat} (st : Stable p Ft) (H : Own [] w0 w L) (h0 : p w0) : Own [] w0 w (L ++ [.ro p Ft st]) :=
  H.new' (Fr.refl _ _) (st.fr [] _ _ H.fr (fun _ _ => by simp) h0) (fun b hb => by cases hb) (fun b hb j f hj hfb => by
    have h1 := st.lt _ h0 b hb
    rcases H.own j f hj b hfb with h | h
    · omega
    · cases h)
/-- A callee that only looks. -/
theorem Own.splice0 (H : Own S w0 w L) (N : List Ent) (R : Own [] w w1 N) (hff : Fits w [] N) : Own S w0 w1 (L ++ N) := H.splice [] [] N rfl rfl R hff
theorem Arr.cutM {α : Type} {f : α → Value} {l : List α} {v : Value} {q : Nat} (hA : Arr w v 1 q (l.map f)) {a b : Nat} (hab : a ≤ b) (hb : b ≤ q) : Arr w (cutV v a b 1) 1 (b - a) (((l.drop a).take (b - a)).map f) := by
  rw [← cutL_map]; exact hA.cut hab hb
theorem Own.cutM {α : Type} {f : α → Value} {l : List α} {v : Value} {q i : Nat} {t : TypeId} (H : Own S w0 w L) (hi : L[i]? = some (Ent.row v t 1 q (l.map f))) {a b : Nat} (hab : a ≤ b) (hb : b ≤ q) :
    Own S w0 w (L.set i (.row (cutV v a b 1) t 1 (b - a) (((l.drop a).take (b - a)).map f))) := by
  rw [← cutL_map]; exact H.cut hi hab hb
theorem Arr.mapLen {α : Type} {f : α → Value} {l : List α} {v : Value} {q : Nat} (hA : Arr w v 1 q (l.map f)) : l.length = q := by simpa using hA.len
theorem Arr.cutLoM {α : Type} {f : α → Value} {l : List α} {v : Value} {q : Nat} (hA : Arr w v 1 q (l.map f)) {a : Nat} (hab : a ≤ q) : Arr w (cutV v a q 1) 1 (q - a) ((l.drop a).map f) := by
  have h := hA.cutM hab (Nat.le_refl q)
  rwa [List.take_of_length_le (by rw [List.length_drop, hA.mapLen]; exact Nat.le_refl _)] at h
theorem Arr.cutHiM {α : Type} {f : α → Value} {l : List α} {v : Value} {q : Nat} (hA : Arr w v 1 q (l.map f)) {b : Nat} (hb : b ≤ q) : Arr w (cutV v 0 b 1) 1 b ((l.take b).map f) := hA.cutM (Nat.zero_le b) hb
theorem Own.cutLoM {α : Type} {f : α → Value} {l : List α} {v : Value} {q i : Nat} {t : TypeId} (H : Own S w0 w L) (hi : L[i]? = some (Ent.row v t 1 q (l.map f))) {a : Nat} (hab : a ≤ q) :
    Own S w0 w (L.set i (.row (cutV v a q 1) t 1 (q - a) ((l.drop a).map f))) := by
  have h := H.cutM hi hab (Nat.le_refl q)
  rwa [List.take_of_length_le (by rw [List.length_drop, (H.arrR hi).mapLen]; exact Nat.le_refl _)] at h
theorem Own.cutHiM {α : Type} {f : α → Value} {l : List α} {v : Value} {q i : Nat} {t : TypeId} (H : Own S w0 w L) (hi : L[i]? = some (Ent.row v t 1 q (l.map f))) {b : Nat} (hb : b ≤ q) :
    Own S w0 w (L.set i (.row (cutV v 0 b 1) t 1 b ((l.take b).map f))) := H.cutM hi (Nat.zero_le b) hb
theorem Arr.one {v : Value} {sz m : Nat} {xs : List Value} (h : Arr w v sz m xs) : v.oneCell' = true := by
  obtain ⟨a, cap, rfl, _⟩ := h.form
  rfl
theorem Own.oneR {v : Value} {t : TypeId} {sz m i : Nat} {xs : List Value} (H : Own S w0 w L) (hi : L[i]? = some (Ent.row v t sz m xs)) : v.oneCell' = true := (H.row hi).arr.one
theorem one_nil : ([] : List Value).all (·.oneCell') = true := rfl
theorem one_cons {v : Value} {l : List Value} (h : v.oneCell' = true) (k : l.all (·.oneCell') = true) : (v :: l).all (·.oneCell') = true := by simp only [List.all_cons, h, k, Bool.and_self]
end Go.Owl
