/- General lemmas and walks: Owl37, Owl38, Owl31, Owl32, Owl39, Owl40, Owl41. No condition but what each theorem names. -/
import Derived.Test.YtbjhccnffacbcaaQ355cdda6
import Derived.Maps.RangeRun
import Derived.OrdersHeld
/-! from Owl37 -/
/- Many blocks of one kind, as one thing that is owned. -/
namespace Go.Owl
section
variable {α : Type} {S : List Nat} {w0 w w1 : World} {L : List Ent} {i j : Nat} {t : TypeId} {f : α → List Value} {bl : α → Nat} {l : List α}
/-- Each has its block. -/
def BsOK (t : TypeId) (f : α → List Value) (bl : α → Nat) (l : List α) (w : World) : Prop := (l.map bl).Nodup ∧ ∀ a ∈ l, Blk w (bl a) (f a) t
theorem BsOK.st (t : TypeId) (f : α → List Value) (bl : α → Nat) (l : List α) : Stable (BsOK t f bl l) (l.map bl) where
  lt := fun w h b hb => by
    obtain ⟨a, ha, rfl⟩ := List.mem_map.1 hb
    exact (h.2 a ha).lt
  fr := fun T w w' hf hT h => ⟨h.1, fun a ha => (h.2 a ha).fr hf (hT _ (List.mem_map.2 ⟨a, ha, rfl⟩))⟩
def Ent.bs (t : TypeId) (f : α → List Value) (bl : α → Nat) (l : List α) : Ent := .grp (BsOK t f bl l) (l.map bl) (BsOK.st t f bl l)
/-- The same, only read. -/
def Ent.bsO (t : TypeId) (f : α → List Value) (bl : α → Nat) (l : List α) : Ent := .ro (BsOK t f bl l) (l.map bl) (BsOK.st t f bl l)
theorem Own.bsG (H : Own S w0 w L) (hi : L[i]? = some (Ent.bs t f bl l)) : BsOK t f bl l w := H.ok i _ hi
theorem Own.bsR (H : Own S w0 w L) (hi : L[i]? = some (Ent.bsO t f bl l)) : BsOK t f bl l w := H.ok i _ hi
theorem BsOK.cell (h : BsOK t f bl l w) {a : α} (ha : a ∈ l) {k : Nat} {v : Value} (hv : (f a)[k]? = some v) : w.cell? ⟨bl a, k, none⟩ = some v := by
  rw [(h.2 a ha).cell]; exact hv
theorem BsOK.nil : BsOK t f bl [] w := ⟨List.nodup_nil, fun a h => by cases h⟩
theorem Own.bsNil (H : Own S w0 w L) (t : TypeId) (f : α → List Value) (bl : α → Nat) : Own S w0 w (L ++ [Ent.bs t f bl []]) :=
  H.new (Fr.refl _ _) BsOK.nil (fun b hb => by cases hb)
theorem Own.bsOld (H : Own [] w0 w L) (h : BsOK t f bl l w0) : Own [] w0 w (L ++ [Ent.bsO t f bl l]) := H.old (BsOK.st t f bl l) h

/-- Nothing. -/
def Ent.nul : Ent := .ro (fun _ => True) [] ⟨fun _ _ _ h => (by cases h), fun _ _ _ _ _ _ => True.intro⟩
/-- Entries that hang on the blocks of one, in its place: one stays there, others stand behind. -/
theorem Own.regroup {e e1 e2 : Ent} (H : Own S w0 w L) (hi : L[i]? = some e) (h1 : e1.ok w) (h2 : e2.ok w) (o1 : ∀ b, e1.Owns b → e.Owns b) (o2 : ∀ b, e2.Owns b → e.Owns b) (f1 : ∀ b ∈ e1.foot, b ∈ e.foot) (f2 : ∀ b ∈ e2.foot, b ∈ e.foot)
    (s1 : ∀ b, e1.Owns b → b ∉ e2.foot) (s2 : ∀ b, e2.Owns b → b ∉ e1.foot) : Own S w0 w (L.set i e1 ++ [e2]) := by
  have hlt := (List.getElem?_eq_some_iff.1 hi).1
  have key : ∀ k x, (L.set i e1 ++ [e2])[k]? = some x → (k = i ∧ x = e1) ∨ (k = L.length ∧ x = e2) ∨ (k ≠ i ∧ k < L.length ∧ L[k]? = some x) := fun k x hk => by
    rcases Nat.lt_or_ge k L.length with h | h
    · rw [List.getElem?_append_left (by rw [List.length_set]; exact h), List.getElem?_set] at hk
      by_cases hik : i = k
      · subst hik; simp [hlt] at hk; exact .inl ⟨rfl, hk.symm⟩
      · rw [if_neg hik] at hk; exact .inr (.inr ⟨fun e => hik e.symm, h, hk⟩)
    · rw [List.getElem?_append_right (by rw [List.length_set]; exact h), List.length_set] at hk
      have h0 := (List.getElem?_eq_some_iff.1 hk).1
      simp only [List.length_cons, List.length_nil] at h0
      rw [show k - L.length = 0 by omega] at hk
      exact .inr (.inl ⟨by omega, (Option.some.inj hk).symm⟩)
  refine ⟨H.fr, fun k x hk => ?_, fun k m x y hk hm hkm b hb => ?_, fun k x hk b hb => ?_⟩
  · rcases key k x hk with ⟨_, rfl⟩ | ⟨_, rfl⟩ | ⟨_, _, h⟩
    · exact h1
    · exact h2
    · exact H.ok k x h
  · rcases key k x hk with ⟨rfl, rfl⟩ | ⟨rfl, rfl⟩ | ⟨hk1, hk2, hk3⟩ <;> rcases key m y hm with ⟨rfl, rfl⟩ | ⟨rfl, rfl⟩ | ⟨hm1, hm2, hm3⟩
    · exact absurd rfl hkm
    · exact s1 b hb
    · exact H.sep k m e y hi hm3 hkm b (o1 b hb)
    · exact s2 b hb
    · exact absurd rfl hkm
    · exact H.sep i m e y hi hm3 (Ne.symm hm1) b (o2 b hb)
    · exact fun h => H.sep k m x e hk3 hi hkm b hb (f1 b h)
    · exact fun h => H.sep k i x e hk3 hi hk1 b hb (f2 b h)
    · exact H.sep k m x y hk3 hm3 hkm b hb
  · rcases key k x hk with ⟨rfl, rfl⟩ | ⟨rfl, rfl⟩ | ⟨_, _, h⟩
    · exact H.own k e hi b (o1 b hb)
    · exact H.own i e hi b (o2 b hb)
    · exact H.own k x h b hb
theorem nodup_mid {a : Nat} {p q : List Nat} : (p ++ a :: q).Nodup ↔ a ∉ p ++ q ∧ (p ++ q).Nodup :=
  (List.perm_middle.nodup_iff).trans List.nodup_cons
/-- One of the blocks, on its own. -/
theorem Own.focus {l1 l2 : List α} {a : α} (H : Own S w0 w L) (hi : L[i]? = some (Ent.bs t f bl (l1 ++ a :: l2))) : Own S w0 w (L.set i (Ent.bs t f bl (l1 ++ l2)) ++ [.blk (bl a) (f a) t]) := by
  have h := H.bsG hi
  have hn := h.1
  rw [List.map_append, List.map_cons, nodup_mid, ← List.map_append] at hn
  have hs : ∀ x ∈ l1 ++ l2, x ∈ l1 ++ a :: l2 := fun x hx => by
    rcases List.mem_append.1 hx with hx | hx
    · exact List.mem_append.2 (.inl hx)
    · exact List.mem_append.2 (.inr (List.mem_cons_of_mem _ hx))
  have hm : ∀ b ∈ (l1 ++ l2).map bl, b ∈ (l1 ++ a :: l2).map bl := fun b hb => by
    obtain ⟨x, hx, rfl⟩ := List.mem_map.1 hb
    exact List.mem_map.2 ⟨x, hs x hx, rfl⟩
  have ha : bl a ∈ (l1 ++ a :: l2).map bl := List.mem_map.2 ⟨a, by simp, rfl⟩
  refine H.regroup (e1 := Ent.bs t f bl (l1 ++ l2)) (e2 := .blk (bl a) (f a) t) hi ⟨hn.2, fun x hx => h.2 x (hs x hx)⟩ (h.2 a (by simp)) (fun b hb => hm b hb) (fun b hb => ?_) (fun b hb => hm b hb) (fun b hb => ?_) (fun b hb hf => ?_) (fun b hb hf => ?_)
  · cases hb; exact ha
  · cases List.mem_singleton.1 hb; exact ha
  · cases List.mem_singleton.1 hf; exact hn.1 hb
  · cases hb; exact hn.1 hf
/-- One block more. -/
theorem Own.fold {b : Nat} {cs : List Value} {a : α} {l1 l2 : List α} (H : Own S w0 w L) (hi : L[i]? = some (Ent.bs t f bl (l1 ++ l2))) (hj : L[j]? = some (.blk b cs t)) (hij : Nat.beq i j = false) (hb : bl a = b) (hc : f a = cs) :
    Own S w0 w ((L.set j Ent.nul).set i (Ent.bs t f bl (l1 ++ a :: l2))) := by
  subst hb; subst hc
  have hne : i ≠ j := fun e => by subst e; rw [Nat.beq_refl] at hij; cases hij
  have h := H.bsG hi
  have hk := H.blk hj
  have hsep : bl a ∉ (l1 ++ l2).map bl := H.sep j i _ _ hj hi (Ne.symm hne) (bl a) rfl
  have h1 : Own S w0 w (L.set j Ent.nul) :=
    H.upd' hj (Fr.refl [] w) (fun b hb => by cases hb) True.intro (fun b hb => by cases hb) (fun b hb => by cases hb)
  have key : ∀ b, b ∈ (l1 ++ a :: l2).map bl → b ∈ (l1 ++ l2).map bl ∨ b = bl a := fun b hb => by
    obtain ⟨x, hx, rfl⟩ := List.mem_map.1 hb
    rcases List.mem_append.1 hx with hx | hx
    · exact .inl (List.mem_map.2 ⟨x, List.mem_append.2 (.inl hx), rfl⟩)
    · rcases List.mem_cons.1 hx with rfl | hx
      · exact .inr rfl
      · exact .inl (List.mem_map.2 ⟨x, List.mem_append.2 (.inr hx), rfl⟩)
  have hok : BsOK t f bl (l1 ++ a :: l2) w := by
    refine ⟨?_, fun x hx => ?_⟩
    · rw [List.map_append, List.map_cons, nodup_mid, ← List.map_append]; exact ⟨hsep, h.1⟩
    · rcases List.mem_append.1 hx with hx | hx
      · exact h.2 x (List.mem_append.2 (.inl hx))
      · rcases List.mem_cons.1 hx with rfl | hx
        · exact hk
        · exact h.2 x (List.mem_append.2 (.inr hx))
  have hilt := (List.getElem?_eq_some_iff.1 hi).1
  have get : ∀ k x, ((L.set j Ent.nul).set i (Ent.bs t f bl (l1 ++ a :: l2)))[k]? = some x →
      (k = i ∧ x = Ent.bs t f bl (l1 ++ a :: l2)) ∨ (k ≠ i ∧ k = j ∧ x.foot = [] ∧ (∀ b, ¬ x.Owns b) ∧ ∀ w, x.ok w) ∨ (k ≠ i ∧ k ≠ j ∧ L[k]? = some x) := fun k x hk => by
    rw [List.getElem?_set] at hk
    by_cases hik : i = k
    · subst hik; simp [hilt] at hk; exact .inl ⟨rfl, hk.symm⟩
    · rw [if_neg hik, List.getElem?_set] at hk
      by_cases hjk : j = k
      · rw [if_pos hjk] at hk
        split at hk
        · cases hk; exact .inr (.inl ⟨Ne.symm hik, hjk.symm, rfl, fun _ h => h, fun _ => True.intro⟩)
        · cases hk
      · rw [if_neg hjk] at hk; exact .inr (.inr ⟨Ne.symm hik, Ne.symm hjk, hk⟩)
  refine ⟨H.fr, fun k x hk => ?_, fun k m x y hk hm hkm b hb => ?_, fun k x hk b hb => ?_⟩
  · rcases get k x hk with ⟨_, rfl⟩ | ⟨_, _, _, _, h5⟩ | ⟨_, _, h5⟩
    · exact hok
    · exact h5 w
    · exact H.ok k x h5
  · rcases get k x hk with ⟨rfl, rfl⟩ | ⟨_, _, _, h4, _⟩ | ⟨hk1, hk2, hk3⟩
    · rcases get m y hm with ⟨rfl, rfl⟩ | ⟨_, _, h3, _, _⟩ | ⟨hm1, hm2, hm3⟩
      · exact absurd rfl hkm
      · rw [h3]; simp
      · rcases key b hb with hb | rfl
        · exact H.sep k m _ y hi hm3 hkm b hb
        · exact H.sep j m _ y hj hm3 (Ne.symm hm2) (bl a) rfl
    · exact absurd hb (h4 b)
    · rcases get m y hm with ⟨rfl, rfl⟩ | ⟨_, _, h3, _, _⟩ | ⟨hm1, hm2, hm3⟩
      · intro hf
        rcases key b hf with hf | rfl
        · exact H.sep k m x _ hk3 hi hkm b hb hf
        · exact H.sep k j x _ hk3 hj hk2 (bl a) hb (List.mem_singleton.2 rfl)
      · rw [h3]; simp
      · exact H.sep k m x y hk3 hm3 hkm b hb
  · rcases get k x hk with ⟨rfl, rfl⟩ | ⟨_, _, _, h4, _⟩ | ⟨_, _, h5⟩
    · rcases key b hb with hb | rfl
      · exact H.own k _ hi b hb
      · exact H.own j _ hj (bl a) rfl
    · exact absurd hb (h4 b)
    · exact H.own k x h5 b hb
end
end Go.Owl
/-! from Owl38 -/
/- Maps with keys that are numbers, of pointers: look, set, delete, range. -/
namespace Go.Owl
/-- An entry: the key, the block that its pointer is of, the stamp. -/
structure ME where
  k : Nat
  b : Nat
  r : Nat
def ME.ent (kk : IntKind) (e : ME) : MapEntry := ⟨.int kk (e.k : Int), ptr e.b 0, e.r⟩
def mP (kk : IntKind) (l : List ME) (c : Nat) : Obj := .map (l.map (ME.ent kk)).toArray c
structure MEok (l : List ME) (c : Nat) : Prop where
  born : ∀ e ∈ l, e.r < c
  rn : (l.map ME.r).Nodup
  kn : (l.map ME.k).Nodup
theorem sameInt (kk : IntKind) (i j : Int) : Instr.sameNow (.int kk) (.int kk i) (.int kk j) = some (i == j) := by
  simp [Instr.sameNow]
theorem findP_none {kk : IntKind} {i : Int} : ∀ (l : List ME) (j : Nat), (∀ e ∈ l, (e.k : Int) ≠ i) → Instr.findNow (.int kk) (.int kk i) (l.map (ME.ent kk)) j = some none
  | [], _, _ => rfl
  | e :: l, j, h => by
    have h1 : (i == (e.k : Int)) = false := by simpa using Ne.symm (h e (List.mem_cons_self ..))
    rw [List.map_cons, Instr.findNow]
    simp only [ME.ent, sameInt, h1]
    exact findP_none l (j + 1) (fun x hx => h x (List.mem_cons_of_mem _ hx))
theorem findP_some {kk : IntKind} {i : Int} {e : ME} {l2 : List ME} (he : (e.k : Int) = i) : ∀ (l1 : List ME) (j : Nat), (∀ x ∈ l1, (x.k : Int) ≠ i) → Instr.findNow (.int kk) (.int kk i) ((l1 ++ e :: l2).map (ME.ent kk)) j = some (some (j + l1.length, ptr e.b 0))
  | [], j, _ => by
    rw [List.nil_append, List.map_cons, Instr.findNow]
    simp only [ME.ent, sameInt, he, beq_self_eq_true]
    rfl
  | x :: l1, j, h => by
    have h1 : (i == (x.k : Int)) = false := by simpa using Ne.symm (h x (List.mem_cons_self ..))
    rw [List.cons_append, List.map_cons, Instr.findNow]
    simp only [ME.ent, sameInt, h1]
    have := findP_some (kk := kk) (l2 := l2) he l1 (j + 1) (fun y hy => h y (List.mem_cons_of_mem _ hy))
    rw [List.length_cons, show j + (l1.length + 1) = j + 1 + l1.length by omega]
    exact this
theorem MEok.left {l1 l2 : List ME} {e : ME} {c : Nat} (h : MEok (l1 ++ e :: l2) c) : ∀ x ∈ l1, (x.k : Int) ≠ (e.k : Int) := fun x hx hk => by
  have h1 := h.kn
  rw [List.map_append, List.map_cons, nodup_mid] at h1
  exact h1.1 (List.mem_append.2 (.inl (by rw [← show x.k = e.k by omega]; exact List.mem_map.2 ⟨x, hx, rfl⟩)))
theorem MEok.del {l1 l2 : List ME} {e : ME} {c : Nat} (h : MEok (l1 ++ e :: l2) c) : MEok (l1 ++ l2) c := by
  have hs : (l1 ++ l2).Sublist (l1 ++ e :: l2) := List.Sublist.append (List.Sublist.refl _) (List.sublist_cons_self _ _)
  exact ⟨fun x hx => h.born x (hs.subset hx), (hs.map _).nodup h.rn, (hs.map _).nodup h.kn⟩
theorem MEok.add {l : List ME} {k b c : Nat} (h : MEok l c) (hk : ∀ x ∈ l, x.k ≠ k) : MEok (l ++ [⟨k, b, c⟩]) (c + 1) := by
  refine ⟨fun x hx => ?_, ?_, ?_⟩
  · rcases List.mem_append.1 hx with hx | hx
    · exact Nat.lt_succ_of_lt (h.born x hx)
    · rw [List.mem_singleton] at hx; subst hx; exact Nat.lt_succ_self _
  · rw [List.map_append, List.map_cons, List.map_nil, nodup_mid, List.append_nil]
    exact ⟨fun hm => by obtain ⟨x, hx, e⟩ := List.mem_map.1 hm; have := h.born x hx; dsimp only at e; omega, h.rn⟩
  · rw [List.map_append, List.map_cons, List.map_nil, nodup_mid, List.append_nil]
    exact ⟨fun hm => by obtain ⟨x, hx, e⟩ := List.mem_map.1 hm; exact hk x hx e, h.kn⟩
theorem MEok.nil (c : Nat) : MEok [] c := ⟨fun _ h => (by cases h), List.nodup_nil, List.nodup_nil⟩
section
variable {P : Program} {n : Nat} {D : List Deferred} {ρ : Env} {w w0 : World} {R : Value → World → Prop} {dst : Option Tmp} {ty : TypeId} {pos : String} {af : Array Edge} {gd : Option (Nat × Bool)}
variable {S : List Nat} {L : List Ent} {i b ib : Nat} {t T kt et : TypeId} {x y z : Operand} {l l1 l2 : List ME} {e : ME} {c : Nat} {q : Int} {kk : IntKind}
/-- A map that is only read. -/
theorem mP.st (kk : IntKind) (b : Nat) (l : List ME) (c : Nat) : Stable (fun w => w.heap[b]? = some (mP kk l c)) [b] where
  lt := fun w h b' hb => by rw [List.mem_singleton] at hb; subst hb; exact (Array.getElem?_eq_some_iff.1 h).1
  fr := fun T w w' hf hT h => (hf.block b (Array.getElem?_eq_some_iff.1 h).1 (hT b (by simp))).trans h
def Ent.mo (kk : IntKind) (b : Nat) (l : List ME) (c : Nat) : Ent := .ro (fun w => w.heap[b]? = some (mP kk l c)) [b] (mP.st kk b l c)
theorem Own.mpO (H : Own S w0 w L) (hi : L[i]? = some (Ent.mo kk b l c)) : w.heap[b]? = some (mP kk l c) := H.ok i _ hi
theorem Own.mp (H : Own S w0 w L) (hi : L[i]? = some (Ent.obj b (mP kk l c))) : w.heap[b]? = some (mP kk l c) := H.ok i _ hi
theorem Own.mpOld (H : Own [] w0 w L) (h : w0.heap[b]? = some (mP kk l c)) : Own [] w0 w (L ++ [Ent.mo kk b l c]) := H.old (mP.st kk b l c) h
theorem run_lookP_some (hb : w.heap[b]? = some (mP kk (l1 ++ e :: l2) c)) (hu : P.underlying T = some (.map kt et)) (hk : P.underlying kt = some (.int kk)) (h1 : ∀ x ∈ l1, (x.k : Int) ≠ q) (he : (e.k : Int) = q) (ok : Bool) :
    (Instr.lookup T (.map (some b)) (.int kk q) ok).run P w = .ok (if ok then .tuple #[ptr e.b 0, .bool true] else ptr e.b 0) w := by
  have hd : ∀ e, (Instr.checkKey e 10000 kt (.int kk q)).run P w = .ok () w := fun e => MapKept.run_checkKey (P := P) (w := w) hk (show MapKept.IsKey (.int kk) (.int kk q) from rfl) e 9999
  have hf := MapKept.run_findKey (P := P) (w := w) hk (findP_some (l2 := l2) he l1 0 h1)
  generalize l1 ++ e :: l2 = l0 at hb hf
  cases ok <;> simp [Instr.lookup, run_underlying hu, MapKept.run_getObj_map hb, hd, hf]
theorem run_lookP_none (hb : w.heap[b]? = some (mP kk l c)) (hu : P.underlying T = some (.map kt et)) (hk : P.underlying kt = some (.int kk)) (hz : zvB P et = some (.pointer none)) (h1 : ∀ x ∈ l, (x.k : Int) ≠ q) (ok : Bool) :
    (Instr.lookup T (.map (some b)) (.int kk q) ok).run P w = .ok (if ok then .tuple #[.pointer none, .bool false] else .pointer none) w := by
  have hd : ∀ e, (Instr.checkKey e 10000 kt (.int kk q)).run P w = .ok () w := fun e => MapKept.run_checkKey (P := P) (w := w) hk (show MapKept.IsKey (.int kk) (.int kk q) from rfl) e 9999
  have hv := run_zv (w := w) hz
  have hf := MapKept.run_findKey (P := P) (w := w) hk (findP_none l 0 h1)
  cases ok <;> simp [Instr.lookup, run_underlying hu, MapKept.run_getObj_map hb, hd, hf, hv]
theorem op_lookP_some (hb : w.heap[b]? = some (mP kk (l1 ++ e :: l2) c)) (hu : P.underlying T = some (.map kt et)) (hk : P.underlying kt = some (.int kk)) (h1 : ∀ x ∈ l1, (x.k : Int) ≠ q) (he : (e.k : Int) = q)
    (hx : ev ρ x = some (.map (some b))) (hy : ev ρ y = some (.int kk q)) (h : R (ptr e.b 0) w) : Op1 P n D ⟨dst, .lookup T x y false, ty, pos, af, gd⟩ ρ w R :=
  Op1.val (fun a ha => by simp only [execOp, ha.ev hx, ha.ev hy, Sem.run_bind, run_lookP_some hb hu hk h1 he false, Result.andThen_ok, Sem.run_pure, Bool.false_eq_true, if_false]) h
theorem op_lookP_none (hb : w.heap[b]? = some (mP kk l c)) (hu : P.underlying T = some (.map kt et)) (hk : P.underlying kt = some (.int kk)) (hz : zvB P et = some (.pointer none)) (h1 : ∀ x ∈ l, (x.k : Int) ≠ q)
    (hx : ev ρ x = some (.map (some b))) (hy : ev ρ y = some (.int kk q)) (h : R (.pointer none) w) : Op1 P n D ⟨dst, .lookup T x y false, ty, pos, af, gd⟩ ρ w R :=
  Op1.val (fun a ha => by simp only [execOp, ha.ev hx, ha.ev hy, Sem.run_bind, run_lookP_none hb hu hk hz h1 false, Result.andThen_ok, Sem.run_pure, Bool.false_eq_true, if_false]) h
theorem op_makeMapP (H : Own S w0 w L) (h : ∀ b w', Own S w0 w' (L ++ [.obj b (mP kk [] 0)]) → R (.map (some b)) w') : Op1 P n D ⟨dst, .makeMap T none, ty, pos, af, gd⟩ ρ w R :=
  Op1.val (w' := w.alloc (.map #[] 0)) (fun a ha => by simp [execOp, Instr.makeMap]) (h _ _ (H.new (Fr.alloc w _) (heap_alloc_new w _) (fun b hb => by simp only [Ent.Owns, Option.some.injEq] at hb; omega)))
theorem run_updP {k b' : Nat} (hb : w.heap[b]? = some (mP kk l c)) (hu : P.underlying T = some (.map kt et)) (hk : P.underlying kt = some (.int kk)) (h1 : ∀ x ∈ l, x.k ≠ k) :
    (Instr.mapUpdate T (.map (some b)) (.int kk (k : Int)) (ptr b' 0)).run P w = .ok () { w with heap := w.heap.setIfInBounds b (mP kk (l ++ [⟨k, b', c⟩]) (c + 1)) } := by
  have hd : ∀ e, (Instr.checkKey e 10000 kt (.int kk (k : Int))).run P w = .ok () w := fun e => MapKept.run_checkKey (P := P) (w := w) hk (show MapKept.IsKey (.int kk) (.int kk (k : Int)) from rfl) e 9999
  have hf := MapKept.run_findKey (P := P) (w := w) hk (findP_none (i := (k : Int)) l 0 (fun x hx h => h1 x hx (by omega)))
  have e : mP kk (l ++ [⟨k, b', c⟩]) (c + 1) = .map ((l.map (ME.ent kk)).toArray.push ⟨.int kk (k : Int), ptr b' 0, c⟩) (c + 1) := by
    rw [mP, List.map_append, List.push_toArray]; rfl
  simp [Instr.mapUpdate, run_underlying hu, MapKept.run_getObj_map hb, hd, hf, MapKept.run_setObj_map _ hb, e]
theorem op_updP {k b' : Nat} (H : Own S w0 w L) (hi : L[i]? = some (Ent.obj b (mP kk l c))) (hu : P.underlying T = some (.map kt et)) (hk : P.underlying kt = some (.int kk)) (h1 : ∀ x ∈ l, x.k ≠ k) (hx : ev ρ x = some (.map (some b))) (hy : ev ρ y = some (.int kk (k : Int))) (hz : ev ρ z = some (ptr b' 0))
    (h : ∀ w', Own S w0 w' (L.set i (.obj b (mP kk (l ++ [⟨k, b', c⟩]) (c + 1)))) → R undef w') : Op1 P n D ⟨dst, .mapUpdate T x y z, ty, pos, af, gd⟩ ρ w R := by
  refine Op1.unit (w' := { w with heap := w.heap.setIfInBounds b (mP kk (l ++ [⟨k, b', c⟩]) (c + 1)) }) (fun a ha => by simp only [execOp, ha.ev hx, ha.ev hy, ha.ev hz, Sem.run_bind, run_updP (H.mp hi) hu hk h1, Result.andThen_ok, Sem.run_pure]) (h _ ?_)
  exact H.upd hi (Fr.setObj w b _) (fun x hx => by simp at hx; subst hx; rfl) (MapKept.heap_set (H.mp hi)).1 (fun x hx => .inl hx)
theorem op_delP (H : Own S w0 w L) (hi : L[i]? = some (Ent.obj b (mP kk (l1 ++ e :: l2) c))) (hu : P.underlying T = some (.map kt et)) (hk : P.underlying kt = some (.int kk)) (h1 : ∀ x ∈ l1, (x.k : Int) ≠ q) (he : (e.k : Int) = q)
    (hx : ev ρ x = some (.map (some b))) (hy : ev ρ y = some (.int kk q)) (h : ∀ w', Own S w0 w' (L.set i (.obj b (mP kk (l1 ++ l2) c))) → R (.tuple #[]) w') :
    Op1 P n D ⟨dst, .call { callee := .builtin .delete, args := #[x, y], argTypes := #[T, t] }, ty, pos, af, gd⟩ ρ w R := by
  have hb := H.mp hi
  have hd : ∀ e, (Instr.checkKey e 10000 kt (.int kk q)).run P w = .ok () w := fun e => MapKept.run_checkKey (P := P) (w := w) hk (show MapKept.IsKey (.int kk) (.int kk q) from rfl) e 9999
  have hf := MapKept.run_findKey (P := P) (w := w) hk (findP_some (l2 := l2) he l1 0 h1)
  have e1 : ((l1 ++ e :: l2).map (ME.ent kk)).eraseIdx l1.length = (l1 ++ l2).map (ME.ent kk) := by
    rw [List.map_append, List.map_cons, List.eraseIdx_append_of_length_le (by rw [List.length_map]; exact Nat.le_refl _), List.length_map, Nat.sub_self, List.map_append]
    rfl
  have hi' := hi
  refine Op1.val (w' := { w with heap := w.heap.setIfInBounds b (mP kk (l1 ++ l2) c) }) (fun a ha => ?_) (h _ ?_)
  · generalize l1 ++ e :: l2 = l0 at hb hf e1
    simp [execOp, resolve, invoke, builtin, ha.ev hx, ha.ev hy, Builtin.delete_, run_underlying hu, MapKept.run_getObj_map hb, hd, hf, e1, MapKept.run_setObj_map _ hb, mP]
  · exact H.upd hi (Fr.setObj w b _) (fun x hx => by simp at hx; subst hx; rfl) (MapKept.heap_set hb).1 (fun x hx => .inl hx)
/-- An iterator over a map, some of whose entries were seen. -/
def itO (b c : Nat) (sn : List ME) : Obj := .mapIter (some b) c (sn.map ME.r).toArray c
theorem op_rangeP (H : Own S w0 w L) (hb : w.heap[b]? = some (mP kk l c)) (hu : P.underlying T = some (.map kt et)) (hx : ev ρ x = some (.map (some b))) (h : ∀ ib w', Own S w0 w' (L ++ [.obj ib (itO b c [])]) → R (ptr ib 0) w') :
    Op1 P n D ⟨dst, .range T x, ty, pos, af, gd⟩ ρ w R :=
  Op1.val (w' := w.alloc (.mapIter (some b) c #[] c)) (v := ptr w.heap.size 0) (fun a ha => by simp only [execOp, ha.ev hx, Sem.run_bind, run_range_map w T kt et b _ c hu hb, Result.andThen_ok, Sem.run_pure])
    (h _ _ (H.new (Fr.alloc w _) (heap_alloc_new w _) (fun b hb => by simp only [Ent.Owns, Option.some.injEq] at hb; omega)))
theorem Fr.setBlock (w : World) (g : Nat) (o : Obj) : Fr [g] w (ChangeMaps.setBlock w g o) := Fr.setObj w g o
theorem op_nextP {sn rest : List ME} (H : Own S w0 w L) (hi : L[i]? = some (Ent.obj ib (itO b c sn))) (hb : w.heap[b]? = some (mP kk l c)) (hl : MEok l c) (hp : l.Perm (sn ++ rest)) (hx : ev ρ x = some (ptr ib 0))
    (h0 : rest = [] → R (.tuple #[.bool false]) w)
    (h1 : ∀ (e : ME) (rest' : List ME), rest.length = rest'.length + 1 → l.Perm ((sn ++ [e]) ++ rest') → ∀ w', Own S w0 w' (L.set i (.obj ib (itO b c (sn ++ [e])))) → R (.tuple #[.bool true, .int kk (e.k : Int), ptr e.b 0]) w') :
    Op1 P n D ⟨dst, .next x false, ty, pos, af, gd⟩ ρ w R := by
  have hr : w.heap[ib]? = some (.mapIter (some b) c (sn.map ME.r).toArray c) := H.ok i _ hi
  have hold : ∀ x ∈ ((l.map (ME.ent kk)).toArray).toList, x.born < c := fun x hx => by
    obtain ⟨e, he, rfl⟩ := List.mem_map.1 hx
    exact hl.born e he
  have hnd : ((sn ++ rest).map ME.r).Nodup := (hp.map ME.r).nodup_iff.1 hl.rn
  have hleft : ∀ e : ME, e ∈ l → (sn.map ME.r).toArray.contains e.r = false → e ∈ rest := fun e he hc => by
    rcases List.mem_append.1 (hp.mem_iff.1 he) with h | h
    · have : (sn.map ME.r).toArray.contains e.r = true := by simpa using ⟨e, h, rfl⟩
      rw [this] at hc; cases hc
    · exact h
  rcases run_next_at (P := P) w ty ib b c c (sn.map ME.r).toArray (l.map (ME.ent kk)).toArray c hr hb hold (Nat.le_refl _) with ⟨hz, hrun⟩ | ⟨e', he', w1, hw1, hrun⟩
  · have hrest : rest = [] := by
      cases rest with
      | nil => rfl
      | cons e rest =>
        exfalso
        have hall := all_seen _ _ hz ((ME.ent kk) e) (by
          show (ME.ent kk) e ∈ l.map (ME.ent kk)
          exact List.mem_map.2 ⟨e, hp.mem_iff.2 (by simp), rfl⟩)
        have hm : e.r ∈ sn.map ME.r := by simpa [ME.ent] using hall
        rw [List.map_append, List.map_cons, nodup_mid] at hnd
        exact hnd.1 (List.mem_append.2 (.inl hm))
    exact Op1.val (fun a ha => by simp only [execOp, ha.ev hx, Sem.run_bind, hrun, Result.andThen_ok, Sem.run_pure]) (h0 hrest)
  · obtain ⟨hm1, hm2⟩ := mem_left he'
    obtain ⟨e, he, rfl⟩ := List.mem_map.1 hm1
    have her := hleft e he hm2
    obtain ⟨r1, r2, rfl⟩ := List.append_of_mem her
    have hp' : l.Perm ((sn ++ [e]) ++ (r1 ++ r2)) := hp.trans (by
      rw [List.append_assoc]
      exact List.Perm.append_left sn List.perm_middle)
    have e0 : (sn.map ME.r).toArray.push ((ME.ent kk) e).born = ((sn ++ [e]).map ME.r).toArray := by
      rw [List.push_toArray, List.map_append]; rfl
    rw [e0] at hrun
    have hf1 : Fr [] w w1 := by
      rcases hw1 with rfl | rfl
      · exact Fr.refl _ _
      · exact Fr.drew w
    have hi1 := H.fr' hf1
    refine Op1.val (fun a ha => by simp only [execOp, ha.ev hx, Sem.run_bind, hrun, Result.andThen_ok, Sem.run_pure]; rfl) (h1 e (r1 ++ r2) (by simp; omega) hp' _ ?_)
    exact hi1.upd hi (Fr.setBlock w1 ib _) (fun x hx => by simp at hx; subst hx; rfl) (MapKept.heap_set (show w1.heap[ib]? = _ from hi1.ok i _ hi)).1 (fun x hx => .inl hx)
end
end Go.Owl
/-! from Owl31 -/
/- Structs that hold structs, held against each other. -/
namespace Go.Owl
section
variable {P : Program} {n : Nat} {D : List Deferred} {ρ : Env} {w : World} {R : Value → World → Prop} {dst : Option Tmp} {ty : TypeId} {pos : String} {af : Array Edge} {g : Option (Nat × Bool)} {t t' : TypeId} {x y : Operand}
end
end Go.Owl
/-! from Owl32 -/
/- Regions that draw: what only reads is taken first, what acts comes in each order that is left. -/
namespace Go.Owl
section
variable {P : Program} {n : Nat} {D : List Deferred} {ρ ρ' : Env} {w w0 : World} {S : List Nat} {L : List Ent} {ops : Array Oper} {Q : Exit → Act → World → Prop} {fuel : Nat} {listed : Array Bool} {Sx : World → Prop}
/-- In the midst of a region that draws; Sx holds behind each operation. -/
def WH (P : Program) (n : Nat) (D : List Deferred) (ops : Array Oper) (Q : Exit → Act → World → Prop) (Sx : World → Prop) (fuel : Nat) (listed : Array Bool) (ρ : Env) (w : World) : Prop :=
  ∀ a, Agr n D ρ a → wpAnyH P .any ops (Nrm Q) Sx fuel listed a w
theorem WC.held {id : Nat} {l : List Oper} (N : Nat) (hN : l.length = N) (hm : P.follows .mixedOrders = true) (H : Own S w0 w L) (Sx : World → Prop) (h : ∀ w1, Own S w0 w1 L → WH P n D l.toArray Q Sx N (Array.replicate N false) ρ w1) : WC P n D (.region id l.toArray true) Q ρ w := by
  subst hN
  exact fun a ha => wp_region_any hm (wpAny_nrm _ _ _ _ (wpAny_of_held _ _ _ _ (by have h1 := h w.drew (H.fr' (Fr.drew w)) a ha; rw [show l.length = l.toArray.size from (List.size_toArray ..).symm] at h1; exact h1)))
theorem WH.named (h : ∀ W : Nat → Array Bool → Env → World → Prop, W = WH P n D ops Q Sx → W fuel listed ρ w) : WH P n D ops Q Sx fuel listed ρ w := h _ rfl
theorem WH.cov (hc : Cov ρ ρ') (h : WH P n D ops Q Sx fuel listed ρ' w) : WH P n D ops Q Sx fuel listed ρ w := fun a ha => h a (ha.cov hc)
theorem WH.done (hr : Region.ready .any ops listed = []) (h : WQ n D Q .normal ρ w) : WH P n D ops Q Sx fuel listed ρ w := fun a ha => wpAnyH_done hr ⟨rfl, h a ha⟩ fuel
/-- The operation is wanted. -/
def Wnt (ops : Array Oper) (ρ : Env) (o : Oper) : Prop := o.guard = none ∨ ∃ j t want b, o.guard = some (j, want) ∧ (ops[j]?).bind (·.dst) = some t ∧ Env.get ρ t = some (.bool b) ∧ b = want
def Unw (ops : Array Oper) (ρ : Env) (o : Oper) : Prop := ∃ j t want, o.guard = some (j, want) ∧ (ops[j]?).bind (·.dst) = some t ∧ (Env.get ρ t = some undef ∨ ∃ b, Env.get ρ t = some (.bool b) ∧ b = !want)
theorem Wnt.yes {o : Oper} {a : Act} (h : Wnt ops ρ o) (ha : Agr n D ρ a) : Region.wanted o (yielded ops a.tmps) = true := by
  rcases h with hg | ⟨j, t, want, b, hg, hj, hv, hb⟩
  · simp [Region.wanted, hg]
  · simp [Region.wanted, hg, yielded_of ha hj hv, sees, hb]
theorem Unw.no {o : Oper} {a : Act} (h : Unw ops ρ o) (ha : Agr n D ρ a) : Region.wanted o (yielded ops a.tmps) = false := by
  obtain ⟨j, t, want, hg, hj, hv | ⟨b, hv, hb⟩⟩ := h
  · simp [Region.wanted, hg, yielded_of ha hj hv, sees, undef]
  · subst hb; cases want <;> simp [Region.wanted, hg, yielded_of ha hj hv, sees]
/-- Operations that yield a value, or halt. -/
def valOp (o : Oper) : Bool := match o.op with
  | .move _ | .assign _ | .pick .. | .load .. | .binOp .. | .unOp .. | .convert .. | .fieldAddr .. | .field .. | .indexAddr .. | .index .. | .extract .. | .slice .. | .build .. => true
  | _ => false
theorem run_v {s : Sem Value} {x : Next} {w w' : World} (h : ((do pure (Next.value (← s)) : Sem Next)).run P w = .ok x w') : ∃ u, x = .value u := by
  rw [Sem.run_bind] at h
  cases hs : s.run P w with
  | halt y w2 => rw [hs] at h; cases h
  | ok u w2 =>
    rw [hs] at h
    simp only [Result.andThen_ok, Sem.run_pure] at h
    cases h; exact ⟨u, rfl⟩
theorem exec_val {o : Oper} (h : valOp o = true) {e : Operand → Value} {x : Next} {w w' : World} (hx : (execOp e o).run P w = .ok x w') : ∃ u, x = .value u := by
  obtain ⟨dst, op, ty, pos, af, g⟩ := o
  cases op <;> first
    | (cases h; done)
    | exact run_v hx
    | (simp only [execOp, Sem.run_pure] at hx; cases hx; exact ⟨_, rfl⟩)
    | (simp only [execOp, Sem.run_bind] at hx
       rename_i c a b
       cases hs : (asBool (e c)).run P w with
       | halt y w2 => rw [hs] at hx; cases hx
       | ok u w2 => rw [hs] at hx; simp only [Result.andThen_ok, Sem.run_pure] at hx; cases hx; exact ⟨_, rfl⟩)
/-- What only reads, ahead of what acts. -/
theorem WH.take {i : Nat} {oi : Oper} {v : Value} (hi : ops[i]? = some oi) (hv : valOp oi = true) (hg : Wnt ops ρ oi) (hd : dOK n oi.dst = true) (hc : chkEarly ops listed i = true) (hS : Sx w)
    (hy : ∀ w1, Sx w1 → Op1 P n D oi ρ w1 (fun u w2 => u = v ∧ w2 = w1)) (h : WH P n D ops Q Sx fuel (listed.setIfInBounds i true) (ext ρ oi.dst v) w) : WH P n D ops Q Sx (fuel + 1) listed ρ w := by
  intro a ha
  unfold chkEarly at hc
  simp only [Bool.and_eq_true] at hc
  refine wpAnyH_take hi hc.1.1 hc.1.2 hc.2 (fun c a w h => absurd h.1 (by intro h; cases h)) (.inl ⟨hg.yes ha, fun w1 h1 => ?_⟩) hS (h _ (ha.put hd v))
  have h2 := hy w1 h1 a ha
  cases hr : (execOp a.eval oi).run P w1 with
  | halt y w2 => rw [hr] at h2; exact h2.elim
  | ok x w2 =>
    obtain ⟨u, rfl⟩ := exec_val hv hr
    rw [hr] at h2
    obtain ⟨rfl, rfl⟩ := h2
    rfl
theorem WH.pass {i : Nat} {oi : Oper} (hi : ops[i]? = some oi) (hg : Unw ops ρ oi) (hd : dOK n oi.dst = true) (hc : chkEarly ops listed i = true) (hS : Sx w)
    (h : WH P n D ops Q Sx fuel (listed.setIfInBounds i true) (ext ρ oi.dst undef) w) : WH P n D ops Q Sx (fuel + 1) listed ρ w := by
  intro a ha
  unfold chkEarly at hc
  simp only [Bool.and_eq_true] at hc
  exact wpAnyH_take hi hc.1.1 hc.1.2 hc.2 (fun c a w h => absurd h.1 (by intro h; cases h)) (.inr ⟨hg.no ha, rfl⟩) hS (h _ (ha.put hd undef))
/-- One operation of those that may come next. -/
def WHS (P : Program) (n : Nat) (D : List Deferred) (ops : Array Oper) (Q : Exit → Act → World → Prop) (Sx : World → Prop) (i fuel : Nat) (listed : Array Bool) (ρ : Env) (w : World) : Prop :=
  ∀ a, Agr n D ρ a → wpOp P ops (Nrm Q) i (fun a' w' => Sx w' ∧ wpAnyH P .any ops (Nrm Q) Sx fuel (listed.setIfInBounds i true) a' w') a w
theorem WHS.op {i : Nat} {oi : Oper} (hi : ops[i]? = some oi) (hg : Wnt ops ρ oi) (hd : dOK n oi.dst = true)
    (h : Op1 P n D oi ρ w (fun v w' => Sx w' ∧ WH P n D ops Q Sx fuel (listed.setIfInBounds i true) (ext ρ oi.dst v) w')) : WHS P n D ops Q Sx i fuel listed ρ w := by
  intro a ha
  refine wpOp_of hi ?_
  rw [if_pos (hg.yes ha)]
  exact (h a ha).wp fun v w' hR => ⟨hR.1, hR.2 _ (ha.put hd v)⟩
theorem WH.all {rs : List Nat} (hr : Region.ready .any ops listed = rs) (hne : rs ≠ []) (h : ∀ i, i ∈ rs → WHS P n D ops Q Sx i fuel listed ρ w) : WH P n D ops Q Sx (fuel + 1) listed ρ w :=
  fun a ha => wpAnyH_all hr hne fun i hi => h i hi a ha
theorem WH.all1 {i : Nat} (hr : Region.ready .any ops listed = [i]) (h : WHS P n D ops Q Sx i fuel listed ρ w) : WH P n D ops Q Sx (fuel + 1) listed ρ w :=
  WH.all hr (by simp) fun k hk => by
    rcases List.mem_singleton.1 hk with rfl; exact h
theorem WH.all2 {i j : Nat} (hr : Region.ready .any ops listed = [i, j]) (h : WHS P n D ops Q Sx i fuel listed ρ w) (h2 : WHS P n D ops Q Sx j fuel listed ρ w) : WH P n D ops Q Sx (fuel + 1) listed ρ w :=
  WH.all hr (by simp) fun k hk => by
    rcases List.mem_cons.1 hk with rfl | hk
    · exact h
    · rcases List.mem_singleton.1 hk with rfl; exact h2
/-- A long region, printed in two parts. -/
theorem WC.regionA {id : Nat} {l1 l2 : List Oper} (h : WL P n D (l1 ++ l2).toArray Q (l1 ++ l2) ρ w) : WC P n D (.region id (Array.append l1.toArray l2.toArray) false) Q ρ w := by
  have e : Array.append l1.toArray l2.toArray = (l1 ++ l2).toArray := by
    show l1.toArray ++ l2.toArray = _
    simp
  rw [e]; exact WC.region h
end
end Go.Owl
/-! from Owl39 -/
/- Functions with what they captured; a look at a block of many; a list of them grows. -/
namespace Go.Owl
structure Cl where
  f : FuncId
  cap : List Value
def Cl.zero : Cl := ⟨0, []⟩
section
variable {α : Type} {S : List Nat} {w0 w w1 : World} {L E M : List Ent} {i j g : Nat} {I : List Nat} {t : TypeId} {f : α → List Value} {bl : α → Nat} {l : List α} {a : α} {b : Nat} {cs : List Value}
theorem BsOK.cells (h : BsOK t f bl l w) (ha : a ∈ l) : cellsAt w (bl a) (f a) := fun j u hu => h.cell ha hu
end
end Go.Owl
namespace Go.Owl
section
variable {S : List Nat} {w0 w : World} {L : List Ent} {i b : Nat} {cs cs' : List Value} {t : TypeId}
end
end Go.Owl
/-! from Owl40 -/
/- Maps of pointers, whose entries are of a list's things: the next one, what it is. -/
namespace Go.Owl
section
variable {α : Type} {P : Program} {n : Nat} {D : List Deferred} {ρ : Env} {w w0 : World} {R : Value → World → Prop} {dst : Option Tmp} {ty : TypeId} {pos : String} {af : Array Edge} {gd : Option (Nat × Bool)}
variable {S : List Nat} {L : List Ent} {i b ib c : Nat} {kk : IntKind} {x : Operand} {f : α → ME} {gs sn rest : List α}
theorem ME.rn_sep {A B : List ME} {e : ME} {C : List ME} (h : (A.map ME.r).Nodup) (hp : A.Perm ((B ++ [e]) ++ C)) : e ∉ B := fun hb => by
  have h1 := (hp.map ME.r).nodup_iff.1 h
  rw [List.map_append, List.map_append, List.append_assoc] at h1
  obtain ⟨p, q, rfl⟩ := List.append_of_mem hb
  rw [List.map_append, List.map_cons, List.append_assoc, List.cons_append, nodup_mid] at h1
  exact h1.1 (by simp)
theorem op_nextG (H : Own S w0 w L) (hi : L[i]? = some (Ent.obj ib (itO b c (sn.map f)))) (hb : w.heap[b]? = some (mP kk (gs.map f) c)) (hl : MEok (gs.map f) c) (hp : gs.Perm (sn ++ rest)) (hx : ev ρ x = some (ptr ib 0))
    (h0 : rest = [] → R (.tuple #[.bool false]) w)
    (h1 : ∀ (g : α) (rest' : List α), rest.length = rest'.length + 1 → gs.Perm ((sn ++ [g]) ++ rest') → ∀ w', Own S w0 w' (L.set i (.obj ib (itO b c ((sn ++ [g]).map f)))) → R (.tuple #[.bool true, .int kk ((f g).k : Int), ptr (f g).b 0]) w') :
    Op1 P n D ⟨dst, .next x false, ty, pos, af, gd⟩ ρ w R := by
  refine op_nextP (sn := sn.map f) (rest := rest.map f) H hi hb hl (by rw [← List.map_append]; exact hp.map f) hx (fun h => h0 (List.map_eq_nil_iff.1 h)) (fun e r' hlen hp' w' H' => ?_)
  have he : e ∈ gs.map f := hp'.mem_iff.2 (by simp)
  have hns : e ∉ sn.map f := ME.rn_sep hl.rn hp'
  have he2 : e ∈ (sn ++ rest).map f := (hp.map f).mem_iff.1 he
  rw [List.map_append, List.mem_append] at he2
  obtain ⟨g, hg, rfl⟩ := List.mem_map.1 (he2.resolve_left hns)
  obtain ⟨r1, r2, rfl⟩ := List.append_of_mem hg
  rw [← List.map_singleton (f := f) (a := g), ← List.map_append] at H'
  refine h1 g (r1 ++ r2) (by simp; omega) (hp.trans ?_) w' H'
  rw [List.append_assoc]
  exact List.Perm.append_left sn List.perm_middle
/-- What the step told, behind it. -/
theorem op_entryG {g : α} (H : Own S w0 w L) (hi : L[i]? = some (Ent.obj ib (itO b c ((sn ++ [g]).map f)))) (hb : w.heap[b]? = some (mP kk (gs.map f) c)) (hl : MEok (gs.map f) c) (hp : gs.Perm ((sn ++ [g]) ++ rest)) (hx : ev ρ x = some (ptr ib 0))
    (h : R (.tuple #[.int kk ((f g).k : Int), ptr (f g).b 0]) w) : Op1 P n D ⟨dst, .entry x, ty, pos, af, gd⟩ ρ w R := by
  have hr : w.heap[ib]? = some (.mapIter (some b) c (((sn ++ [g]).map f).map ME.r).toArray c) := H.ok i _ hi
  have e0 : (((sn ++ [g]).map f).map ME.r).toArray = ((sn.map f).map ME.r).toArray.push (ME.ent kk (f g)).born := by
    rw [List.push_toArray, List.map_append, List.map_append]; rfl
  rw [e0] at hr
  have hm : ME.ent kk (f g) ∈ ((gs.map f).map (ME.ent kk)).toArray.toList := by
    have : g ∈ gs := hp.mem_iff.2 (by simp)
    exact List.mem_map.2 ⟨f g, List.mem_map.2 ⟨g, this, rfl⟩, rfl⟩
  have hn : (((gs.map f).map (ME.ent kk)).toArray.toList.map (·.born)).Nodup := by
    have := hl.rn
    rw [List.map_map]; exact this
  exact Op1.val (fun a ha => by simp only [execOp, ha.ev hx, Sem.run_bind, run_entry_at w ib b c _ _ c _ hr hb hm hn, Result.andThen_ok, Sem.run_pure]; rfl) h
theorem op_lookG_some {T kt et : TypeId} {y : Operand} {q : Int} {g : α} (hb : w.heap[b]? = some (mP kk (gs.map f) c)) (hl : MEok (gs.map f) c) (hg : g ∈ gs) (he : ((f g).k : Int) = q) (hu : P.underlying T = some (.map kt et)) (hk : P.underlying kt = some (.int kk))
    (hx : ev ρ x = some (.map (some b))) (hy : ev ρ y = some (.int kk q)) (h : R (ptr (f g).b 0) w) : Op1 P n D ⟨dst, .lookup T x y false, ty, pos, af, gd⟩ ρ w R := by
  obtain ⟨l1, l2, rfl⟩ := List.append_of_mem hg
  rw [List.map_append, List.map_cons] at hb hl
  refine op_lookP_some hb hu hk (fun x hx he2 => ?_) he hx hy h
  exact hl.left x hx (he2.trans he.symm)
theorem op_lookG_no {T kt et : TypeId} {y : Operand} {q : Int} (hb : w.heap[b]? = some (mP kk (gs.map f) c)) (hn : ∀ g ∈ gs, ((f g).k : Int) ≠ q) (hu : P.underlying T = some (.map kt et)) (hk : P.underlying kt = some (.int kk)) (hz : zvB P et = some (.pointer none))
    (hx : ev ρ x = some (.map (some b))) (hy : ev ρ y = some (.int kk q)) (h : R (.pointer none) w) : Op1 P n D ⟨dst, .lookup T x y false, ty, pos, af, gd⟩ ρ w R :=
  op_lookP_none hb hu hk hz (fun x hx => by
    obtain ⟨g, hg, rfl⟩ := List.mem_map.1 hx
    exact hn g hg) hx hy h
end
end Go.Owl
namespace Go.Owl
section
variable {α : Type} {S : List Nat} {w0 w : World} {L : List Ent} {i : Nat} {t : TypeId} {f : α → List Value} {bl : α → Nat} {l : List α} {a : α}
/-- One of many blocks that are only read. -/
theorem Own.bsView (H : Own S w0 w L) (hi : L[i]? = some (Ent.bsO t f bl l)) (ha : a ∈ l) : Own S w0 w (L ++ [Ent.bo (bl a) (f a)]) :=
  H.join (i := i) (j := i) hi hi (fun h _ j u hu => by rw [(h.2 a ha).cell]; exact hu) (fun b hb => .inl (by
    have hb' : b = bl a := by
      split at hb
      · cases hb
      · exact List.mem_singleton.1 hb
    exact List.mem_map.2 ⟨a, ha, hb'.symm⟩))
/-- A slice of one of many things. -/
theorem Own.dpView {D : Deep α} {v : Value} {sz n : Nat} {xs : List Value} (H : Own S w0 w L) (hi : L[i]? = some (Ent.dp D.list l)) (ha : a ∈ l) (h : ∀ w, D.ok w a → Arr w v sz n xs) (hs : ∀ b ∈ footA v xs, b ∈ D.ft a) : Own S w0 w (L ++ [Ent.ar v sz n xs]) :=
  H.join (i := i) (j := i) hi hi (fun k _ => h w (k a ha)) (fun b hb => .inl (List.mem_flatMap.2 ⟨a, ha, hs b hb⟩))
/-- Fewer of such things. -/
theorem Own.dpLess {D : Deep α} {l' : List α} (H : Own S w0 w L) (hi : L[i]? = some (Ent.dp D.list l)) (hs : ∀ x ∈ l', x ∈ l) : Own S w0 w (L ++ [Ent.dp D.list l']) :=
  H.join (i := i) (j := i) hi hi (fun h _ x hx => h x (hs x hx)) (fun b hb => .inl (by
    obtain ⟨x, hx, hb⟩ := List.mem_flatMap.1 hb
    exact List.mem_flatMap.2 ⟨x, hs x hx, hb⟩))
/-- One of such things is another one, that hangs on the same. -/
theorem Own.dpSame {D : Deep α} {l1 l2 : List α} {a' : α} (H : Own S w0 w L) (hi : L[i]? = some (Ent.dp D.list (l1 ++ a :: l2))) (h1 : ∀ w, D.ok w a → D.ok w a') (h2 : ∀ b ∈ D.ft a', b ∈ D.ft a) : Own S w0 w (L ++ [Ent.dp D.list (l1 ++ a' :: l2)]) :=
  H.join (i := i) (j := i) hi hi (fun h _ x hx => by
    rcases List.mem_append.1 hx with hx | hx
    · exact h x (List.mem_append.2 (.inl hx))
    · rcases List.mem_cons.1 hx with rfl | hx
      · exact h1 _ (h a (by simp))
      · exact h x (List.mem_append.2 (.inr (List.mem_cons_of_mem _ hx)))) (fun b hb => .inl (by
    obtain ⟨x, hx, hb2⟩ := List.mem_flatMap.1 hb
    rcases List.mem_append.1 hx with hx | hx
    · exact List.mem_flatMap.2 ⟨x, List.mem_append.2 (.inl hx), hb2⟩
    · rcases List.mem_cons.1 hx with rfl | hx
      · exact List.mem_flatMap.2 ⟨a, by simp, h2 b hb2⟩
      · exact List.mem_flatMap.2 ⟨x, List.mem_append.2 (.inr (List.mem_cons_of_mem _ hx)), hb2⟩))
end
end Go.Owl
/-! from Owl41 -/
/- What is new behind a call that owns: rows, lists of deep things. -/
namespace Go.Owl
section
variable {α : Type} {S : List Nat} {w0 w : World} {L E : List Ent} {i j : Nat}
theorem Own.rowFreshT {v : Value} {t : TypeId} {sz n : Nat} {xs : List Value} (H : Own S w0 w L) (hi : L[i]? = some (Ent.row v t sz n xs)) (hS : ∀ b ∈ S, ∃ (j : Nat) (e : Ent), L[j]? = some e ∧ j ≠ i ∧ e.Owns b) : ∀ b ∈ footA v xs, w0.heap.size ≤ b := by
  intro b hb
  obtain ⟨hl, ⟨rfl, rfl⟩ | ⟨g, cap, pre, junk, rfl, hk, hr⟩⟩ := H.row hi
  · have hx : xs = [] := List.eq_nil_of_length_eq_zero (by simpa using hl)
    subst hx; simp [footA] at hb
  · have hb' : b = g := by
      simp only [footA] at hb
      split at hb
      · cases hb
      · simpa [sBlk] using hb
    rcases H.own i _ hi g rfl with h | h
    · omega
    · obtain ⟨j, e, hj, hne, ho⟩ := hS g h
      exact absurd (Ent.block_foot (e := .row (.slice (some ⟨g, pre.length, none⟩) n cap) t sz n xs) rfl) (H.sep j i e _ hj hi hne g ho)
theorem Fits.dpTo {D : Deep α} {l l' : List α} {r : List Ent} (j : Nat) (hj : E[j]? = some (Ent.dp D.list l)) (h : ∀ b ∈ D.list.ft l', w.heap.size ≤ b ∨ b ∈ D.list.ft l) (k : Fits w E r) : Fits w E (Ent.dp D.list l' :: r) :=
  k.cons (fun b hb => .inr ((h b hb).imp id (fun h2 => ⟨j, _, hj, h2⟩)))
end
end Go.Owl
namespace Go.Owl
section
variable {α β : Type} {w : World}
theorem capT7 {c mb : Nat} {cs x1 x2 x3 : List Value} {t t2 : TypeId} {o : Obj} {v1 v2 v3 : Value} {s1 s2 s3 n1 n2 n3 : Nat} {f : α → List Value} {bl : α → Nat} {l : List α} {D : Deep β} {a : β} :
    ∀ b ∈ blks [Ent.blk c cs t, Ent.ar v1 s1 n1 x1, .obj mb o, Ent.bs t2 f bl l, Ent.dp D a, Ent.ar v2 s2 n2 x2, Ent.ar v3 s3 n3 x3], b = c ∨ b = mb ∨ b ∈ List.map bl l := by
  intro b hb
  obtain ⟨m, e, hm, ho⟩ := mem_blks.1 hb
  match m, hm, ho with
  | 0, hm, ho => cases hm; exact .inl (Option.some.inj ho).symm
  | 1, hm, ho => cases hm; cases ho
  | 2, hm, ho => cases hm; exact .inr (.inl (Option.some.inj ho).symm)
  | 3, hm, ho => cases hm; exact .inr (.inr ho)
  | 4, hm, ho => cases hm; cases ho
  | 5, hm, ho => cases hm; cases ho
  | 6, hm, ho => cases hm; cases ho
  | m + 7, hm, ho => simp at hm
end
end Go.Owl
