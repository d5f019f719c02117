/- Regions that draw their order: one walk, in the order of the text, serves every order. -/
import Derived.Test.YtpnghdalnghpcaaOwl6
import Derived.StillTail
namespace Go.Owl

/-- What an operation ahead of the tail yields: a value that is known, or a new block. -/
inductive Sp where
  | det (v : Value) (dp : Option Nat)
  | flt (mk : Nat → Value) (ent : Nat → Ent)

def Sp.val : Sp → Nat → Value
  | .det v _, _ => v
  | .flt m _, b => m b
def entAt (sp : List Sp) (β : Nat → Nat) (i : Nat) : Ent := match sp[i]? with
  | some (.flt _ e) => e (β i)
  | _ => .obj 0 (.map #[] 0)
def Sp.isF : Sp → Bool
  | .flt _ _ => true
  | .det _ _ => false
def Sp.dep : Sp → Option Nat
  | .det _ dp => dp
  | .flt _ _ => none
def Sp.mark (s : Sp) : Bool × Option Nat := (s.isF, s.dep)
/-- A new block that stands in the head: which operation makes it, its slot, its value, its entry. -/
structure Fl1 where
  idx : Nat
  dst : Option Tmp
  mk' : Nat → Value
  ent : Nat → Ent

section
variable {P : Program} {n : Nat} {D : List Deferred} {ρ : Env} {w w0 : World} {S : List Nat} {L : List Ent} {ops : Array Oper} {Q : Exit → Act → World → Prop}

def DetAt (P : Program) (n : Nat) (D : List Deferred) (S : List Nat) (w0 : World) (L : List Ent) (o : Oper) (ρ : Env) (v : Value) : Prop :=
  ∀ w1, Own S w0 w1 L → Op1 P n D o ρ w1 (fun u w2 => u = v ∧ Fr [] w1 w2)
def FltAt (P : Program) (n : Nat) (D : List Deferred) (o : Oper) (ρ : Env) (mk : Nat → Value) (ent : Nat → Ent) : Prop :=
  ∀ w1, Op1 P n D o ρ w1 (fun u w2 => ∃ b, u = mk b ∧ Own [] w1 w2 [ent b] ∧ (ent b).solid)

/-- An operation that its guard may pass over. -/
def DetG (P : Program) (n : Nat) (D : List Deferred) (ops : Array Oper) (S : List Nat) (w0 : World) (L : List Ent) (o : Oper) (ρ : Env) (v : Value) : Prop :=
  match o.guard with
  | none => DetAt P n D S w0 L o ρ v
  | some (j, want) => ∃ t u, (ops[j]?).bind (·.dst) = some t ∧ Env.get ρ t = some u ∧ ((sees u = some want ∧ DetAt P n D S w0 L o ρ v) ∨ (sees u ≠ some want ∧ v = undef))

/-- What an operation sees of the new blocks: none, or one. -/
def DetD (P : Program) (n : Nat) (D : List Deferred) (ops : Array Oper) (S : List Nat) (w0 : World) (L : List Ent) (Γ : List Fl1) (o : Oper) (ρ : Env) (v : Value) (dp : Option Nat) : Prop :=
  match dp with
  | none => DetG P n D ops S w0 L o ρ v
  | some j => ∃ f ∈ Γ, f.idx = j ∧ ∀ b, DetG P n D ops S w0 (L ++ [f.ent b]) o (ext ρ f.dst (f.mk' b)) v

def HW (P : Program) (n : Nat) (D : List Deferred) (ops : Array Oper) (S : List Nat) (w0 : World) (L : List Ent) : Nat → List Fl1 → List Oper → List Sp → Env → Prop
  | _, _, [], [], _ => True
  | i, Γ, o :: l, .det v dp :: sp, ρ => DetD P n D ops S w0 L Γ o ρ v dp ∧ HW P n D ops S w0 L (i + 1) Γ l sp (ext ρ o.dst v)
  | i, Γ, o :: l, .flt mk ent :: sp, ρ => o.guard = none ∧ FltAt P n D o ρ mk ent ∧ HW P n D ops S w0 L (i + 1) (⟨i, o.dst, mk, ent⟩ :: Γ) l sp ρ
  | _, _, _, _, _ => False

section
variable {i : Nat} {Γ : List Fl1}
theorem HW.nil : HW P n D ops S w0 L i Γ [] [] ρ := trivial
theorem HW.op {o l v sp} (hg : o.guard = none) (h : DetAt P n D S w0 L o ρ v) (k : HW P n D ops S w0 L (i + 1) Γ l sp (ext ρ o.dst v)) : HW P n D ops S w0 L i Γ (o :: l) (.det v none :: sp) ρ :=
  ⟨by unfold DetD DetG; rw [hg]; exact h, k⟩
/-- It looks at the newest block. -/
theorem HW.opF {o l v sp} {f : Fl1} (hg : o.guard = none) (h : ∀ b, DetAt P n D S w0 (L ++ [f.ent b]) o (ext ρ f.dst (f.mk' b)) v) (k : HW P n D ops S w0 L (i + 1) (f :: Γ) l sp (ext ρ o.dst v)) :
    HW P n D ops S w0 L i (f :: Γ) (o :: l) (.det v (some f.idx) :: sp) ρ :=
  ⟨⟨f, by simp, rfl, fun b => by unfold DetG; rw [hg]; exact h b⟩, k⟩
/-- It looks at one of the new blocks. -/
theorem HW.opFs {o l v sp} (r : Nat) {f : Fl1} (hf : Γ[r]? = some f) (hg : o.guard = none) (h : ∀ b, DetAt P n D S w0 (L ++ [f.ent b]) o (ext ρ f.dst (f.mk' b)) v) (k : HW P n D ops S w0 L (i + 1) Γ l sp (ext ρ o.dst v)) :
    HW P n D ops S w0 L i Γ (o :: l) (.det v (some f.idx) :: sp) ρ :=
  ⟨⟨f, List.mem_of_getElem? hf, rfl, fun b => by unfold DetG; rw [hg]; exact h b⟩, k⟩
theorem HW.yes {o l v sp} {j t : Nat} {want b : Bool} (hg : o.guard = some (j, want)) (hj : (ops[j]?).bind (·.dst) = some t) (hv : Env.get ρ t = some (.bool b)) (hb : b = want)
    (h : DetAt P n D S w0 L o ρ v) (k : HW P n D ops S w0 L (i + 1) Γ l sp (ext ρ o.dst v)) : HW P n D ops S w0 L i Γ (o :: l) (.det v none :: sp) ρ :=
  ⟨by unfold DetD DetG; rw [hg]; exact ⟨t, _, hj, hv, .inl ⟨by simp [sees, hb], h⟩⟩, k⟩
theorem HW.no {o l sp} {j t : Nat} {want b : Bool} (hg : o.guard = some (j, want)) (hj : (ops[j]?).bind (·.dst) = some t) (hv : Env.get ρ t = some (.bool b)) (hb : b = !want)
    (k : HW P n D ops S w0 L (i + 1) Γ l sp (ext ρ o.dst undef)) : HW P n D ops S w0 L i Γ (o :: l) (.det undef none :: sp) ρ :=
  ⟨by unfold DetD DetG; rw [hg]; exact ⟨t, _, hj, hv, .inr ⟨by subst hb; cases want <;> simp [sees], rfl⟩⟩, k⟩
theorem HW.non {o l sp} {j t : Nat} {want : Bool} (hg : o.guard = some (j, want)) (hj : (ops[j]?).bind (·.dst) = some t) (hv : Env.get ρ t = some undef)
    (k : HW P n D ops S w0 L (i + 1) Γ l sp (ext ρ o.dst undef)) : HW P n D ops S w0 L i Γ (o :: l) (.det undef none :: sp) ρ :=
  ⟨by unfold DetD DetG; rw [hg]; exact ⟨t, _, hj, hv, .inr ⟨by simp [sees, undef], rfl⟩⟩, k⟩
theorem HW.flt {o l mk ent sp} (hg : o.guard = none) (h : FltAt P n D o ρ mk ent) (k : HW P n D ops S w0 L (i + 1) (⟨i, o.dst, mk, ent⟩ :: Γ) l sp ρ) : HW P n D ops S w0 L i Γ (o :: l) (.flt mk ent :: sp) ρ := ⟨hg, h, k⟩
end

def dets : List Oper → List Sp → Env → Env
  | o :: l, .det v _ :: sp, ρ => dets l sp (ext ρ o.dst v)
  | _ :: l, .flt _ _ :: sp, ρ => dets l sp ρ
  | _, _, ρ => ρ

/-- The environment with the new blocks. -/
def fenv : List Oper → List Sp → (Nat → Nat) → Nat → Env → Env
  | _ :: l, .det _ _ :: sp, β, i, ρ => fenv l sp β (i + 1) ρ
  | o :: l, .flt mk _ :: sp, β, i, ρ => fenv l sp β (i + 1) (ext ρ o.dst (mk (β i)))
  | _, _, _, _, ρ => ρ
def fents : List Sp → (Nat → Nat) → Nat → List Ent
  | .det _ _ :: sp, β, i => fents sp β (i + 1)
  | .flt _ ent :: sp, β, i => ent (β i) :: fents sp β (i + 1)
  | [], _, _ => []

theorem HW.len : ∀ {i : Nat} {Γ : List Fl1} {l : List Oper} {sp : List Sp} {ρ : Env}, HW P n D ops S w0 L i Γ l sp ρ → sp.length = l.length
  | _, _, [], [], _, _ => rfl
  | _, _, [], _ :: _, _, h => h.elim
  | _, _, _ :: _, [], _, h => h.elim
  | _, _, o :: l, .det v dp :: sp, ρ, h => by simp [h.2.len]
  | _, _, o :: l, .flt mk ent :: sp, ρ, h => by simp [h.2.2.len]

/-- What is known of the new blocks that an operation sees. -/
def GamOK (full : List Oper) (fsp : List Sp) (i : Nat) (Γ : List Fl1) : Prop := ∀ f ∈ Γ, f.idx < i ∧ fsp[f.idx]? = some (.flt f.mk' f.ent) ∧ ∃ o, full[f.idx]? = some o ∧ o.dst = f.dst

theorem HW.at (full : List Oper) (fsp : List Sp) : ∀ {i0 : Nat} {Γ : List Fl1} {l : List Oper} {sp : List Sp} {ρ : Env}, HW P n D ops S w0 L i0 Γ l sp ρ → GamOK full fsp i0 Γ → (∀ j, l[j]? = full[i0 + j]?) → (∀ j, sp[j]? = fsp[i0 + j]?) →
    ∀ (i : Nat) (o : Oper) (s : Sp), l[i]? = some o → sp[i]? = some s →
    match s with
    | .det v dp => ∃ Γ', GamOK full fsp (i0 + i) Γ' ∧ DetD P n D ops S w0 L Γ' o (dets (l.take i) (sp.take i) ρ) v dp
    | .flt mk ent => o.guard = none ∧ FltAt P n D o (dets (l.take i) (sp.take i) ρ) mk ent
  | _, _, [], [], _, _, _, _, _, i, o, s, h1, _ => by simp at h1
  | _, _, [], _ :: _, _, h, _, _, _, _, _, _, _, _ => h.elim
  | _, _, _ :: _, [], _, h, _, _, _, _, _, _, _, _ => h.elim
  | i0, Γ, o :: l, .det v dp :: sp, ρ, h, hG, _, _, 0, o', s, h1, h2 => by simp at h1 h2; subst h1; subst h2; exact ⟨Γ, hG, h.1⟩
  | i0, Γ, o :: l, .flt mk ent :: sp, ρ, h, _, _, _, 0, o', s, h1, h2 => by simp at h1 h2; subst h1; subst h2; exact ⟨h.1, h.2.1⟩
  | i0, Γ, o :: l, .det v dp :: sp, ρ, h, hG, hl, hs, i + 1, o', s, h1, h2 => by
    have := HW.at full fsp h.2 (fun f hf => ⟨by have := (hG f hf).1; omega, (hG f hf).2⟩) (fun j => by have := hl (j + 1); simpa [Nat.add_assoc, Nat.add_comm 1 j] using this)
      (fun j => by have := hs (j + 1); simpa [Nat.add_assoc, Nat.add_comm 1 j] using this) i o' s (by simpa using h1) (by simpa using h2)
    rw [show i0 + 1 + i = i0 + (i + 1) by omega] at this
    exact this
  | i0, Γ, o :: l, .flt mk ent :: sp, ρ, h, hG, hl, hs, i + 1, o', s, h1, h2 => by
    have h0 : fsp[i0]? = some (.flt mk ent) := by have := hs 0; simpa using this.symm
    have h00 : full[i0]? = some o := by have := hl 0; simpa using this.symm
    have := HW.at full fsp h.2.2 (fun f hf => by
        rcases List.mem_cons.1 hf with rfl | hf
        · exact ⟨by show i0 < i0 + 1; omega, h0, o, h00, rfl⟩
        · exact ⟨by have := (hG f hf).1; omega, (hG f hf).2⟩) (fun j => by have := hl (j + 1); simpa [Nat.add_assoc, Nat.add_comm 1 j] using this)
      (fun j => by have := hs (j + 1); simpa [Nat.add_assoc, Nat.add_comm 1 j] using this) i o' s (by simpa using h1) (by simpa using h2)
    rw [show i0 + 1 + i = i0 + (i + 1) by omega] at this
    exact this

/-- What 'dets' says of a slot. -/
theorem dets_get : ∀ (l : List Oper) (sp : List Sp) (ρ : Env) (t : Nat) (v : Value), Env.get (dets l sp ρ) t = some v →
    (∃ (i : Nat) (o : Oper) (dp : Option Nat), l[i]? = some o ∧ sp[i]? = some (Sp.det v dp) ∧ o.dst = some t) ∨ (Env.get ρ t = some v ∧ ∀ (i : Nat) (o : Oper) (u : Value) (dp : Option Nat), l[i]? = some o → sp[i]? = some (Sp.det u dp) → o.dst ≠ some t)
  | [], _, ρ, t, v, h => by right; exact ⟨by simpa [dets] using h, fun i o u dp h1 => by simp at h1⟩
  | o :: l, [], ρ, t, v, h => by right; exact ⟨by simpa [dets] using h, fun i o u dp _ h2 => by simp at h2⟩
  | o :: l, .flt mk ent :: sp, ρ, t, v, h => by
    rcases dets_get l sp ρ t v h with ⟨i, o', dp, h1, h2, h3⟩ | ⟨h1, h2⟩
    · exact .inl ⟨i + 1, o', dp, by simpa using h1, by simpa using h2, h3⟩
    · refine .inr ⟨h1, fun i o' u dp h3 h4 => ?_⟩
      cases i with
      | zero => simp at h4
      | succ i => exact h2 i o' u dp (by simpa using h3) (by simpa using h4)
  | o :: l, .det u d0 :: sp, ρ, t, v, h => by
    rcases dets_get l sp (ext ρ o.dst u) t v h with ⟨i, o', dp, h1, h2, h3⟩ | ⟨h1, h2⟩
    · exact .inl ⟨i + 1, o', dp, by simpa using h1, by simpa using h2, h3⟩
    · have hshift : ∀ (i : Nat) (o' : Oper) (u' : Value) (dp : Option Nat), (o :: l)[i + 1]? = some o' → (Sp.det u d0 :: sp)[i + 1]? = some (Sp.det u' dp) → o'.dst ≠ some t := fun i o' u' dp h3 h4 => h2 i o' u' dp (by simpa using h3) (by simpa using h4)
      cases hd : o.dst with
      | none =>
        rw [hd] at h1
        refine .inr ⟨h1, fun i o' u' dp h3 h4 => ?_⟩
        cases i with
        | zero => simp at h3; subst h3; rw [hd]; simp
        | succ i => exact hshift i o' u' dp h3 h4
      | some d =>
        rw [hd] at h1
        simp only [ext, Env.get] at h1
        split at h1
        · rename_i hb
          have : d = t := by simpa using hb
          subst this
          injection h1 with h1; subst h1
          exact .inl ⟨0, o, d0, rfl, rfl, hd⟩
        · rename_i hb
          have hne : d ≠ t := by simpa using hb
          refine .inr ⟨h1, fun i o' u' dp h3 h4 => ?_⟩
          cases i with
          | zero => simp at h3; subst h3; rw [hd]; simpa using hne
          | succ i => exact hshift i o' u' dp h3 h4

/-! What is asked of a region's edges. -/
def edge (ops : Array Oper) (i j : Nat) : Bool := match ops[i]? with
  | some o => o.after.any fun e => Region.binds .any e && Nat.beq e.on j
  | none => false
/-- i looks at t, which j writes: j ahead of i, or behind it. -/
def chkLook (ops : Array Oper) (fl : List (Bool × Option Nat)) (k i : Nat) (t : Tmp) : Bool :=
  (List.range ops.size).all fun j => match ops[j]? with
    | some o => match o.dst with
      | some d => !Nat.beq d t || (Nat.blt j i && edge ops i j && (!(fl.getD j (true, none)).1 || (fl.getD i (true, none)).2 == some j)) || (Nat.blt i j && edge ops j i)
      | none => true
    | none => true
def isSel : Op → Bool
  | .select _ _ => true
  | _ => false
/-- What it depends on is waited for. -/
def chkDep (ops : Array Oper) (fl : List (Bool × Option Nat)) (i : Nat) : Bool := match (fl.getD i (true, none)).2 with
  | some j => edge ops i j
  | none => true
def chkOp (ops : Array Oper) (n : Nat) (fl : List (Bool × Option Nat)) (k i : Nat) : Bool := match ops[i]? with
  | some o => chkDep ops fl i && !isSel o.op && dOK n o.dst && (o.looksAt ops).all (chkLook ops fl k i) && (o.after.all fun e => !Region.binds .any e || Nat.blt e.on i) &&
      ((List.range k).all fun j => Nat.beq j i || match o.dst, (ops[j]?).bind (·.dst) with
        | some d, some d' => !Nat.beq d d'
        | _, _ => true)
  | none => false
/-- When the head is done the tail comes in its order. -/
def chkTail (ops : Array Oper) (k : Nat) : Bool :=
  Region.seqB .any ops (ops.size - k) k ((List.range ops.size).map (fun i => Nat.blt i k)).toArray
def chkDraw (ops : Array Oper) (n : Nat) (fl : List (Bool × Option Nat)) (k : Nat) : Bool :=
  Nat.ble k ops.size && (List.range k).all (chkOp ops n fl k) && chkTail ops k && (Nat.beq k ops.size || (Region.sinkB .any ops k && Region.chainB .any ops k))

/-- Entries in another order, or fewer. -/
theorem Own.sub {L1 L2 : List Ent} {w1 : World} (H : Own S w0 w1 L1) (σ : Nat → Nat) (hσ : ∀ i e, L2[i]? = some e → L1[σ i]? = some e) (hinj : ∀ i j, i < L2.length → j < L2.length → σ i = σ j → i = j) : Own S w0 w1 L2 :=
  ⟨H.fr, fun i e h => H.ok (σ i) e (hσ i e h), fun i j e f hi hj hij b hb => H.sep (σ i) (σ j) e f (hσ i e hi) (hσ j f hj) (fun h => hij (hinj i j (List.getElem?_eq_some_iff.1 hi).1 (List.getElem?_eq_some_iff.1 hj).1 h)) b hb,
    fun i e h => H.own (σ i) e (hσ i e h)⟩

theorem get_idxOf {l : List Nat} {x : Nat} (h : x ∈ l) : l[l.idxOf x]? = some x := by
  have h1 := List.idxOf_lt_length_of_mem h
  rw [List.getElem?_eq_getElem h1, List.getElem_idxOf h1]

/-- The same entries in another order. -/
theorem Own.perm {f : Nat → Ent} {w1 : World} {A B : List Nat} (hA : A.Nodup) (hB : B.Nodup) (hm : ∀ i, i ∈ B → i ∈ A) (H : Own S w0 w1 (L ++ A.map f)) : Own S w0 w1 (L ++ B.map f) := by
  refine H.sub (fun i => if i < L.length then i else L.length + A.idxOf (B.getD (i - L.length) 0)) (fun i e h => ?_) (fun i j hi hj hij => ?_)
  · by_cases hil : i < L.length
    · simp only [if_pos hil]
      rw [List.getElem?_append_left hil] at h ⊢
      exact h
    · simp only [if_neg hil]
      rw [List.getElem?_append_right (by omega), List.getElem?_map] at h
      rw [List.getElem?_append_right (by omega), Nat.add_sub_cancel_left, List.getElem?_map]
      cases hb : B[i - L.length]? with
      | none => rw [hb] at h; cases h
      | some x =>
        rw [hb] at h
        have hx : B.getD (i - L.length) 0 = x := by simp [List.getD, hb]
        have hxA : x ∈ A := hm x (List.mem_of_getElem? hb)
        rw [hx, get_idxOf hxA]
        exact h
  · simp only [List.length_append, List.length_map] at hi hj
    by_cases hil : i < L.length
    · by_cases hjl : j < L.length
      · simpa [hil, hjl] using hij
      · simp only [if_pos hil, if_neg hjl] at hij; omega
    · by_cases hjl : j < L.length
      · simp only [if_neg hil, if_pos hjl] at hij; omega
      · simp only [if_neg hil, if_neg hjl, Nat.add_left_cancel_iff] at hij
        have hi' : i - L.length < B.length := by omega
        have hj' : j - L.length < B.length := by omega
        have e1 : B.getD (i - L.length) 0 = B[i - L.length] := by simp [hi']
        have e2 : B.getD (j - L.length) 0 = B[j - L.length] := by simp [hj']
        rw [e1, e2] at hij
        have m1 := hm _ (List.getElem_mem hi')
        have m2 := hm _ (List.getElem_mem hj')
        have : B[i - L.length] = B[j - L.length] := by
          have h1 := get_idxOf m1
          have h2 := get_idxOf m2
          rw [hij] at h1
          exact Option.some.inj (h1.symm.trans h2)
        have := (List.getElem_inj hB).1 this
        omega

/-! The state in the midst of a head. -/
structure Mid (P : Program) (n : Nat) (D : List Deferred) (ops : Array Oper) (S : List Nat) (w0 : World) (L : List Ent) (k : Nat) (sp : List Sp) (ρ : Env) (listed : Array Bool) (β : Nat → Nat) (Fl : List Nat) (a : Act) (w1 : World) : Prop where
  size : a.tmps.size = n
  defers : a.defers = D
  inv : HeadInv .any ops k listed
  heap : Own S w0 w1 (L ++ Fl.map (entAt sp β))
  nodup : Fl.Nodup
  mem : ∀ i, i ∈ Fl ↔ i < k ∧ listed.getD i false = true ∧ (sp[i]?).map Sp.isF = some true
  done : ∀ (i : Nat) (o : Oper) (s : Sp) (d : Tmp), i < k → listed.getD i false = true → ops[i]? = some o → sp[i]? = some s → o.dst = some d →
    a.tmps.getD d undef = s.val (β i)
  rest : ∀ t v, Env.get ρ t = some v → (∀ (i : Nat) (o : Oper), i < k → listed.getD i false = true → ops[i]? = some o → o.dst ≠ some t) → a.tmps.getD t undef = v

theorem allRange {k : Nat} {p : Nat → Bool} (h : (List.range k).all p = true) {i : Nat} (hi : i < k) : p i = true := List.all_eq_true.1 h i (List.mem_range.2 hi)

theorem edge_spec {i j : Nat} (h : edge ops i j = true) : ∃ o, ops[i]? = some o ∧ ∃ e ∈ o.after, Region.binds .any e = true ∧ e.on = j := by
  unfold edge at h
  split at h
  · rename_i o ho
    obtain ⟨e, he, hb⟩ := Array.any_eq_true'.1 h
    simp only [Bool.and_eq_true] at hb
    exact ⟨o, ho, e, he, hb.1, Nat.eq_of_beq_eq_true hb.2⟩
  · cases h

theorem ready_edge {i j : Nat} {listed : Array Bool} (hr : i ∈ Region.ready .any ops listed) (h : edge ops i j = true) : listed.getD j false = true := by
  obtain ⟨o, ho, e, he, hb, hon⟩ := edge_spec h
  obtain ⟨_, o', ho', hall⟩ := mem_ready.1 hr
  have : o' = o := Option.some.inj (ho'.symm.trans ho)
  subst this
  rw [← hon]; exact hall e he hb

/-- An act that agrees with the lexical environment, and with the given act where the operation looks. -/
theorem stand {a : Act} {ρi : Env} (hs : a.tmps.size = n) (hd : a.defers = D) (hb : ∀ t v, Env.get ρi t = some v → n ≤ t → v = undef) :
    ∃ b : Act, Agr n D ρi b ∧ ∀ t, (Env.get ρi t = none ∨ Env.get ρi t = some (a.tmps.getD t undef)) → b.tmps.getD t undef = a.tmps.getD t undef := by
  refine ⟨⟨(List.ofFn (n := n) fun i => (Env.get ρi i.val).getD (a.tmps.getD i.val undef)).toArray, D⟩, ⟨by simp, rfl, fun t v hv => ?_⟩, fun t ht => ?_⟩
  · by_cases hl : t < n
    · simp [hl, hv]
    · rw [hb t v hv (by omega)]; simp [hl]
  · by_cases hl : t < n
    · rcases ht with ht | ht
      · simp [hl, ht]
      · simp only [Array.getD_eq_getD_getElem?] at ht ⊢
        simp [hl, ht]
    · have h1 : a.tmps.size ≤ t := by omega
      simp [hl, Array.getElem?_eq_none h1]

theorem eval_same {o : Oper} {a b : Act} (h : ∀ t, t ∈ o.looksAt ops → b.tmps.getD t undef = a.tmps.getD t undef) (hsel : isSel o.op = false) : execOp a.eval o = execOp b.eval o := by
  refine execOp_congr o (fun cs bb e => by rw [e] at hsel; simp [isSel] at hsel) fun x hx => ?_
  cases x with
  | tmp t =>
    have : t ∈ o.looksAt ops := List.mem_append_left _ (List.mem_filterMap.2 ⟨.tmp t, by simpa using hx, rfl⟩)
    exact (h t this).symm
  | _ => rfl

theorem yielded_same {o : Oper} {a b : Act} {j : Nat} {want : Bool} (hg : o.guard = some (j, want)) (h : ∀ t, t ∈ o.looksAt ops → b.tmps.getD t undef = a.tmps.getD t undef) : yielded ops a.tmps j = yielded ops b.tmps j := by
  unfold yielded
  cases ht : (ops[j]?).bind (·.dst) with
  | none => rfl
  | some t =>
    have hm : t ∈ o.looksAt ops := by simp [Oper.looksAt, hg, ht]
    have h1 := h t hm
    simp only [Option.bind_some]
    have key : ∀ c : Array Value, (match c[t]? with | some (.bool b) => some b | _ => none) = sees (c.getD t undef) := fun c => by
      rcases Nat.lt_or_ge t c.size with hl | hl
      · simp [hl]; cases c[t] <;> rfl
      · simp [Array.getElem?_eq_none hl]; rfl
    exact (key a.tmps).trans ((congrArg sees h1.symm).trans (key b.tmps).symm)

theorem wpOp_of {i : Nat} {o : Oper} {a : Act} {w1 : World} {K : Act → World → Prop} (ho : ops[i]? = some o) (h : if Region.wanted o (yielded ops a.tmps) then o.wp P a w1 K Q else K (a.put o.dst undef) w1) : wpOp P ops Q i K a w1 := by
  unfold wpOp
  simp only [ho]
  split
  · rename_i hw; rw [if_pos hw] at h; exact .inl h
  · rename_i hw; rw [if_neg hw] at h; exact h

def xext (x : Option (Nat × Value)) (ρ : Env) : Env := match x with
  | some (t, v) => (t, v) :: ρ
  | none => ρ

theorem Mid.step {k : Nat} {sp : List Sp} {listed : Array Bool} {β : Nat → Nat} {Fl : List Nat} {a : Act} {w1 : World} {l : List Oper} {i : Nat} (hops : ops = l.toArray) (hW : HW P n D ops S w0 L 0 [] (l.take k) sp ρ)
    (hch : ∀ i, i < k → chkOp ops n (sp.map Sp.mark) k i = true) (hk : k ≤ ops.size) (hbig : ∀ t v, Env.get ρ t = some v → n ≤ t → v = undef)
    (M : Mid P n D ops S w0 L k sp ρ listed β Fl a w1) (hr : i ∈ Region.ready .any ops listed) (hik : i < k) {K : Act → World → Prop}
    (hK : ∀ β' Fl' a' w2, Mid P n D ops S w0 L k sp ρ (listed.setIfInBounds i true) β' Fl' a' w2 → K a' w2) : wpOp P ops Q i K a w1 := by
  subst hops
  have hlen := hW.len
  have htl : (l.take k).length = k := by simp at hk ⊢; omega
  obtain ⟨hun, o, ho, hall⟩ := mem_ready.1 hr
  have hol : (l.take k)[i]? = some o := by rw [List.getElem?_take, if_pos hik]; simpa using ho
  obtain ⟨s, hs⟩ : ∃ s, sp[i]? = some s := ⟨sp[i]'(by omega), by simp [show i < sp.length by omega]⟩
  have hc := hch i hik
  unfold chkOp at hc
  rw [ho] at hc
  simp only [Bool.and_eq_true] at hc
  obtain ⟨⟨⟨⟨⟨hdep, hsel⟩, hdok⟩, hlook⟩, hedges⟩, hdst⟩ := hc
  have hsel' : isSel o.op = false := by simpa using hsel
  have hat := hW.at (l.take k) sp (fun f hf => by cases hf) (fun j => by simp) (fun j => by simp) i o s hol hs
  have hdj : ∀ j oj, j < k → l.toArray[j]? = some oj → ∀ t : Nat, oj.dst = some t → t < n := fun j oj hj h1 t h3 => by
    have hcj := hch j hj
    unfold chkOp at hcj
    rw [h1] at hcj
    simp only [Bool.and_eq_true] at hcj
    have := hcj.1.1.1.2
    rw [h3] at this
    simpa [dOK, Nat.blt_eq] using this
  -- the lexical environment
  let ρi := dets ((l.take k).take i) (sp.take i) ρ
  have hρi : ∀ t v, Env.get ρi t = some v → (∃ (j : Nat) (oj : Oper) (dp : Option Nat), j < i ∧ l.toArray[j]? = some oj ∧ sp[j]? = some (Sp.det v dp) ∧ oj.dst = some t) ∨ (Env.get ρ t = some v ∧ ∀ (j : Nat) (oj : Oper) (u : Value) (dp : Option Nat), j < i → l.toArray[j]? = some oj → sp[j]? = some (Sp.det u dp) → oj.dst ≠ some t) := by
    intro t v hv
    rcases dets_get _ _ _ t v hv with ⟨j, oj, dp, h1, h2, h3⟩ | ⟨h1, h2⟩
    · have hji : j < i := by
        rcases Nat.lt_or_ge j i with h | h
        · exact h
        · rw [List.getElem?_take, if_neg (by omega)] at h1; cases h1
      rw [List.getElem?_take, if_pos hji, List.getElem?_take, if_pos (by omega)] at h1
      rw [List.getElem?_take, if_pos hji] at h2
      exact .inl ⟨j, oj, dp, hji, by simpa using h1, h2, h3⟩
    · refine .inr ⟨h1, fun j oj u dp hj h3 h4 => h2 j oj u dp ?_ ?_⟩
      · rw [List.getElem?_take, if_pos hj, List.getElem?_take, if_pos (by omega)]; simpa using h3
      · rw [List.getElem?_take, if_pos hj]; exact h4
  -- an environment for this operation: with the slots of the block that it sees
  have key : ∀ (x : Option (Nat × Value)), (∀ t v, x = some (t, v) → t < n ∧ a.tmps.getD t undef = v) → (∀ t v j, x = some (t, v) → s.dep = some j → True) →
      (∀ t, t ∈ o.looksAt l.toArray → (∀ v, x ≠ some (t, v)) → ∀ j oj, j < i → l.toArray[j]? = some oj → oj.dst = some t → edge l.toArray i j = true → (sp[j]?).map Sp.isF ≠ some true) →
      ∃ b : Act, Agr n D (xext x ρi) b ∧ ∀ t, t ∈ o.looksAt l.toArray → b.tmps.getD t undef = a.tmps.getD t undef := by
    intro x hx _ hxl
    obtain ⟨b, hb1, hb2⟩ := stand (a := a) (D := D) (ρi := xext x ρi) M.size M.defers (fun t v hv hn => by
      have hbase : Env.get ρi t = some v → v = undef := fun hv => by
        rcases hρi t v hv with ⟨j, oj, dp, hj, h1, h2, h3⟩ | ⟨h1, _⟩
        · have := hdj j oj (by omega) h1 t h3; omega
        · exact hbig t v h1 hn
      cases x with
      | none => exact hbase hv
      | some tv =>
        obtain ⟨t0, v0⟩ := tv
        simp only [xext, Env.get] at hv
        split at hv
        · rename_i hb
          have : t0 = t := by simpa using hb
          have := (hx t0 v0 rfl).1; omega
        · exact hbase hv)
    refine ⟨b, hb1, fun t ht => hb2 t ?_⟩
    have hbase : (∀ v, x ≠ some (t, v)) → (Env.get ρi t = none ∨ Env.get ρi t = some (a.tmps.getD t undef)) := by
      intro hxt
      cases hg : Env.get ρi t with
      | none => exact .inl rfl
      | some v =>
        right
        have hcl := List.all_eq_true.1 hlook t ht
        unfold chkLook at hcl
        rcases hρi t v hg with ⟨j, oj, dp, hj, h1, h2, h3⟩ | ⟨h1, h2⟩
        · have hjs : j < l.toArray.size := (Array.getElem?_eq_some_iff.1 h1).1
          have := allRange hcl hjs
          rw [h1] at this
          simp only [h3] at this
          simp only [Bool.or_eq_true, Bool.and_eq_true, Nat.blt_eq, Bool.not_eq_true'] at this
          rcases this with (h4 | ⟨⟨h4, h5⟩, h6⟩) | ⟨h4, h5⟩
          · simp at h4
          · rw [M.done j oj _ t (by omega) (ready_edge hr h5) h1 h2 h3]; rfl
          · omega
        · rw [M.rest t v h1 (fun j oj hj hlj hoj hdjt => ?_)]
          have hjs : j < l.toArray.size := (Array.getElem?_eq_some_iff.1 hoj).1
          have := allRange hcl hjs
          rw [hoj] at this
          simp only [hdjt] at this
          simp only [Bool.or_eq_true, Bool.and_eq_true, Nat.blt_eq, Bool.not_eq_true'] at this
          rcases this with (h4 | ⟨⟨h4, h5⟩, h6⟩) | ⟨h4, h5⟩
          · simp at h4
          · obtain ⟨sj, hsj⟩ : ∃ s, sp[j]? = some s := ⟨sp[j]'(by omega), by simp [show j < sp.length by omega]⟩
            cases sj with
            | det u dp => exact h2 j oj u dp h4 hoj hsj hdjt
            | flt mk' ent => exact hxl t ht hxt j oj h4 hoj hdjt h5 (by rw [hsj]; rfl)
          · -- j waits for i, which is not listed
            obtain ⟨oj', hoj', e, he, hbd, hon⟩ := edge_spec h5
            have h7 := M.inv.closed j oj' hoj' hlj e he hbd
            rw [hon, getD_both hun] at h7
            cases h7
    cases x with
    | none => exact hbase (fun v h => by cases h)
    | some tv =>
      obtain ⟨t0, v0⟩ := tv
      by_cases ht0 : t0 = t
      · subst ht0
        right
        simp only [xext, Env.get]
        rw [if_pos (by simp)]
        rw [(hx t0 v0 rfl).2]
      · have hne : ¬ (Nat.beq t0 t = true) := by simpa using ht0
        simp only [xext, Env.get]
        rw [if_neg hne]
        exact hbase (fun v h => ht0 (by injection h with h; injection h))
  have hnoF : s.dep = none → ∀ t, t ∈ o.looksAt l.toArray → ∀ j oj, j < i → l.toArray[j]? = some oj → oj.dst = some t → edge l.toArray i j = true → (sp[j]?).map Sp.isF ≠ some true := by
    intro hsd t ht j oj hj hoj hdjt hed hfl
    have hcl := List.all_eq_true.1 hlook t ht
    unfold chkLook at hcl
    have hjs : j < l.toArray.size := (Array.getElem?_eq_some_iff.1 hoj).1
    have := allRange hcl hjs
    rw [hoj] at this
    simp only [hdjt] at this
    have e1 : ((sp.map Sp.mark).getD i (true, none)).2 = none := by simp [List.getD, hs, Sp.mark, hsd]
    have e2 : ((sp.map Sp.mark).getD j (true, none)).1 = true := by
      cases hsj : sp[j]? with
      | none => rw [hsj] at hfl; cases hfl
      | some sj => rw [hsj] at hfl; simp only [Option.map_some, Option.some.injEq] at hfl; simp [List.getD, hsj, Sp.mark, hfl]
    rw [e1, e2] at this
    simp at this
    omega
  -- the state behind
  have hrest : ∀ (v : Value) (t : Nat) (u : Value), Env.get ρ t = some u → (∀ (j : Nat) (oj : Oper), j < k → (listed.setIfInBounds i true).getD j false = true → l.toArray[j]? = some oj → oj.dst ≠ some t) → (a.put o.dst v).tmps.getD t undef = u := by
    intro v t u hu hno
    have hil : i < listed.size := by rw [M.inv.size]; exact (Array.getElem?_eq_some_iff.1 ho).1
    have hne : o.dst ≠ some t := hno i o hik (by simp [hil]) ho
    have h1 := M.rest t u hu (fun j oj hj hl => hno j oj hj (getD_set_true hl))
    cases hd : o.dst with
    | none => exact h1
    | some d =>
      have : d ≠ t := fun e => hne (by rw [hd, e])
      simp only [Act.put, Array.getD_eq_getD_getElem?, Array.getElem?_setIfInBounds_ne this] at h1 ⊢
      exact h1
  have hdone : ∀ (β' : Nat → Nat) (v : Value), (∀ j, j < k → listed.getD j false = true → β' j = β j) → (∀ d, o.dst = some d → v = s.val (β' i)) →
      ∀ (j : Nat) (oj : Oper) (sj : Sp) (d : Tmp), j < k → (listed.setIfInBounds i true).getD j false = true → l.toArray[j]? = some oj → sp[j]? = some sj → oj.dst = some d →
        (a.put o.dst v).tmps.getD d undef = sj.val (β' j) := by
    intro β' v hβ hv j oj sj d hj hl hoj hsj hdj
    by_cases hji : i = j
    · subst hji
      have : oj = o := Option.some.inj (hoj.symm.trans ho)
      subst this
      have : sj = s := Option.some.inj (hsj.symm.trans hs)
      subst this
      rw [hdj] at hdok ⊢
      have hd' : d < n := by simpa [dOK, Nat.blt_eq] using hdok
      rw [← hv d hdj]
      simp [Act.put, M.size, hd']
    · rw [getD_set_ne false hji] at hl
      have h1 := M.done j oj sj d hj hl hoj hsj hdj
      have h2 : sj.val (β' j) = sj.val (β j) := by rw [hβ j hj hl]
      rw [h2, ← h1]
      cases hd : o.dst with
      | none => rfl
      | some d' =>
        have h3 := allRange hdst hj
        rw [hd] at h3
        have h4 : (l.toArray[j]?).bind (·.dst) = some d := by rw [hoj]; exact hdj
        rw [h4] at h3
        simp only [Bool.or_eq_true, Bool.not_eq_true'] at h3
        have : d' ≠ d := by
          rcases h3 with h3 | h3
          · exact absurd (Nat.eq_of_beq_eq_true h3).symm hji
          · intro e; subst e; simp at h3
        simp [Act.put, Array.getElem?_setIfInBounds_ne this]
  have hsz : ∀ v, (a.put o.dst v).tmps.size = n := fun v => by cases o.dst <;> simp [Act.put, M.size]
  have hdf : ∀ v, (a.put o.dst v).defers = D := fun v => by cases o.dst <;> exact M.defers
  have hmem0 : ∀ j, j ∈ Fl → j ≠ i := fun j hj e => by
    have := ((M.mem j).1 hj).2.1
    rw [e, getD_both hun] at this; cases this
  have Hprefix : Own S w0 w1 L := by
    have := M.heap.take L.length
    simpa using this
  cases s with
  | det v dp =>
    have hnew : ∀ w2, Fr [] w1 w2 → Mid P n D l.toArray S w0 L k sp ρ (listed.setIfInBounds i true) β Fl (a.put o.dst v) w2 := fun w2 hf =>
      ⟨hsz v, hdf v, M.inv.set hr hik, M.heap.fr' hf, M.nodup, fun j => by
        rw [M.mem j]
        by_cases hji : i = j
        · subst hji
          constructor
          · intro h; rw [getD_both hun] at h; cases h.2.1
          · intro h; rw [hs] at h; cases h.2.2
        · rw [getD_set_ne false hji], hdone β v (fun _ _ _ => rfl) (fun _ _ => rfl), hrest v⟩
    have fin : ∀ (L' : List Ent) (E : Env) (b : Act), Own S w0 w1 L' → Agr n D E b → (∀ t, t ∈ o.looksAt l.toArray → b.tmps.getD t undef = a.tmps.getD t undef) → DetG P n D l.toArray S w0 L' o E v → wpOp P l.toArray Q i K a w1 := by
      intro L' E b hO hb1 hsame hat'
      have hex := eval_same hsame hsel'
      unfold DetG at hat'
      refine wpOp_of ho ?_
      cases hg : o.guard with
      | none =>
        rw [hg] at hat'
        rw [if_pos (by simp [Region.wanted, hg])]
        have h1 := hat' w1 hO b hb1
        rw [← hex] at h1
        exact h1.wp fun u w2 ⟨hu, hf⟩ => by subst hu; exact hK _ _ _ _ (hnew w2 hf)
      | some gw =>
        obtain ⟨j, want⟩ := gw
        rw [hg] at hat'
        obtain ⟨t, u, hj, hu, hcase⟩ := hat'
        have hy : yielded l.toArray a.tmps j = sees u := (yielded_same hg hsame).trans (yielded_of hb1 hj hu)
        rcases hcase with ⟨hsee, hdet⟩ | ⟨hsee, hv⟩
        · rw [if_pos (by simp [Region.wanted, hg, hy, hsee])]
          have h1 := hdet w1 hO b hb1
          rw [← hex] at h1
          exact h1.wp fun u w2 ⟨hu, hf⟩ => by subst hu; exact hK _ _ _ _ (hnew w2 hf)
        · rw [if_neg (by simp [Region.wanted, hg, hy, hsee])]
          subst hv
          exact hK _ _ _ _ (hnew w1 (Fr.refl _ _))
    obtain ⟨Γ', hΓ, hD⟩ : ∃ Γ', GamOK (l.take k) sp (0 + i) Γ' ∧ DetD P n D l.toArray S w0 L Γ' o ρi v dp := hat
    cases dp with
    | none =>
      obtain ⟨b, hb1, hb2⟩ := key none (fun t v h => by cases h) (fun _ _ _ h => by cases h) (fun t ht _ => hnoF rfl t ht)
      exact fin L ρi b Hprefix hb1 hb2 hD
    | some j =>
      obtain ⟨f, hf, hfj, hDet⟩ := hD
      obtain ⟨hji, hsj, oj, hoj0, hdjf⟩ := hΓ f hf
      rw [hfj] at hji hsj hoj0
      have hji' : j < i := by omega
      have hoj : l.toArray[j]? = some oj := by rw [List.getElem?_take, if_pos (by omega)] at hoj0; simpa using hoj0
      have hedge : edge l.toArray i j = true := by
        unfold chkDep at hdep
        have e1 : ((sp.map Sp.mark).getD i (true, none)).2 = some j := by simp [List.getD, hs, Sp.mark, Sp.dep]
        rw [e1] at hdep; exact hdep
      have hlj := ready_edge hr hedge
      have hjF : j ∈ Fl := (M.mem j).2 ⟨by omega, hlj, by rw [hsj]; rfl⟩
      have hO : Own S w0 w1 (L ++ [f.ent (β j)]) := by
        have h1 := Own.perm (A := Fl) (B := [j]) M.nodup (by simp) (fun x hx => by simp at hx; subst hx; exact hjF) M.heap
        have e : entAt sp β j = f.ent (β j) := by simp [entAt, hsj]
        simpa [e] using h1
      obtain ⟨b, hb1, hb2⟩ := key (match f.dst with | some t => some (t, f.mk' (β j)) | none => none) (fun t v' h => by
        cases hfd : f.dst with
        | none => rw [hfd] at h; cases h
        | some t0 =>
          rw [hfd] at h
          simp only [Option.some.injEq, Prod.mk.injEq] at h
          obtain ⟨rfl, rfl⟩ := h
          exact ⟨hdj j oj (by omega) hoj t0 (by rw [hdjf, hfd]), by rw [M.done j oj _ t0 (by omega) hlj hoj hsj (by rw [hdjf, hfd])]; rfl⟩) (fun _ _ _ _ _ => trivial) (fun t ht hxt j' oj' hj' hoj' hdt hed' hfl' => by
          have hcl := List.all_eq_true.1 hlook t ht
          unfold chkLook at hcl
          have hjs : j' < l.toArray.size := (Array.getElem?_eq_some_iff.1 hoj').1
          have := allRange hcl hjs
          rw [hoj'] at this
          simp only [hdt] at this
          have e1 : ((sp.map Sp.mark).getD i (true, none)).2 = some j := by simp [List.getD, hs, Sp.mark, Sp.dep]
          have e2 : ((sp.map Sp.mark).getD j' (true, none)).1 = true := by
            cases hsj' : sp[j']? with
            | none => rw [hsj'] at hfl'; cases hfl'
            | some sj => rw [hsj'] at hfl'; simp only [Option.map_some, Option.some.injEq] at hfl'; simp [List.getD, hsj', Sp.mark, hfl']
          rw [e1, e2] at this
          have hjj : j = j' := by
            rcases Nat.lt_trichotomy i j' with h | h | h
            · omega
            · omega
            · have hlt : ¬ i < j' := by omega
              simp [hlt] at this
              exact this.2
          subst hjj
          have : oj' = oj := Option.some.inj (hoj'.symm.trans hoj)
          subst this
          exact hxt (f.mk' (β j)) (by rw [← hdjf, hdt]))
      refine fin (L ++ [f.ent (β j)]) (ext ρi f.dst (f.mk' (β j))) b hO ?_ hb2 (hDet (β j))
      cases hfd : f.dst with
      | none => rw [hfd] at hb1; exact hb1
      | some t0 => rw [hfd] at hb1; exact hb1
  | flt mk ent =>
    obtain ⟨hg, hflt⟩ : o.guard = none ∧ FltAt P n D o ρi mk ent := hat
    obtain ⟨b, hb1, hb2⟩ := key none (fun t v h => by cases h) (fun _ _ _ h => by cases h) (fun t ht _ => hnoF rfl t ht)
    have hex := eval_same hb2 hsel'
    refine wpOp_of ho ?_
    rw [if_pos (by simp [Region.wanted, hg])]
    have h1 := hflt w1 b hb1
    rw [← hex] at h1
    refine h1.wp fun u w2 ⟨bb, hu, hown, hsol⟩ => ?_
    subst hu
    let β' : Nat → Nat := fun j => if j = i then bb else β j
    have hβ : ∀ j, j ≠ i → β' j = β j := fun j hj => by simp [β', hj]
    have hβi : β' i = bb := by simp [β']
    refine hK β' (Fl ++ [i]) _ w2 ⟨hsz _, hdf _, M.inv.set hr hik, ?_, ?_, fun j => ?_, hdone β' _ (fun j _ hl => hβ j (fun e => by rw [e, getD_both hun] at hl; cases hl)) (fun _ _ => by simp [Sp.val, hβi]), hrest _⟩
    · have e1 : (Fl ++ [i]).map (entAt sp β') =
          Fl.map (entAt sp β) ++ [ent bb] := by
        rw [List.map_append]
        congr 1
        · refine List.map_congr_left fun j hj => ?_
          simp only [entAt, hβ j (hmem0 j hj)]
        · simp [entAt, hs, hβi]
      rw [e1, ← List.append_assoc]
      refine M.heap.new hown.fr (hown.ok 0 (ent bb) rfl) (fun b' hb' => ?_) ?_
      · rcases hown.own 0 (ent bb) rfl b' hb' with h | h
        · exact h
        · cases h
      · exact hsol
    · rw [List.nodup_append]
      exact ⟨M.nodup, by simp, fun x hx y hy => by simp at hy; subst hy; exact hmem0 x hx⟩
    · rw [List.mem_append, M.mem j]
      by_cases hji : i = j
      · subst hji
        have hil : i < listed.size := by rw [M.inv.size]; exact (Array.getElem?_eq_some_iff.1 ho).1
        simp [hs, Sp.isF, hik, hil]
      · rw [getD_set_ne false hji]
        constructor
        · rintro (h | h)
          · exact h
          · simp at h; exact absurd h.symm hji
        · exact fun h => .inl h

/-! Counting what is still to come. -/
def undone (k : Nat) (listed : Array Bool) : Nat := (List.range k).countP (fun i => !listed.getD i false)

theorem undone_set {k i : Nat} {listed : Array Bool} (hik : i < k) (hun : listed.getD i true = false) : undone k (listed.setIfInBounds i true) + 1 = undone k listed := by
  have hil : i < listed.size := by
    rcases Nat.lt_or_ge i listed.size with h | h
    · exact h
    · simp [Array.getElem?_eq_none h] at hun
  unfold undone
  have key : ∀ (l : List Nat), l.Nodup → i ∈ l → l.countP (fun j => !(listed.setIfInBounds i true).getD j false) + 1 = l.countP (fun j => !listed.getD j false) := by
    intro l
    induction l with
    | nil => intro _ h; cases h
    | cons x xs ih =>
      intro hnd hm
      rw [List.countP_cons, List.countP_cons]
      rw [List.nodup_cons] at hnd
      by_cases hxi : x = i
      · subst hxi
        have h1 : (listed.setIfInBounds x true).getD x false = true := by simp [hil]
        have h2 : listed.getD x false = false := getD_both hun
        have h3 : xs.countP (fun j => !(listed.setIfInBounds x true).getD j false) = xs.countP (fun j => !listed.getD j false) :=
          List.countP_congr fun j hj => by rw [getD_set_ne false (fun e => hnd.1 (by rw [e]; exact hj))]
        simp only [h1, h2, h3]; simp
      · have hm' : i ∈ xs := by rcases List.mem_cons.1 hm with h | h; exact absurd h.symm hxi; exact h
        have h1 := ih hnd.2 hm'
        have h2 : (listed.setIfInBounds i true).getD x false = listed.getD x false := getD_set_ne false (fun e => hxi e.symm)
        rw [h2]; omega
  exact key _ List.nodup_range (List.mem_range.2 hik)

theorem undone_zero {k : Nat} {listed : Array Bool} (h : undone k listed = 0) : ∀ i, i < k → listed.getD i false = true := by
  intro i hi
  unfold undone at h
  have := (List.countP_eq_zero.1 h) i (List.mem_range.2 hi)
  simpa using this

/-- The first that is not done may come. -/
theorem some_ready {k : Nat} {listed : Array Bool} {fl : List (Bool × Option Nat)} (hsz : listed.size = ops.size) (hk : k ≤ ops.size) (hch : ∀ i, i < k → chkOp ops n fl k i = true) : ∀ i, i < k → listed.getD i false = false → ∃ j, j < k ∧ j ∈ Region.ready .any ops listed := by
  intro i
  induction i using Nat.strongRecOn with
  | _ i ih =>
    intro hi hl
    by_cases hex : ∃ j, j < i ∧ listed.getD j false = false
    · obtain ⟨j, hj, hlj⟩ := hex
      exact ih j hj (by omega) hlj
    · have hc := hch i hi
      unfold chkOp at hc
      have hin : i < ops.size := by omega
      have ho : ops[i]? = some ops[i] := by simp [hin]
      rw [ho] at hc
      simp only [Bool.and_eq_true] at hc
      refine ⟨i, hi, mem_ready.2 ⟨getD_in (by rw [hsz]; exact hin) hl, ops[i], ho, fun e he hb => ?_⟩⟩
      have h1 := Array.all_eq_true'.1 hc.1.2 e he
      simp only [Bool.or_eq_true, Bool.not_eq_true', Nat.blt_eq] at h1
      rcases h1 with h1 | h1
      · rw [hb] at h1; cases h1
      · cases hle : listed.getD e.on false with
        | true => rfl
        | false => exact absurd ⟨e.on, h1, hle⟩ hex

def fidx : List Sp → Nat → List Nat
  | .det _ _ :: sp, i => fidx sp (i + 1)
  | .flt _ _ :: sp, i => i :: fidx sp (i + 1)
  | [], _ => []
theorem fidx_mem : ∀ (sp : List Sp) (i j : Nat), j ∈ fidx sp i ↔ i ≤ j ∧ (sp[j - i]?).map Sp.isF = some true
  | [], i, j => by simp [fidx]
  | .det v _ :: sp, i, j => by
    simp only [fidx, fidx_mem sp (i + 1) j]
    constructor
    · rintro ⟨h1, h2⟩
      refine ⟨by omega, ?_⟩
      rw [show j - i = (j - (i + 1)) + 1 by omega]; simpa using h2
    · rintro ⟨h1, h2⟩
      have hne : j ≠ i := by intro e; subst e; simp [Sp.isF] at h2
      refine ⟨by omega, ?_⟩
      rw [show j - i = (j - (i + 1)) + 1 by omega] at h2; simpa using h2
  | .flt m e :: sp, i, j => by
    simp only [fidx, List.mem_cons, fidx_mem sp (i + 1) j]
    constructor
    · rintro (h | ⟨h1, h2⟩)
      · subst h; simp [Sp.isF]
      · refine ⟨by omega, ?_⟩
        rw [show j - i = (j - (i + 1)) + 1 by omega]; simpa using h2
    · rintro ⟨h1, h2⟩
      by_cases hne : j = i
      · exact .inl hne
      · right
        refine ⟨by omega, ?_⟩
        rw [show j - i = (j - (i + 1)) + 1 by omega] at h2; simpa using h2
theorem fidx_nodup : ∀ (sp : List Sp) (i : Nat), (fidx sp i).Nodup
  | [], i => by simp [fidx]
  | .det v _ :: sp, i => fidx_nodup sp (i + 1)
  | .flt m e :: sp, i => by
    simp only [fidx, List.nodup_cons]
    refine ⟨fun h => ?_, fidx_nodup sp (i + 1)⟩
    have := (fidx_mem sp (i + 1) i).1 h
    omega
theorem fents_eq (β : Nat → Nat) : ∀ (sp full : List Sp) (i : Nat), (∀ j, sp[j]? = full[i + j]?) → fents sp β i = (fidx sp i).map (entAt full β)
  | [], full, i, _ => rfl
  | .det v _ :: sp, full, i, h => by
    simp only [fents, fidx]
    exact fents_eq β sp full (i + 1) (fun j => by have := h (j + 1); simpa [Nat.add_assoc, Nat.add_comm 1 j] using this)
  | .flt m e :: sp, full, i, h => by
    simp only [fents, fidx, List.map_cons]
    have h0 : full[i]? = some (.flt m e) := by have := h 0; simpa using this.symm
    congr 1
    · simp [entAt, h0]
    · exact fents_eq β sp full (i + 1) (fun j => by have := h (j + 1); simpa [Nat.add_assoc, Nat.add_comm 1 j] using this)

/-- What the environment with the new blocks says of a slot. -/
theorem fenv_get (β : Nat → Nat) : ∀ (l : List Oper) (sp : List Sp) (i : Nat) (ρ : Env) (t : Nat) (v : Value), Env.get (fenv l sp β i ρ) t = some v →
    (∃ (j : Nat) (o : Oper) (m : Nat → Value) (e : Nat → Ent), l[j]? = some o ∧ sp[j]? = some (Sp.flt m e) ∧ o.dst = some t ∧ v = m (β (i + j))) ∨
      (Env.get ρ t = some v ∧ ∀ (j : Nat) (o : Oper) (m : Nat → Value) (e : Nat → Ent), l[j]? = some o → sp[j]? = some (Sp.flt m e) → o.dst ≠ some t)
  | [], _, i, ρ, t, v, h => .inr ⟨by simpa [fenv] using h, fun j o m e h1 => by simp at h1⟩
  | o :: l, [], i, ρ, t, v, h => .inr ⟨by simpa [fenv] using h, fun j o m e _ h2 => by simp at h2⟩
  | o :: l, .det u _ :: sp, i, ρ, t, v, h => by
    rcases fenv_get β l sp (i + 1) ρ t v h with ⟨j, o', m, e, h1, h2, h3, h4⟩ | ⟨h1, h2⟩
    · exact .inl ⟨j + 1, o', m, e, by simpa using h1, by simpa using h2, h3, by rw [h4]; congr 2; omega⟩
    · refine .inr ⟨h1, fun j o' m e h3 h4 => ?_⟩
      cases j with
      | zero => simp at h4
      | succ j => exact h2 j o' m e (by simpa using h3) (by simpa using h4)
  | o :: l, .flt mk ent :: sp, i, ρ, t, v, h => by
    rcases fenv_get β l sp (i + 1) (ext ρ o.dst (mk (β i))) t v h with ⟨j, o', m, e, h1, h2, h3, h4⟩ | ⟨h1, h2⟩
    · exact .inl ⟨j + 1, o', m, e, by simpa using h1, by simpa using h2, h3, by rw [h4]; congr 2; omega⟩
    · have hsh : ∀ (j : Nat) (o' : Oper) (m : Nat → Value) (e : Nat → Ent), (o :: l)[j + 1]? = some o' → (Sp.flt mk ent :: sp)[j + 1]? = some (Sp.flt m e) → o'.dst ≠ some t :=
        fun j o' m e h3 h4 => h2 j o' m e (by simpa using h3) (by simpa using h4)
      cases hd : o.dst with
      | none =>
        rw [hd] at h1
        refine .inr ⟨h1, fun j o' m e h3 h4 => ?_⟩
        cases j with
        | zero => simp at h3; subst h3; rw [hd]; simp
        | succ j => exact hsh j o' m e h3 h4
      | some d =>
        rw [hd] at h1
        simp only [ext, Env.get] at h1
        split at h1
        · rename_i hb
          have : d = t := by simpa using hb
          subst this
          injection h1 with h1
          exact .inl ⟨0, o, mk, ent, rfl, rfl, hd, by rw [← h1]; simp⟩
        · rename_i hb
          have hne : d ≠ t := by simpa using hb
          refine .inr ⟨h1, fun j o' m e h3 h4 => ?_⟩
          cases j with
          | zero => simp at h3; subst h3; rw [hd]; simpa using hne
          | succ j => exact hsh j o' m e h3 h4

theorem WC.draw {id : Nat} {l : List Oper} (k : Nat) {sp : List Sp} (hm : P.follows .mixedOrders = true) (H : Own S w0 w L) (h : HW P n D l.toArray S w0 L 0 [] (l.take k) sp ρ) (hchk : chkDraw l.toArray n (sp.map Sp.mark) k = true)
    (tail : ∀ (β : Nat → Nat) w1, Own S w0 w1 (L ++ fents sp β 0) → WL P n D l.toArray Q (l.drop k) (fenv (l.take k) sp β 0 (dets (l.take k) sp ρ)) w1) : WC P n D (.region id l.toArray true) Q ρ w := by
  intro a ha
  unfold chkDraw at hchk
  simp only [Bool.and_eq_true, Nat.ble_eq] at hchk
  obtain ⟨⟨⟨hk, hall⟩, htailB⟩, hsink⟩ := hchk
  have hch : ∀ i, i < k → chkOp l.toArray n (sp.map Sp.mark) k i = true := fun i hi => allRange hall hi
  have hbig : ∀ t v, Env.get ρ t = some v → n ≤ t → v = undef := fun t v hv hn => by
    have := ha.get t v hv
    rw [← this]
    have : a.tmps.size ≤ t := by rw [ha.size]; exact hn
    simp [Array.getElem?_eq_none this]
  have hlen := h.len
  have htl : (l.take k).length = k := by simp at hk ⊢; omega
  have hspk : sp.length = k := by omega
  refine wp_region_any hm ?_
  have H0 : Own S w0 w.drew L := H.fr' (Fr.drew w)
  have M0 : Mid P n D l.toArray S w0 L k sp ρ (Array.replicate l.toArray.size false) (fun _ => 0) [] a w.drew :=
    ⟨ha.size, ha.defers, ⟨by simp, fun j oj _ hl => (by rw [getD_replicate_false] at hl; cases hl), fun t _ ht => getD_in (by simpa using ht) (getD_replicate_false _ _)⟩, by simpa using H0, by simp,
      fun i => by rw [getD_replicate_false]; simp, fun i o s d _ hl => (by rw [getD_replicate_false] at hl; cases hl), fun t v hv _ => ha.get t v hv⟩
  have main : ∀ f listed β Fl a' w1, undone k listed = f → Mid P n D l.toArray S w0 L k sp ρ listed β Fl a' w1 → wpAny P .any l.toArray Q (f + (l.drop k).length) listed a' w1 := by
    intro f
    induction f with
    | zero =>
      intro listed β Fl a' w1 hf M
      have hdone := undone_zero hf
      rw [Nat.zero_add]
      refine wpAny_of_seq (l.drop k) k listed a' w1 (fun j => by simp) ?_ ?_
      · have hle : listed = ((List.range l.toArray.size).map (fun i => Nat.blt i k)).toArray := by
          apply Array.ext
          · simp [M.inv.size]
          · intro i h1 h2
            have h3 : i < l.toArray.size := by rw [← M.inv.size]; exact h1
            have h4 : (((List.range l.toArray.size).map (fun i => Nat.blt i k)).toArray)[i] = Nat.blt i k := by simp
            rw [h4]
            by_cases hik : i < k
            · have := hdone i hik
              have h5 : listed.getD i false = listed[i] := by simp [h1]
              rw [h5] at this
              rw [this]; exact (by rw [Nat.blt_eq]; exact hik : Nat.blt i k = true).symm
            · have := M.inv.tail i (by omega) h3
              have h5 : listed.getD i true = listed[i] := by simp [h1]
              rw [h5] at this
              rw [this]
              cases hb : Nat.blt i k with
              | false => rfl
              | true => rw [Nat.blt_eq] at hb; omega
        have e : (l.drop k).length = l.toArray.size - k := by simp
        rw [hle, e]
        exact htailB
      · have hO : Own S w0 w1 (L ++ fents sp β 0) := by
          rw [fents_eq β sp sp 0 (fun j => by simp)]
          refine M.heap.perm M.nodup (fidx_nodup sp 0) (fun i hi => ?_)
          have h1 := (fidx_mem sp 0 i).1 hi
          simp only [Nat.sub_zero] at h1
          have hik : i < k := by
            rcases Nat.lt_or_ge i k with h | h
            · exact h
            · rw [List.getElem?_eq_none (by omega)] at h1; cases h1.2
          exact (M.mem i).2 ⟨hik, hdone i hik, h1.2⟩
        refine tail β w1 hO a' ⟨M.size, M.defers, fun t v hv => ?_⟩
        have hop : ∀ (j : Nat) (o : Oper), (l.take k)[j]? = some o → j < k ∧ l.toArray[j]? = some o := fun j o hj => by
          have hjk : j < k := by
            rcases Nat.lt_or_ge j k with h | h
            · exact h
            · rw [List.getElem?_take, if_neg (by omega)] at hj; cases hj
          rw [List.getElem?_take, if_pos hjk] at hj
          exact ⟨hjk, by simpa using hj⟩
        rcases fenv_get β _ sp 0 _ t v hv with ⟨j, o, m, e, h1, h2, h3, h4⟩ | ⟨hv, hnf⟩
        · obtain ⟨hjk, ho⟩ := hop j o h1
          rw [M.done j o _ t hjk (hdone j hjk) ho h2 h3, h4]
          simp [Sp.val]
        · rcases dets_get _ sp ρ t v hv with ⟨j, o, dp, h1, h2, h3⟩ | ⟨h1, h2⟩
          · obtain ⟨hjk, ho⟩ := hop j o h1
            rw [M.done j o _ t hjk (hdone j hjk) ho h2 h3]; rfl
          · by_cases hex : ∃ (j : Nat) (o : Oper), j < k ∧ l.toArray[j]? = some o ∧ o.dst = some t
            · obtain ⟨j, o, hjk, ho, hd⟩ := hex
              -- a float's slot: then fenv has it
              obtain ⟨s, hs⟩ : ∃ s, sp[j]? = some s := ⟨sp[j]'(by omega), by simp [show j < sp.length by omega]⟩
              cases s with
              | det u dp => exact absurd hd (h2 j o u dp (by rw [List.getElem?_take, if_pos hjk]; simpa using ho) hs)
              | flt m e => exact absurd hd (hnf j o m e (by rw [List.getElem?_take, if_pos hjk]; simpa using ho) hs)
            · exact M.rest t v h1 (fun j o hj _ ho hd => hex ⟨j, o, hj, ho, hd⟩)
    | succ f ih =>
      intro listed β Fl a' w1 hf M
      obtain ⟨i0, hi0, hl0⟩ : ∃ i, i < k ∧ listed.getD i false = false := by
        rcases Classical.em (∃ i, i < k ∧ listed.getD i false = false) with h | h
        · exact h
        · exfalso
          have : undone k listed = 0 := by
            unfold undone
            refine List.countP_eq_zero.2 fun i hi => ?_
            have hi' := List.mem_range.1 hi
            cases hb : listed.getD i false with
            | true => simp
            | false => exact absurd ⟨i, hi', hb⟩ h
          omega
      obtain ⟨j0, hj0, hr0⟩ := some_ready (n := n) M.inv.size hk hch i0 hi0 hl0
      rw [show f + 1 + (l.drop k).length = (f + (l.drop k).length) + 1 by omega]
      refine ⟨fun h => (by rw [h] at hr0; cases hr0), fun i hi => ?_⟩
      have hik : i < k := by
        rcases Nat.lt_or_ge i k with h | h
        · exact h
        · exfalso
          have hin : i < l.toArray.size := by
            obtain ⟨_, o, ho, _⟩ := mem_ready.1 hi
            exact (Array.getElem?_eq_some_iff.1 ho).1
          simp only [Bool.or_eq_true, Bool.and_eq_true] at hsink
          rcases hsink with h1 | ⟨h1, h2⟩
          · have := Nat.eq_of_beq_eq_true h1; omega
          · exact tail_waits h1 h2 (by omega) M.inv _ i0 rfl hi0 (getD_in (by rw [M.inv.size]; omega) hl0) i h hi
      obtain ⟨hun, _⟩ := mem_ready.1 hi
      refine M.step rfl h hch hk hbig hi hik (fun β' Fl' a'' w2 M' => ih _ β' Fl' a'' w2 ?_ M')
      have := undone_set hik hun
      omega
  have e : l.toArray.size = undone k (Array.replicate l.toArray.size false) + (l.drop k).length := by
    have h1 : undone k (Array.replicate l.toArray.size false) = k := by
      unfold undone
      have : (List.range k).countP (fun i => !(Array.replicate l.toArray.size false).getD i false) = (List.range k).length := List.countP_eq_length.2 fun i _ => by rw [getD_replicate_false]; rfl
      rw [this]; simp
    rw [h1]; simp at hk ⊢; omega
  have := main _ _ _ _ _ _ rfl M0
  rw [← e] at this
  exact this
end
end Go.Owl
