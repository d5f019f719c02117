/- A small program logic over the kit's wp rules: environments as association lists, one rule for each form of code. -/
import Derived.WalkKit
import Derived.Deep.Quiet
import Derived.Deep.LoopGhost
namespace Go.Owl

abbrev Env := List (Nat × Value)

def Env.get : Env → Nat → Option Value
  | [], _ => none
  | (j, v) :: ρ, i => if Nat.beq j i = true then some v else Env.get ρ i

def ext (ρ : Env) : Option Tmp → Value → Env
  | some d, v => (d, v) :: ρ
  | none, _ => ρ

def ev (ρ : Env) : Operand → Option Value
  | .tmp t => Env.get ρ t
  | .const v => some v
  | .global g => some (.pointer (some ⟨g, 0, none⟩))
  | .func f => some (.func (.func f) #[] #[])

def evL (ρ : Env) : List Operand → Option (List Value)
  | [] => some []
  | x :: l => match ev ρ x, evL ρ l with
    | some v, some vs => some (v :: vs)
    | _, _ => none

def dOK (n : Nat) : Option Tmp → Bool
  | some d => Nat.blt d n
  | none => true

structure Agr (n : Nat) (D : List Deferred) (ρ : Env) (a : Act) : Prop where
  size : a.tmps.size = n
  defers : a.defers = D
  get : ∀ i v, Env.get ρ i = some v → a.tmps.getD i undef = v

theorem Agr.ev {n D ρ a} (h : Agr n D ρ a) {x : Operand} {v : Value} (hx : ev ρ x = some v) : a.eval x = v := by
  cases x with
  | tmp t => exact h.get t v hx
  | const u => exact Option.some.inj hx
  | global g => exact Option.some.inj hx
  | func f => exact Option.some.inj hx

theorem Agr.evL {n D ρ a} (h : Agr n D ρ a) : ∀ {l : List Operand} {vs : List Value}, evL ρ l = some vs → l.map a.eval = vs
  | [], vs, hx => by simp [Owl.evL] at hx; simp [← hx]
  | x :: l, vs, hx => by
    simp only [Owl.evL] at hx
    split at hx
    · rename_i v ws h1 h2
      injection hx with hx
      rw [← hx, List.map_cons, h.ev h1, h.evL h2]
    · cases hx

theorem Agr.put {n D ρ a} (h : Agr n D ρ a) {d : Option Tmp} (hd : dOK n d = true) (v : Value) : Agr n D (ext ρ d v) (a.put d v) := by
  cases d with
  | none => exact h
  | some d =>
    have hd' : d < n := by simpa [dOK, Nat.blt_eq] using hd
    refine ⟨by simp [Act.put, h.size], by simp [Act.put, h.defers], fun i u hu => ?_⟩
    simp only [ext, Env.get] at hu
    split at hu
    · rename_i hb
      have hb' : d = i := by simpa using hb
      subst hb'
      injection hu with hu
      subst hu
      simp [Act.put, h.size, hd']
    · rename_i hb
      have hb' : d ≠ i := by simpa using hb
      have := h.get i u hu
      simp [Act.put, Array.getElem?_setIfInBounds_ne hb'] at this ⊢
      exact this

/-- ρ' says no more than ρ. -/
def Cov (ρ : Env) : Env → Prop
  | [] => True
  | (i, v) :: t => Env.get ρ i = some v ∧ Cov ρ t

theorem Cov.get {ρ : Env} : ∀ {ρ' : Env}, Cov ρ ρ' → ∀ i v, Env.get ρ' i = some v → Env.get ρ i = some v
  | [], _, i, v, h => by simp [Env.get] at h
  | (j, u) :: t, hc, i, v, h => by
    simp only [Env.get] at h
    split at h
    · rename_i hb
      have hb' : j = i := by simpa using hb
      subst hb'
      injection h with h; subst h; exact hc.1
    · exact hc.2.get i v h

theorem Agr.cov {n D ρ ρ' a} (h : Agr n D ρ a) (hc : Cov ρ ρ') : Agr n D ρ' a := ⟨h.size, h.defers, fun i v hv => h.get i v (hc.get i v hv)⟩

/-- What one operation's run comes to. -/
def OpRun (P : Program) (r : Result Next) (R : Value → World → Prop) : Prop :=
  match r with
  | .ok (.value v) w' => R v w'
  | .ok .skip w' => R undef w'
  | .ok (.enter f args) w' => Calls P f args w' (fun e w'' => ∃ v, e = .returned v ∧ R v w'')
  | _ => False

theorem OpRun.wp {P : Program} {o : Oper} {a : Act} {w : World} {R : Value → World → Prop} {K : Act → World → Prop} {Q : Exit → Act → World → Prop} (h : OpRun P ((execOp a.eval o).run P w) R)
    (hK : ∀ v w', R v w' → K (a.put o.dst v) w') : o.wp P a w K Q := by
  unfold Oper.wp
  generalize (execOp a.eval o).run P w = r at h
  cases r with
  | halt x w' => exact h.elim
  | ok x w' =>
    cases x with
    | value v => exact hK v w' h
    | skip => exact hK undef w' h
    | enter f args => exact Calls.mono h fun e w'' ⟨v, he, hR⟩ => by subst he; exact hK v w'' hR
    | _ => exact h.elim

/-- One operation: from an environment and a world it yields a value and a world. -/
def Op1 (P : Program) (n : Nat) (D : List Deferred) (o : Oper) (ρ : Env) (w : World) (R : Value → World → Prop) : Prop :=
  ∀ a, Agr n D ρ a → OpRun P ((execOp a.eval o).run P w) R

def WL (P : Program) (n : Nat) (D : List Deferred) (ops : Array Oper) (Q : Exit → Act → World → Prop) (l : List Oper) (ρ : Env) (w : World) : Prop :=
  ∀ a, Agr n D ρ a → wpList P ops Q l a w

def WC (P : Program) (n : Nat) (D : List Deferred) (c : Code) (Q : Exit → Act → World → Prop) (ρ : Env) (w : World) : Prop :=
  ∀ a, Agr n D ρ a → c.wp P Q a w

def WQ (n : Nat) (D : List Deferred) (Q : Exit → Act → World → Prop) (e : Exit) (ρ : Env) (w : World) : Prop :=
  ∀ a, Agr n D ρ a → Q e a w

section
variable {P : Program} {n : Nat} {D : List Deferred} {ops : Array Oper} {Q Q' : Exit → Act → World → Prop} {o : Oper} {rest : List Oper} {ρ ρ' : Env} {w : World} {c x y : Code}

theorem WL.op (hg : o.guard = none) (hd : dOK n o.dst = true) (h : Op1 P n D o ρ w (fun v w' => WL P n D ops Q rest (ext ρ o.dst v) w')) :
    WL P n D ops Q (o :: rest) ρ w :=
  fun a ha => wpList_plain hg fun K hK => (h a ha).wp fun v w' hR => hK _ _ (hR _ (ha.put hd v))

/-- What a guard sees. -/
def sees : Value → Option Bool
  | .bool b => some b
  | _ => none

theorem yielded_of {a : Act} (ha : Agr n D ρ a) {j t : Nat} {v : Value} (hj : (ops[j]?).bind (·.dst) = some t) (hv : Env.get ρ t = some v) :
    yielded ops a.tmps j = sees v := by
  have h := ha.get t v hv
  unfold yielded
  simp only [hj, Option.bind_some]
  rcases Nat.lt_or_ge t a.tmps.size with ht | ht
  · simp [ht] at h ⊢; subst h; cases a.tmps[t] <;> rfl
  · simp [Array.getElem?_eq_none ht] at h ⊢; subst h; rfl

theorem WL.yes {j t : Nat} {want b : Bool} (hg : o.guard = some (j, want)) (hj : (ops[j]?).bind (·.dst) = some t) (hv : Env.get ρ t = some (.bool b)) (hb : b = want)
    (hd : dOK n o.dst = true) (h : Op1 P n D o ρ w (fun v w' => WL P n D ops Q rest (ext ρ o.dst v) w')) : WL P n D ops Q (o :: rest) ρ w := by
  intro a ha
  unfold wpList
  rw [if_pos (by simp [Region.wanted, hg, yielded_of ha hj hv, sees, hb])]
  exact .inl ((h a ha).wp fun v w' hR => hR _ (ha.put hd v))

theorem WL.no {j t : Nat} {want b : Bool} (hg : o.guard = some (j, want)) (hj : (ops[j]?).bind (·.dst) = some t) (hv : Env.get ρ t = some (.bool b)) (hb : b = !want)
    (hd : dOK n o.dst = true) (h : WL P n D ops Q rest (ext ρ o.dst undef) w) : WL P n D ops Q (o :: rest) ρ w := by
  intro a ha
  unfold wpList
  rw [if_neg (by subst hb; cases want <;> simp [Region.wanted, hg, yielded_of ha hj hv, sees])]
  exact h _ (ha.put hd _)
/-- The guard itself was passed over. -/
theorem WL.non {j t : Nat} {want : Bool} (hg : o.guard = some (j, want)) (hj : (ops[j]?).bind (·.dst) = some t) (hv : Env.get ρ t = some undef)
    (hd : dOK n o.dst = true) (h : WL P n D ops Q rest (ext ρ o.dst undef) w) : WL P n D ops Q (o :: rest) ρ w := by
  intro a ha
  unfold wpList
  rw [if_neg (by simp [Region.wanted, hg, yielded_of ha hj hv, sees, undef])]
  exact h _ (ha.put hd _)

theorem WL.nil (h : WQ n D Q .normal ρ w) : WL P n D ops Q [] ρ w := fun a ha => wpList_nil (h a ha)

theorem WC.region {id : Nat} {l : List Oper} (h : WL P n D l.toArray Q l ρ w) : WC P n D (.region id l.toArray false) Q ρ w :=
  fun a ha => wp_region_lit (h a ha)

theorem WC.seq (h : WC P n D x (Exit.then (y.wp P Q) Q) ρ w) : WC P n D (.seq x y) Q ρ w := fun a ha => wp_seq (h a ha)

theorem WQ.next (h : WC P n D y Q ρ w) : WQ n D (Exit.then (y.wp P Q) Q) .normal ρ w := fun a ha => h a ha
theorem WQ.thenRet {N : Act → World → Prop} (h : WQ n D Q .ret ρ w) : WQ n D (Exit.then N Q) .ret ρ w := fun a ha => h a ha
theorem WQ.thenExit {N : Act → World → Prop} {id : Nat} (h : WQ n D Q (.exit id) ρ w) : WQ n D (Exit.then N Q) (.exit id) ρ w := fun a ha => h a ha
theorem WQ.inNormal {id : Nat} (h : WQ n D Q .normal ρ w) : WQ n D (Exit.inBlock id Q) .normal ρ w := fun a ha => h a ha
theorem WQ.inRet {id : Nat} (h : WQ n D Q .ret ρ w) : WQ n D (Exit.inBlock id Q) .ret ρ w := fun a ha => h a ha
theorem WQ.inHere {id : Nat} (h : WQ n D Q .normal ρ w) : WQ n D (Exit.inBlock id Q) (.exit id) ρ w := fun a ha => by
  simp only [Exit.inBlock, if_true]; exact h a ha
theorem WQ.inPass {id id' : Nat} (hne : Nat.beq id' id = false) (h : WQ n D Q (.exit id') ρ w) : WQ n D (Exit.inBlock id Q) (.exit id') ρ w := fun a ha => by
  have : id' ≠ id := by intro e; subst e; simp at hne
  simp only [Exit.inBlock, this, if_false]; exact h a ha

theorem WC.block {id : Nat} (h : WC P n D c (Exit.inBlock id Q) ρ w) : WC P n D (.block id c) Q ρ w := fun a ha => wp_block (h a ha)
theorem WC.ret (h : WQ n D Q .ret ρ w) : WC P n D .ret Q ρ w := fun a ha => wp_ret (h a ha)
theorem WC.skip (h : WQ n D Q .normal ρ w) : WC P n D .skip Q ρ w := fun a ha => wp_skip (h a ha)
theorem WC.label {l : Nat} (h : WQ n D Q .normal ρ w) : WC P n D (.label l) Q ρ w := fun a ha => wp_label (h a ha)
theorem WC.exit {id : Nat} (h : WQ n D Q (.exit id) ρ w) : WC P n D (.exit id) Q ρ w := fun a ha => wp_exit (h a ha)

theorem WC.cond {cc : Operand} {t : Bool} (hc : ev ρ cc = some (.bool t)) (h1 : t = true → WC P n D x Q ρ w) (h2 : t = false → WC P n D y Q ρ w) :
    WC P n D (.cond cc x y) Q ρ w := fun a ha => wp_cond_split (ha.ev hc) (fun h => h1 h a ha) (fun h => h2 h a ha)
theorem WC.yes {cc : Operand} {b : Bool} (hc : ev ρ cc = some (.bool b)) (hb : b = true) (h1 : WC P n D x Q ρ w) : WC P n D (.cond cc x y) Q ρ w := by
  subst hb; exact fun a ha => wp_cond_true (ha.ev hc) (h1 a ha)
theorem WC.no {cc : Operand} {b : Bool} (hc : ev ρ cc = some (.bool b)) (hb : b = false) (h1 : WC P n D y Q ρ w) : WC P n D (.cond cc x y) Q ρ w := by
  subst hb; exact fun a ha => wp_cond_false (ha.ev hc) (h1 a ha)
/-- A truth is looked at. -/
theorem WL.split {l : List Oper} {t : Nat} {b : Bool} (_hv : Env.get ρ t = some (.bool b)) (h1 : b = true → WL P n D ops Q l ρ w) (h0 : b = false → WL P n D ops Q l ρ w) : WL P n D ops Q l ρ w := by
  cases b
  · exact h0 rfl
  · exact h1 rfl

/-- A family of states: 'E x' the environment, 'R x' what is known of the world. -/
def Here (n : Nat) (D : List Deferred) {α : Type} (E : α → Env) (R : α → World → Prop) (a : Act) (w : World) : Prop := ∃ x, Agr n D (E x) a ∧ R x w

/-- Cut: up to here x comes to one of a family of states, from there y goes on. -/
theorem WC.cut {α : Type} (E : α → Env) (R : α → World → Prop) (h1 : WC P n D x (Exit.then (Here n D E R) Q) ρ w)
    (h2 : ∀ z w, R z w → WC P n D y Q (E z) w) : WC P n D (.seq x y) Q ρ w := fun a ha => by
  refine wp_seq (wp_mono (h1 a ha) fun e a' w' h => ?_)
  cases e with
  | normal => obtain ⟨z, hz, hr⟩ := h; exact h2 z w' hr a' hz
  | _ => exact h

theorem WQ.here {α : Type} {E : α → Env} {R : α → World → Prop} (z : α) (hr : R z w) (hc : Cov ρ (E z)) : WQ n D (Exit.then (Here n D E R) Q) .normal ρ w :=
  fun _ ha => ⟨z, ha.cov hc, hr⟩

def Round (n : Nat) (D : List Deferred) {α : Type} (E : α → Env) (R : α → World → Prop) (m : α → Nat) (k : Nat) (a : Act) (w : World) : Prop :=
  ∃ x, Agr n D (E x) a ∧ R x w ∧ m x < k

theorem WC.loop {α : Type} (E : α → Env) (R : α → World → Prop) (m : α → Nat) (z : α) (hr : R z w) (hc : Cov ρ (E z))
    (h : ∀ z w', R z w' → WC P n D c (Exit.then (Round n D E R m (m z)) Q) (E z) w') : WC P n D (.loop c) Q ρ w := fun a ha => by
  refine wp_loop_ghost (fun k a w => ∃ z, m z = k ∧ Agr n D (E z) a ∧ R z w) (m z) ⟨z, rfl, ha.cov hc, hr⟩ ?_
  rintro _ a' w' ⟨z, rfl, hz, hrz⟩
  refine wp_mono (h z w' hrz a' hz) fun e a'' w'' hq => ?_
  cases e with
  | normal => obtain ⟨z', hz', hr', hlt⟩ := hq; exact ⟨_, hlt, z', rfl, hz', hr'⟩
  | _ => exact hq

theorem WQ.round {α : Type} {E : α → Env} {R : α → World → Prop} {m : α → Nat} {k : Nat} (z : α) (hr : R z w) (hc : Cov ρ (E z)) (hm : m z < k) :
    WQ n D (Exit.then (Round n D E R m k) Q) .normal ρ w := fun _ ha => ⟨z, ha.cov hc, hr, hm⟩

/-! Entering and leaving a function. -/
def ents (i : Nat) : List Value → Env
  | [] => []
  | v :: l => (i, v) :: ents (i + 1) l

theorem ents_get : ∀ (l : List Value) (i j : Nat) (v : Value), Env.get (ents i l) j = some v → i ≤ j ∧ l[j - i]? = some v
  | [], i, j, v, h => by simp [ents, Env.get] at h
  | u :: l, i, j, v, h => by
    simp only [ents, Env.get] at h
    split at h
    · rename_i hb
      have : i = j := by simpa using hb
      subst this
      injection h with h; subst h; simp
    · rename_i hb
      have hne : i ≠ j := by simpa using hb
      obtain ⟨h1, h2⟩ := ents_get l (i + 1) j v h
      refine ⟨by omega, ?_⟩
      rw [show j - i = (j - (i + 1)) + 1 by omega]
      simpa using h2

theorem enter {f : FuncId} {fn : Func} {args : List Value} {R : Ending → World → Prop} (hf : P.funcs[f]? = some fn) (hb : fn.body = some c) (hs : Nat.ble args.length fn.ntmps = true)
    (h : WC P fn.ntmps [] c (bodyPost P fn R) (ents 0 args) w) : Calls P f args.toArray w R := by
  refine calls_of_wp hf hb (h _ ?_)
  have hs' : args.length ≤ fn.ntmps := by simpa [Nat.ble_eq] using hs
  refine ⟨by simp; omega, rfl, fun i v hv => ?_⟩
  obtain ⟨_, h2⟩ := ents_get args 0 i v hv
  have hlt : i < args.length := by
    rcases Nat.lt_or_ge i args.length with h | h
    · exact h
    · simp [List.getElem?_eq_none h] at h2
  simp only [Nat.sub_zero] at h2
  simp only [Array.getD_eq_getD_getElem?, Array.getElem?_append, List.size_toArray, hlt, if_true, List.getElem?_toArray, h2, Option.getD_some]

/-- What a function hands back. -/
inductive ResOK (P : Program) (w : World) (ρ : Env) : List ResultVar → List Value → Prop where
  | nil : ResOK P w ρ [] []
  | tmp {t v l vs} (h : Env.get ρ t = some v) (k : ResOK P w ρ l vs) : ResOK P w ρ (.tmp t :: l) (v :: vs)
  | cell {t ty v l vs ad} (h : Env.get ρ t = some (.pointer (some ad))) (hl : (loadVar ty ad).run P w = .ok v w) (k : ResOK P w ρ l vs) : ResOK P w ρ (.cell t ty :: l) (v :: vs)

def tup : List Value → Value
  | [v] => v
  | vs => .tuple vs.toArray

theorem mapM_results {ρ : Env} {a : Act} {n : Nat} {D : List Deferred} (ha : Agr n D ρ a) (g : ResultVar → Sem Value) (hg1 : ∀ t, g (.tmp t) = pure (a.tmps.getD t undef))
    (hg2 : ∀ b t, g (.cell b t) = (asAddr (a.tmps.getD b undef) >>= fun x => loadVar t x)) : ∀ {l : List ResultVar} {vs : List Value}, ResOK P w ρ l vs →
    (List.mapM (m := Sem) g l).run P w = .ok vs w
  | _, _, .nil => by simp
  | _, _, .tmp h k => by
    have h1 := ha.get _ _ h
    have ih := mapM_results ha g hg1 hg2 k
    simp only [List.mapM_cons, Sem.run_bind, hg1, Sem.run_pure, Result.andThen_ok, h1, ih]
  | _, _, .cell h hl k => by
    have h1 := ha.get _ _ h
    have ih := mapM_results ha g hg1 hg2 k
    have h2 : ∀ x, asAddr (.pointer (some x)) = pure x := fun _ => rfl
    simp only [List.mapM_cons, Sem.run_bind, hg2, h1, h2, Sem.run_pure, Result.andThen_ok, hl, ih]

theorem results_of {fn : Func} {ρ : Env} {a : Act} (ha : Agr n D ρ a) {vs : List Value} (h : ResOK P w ρ fn.results.toList vs) :
    (results fn a.tmps).run P w = .ok (tup vs) w := by
  unfold results
  have h1 : fn.results = fn.results.toList.toArray := by simp
  rw [h1, List.mapM_toArray]
  rw [Sem.run_bind, Sem.run_map, mapM_results ha _ (fun _ => rfl) (fun _ _ => rfl) h]
  simp only [Result.andThen_ok, Sem.run_pure]
  match vs with
  | [] => rfl
  | [v] => rfl
  | v :: u :: l => simp [tup]

theorem WQ.out {fn : Func} {R : Ending → World → Prop} {vs : List Value} (h : ResOK P w ρ fn.results.toList vs) (hR : R (.returned (tup vs)) w) :
    WQ n [] (bodyPost P fn R) .ret ρ w := fun _ ha => ⟨ha.defers, _, results_of ha h, hR⟩
theorem WQ.outEnd {fn : Func} {R : Ending → World → Prop} {vs : List Value} (h : ResOK P w ρ fn.results.toList vs) (hR : R (.returned (tup vs)) w) :
    WQ n [] (bodyPost P fn R) .normal ρ w := fun _ ha => ⟨ha.defers, _, results_of ha h, hR⟩
end
end Go.Owl
