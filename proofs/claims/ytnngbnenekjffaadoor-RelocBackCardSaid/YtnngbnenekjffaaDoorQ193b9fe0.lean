/- General lemmas and walks: Owl18, Owl19, Owl20, Owl21, Owl22, Owl23, Owl24, Owl25, Owl27, Owl28, Owl26, Owl29. No condition but what each theorem names. -/
import Derived.Test.YtnngbnenekjffaaDoorQ35b2dc86
import Derived.Lib.SliceRun
import Derived.Handed
import Derived.Lay
import Derived.LaidLaws
/-! from Owl18 -/
/- Rows of structs: a list's cells, one behind the other. -/
namespace Go.Owl
section
variable {β : Type} {g : β → List Value} {sz : Nat}
theorem flatMap_piece (hg : ∀ b, (g b).length = sz) : ∀ (l : List β) (i : Nat) (d : β), i < l.length → ((l.flatMap g).drop (i * sz)).take sz = g (l.getD i d)
  | [], i, d, h => by simp at h
  | c :: l, 0, d, _ => by
    rw [List.flatMap_cons, Nat.zero_mul, List.drop_zero, List.take_append_of_le_length (by rw [hg]; exact Nat.le_refl _), List.take_of_length_le (by rw [hg]; exact Nat.le_refl _)]; rfl
  | c :: l, i + 1, d, h => by
    have e : (i + 1) * sz = sz + i * sz := by rw [Nat.add_mul]; omega
    have e2 : ((c :: l).flatMap g).drop ((i + 1) * sz) = (l.flatMap g).drop (i * sz) := by
      have h0 : ((c :: l).flatMap g).drop sz = l.flatMap g := by
        have hh := List.drop_left (l₁ := g c) (l₂ := l.flatMap g)
        rw [hg] at hh
        rw [List.flatMap_cons]; exact hh
      rw [e, ← List.drop_drop, h0]
    rw [e2]
    have := flatMap_piece hg l i d (by simpa using h)
    rw [this]; rfl
theorem flatMap_cell (hg : ∀ b, (g b).length = sz) {l : List β} {i k : Nat} {d : β} (hi : i < l.length) {u : Value} (hc : (g (l.getD i d))[k]? = some u) : (l.flatMap g)[i * sz + k]? = some u := by
  have hk : k < sz := by rw [← hg (l.getD i d)]; exact (List.getElem?_eq_some_iff.1 hc).1
  rw [flatMap_at hg l i k (l.getD i d) (by rw [List.getD, List.getElem?_eq_getElem hi]; rfl) hk]; exact hc
variable {w : World} {v : Value} {q : Nat} {l : List β}
theorem flat_len (hg : ∀ b, (g b).length = sz) (hs : 0 < sz) (h : (l.flatMap g).length = q * sz) : l.length = q := by
  rw [flatMap_len hg] at h; exact Nat.eq_of_mul_eq_mul_right hs h
theorem Arr.flatLen (hA : Arr w v sz q (l.flatMap g)) (hg : ∀ b, (g b).length = sz) (hs : 0 < sz) : l.length = q := flat_len hg hs hA.len
theorem Arr.atF {i k : Nat} {u : Value} (hA : Arr w v sz q (l.flatMap g)) (hg : ∀ b, (g b).length = sz) (hs : 0 < sz) (d : β) (hi : i < q) (hc : (g (l.getD i d))[k]? = some u) : w.cell? (sp v (i * sz + k)) = some u :=
  hA.at (flatMap_cell hg (by rw [hA.flatLen hg hs]; exact hi) hc)
theorem Arr.atsF {i : Nat} (hA : Arr w v sz q (l.flatMap g)) (hg : ∀ b, (g b).length = sz) (hs : 0 < sz) (d : β) (hi : i < q) : ∀ j u, (g (l.getD i d))[j]? = some u → w.cell? ⟨sBlk v, sOff v + i * sz + j, none⟩ = some u :=
  hA.ats (by rw [hg]; exact flatMap_piece hg l i d (by rw [hA.flatLen hg hs]; exact hi))
end
section
variable {P : Program} {n : Nat} {D : List Deferred} {ρ : Env} {w w0 : World} {R : Value → World → Prop} {dst : Option Tmp} {ty : TypeId} {pos : String} {af : Array Edge} {gd : Option (Nat × Bool)}
variable {S : List Nat} {L : List Ent} {i : Nat} {t t' T T' : TypeId} {x y : Operand} {z : List Value} {sz by_ : Nat} {d : TypeDesc}
/-- A struct of a row, as a whole. -/
theorem op_loadSP {v : Value} {k : Nat} {vs : List Value} (hx : ev ρ x = some (.pointer (some (sp v k)))) (hc : ∀ j u, vs[j]? = some u → w.cell? ⟨sBlk v, sOff v + k + j, none⟩ = some u) (hu : P.underlying T = some d) (hs : scal d = false)
    (hz : tiB P T = some (z, sz, by_)) (hl : vs.length = sz) (h : R (.agg vs.toArray) w) : Op1 P n D ⟨dst, .load T x, ty, pos, af, gd⟩ ρ w R :=
  op_loadS (b := sBlk v) (off := sOff v + k) hx hc hu hs hz hl h
end
end Go.Owl
/-! from Owl19 -/
/- Conversions to and from 32 bits with a sign. -/
namespace Go.Owl
section
variable {P : Program} {n : Nat} {D : List Deferred} {ρ : Env} {w : World} {R : Value → World → Prop} {dst : Option Tmp} {ty : TypeId} {pos : String} {af : Array Edge} {g : Option (Nat × Bool)}
variable {t t' : TypeId} {x y : Operand}
end
section
variable {P : Program} {n : Nat} {D : List Deferred} {ρ : Env} {w : World} {R : Value → World → Prop} {dst : Option Tmp} {ty : TypeId} {pos : String} {af : Array Edge} {g : Option (Nat × Bool)}
variable {t t' : TypeId} {x y : Operand}
end
end Go.Owl
/-! from Owl20 -/
/- Regions that draw, with a move that nothing waits for until the end. -/
namespace Go.Owl
variable {P : Program} {ops : Array Oper} {Q : Exit → Act → World → Prop}
end Go.Owl
/-! from Owl21 -/
/- Regions that draw, with a move that nothing waits for until the end: the rule. -/
namespace Go.Owl
variable {P : Program} {n : Nat} {D : List Deferred} {ρ : Env} {w w0 : World} {S : List Nat} {L : List Ent} {Q : Exit → Act → World → Prop}
end Go.Owl
/-! from Owl22 -/
/- What is left of a head behind the tail's first operation. -/
namespace Go.Owl
variable {P : Program} {n : Nat} {D : List Deferred} {ρ : Env} {w w0 : World} {S : List Nat} {L : List Ent} {Q : Exit → Act → World → Prop}
end Go.Owl
/-! from Owl23 -/
/- Regions that draw, with a late move: the rule. -/
namespace Go.Owl
variable {P : Program} {n : Nat} {D : List Deferred} {ρ : Env} {w w0 : World} {S : List Nat} {L : List Ent} {Q : Exit → Act → World → Prop}
end Go.Owl
/-! from Owl24 -/
/- Small rules: two ways by a truth. -/
namespace Go.Owl
section
variable {P : Program} {n : Nat} {D : List Deferred} {ρ : Env} {w : World} {R : Value → World → Prop} {dst : Option Tmp} {ty : TypeId} {pos : String} {af : Array Edge} {g : Option (Nat × Bool)} {t t' : TypeId} {x y : Operand}
end
theorem Arr.lenF {β : Type} {g : β → List Value} {w : World} {v : Value} {sz q : Nat} {l : List β} (hA : Arr w v sz q (l.flatMap g)) (hg : ∀ b, (g b).length = sz) (hs : 0 < sz) : Arr w v sz l.length (l.flatMap g) := by
  have h := hA.len
  rw [flatMap_len hg] at h
  have e : l.length = q := Nat.eq_of_mul_eq_mul_right hs h
  rw [e]; exact hA
end Go.Owl
/-! from Owl25 -/
/- Regions that draw, step by step: moves ahead of time, one operation that all others wait for, and the rest in any order. -/
namespace Go.Owl
section
variable {P : Program} {n : Nat} {D : List Deferred} {ρ : Env} {w w0 : World} {S : List Nat} {L : List Ent} {ops : Array Oper} {Q : Exit → Act → World → Prop}

/-- Only a normal end counts. -/
def Nrm (Q : Exit → Act → World → Prop) : Exit → Act → World → Prop := fun e a w => e = .normal ∧ Q .normal a w
theorem letsOut_nrm (h : LetsOut (Nrm Q)) : False := by
  obtain ⟨_, _, h, _⟩ := h; cases h
theorem wp_nrm {o : Oper} {a : Act} {w : World} {K : Act → World → Prop} (h : o.wp P a w K (Nrm Q)) : o.wp P a w K Q := by
  unfold Oper.wp at *
  generalize (execOp a.eval o).run P w = r at *
  cases r with
  | ok x w' =>
    cases x <;> simp only [Oper.upon] at h ⊢ <;> first
      | exact h
      | exact Calls.mono h (fun e w'' he => by
          cases e with
          | returned v => exact he
          | panicked c => exact absurd he.1 (by intro h; cases h)
          | outgrown => exact (letsOut_nrm he).elim)
  | halt x w' =>
    cases x <;> simp only [Oper.upon] at h ⊢ <;> first
      | exact h
      | exact absurd h.1 (by intro h; cases h)
theorem wpOp_nrm {i : Nat} {a : Act} {w : World} {K : Act → World → Prop} (h : wpOp P ops (Nrm Q) i K a w) : wpOp P ops Q i K a w := by
  unfold wpOp at *
  cases ho : ops[i]? with
  | none => simp only [ho] at h ⊢; exact h
  | some o =>
    simp only [ho] at h ⊢
    split
    · rename_i hw
      rw [if_pos hw] at h
      rcases h with h | ⟨_, h⟩
      · exact .inl (wp_nrm h)
      · exact (letsOut_nrm h).elim
    · rename_i hw
      rw [if_neg hw] at h; exact h
theorem wpAny_nrm : ∀ (fuel : Nat) (listed : Array Bool) (a : Act) (w : World), wpAny P .any ops (Nrm Q) fuel listed a w → wpAny P .any ops Q fuel listed a w
  | 0, _, _, _, h => ⟨h.1, h.2.2⟩
  | fuel + 1, _, _, _, h => ⟨fun hr => (h.1 hr).2, fun i hi => wpOp_nrm (wpOp_mono (fun a w h => wpAny_nrm fuel _ a w h) (h.2 i hi))⟩
/-- In the midst of a region that draws: what is listed was run. -/
def WD (P : Program) (n : Nat) (D : List Deferred) (ops : Array Oper) (Q : Exit → Act → World → Prop) (fuel : Nat) (listed : Array Bool) (ρ : Env) (w : World) : Prop :=
  ∀ a, Agr n D ρ a → wpAny P .any ops (Nrm Q) fuel listed a w
theorem WC.drawn {id : Nat} {l : List Oper} (N : Nat) (hN : l.length = N) (hm : P.follows .mixedOrders = true) (H : Own S w0 w L) (h : ∀ w1, Own S w0 w1 L → WD P n D l.toArray Q N (Array.replicate N false) ρ w1) : WC P n D (.region id l.toArray true) Q ρ w := by
  subst hN
  exact fun a ha => wp_region_any hm (wpAny_nrm _ _ _ _ (by have h1 := h w.drew (H.fr' (Fr.drew w)) a ha; rw [show l.length = l.toArray.size from (List.size_toArray ..).symm] at h1; exact h1))
/-- One operation that all others wait for. -/
theorem WD.op {i fuel : Nat} {oi : Oper} {listed : Array Bool} (hi : ops[i]? = some oi) (hg : oi.guard = none) (hd : dOK n oi.dst = true) (hr : Region.ready .any ops listed = [i])
    (h : Op1 P n D oi ρ w (fun v w' => WD P n D ops Q fuel (listed.setIfInBounds i true) (ext ρ oi.dst v) w')) : WD P n D ops Q (fuel + 1) listed ρ w := by
  intro a ha
  refine ⟨fun h => (by rw [hr] at h; cases h), fun j hj => ?_⟩
  rw [hr] at hj
  have hji : j = i := by simpa using hj
  subst hji
  refine wpOp_of hi ?_
  rw [if_pos (by simp [Region.wanted, hg])]
  exact (h a ha).wp fun v w' hR => hR _ (ha.put hd v)
theorem WD.done {fuel : Nat} {listed : Array Bool} (hr : Region.ready .any ops listed = []) (h : WQ n D Q .normal ρ w) : WD P n D ops Q fuel listed ρ w :=
  fun a ha => wpAny_done hr ⟨rfl, h a ha⟩ fuel

def oldAt (ρ : Env) : Option Tmp → Value → Prop
  | none, _ => True
  | some d, v => Env.get ρ d = some v
def OldOK (ρ : Env) : List Oper → List Sp → Prop
  | o :: l, .det v _ :: sp => oldAt ρ o.dst v ∧ OldOK ρ l sp
  | _ :: _, .flt _ _ :: _ => False
  | _, _ => True
theorem OldOK.at : ∀ (l : List Oper) (sp : List Sp), OldOK ρ l sp → ∀ (i : Nat) (o : Oper) (v : Value) (dp : Option Nat), l[i]? = some o → sp[i]? = some (.det v dp) → oldAt ρ o.dst v
  | o :: l, .det v dp :: sp, h, 0, o', v', dp', h1, h2 => by simp at h1 h2; obtain ⟨rfl, rfl⟩ := h2; subst h1; exact h.1
  | o :: l, .det v dp :: sp, h, i + 1, o', v', dp', h1, h2 => OldOK.at l sp h.2 i o' v' dp' (by simpa using h1) (by simpa using h2)
  | _ :: _, .flt _ _ :: _, h, _, _, _, _, _, _ => h.elim
  | [], _, _, _, _, _, _, h1, _ => by simp at h1
  | _ :: _, [], _, _, _, _, _, _, h2 => by simp at h2
def chkLast (ops : Array Oper) (n : Nat) (fl : List (Bool × Option Nat)) (listed : Array Bool) (k0 fuel : Nat) : Bool :=
  Nat.beq listed.size ops.size && (List.range ops.size).all (chkOp ops n fl ops.size) &&
  (List.range ops.size).all (fun i => if Nat.blt i k0 then listed.getD i false && (fl.getD i (true, none) == (false, some i)) else !listed.getD i true && !((fl.getD i (true, none)).2 == some i)) && Nat.beq (undone ops.size listed) fuel
/-- What is left comes in any order. -/
theorem WD.last {l : List Oper} {sp : List Sp} {listed : Array Bool} {fuel : Nat} (k0 : Nat) (H : Own S w0 w L) (h : HW P n D l.toArray S w0 L 0 [] l sp ρ) (hchk : chkLast l.toArray n (sp.map Sp.mark) listed k0 fuel = true)
    (hold : OldOK ρ (l.take k0) (sp.take k0)) (tail : ∀ (β : Nat → Fp) w1, Own S w0 w1 (L ++ fents sp β 0) → WQ n D Q .normal (fenv l sp β 0 (dets l sp ρ)) w1) : WD P n D l.toArray Q fuel listed ρ w := by
  intro a ha
  unfold chkLast at hchk
  simp only [Bool.and_eq_true] at hchk
  obtain ⟨⟨⟨hsz, hall⟩, hlst⟩, hfuel⟩ := hchk
  have hsz := Nat.eq_of_beq_eq_true hsz
  have hfuel := Nat.eq_of_beq_eq_true hfuel
  have hch : ∀ i, i < l.toArray.size → chkOp l.toArray n (sp.map Sp.mark) l.toArray.size i = true := fun i hi => allRange hall hi
  have hbig : ∀ t v, Env.get ρ t = some v → n ≤ t → v = undef := fun t v hv hn => by
    have := ha.get t v hv
    rw [← this]
    have : a.tmps.size ≤ t := by rw [ha.size]; exact hn
    simp [Array.getElem?_eq_none this]
  have hlen := h.len
  have hls : l.toArray.size = l.length := by simp
  have htk : l.take l.toArray.size = l := by simp
  -- what is listed at first
  have hin : ∀ i, i < l.toArray.size → listed.getD i false = true → i < k0 ∧ (sp.map Sp.mark).getD i (true, none) = (false, some i) := fun i hi hl => by
    have h1 := allRange hlst hi
    cases hb : Nat.blt i k0 with
    | true => simp only [hb, if_true, Bool.and_eq_true, beq_iff_eq] at h1; exact ⟨by rw [Nat.blt_eq] at hb; exact hb, h1.2⟩
    | false =>
      simp only [hb, Bool.false_eq_true, if_false, Bool.and_eq_true, Bool.not_eq_true'] at h1
      rw [getD_both h1.1] at hl; cases hl
  have hout : ∀ i, i < l.toArray.size → i < k0 → listed.getD i false = true := fun i hi hk => by
    have h1 := allRange hlst hi
    rw [if_pos (by rw [Nat.blt_eq]; exact hk)] at h1
    simp only [Bool.and_eq_true] at h1
    exact h1.1
  have hmk : ∀ i (s : Sp), sp[i]? = some s → (sp.map Sp.mark).getD i (true, none) = s.mark := fun i s hs => by simp [List.getD, hs]
  have M0 : Mid P n D l.toArray S w0 L l.toArray.size sp ρ listed (fun _ => (0, undef)) [] a w := by
    refine ⟨ha.size, ha.defers, ⟨hsz, fun j oj hj hl e he hb => ?_, fun t h1 h2 => absurd h2 (by omega)⟩, by simpa using H, by simp, fun i => ?_, fun i o s d hi hl ho hs hd => ?_, fun t v hv _ => ha.get t v hv, fun i v hi hs => ?_⟩
    · have hjs := (Array.getElem?_eq_some_iff.1 hj).1
      have hc := hch j hjs
      unfold chkOp at hc
      rw [hj] at hc
      simp only [Bool.and_eq_true] at hc
      have h1 := Array.all_eq_true'.1 hc.1.2 e he
      rw [hb] at h1
      have h2 : e.on < j := by simpa [Nat.blt_eq] using h1
      exact hout _ (by omega) (by have := (hin j hjs hl).1; omega)
    · constructor
      · intro h; cases h
      · rintro ⟨hi, hl, hF⟩
        have h1 := (hin i hi hl).2
        cases hs : sp[i]? with
        | none => rw [hs] at hF; cases hF
        | some s =>
          rw [hmk i s hs] at h1
          rw [hs] at hF
          have h2 : s.isF = true := by simpa using hF
          have h3 := congrArg Prod.fst h1
          rw [show s.mark.1 = s.isF from rfl, h2] at h3; cases h3
    · obtain ⟨hik, hm⟩ := hin i hi hl
      rw [hmk i s hs] at hm
      cases s with
      | flt m e => cases (congrArg Prod.fst hm)
      | det v dp =>
        have h1 := OldOK.at _ _ hold i o v dp (by rw [List.getElem?_take, if_pos hik]; simpa using ho) (by rw [List.getElem?_take, if_pos hik]; exact hs)
        rw [hd] at h1
        exact ha.get d v h1
    · rcases Nat.lt_or_ge i k0 with hk | hk
      · exact hout i hi hk
      · have h1 := allRange hlst hi
        rw [if_neg (by rw [Nat.blt_eq]; omega)] at h1
        simp only [Bool.and_eq_true] at h1
        rw [hmk i _ hs] at h1
        simp [Sp.mark, Sp.dep] at h1
  have main : ∀ f listed β Fl a' w1, undone l.toArray.size listed = f → Mid P n D l.toArray S w0 L l.toArray.size sp ρ listed β Fl a' w1 → wpAny P .any l.toArray (Nrm Q) f listed a' w1 := by
    intro f
    induction f with
    | zero =>
      intro listed β Fl a' w1 hf M
      have hdone := undone_zero hf
      refine ⟨?_, rfl, ?_⟩
      · cases hr : Region.ready .any l.toArray listed with
        | nil => rfl
        | cons i t =>
          have hi : i ∈ Region.ready .any l.toArray listed := by rw [hr]; simp
          obtain ⟨hun, o, ho, _⟩ := mem_ready.1 hi
          have := hdone i (Array.getElem?_eq_some_iff.1 ho).1
          rw [getD_both hun] at this; cases this
      · have hO : Own S w0 w1 (L ++ fents sp β 0) := by
          rw [fents_eq β sp sp 0 (fun j => by simp)]
          refine M.heap.perm M.nodup (fidx_nodup sp 0) (fun i hi => ?_)
          have h1 := (fidx_mem sp 0 i).1 hi
          simp only [Nat.sub_zero] at h1
          have hik : i < l.toArray.size := by
            rcases Nat.lt_or_ge i l.toArray.size with h | h
            · exact h
            · rw [List.getElem?_eq_none (by omega)] at h1; cases h1.2
          exact (M.mem i).2 ⟨hik, hdone i hik, h1.2⟩
        refine tail β w1 hO a' ⟨M.size, M.defers, fun t v hv => ?_⟩
        have hop : ∀ (j : Nat) (o : Oper), l[j]? = some o → j < l.toArray.size ∧ l.toArray[j]? = some o := fun j o hj =>
          ⟨by rw [hls]; exact (List.getElem?_eq_some_iff.1 hj).1, by simpa using hj⟩
        rcases fenv_get β _ sp 0 _ t v hv with ⟨j, o, m, e, h1, h2, h3, h4⟩ | ⟨hv, hnf⟩
        · obtain ⟨hjk, ho⟩ := hop j o h1
          rw [M.done j o _ t hjk (hdone j hjk) ho h2 h3, h4]
          simp [Sp.val]
        · rcases dets_get _ sp ρ t v hv with ⟨j, o, dp, h1, h2, h3⟩ | ⟨h1, h2⟩
          · obtain ⟨hjk, ho⟩ := hop j o h1
            rw [M.done j o _ t hjk (hdone j hjk) ho h2 h3]; rfl
          · by_cases hex : ∃ (j : Nat) (o : Oper), j < l.toArray.size ∧ l.toArray[j]? = some o ∧ o.dst = some t
            · obtain ⟨j, o, hjk, ho, hd⟩ := hex
              obtain ⟨s, hs⟩ : ∃ s, sp[j]? = some s := ⟨sp[j]'(by omega), by simp [show j < sp.length by omega]⟩
              cases s with
              | det u dp => exact absurd hd (h2 j o u dp (by simpa using ho) hs)
              | flt m e => exact absurd hd (hnf j o m e (by simpa using ho) hs)
            · exact M.rest t v h1 (fun j o hj _ ho hd => hex ⟨j, o, hj, ho, hd⟩)
    | succ f ih =>
      intro listed β Fl a' w1 hf M
      obtain ⟨i0, hi0, hl0⟩ : ∃ i, i < l.toArray.size ∧ listed.getD i false = false := by
        rcases Classical.em (∃ i, i < l.toArray.size ∧ listed.getD i false = false) with h | h
        · exact h
        · exfalso
          have : undone l.toArray.size listed = 0 := by
            unfold undone
            refine List.countP_eq_zero.2 fun i hi => ?_
            have hi' := List.mem_range.1 hi
            cases hb : listed.getD i false with
            | true => simp
            | false => exact absurd ⟨i, hi', hb⟩ h
          omega
      obtain ⟨j0, hj0, hr0⟩ := some_ready (n := n) M.inv.size (Nat.le_refl _) hch i0 hi0 hl0
      refine ⟨fun h => (by rw [h] at hr0; cases hr0), fun i hi => ?_⟩
      obtain ⟨hun, o, ho, _⟩ := mem_ready.1 hi
      have hik := (Array.getElem?_eq_some_iff.1 ho).1
      refine M.step rfl (by rw [htk]; exact h) hch (Nat.le_refl _) hbig hi hik (fun β' Fl' a'' w2 M' => ih _ β' Fl' a'' w2 ?_ M')
      have := undone_set hik hun
      omega
  exact main _ _ _ _ _ _ hfuel M0
end
end Go.Owl
/-! from Owl27 -/
/- Elements that hold slices: what hangs on other blocks, as one thing that is only read. -/
namespace Go.Owl
/-- What is known of a thing, and on which blocks that hangs. -/
structure Deep (α : Type) where
  ok : World → α → Prop
  ft : α → List Nat
  lt : ∀ (w : World) (a : α), ok w a → ∀ b ∈ ft a, b < w.heap.size
  fr : ∀ (T : List Nat) (w w' : World) (a : α), Fr T w w' → (∀ b ∈ ft a, b ∉ T) → ok w a → ok w' a
section
variable {α β : Type} {S : List Nat} {w0 w w' : World} {L : List Ent} {i j : Nat}
theorem Deep.st (D : Deep α) (a : α) : Stable (fun w => D.ok w a) (D.ft a) := ⟨fun w h => D.lt w a h, fun T w w' hf hT h => D.fr T w w' a hf hT h⟩
theorem Deep.fr0 (D : Deep α) {a : α} (h : D.ok w a) (hf : Fr [] w w') : D.ok w' a := D.fr [] w w' a hf (fun _ _ => by simp) h
def Deep.list (D : Deep α) : Deep (List α) where
  ok := fun w l => ∀ x ∈ l, D.ok w x
  ft := fun l => l.flatMap D.ft
  lt := fun w l h b hb => by
    obtain ⟨x, hx, hb⟩ := List.mem_flatMap.1 hb
    exact D.lt w x (h x hx) b hb
  fr := fun T w w' l hf hT h x hx => D.fr T w w' x hf (fun b hb => hT b (List.mem_flatMap.2 ⟨x, hx, hb⟩)) (h x hx)
def Deep.and (D E : Deep α) : Deep α where
  ok := fun w a => D.ok w a ∧ E.ok w a
  ft := fun a => D.ft a ++ E.ft a
  lt := fun w a h b hb => (List.mem_append.1 hb).elim (D.lt w a h.1 b) (E.lt w a h.2 b)
  fr := fun T w w' a hf hT h => ⟨D.fr T w w' a hf (fun b hb => hT b (List.mem_append.2 (.inl hb))) h.1, E.fr T w w' a hf (fun b hb => hT b (List.mem_append.2 (.inr hb))) h.2⟩
def Deep.on (D : Deep β) (g : α → β) : Deep α where
  ok := fun w a => D.ok w (g a)
  ft := fun a => D.ft (g a)
  lt := fun w a => D.lt w (g a)
  fr := fun T w w' a => D.fr T w w' (g a)
def Deep.arr (sz : Nat) (g : β → List Value) : Deep (Value × List β) where
  ok := fun w p => Arr w p.1 sz p.2.length (p.2.flatMap g)
  ft := fun p => footA p.1 (p.2.flatMap g)
  lt := fun w p => (Arr.stable p.1 sz p.2.length (p.2.flatMap g)).lt w
  fr := fun T w w' p hf hT h => (Arr.stable p.1 sz p.2.length (p.2.flatMap g)).fr T w w' hf hT h
def Ent.dp (D : Deep α) (a : α) : Ent := .ro (fun w => D.ok w a) (D.ft a) (D.st a)
theorem Deep.getD (D : Deep α) {l : List α} (h : D.list.ok w l) (d : α) (hd : D.ok w d) (i : Nat) : D.ok w (l.getD i d) := by
  rcases Nat.lt_or_ge i l.length with hi | hi
  · rw [show l.getD i d = l[i] by simp [List.getD, hi]]; exact h _ (List.getElem_mem hi)
  · rw [show l.getD i d = d by simp [List.getD, Nat.not_lt.2 hi]]; exact hd
theorem Deep.list_one (D : Deep α) {a : α} (h : D.ok w a) : D.list.ok w [a] := fun x hx => by
  rw [List.mem_singleton] at hx; subst hx; exact h
end
end Go.Owl
/-! from Owl28 -/
/- Cells copied into a slice; slices with three bounds. -/
namespace Go.Owl
section
variable {P : Program} {n : Nat} {D : List Deferred} {ρ : Env} {w w0 : World} {R : Value → World → Prop} {dst : Option Tmp} {ty : TypeId} {pos : String} {af : Array Edge} {g : Option (Nat × Bool)}
variable {S : List Nat} {L : List Ent} {i : Nat} {t t' T T' : TypeId} {x y : Operand} {z : List Value} {sz by_ : Nat} {d : TypeDesc}
/-- What may be copied: its first k elements, for each k. -/
structure SrcC (P : Program) (w : World) (sz : Nat) (u : Value) (m : Nat) (ys : List Value) : Prop where
  len : (Builtin.lenOf u).run P w = .ok m w
  size : ys.length = m * sz
  cells : ∀ k, k ≤ m → (Builtin.firstCells sz k u).run P w = .ok (ys.take (k * sz)).toArray w
theorem SrcC.ofStr {l : List UInt8} : SrcC P w 1 (str l) l.length (l.map vU8) := by
  refine ⟨by simp [Builtin.lenOf, size_str], by simp, fun k hk => ?_⟩
  simp only [Builtin.firstCells, ByteArray.extract_mk, Nat.mul_one]
  simp [List.map_take]
theorem SrcC.ofArr {u : Value} {m : Nat} {ys : List Value} (hA : Arr w u sz m ys) : SrcC P w sz u m ys := by
  obtain ⟨a0, cap, rfl, hn, hc, ha0, hsp⟩ := hA.form
  refine ⟨by simp [Builtin.lenOf], hA.len, fun k hk => ?_⟩
  cases a0 with
  | none =>
    have : ys = [] := List.eq_nil_of_length_eq_zero (by rw [hA.len, (ha0 rfl).1]; simp)
    subst this
    simp [Builtin.firstCells]
  | some ad =>
    by_cases hm0 : k = 0
    · subst hm0
      have := run_firstCells_some (P := P) w sz 0 ad m cap [] (by simp) (fun j v hj => by simp at hj)
      simpa using this
    have hs0 := hsp (by omega) ad rfl
    obtain ⟨b, o, s⟩ := ad
    simp at hs0; subst hs0
    refine run_firstCells_some w sz k ⟨b, o, none⟩ m cap (ys.take (k * sz)) ?_ (fun j v hj => ?_)
    · rw [List.length_take, hA.len]; exact Nat.min_eq_left (Nat.mul_le_mul_right _ hk)
    rw [Addr.add_at]
    have hj' : j < (ys.take (k * sz)).length := (List.getElem?_eq_some_iff.1 hj).1
    have hjy : j < ys.length := by rw [List.length_take] at hj'; omega
    have h1 := hA.cell j hjy
    rw [List.getElem?_take, if_pos (by rw [List.length_take] at hj'; omega)] at hj
    rw [← hj, ← h1]
    rfl
/-- A part of a row: dl cells from a on. -/
def Sub (u v : Value) (a dl : Nat) : Prop := ∃ ad cap, u = .slice ad dl cap ∧ (dl ≠ 0 → ad = some (sp v a))
theorem Sub.self {v : Value} {q : Nat} {xs : List Value} (hA : Arr w v 1 q xs) : Sub v v 0 q := by
  obtain ⟨a0, cap, rfl, hn, hc, ha0, hsp⟩ := hA.form
  refine ⟨a0, cap, rfl, fun h => ?_⟩
  cases a0 with
  | none => exact absurd (ha0 rfl).1 h
  | some ad =>
    have := hsp h ad rfl
    obtain ⟨b, o, s⟩ := ad
    simp at this; subst this
    rfl
theorem RowOK.stores {v : Value} {q a : Nat} {xs ys : List Value} (hr : RowOK w v t 1 q xs) (ha : a + ys.length ≤ q) (h1 : ∀ c ∈ ys, c.oneCell' = true) (hne : ys ≠ []) :
    ∃ w', (storeCells (sp v a) ys).run P w = .ok () w' ∧ RowOK w' v t 1 q (xs.take a ++ (ys ++ xs.drop (a + ys.length))) ∧ Fr v.ownBlock.toList w w' := by
  have hp : 0 < ys.length := List.length_pos_iff.2 hne
  obtain ⟨hl, ⟨rfl, rfl⟩ | ⟨gb, cap, pre, junk, rfl, hk, hn, hc, hj⟩⟩ := hr
  · omega
  · rw [Nat.mul_one] at hl
    have hst := run_storeCells_blk P gb (pre.length + a) t ys 0 _ w hk (by simp; omega) h1
    have e : List.take (pre.length + a + 0) (pre ++ (xs ++ junk)) ++ ys ++ List.drop (pre.length + a + 0 + ys.length) (pre ++ (xs ++ junk)) = pre ++ ((xs.take a ++ (ys ++ xs.drop (a + ys.length))) ++ junk) := by
      rw [Nat.add_zero, Nat.add_assoc, List.take_length_add_append, List.drop_length_add_append, List.take_append_of_le_length (by omega), List.drop_append_of_le_length (by omega)]
      simp only [List.append_assoc]
    rw [e] at hst
    refine ⟨_, hst, ⟨by simp only [List.length_append, List.length_take, List.length_drop]; omega, .inr ⟨gb, cap, pre, junk, rfl, hk.setRow _ (by simp only [List.length_append, List.length_take, List.length_drop]; omega), hn, hc, ?_⟩⟩, Fr.setRow _ _ _⟩
    simp only [List.length_append, List.length_take, List.length_drop] at hj ⊢; omega
theorem op_copy {u v s : Value} {q m a dl : Nat} {xs ys : List Value} (H : Own S w0 w L) (hu : P.underlying T = some (.slice t)) (hz : tiB P t = some (z, 1, by_)) (hx : ev ρ x = some u) (hy : ev ρ y = some s)
    (hs : SrcC P w 1 s m ys) (hi : L[i]? = some (Ent.row v t 1 q xs)) (hd : Sub u v a dl) (ha : a + dl ≤ q) (h1 : ∀ c ∈ ys, c.oneCell' = true)
    (h : ∀ w', Own S w0 w' (L.set i (.row v t 1 q (xs.take a ++ (ys.take (min m dl) ++ xs.drop (a + min m dl))))) → R (vN (min m dl)) w') :
    Op1 P n D ⟨dst, .call { callee := .builtin .copy, args := #[x, y], argTypes := #[T, T'] }, ty, pos, af, g⟩ ρ w R := by
  obtain ⟨ad, cap, rfl, had⟩ := hd
  have hys : ys.length = m := by have := hs.size; omega
  have hc := hs.cells (min m dl) (Nat.min_le_left _ _)
  rw [Nat.mul_one] at hc
  have hlen : (ys.take (min m dl)).length = min m dl := by rw [List.length_take, hys]; omega
  have hmin : Nat.min m dl = min m dl := rfl
  by_cases h0 : min m dl = 0
  · have e0 : ys.take (min m dl) = [] := List.eq_nil_of_length_eq_zero (by rw [hlen, h0])
    have hrow := h w (by
      rw [e0, h0, Nat.add_zero, List.nil_append, List.take_append_drop]
      have hh := List.getElem?_eq_some_iff.1 hi
      rw [show L.set i (Ent.row v t 1 q xs) = L by rw [← hh.2]; exact List.set_getElem_self hh.1]; exact H)
    refine Op1.val (w' := w) (fun c hcc => ?_) hrow
    rw [e0] at hc
    cases ad with
    | none => simp [execOp, resolve, invoke, builtin, hcc.ev hx, hcc.ev hy, Builtin.copy_, run_underlying hu, hs.len, run_sizeOf hz, hmin, hc, goInt]
    | some ad => simp [execOp, resolve, invoke, builtin, hcc.ev hx, hcc.ev hy, Builtin.copy_, run_underlying hu, hs.len, run_sizeOf hz, hmin, hc, goInt, storeCells]
  · have hdl : dl ≠ 0 := by omega
    have := had hdl; subst this
    obtain ⟨w', h2, h3, h4⟩ := (H.row hi).stores (P := P) (a := a) (ys := ys.take (min m dl)) (by rw [hlen]; omega) (fun c hcc => h1 c (List.mem_of_mem_take hcc)) (fun e => by rw [e] at hlen; simp at hlen; omega)
    rw [hlen] at h3
    refine Op1.val (w' := w') (fun c hcc => ?_) (h w' (H.upd hi h4 (fun b hb => by simpa [Ent.block] using hb) h3 (fun b hb => .inl hb)))
    simp [execOp, resolve, invoke, builtin, hcc.ev hx, hcc.ev hy, Builtin.copy_, run_underlying hu, hs.len, run_sizeOf hz, hmin, hc, goInt, h2]
/-- A slice of a slice, with a bound for its capacity. -/
def cutV3 (v : Value) (a b c sz : Nat) : Value := match v with
  | .slice ad _ _ => .slice (if c = a then ad else ad.map (·.add (a * sz))) (b - a) (c - a)
  | v => v
theorem Arr.upto {ad : Option Addr} {q cap c : Nat} {xs : List Value} (hA : Arr w (.slice ad q cap) sz q xs) (hc : c ≤ q) : Arr w (.slice ad c c) sz c (xs.take (c * sz)) := by
  obtain ⟨a0, cap', e, hn, hc', ha0, hsp⟩ := hA.form
  injection e with e1 e2 e3; subst e1; subst e3
  have hle : c * sz ≤ xs.length := by rw [hA.len]; exact Nat.mul_le_mul_right _ hc
  refine ⟨⟨ad, c, rfl, Nat.le_refl _, by omega, fun h => ?_, fun h0 => hsp (by omega)⟩, by rw [List.length_take]; omega, fun j hj => ?_⟩
  · have := ha0 h; omega
  · rw [List.length_take] at hj
    rw [List.getElem?_take, if_pos (by omega)]
    have h1 := hA.cell j (by omega)
    cases ad with
    | none => exact h1
    | some ad => exact h1
theorem Arr.cut3 {v : Value} {q a b c : Nat} {xs : List Value} (hA : Arr w v sz q xs) (hab : a ≤ b) (hbc : b ≤ c) (hc : c ≤ q) : Arr w (cutV3 v a b c sz) sz (b - a) (cutL xs a b sz) := by
  obtain ⟨ad, cap, rfl, _⟩ := hA.form
  have h := (hA.upto hc).cut hab hbc
  have e : cutL (xs.take (c * sz)) a b sz = cutL xs a b sz := by
    unfold cutL
    rw [List.drop_take, List.take_take]
    congr 1
    rw [← Nat.sub_mul]
    exact Nat.min_eq_left (Nat.mul_le_mul_right _ (by omega))
  rw [e] at h
  exact h
theorem Arr.cut3M {α : Type} {f : α → Value} {l : List α} {v : Value} {q a b c : Nat} (hA : Arr w v 1 q (l.map f)) (hab : a ≤ b) (hbc : b ≤ c) (hc : c ≤ q) : Arr w (cutV3 v a b c 1) 1 (b - a) (((l.drop a).take (b - a)).map f) := by
  rw [← cutL_map]; exact hA.cut3 hab hbc hc
theorem Sub.cut3 {v : Value} {q a b c : Nat} {xs : List Value} (hA : Arr w v 1 q xs) (hab : a ≤ b) (hbc : b ≤ c) (hc : c ≤ q) : Sub (cutV3 v a b c 1) v a (b - a) := by
  obtain ⟨ad, cap, rfl, hn, hcm, ha0, hsp⟩ := hA.form
  refine ⟨_, _, rfl, fun h => ?_⟩
  rw [if_neg (by omega)]
  cases ad with
  | none => have := ha0 rfl; omega
  | some ad =>
    have := hsp (by omega) ad rfl
    obtain ⟨bb, o, s⟩ := ad
    simp at this; subst this
    simp only [Option.map_some, Addr.add_at, sp, sBlk, sOff, Nat.mul_one]
theorem run_cut3 {v : Value} {q : Nat} {xs : List Value} {e : TypeId} {k k' k'' : IntKind} (hu : P.underlying t = some (.slice e)) (hz : tiB P e = some (z, sz, by_)) (hA : Arr w v sz q xs) {a b c : Nat} (hab : a ≤ b) (hbc : b ≤ c) (hc : c ≤ q) :
    (Instr.sliceAt t v (some (.int k (a : Int))) (some (.int k' (b : Int))) (some (.int k'' (c : Int)))).run P w = .ok (cutV3 v a b c sz) w := by
  obtain ⟨a0, cap, rfl, hn, hcm, ha0, hsp⟩ := hA.form
  have hcc : c ≤ cap := by omega
  simp [Instr.sliceAt, Instr.slice, run_underlying hu, Instr.sliceBounds, run_sliceBoundN hcc, run_sliceBoundN hbc, run_sliceBoundN hab, run_sizeOf hz, cutV3]
theorem op_cut3 {v : Value} {q : Nat} {xs : List Value} {e : TypeId} {k k' k'' : IntKind} {lo hi mx : Operand} {a b c : Nat} (hu : P.underlying t = some (.slice e)) (hz : tiB P e = some (z, sz, by_)) (hx : ev ρ x = some v) (hA : Arr w v sz q xs)
    (ha : ev ρ lo = some (.int k (a : Int))) (hb : ev ρ hi = some (.int k' (b : Int))) (hm : ev ρ mx = some (.int k'' (c : Int))) (hab : a ≤ b) (hbc : b ≤ c) (hcq : c ≤ q) (h : R (cutV3 v a b c sz) w) : Op1 P n D ⟨dst, .slice t x (some lo) (some hi) (some mx), ty, pos, af, g⟩ ρ w R :=
  Op1.val (fun d hd => by simp only [execOp, hd.ev hx, Option.map_some, hd.ev ha, hd.ev hb, hd.ev hm, Sem.run_bind, run_cut3 hu hz hA hab hbc hcq, Result.andThen_ok, Sem.run_pure]) h
theorem op_copyM {α : Type} {f : α → Value} {l r : List α} {u v s : Value} {q m a dl kk : Nat} (H : Own S w0 w L) (hu : P.underlying T = some (.slice t)) (hz : tiB P t = some (z, 1, by_)) (hx : ev ρ x = some u) (hy : ev ρ y = some s)
    (hs : SrcC P w 1 s m (r.map f)) (hi : L[i]? = some (Ent.row v t 1 q (l.map f))) (hd : Sub u v a dl) (ha : a + dl ≤ q) (hk : min m dl = kk) (h1 : ∀ c, (f c).oneCell' = true)
    (h : ∀ w', Own S w0 w' (L.set i (.row v t 1 q ((l.take a ++ (r.take kk ++ l.drop (a + kk))).map f))) → R (vN kk) w') :
    Op1 P n D ⟨dst, .call { callee := .builtin .copy, args := #[x, y], argTypes := #[T, T'] }, ty, pos, af, g⟩ ρ w R := by
  subst hk
  exact op_copy H hu hz hx hy hs hi hd ha (fun c hc => by obtain ⟨b, _, rfl⟩ := List.mem_map.1 hc; exact h1 b) (fun w' H' => h w' (by
    rw [List.map_append, List.map_append, List.map_take, List.map_take, List.map_drop]; exact H'))
end
end Go.Owl
/-! from Owl26 -/
/- Regions that draw: a state for each set of operations that were run. -/
namespace Go.Owl
section
variable {P : Program} {n : Nat} {D : List Deferred} {ρ ρ' : Env} {w w0 : World} {S : List Nat} {L : List Ent} {ops : Array Oper} {Q : Exit → Act → World → Prop} {fuel : Nat} {listed : Array Bool}
theorem WD.named (h : ∀ W : Nat → Array Bool → Env → World → Prop, W = WD P n D ops Q → W fuel listed ρ w) : WD P n D ops Q fuel listed ρ w := h _ rfl
theorem WD.cov (hc : Cov ρ ρ') (h : WD P n D ops Q fuel listed ρ' w) : WD P n D ops Q fuel listed ρ w := fun a ha => h a (ha.cov hc)
/-- One operation of those that may come next. -/
def WS (P : Program) (n : Nat) (D : List Deferred) (ops : Array Oper) (Q : Exit → Act → World → Prop) (i fuel : Nat) (listed : Array Bool) (ρ : Env) (w : World) : Prop :=
  ∀ a, Agr n D ρ a → wpOp P ops (Nrm Q) i (wpAny P .any ops (Nrm Q) fuel (listed.setIfInBounds i true)) a w
theorem WS.op {i : Nat} {oi : Oper} (hi : ops[i]? = some oi) (hg : oi.guard = none) (hd : dOK n oi.dst = true)
    (h : Op1 P n D oi ρ w (fun v w' => WD P n D ops Q fuel (listed.setIfInBounds i true) (ext ρ oi.dst v) w')) : WS P n D ops Q i fuel listed ρ w := by
  intro a ha
  refine wpOp_of hi ?_
  rw [if_pos (by simp [Region.wanted, hg])]
  exact (h a ha).wp fun v w' hR => hR _ (ha.put hd v)
theorem WD.all {rs : List Nat} (hr : Region.ready .any ops listed = rs) (hne : rs ≠ []) (h : ∀ i, i ∈ rs → WS P n D ops Q i fuel listed ρ w) : WD P n D ops Q (fuel + 1) listed ρ w := by
  subst hr
  exact fun a ha => ⟨fun h0 => absurd h0 hne, fun i hi => h i hi a ha⟩
theorem WD.all1 {i : Nat} (hr : Region.ready .any ops listed = [i]) (h : WS P n D ops Q i fuel listed ρ w) : WD P n D ops Q (fuel + 1) listed ρ w :=
  WD.all hr (by simp) fun k hk => by
    rcases List.mem_singleton.1 hk with rfl; exact h
theorem WD.all2 {i j : Nat} (hr : Region.ready .any ops listed = [i, j]) (h : WS P n D ops Q i fuel listed ρ w) (h2 : WS P n D ops Q j fuel listed ρ w) : WD P n D ops Q (fuel + 1) listed ρ w :=
  WD.all hr (by simp) fun k hk => by
    rcases List.mem_cons.1 hk with rfl | hk
    · exact h
    · rcases List.mem_singleton.1 hk with rfl; exact h2
end
end Go.Owl
/-! from Owl29 -/
/- The row's proof where the row lists variables: as the plain one, and the condition is handed by. -/
namespace Go.Owl
open Go.ChangeShapes Go.WideShapes Go.RowKit
theorem row_laid {H : Type} {enc : TypeId × Value → H} {C : Checked} {os : Os} {f : FuncId} {fn : Func} {s : ChangeSpec} {conds : List PathCond} {apart : Bool} {tb : TypeId} {X : World → Array Value → Prop} (hX : ∀ (w w' : World) (args : Array Value), w.heap = w'.heap → X w args → X w' args)
    (own : ownKnob C.prog.godebug = none) (started : os.Started) (noInit : C.prog.inits.idxOf? f = none) (hfn : C.prog.funcs[f]? = some fn)
    (witness : ∃ (w : World) (tape : Tape) (i : Input), w.os = os ∧ (w.forCall tape i).Shaped C.prog ∧ i.vars = [] ∧ Input.okWide C.prog (w.forCall tape i) .any w.heap.size f i ∧
      ((s.pre enc C.prog fn conds apart (w.forCall tape i).memory i.args ∧ X (w.forCall tape i).memory i.args) ∧ sizedMet enc C.prog fn (OpenSpec.ofChange s) apart (w.forCall tape i).memory i.args) ∧ ({} : Assume).holds C.prog (lone (Frame.enter C.prog f i.args .normal) [] (w.forCall tape i)))
    (hl : laidOutB C.prog = true) (hv : s.vars = []) (hv2 : s.plain.varTypes C.prog = []) (hsp : ∀ ds : List (DataW H), ds.length = fn.params.size → (s.fn H ds).results = [.lit (.bool true)] ∧ (s.fn H ds).args = ds ∧ (s.fn H ds).vars = [])
    (hres : fn.resultTypes = #[tb]) (htb : C.prog.underlying tb = some .bool) (hread : (fn.params.toList.all fun t => C.prog.readableRec t && decide (t < C.prog.types.size)) = true)
    (walk : ∀ (W : World) (base : Nat) (args : Array Value) (ds : List (DataW H)) (ps : List MemPlace), (∀ (j : Nat) t v, fn.params[j]? = some t → args[j]? = some v → Value.okWide C.prog W .any base t v) →
      DataW.TrodAll enc C.prog W 0 (fun _ => true) true fn.params.toList args.toList ds ps → (∀ k ∈ DataW.weightsEach C.prog fn.params.toList ds, k ≤ reachBytes) → Calls C.prog f args W fun e W' => e = .returned (.bool true) ∧ Fr [] W W') :
    ReturnsInHanded {} C os f .any (fun w args => (s.pre enc C.prog fn conds apart w args ∧ X w args) ∧ sizedMet enc C.prog fn (OpenSpec.ofChange s) apart w args) (s.post enc C.prog fn apart true false false) := by
  refine returnsInHanded_of_change_and (X := X) hX own started noInit hfn witness ?_
  intro W base args ds gs before hval hW _ hwt _ _
  have hW' := hW
  obtain ⟨p, q, hA, hV, rfl, hfz, hnd⟩ := hW
  rw [hv] at hV
  obtain ⟨rfl, rfl⟩ := trodVars_none hV
  have hlt : ∀ x ∈ p, x.block < W.heap.size := fun x hx => by simpa using hW'.lt x (by simp [hx])
  rw [hv2, List.append_nil, List.append_nil] at hwt
  refine (walk W base args ds p hval hA (fun k hk => by simpa using List.all_eq_true.1 hwt k hk)).mono fun e W' ⟨he, hw⟩ => ⟨_, he, ?_⟩
  have hb := hw.below
  obtain ⟨s1, s2, s3⟩ := hsp ds (by rw [(trodAll_length hA).1]; simp)
  refine ⟨ds, [], _, [], p, [], hW', ?_, ?_, ?_, hb.frame _, fun h => by cases h⟩
  · rw [List.append_nil, s1, hres]; exact trodAll_mk1 (shut_bool htb true)
  · rw [List.append_nil, s2]; exact trodAll_stays hl hb hread hA hlt
  · rw [List.append_nil, s3, hv]; exact rfl
end Go.Owl
