/- Rows of structs: a list's cells, one behind the other. -/
import Derived.Test.YtpnghdalnghpcaaOwl17
import Derived.Test.YtpnghdalnghpcaaOwlOpen
namespace Go.Owl
section
variable {β : Type} {g : β → List Value} {sz : Nat}
theorem flatMap_piece (hg : ∀ b, (g b).length = sz) : ∀ (l : List β) (i : Nat) (d : β), i < l.length → ((l.flatMap g).drop (i * sz)).take sz = g (l.getD i d)
  | [], i, d, h => by simp at h
  | c :: l, 0, d, _ => by
    rw [List.flatMap_cons, Nat.zero_mul, List.drop_zero, List.take_append_of_le_length (by rw [hg]; exact Nat.le_refl _), List.take_of_length_le (by rw [hg]; exact Nat.le_refl _)]; rfl
  | c :: l, i + 1, d, h => by
    have e : (i + 1) * sz = sz + i * sz := by rw [Nat.add_mul]; omega
    have e2 : ((c :: l).flatMap g).drop ((i + 1) * sz) = (l.flatMap g).drop (i * sz) := by
      have h0 : ((c :: l).flatMap g).drop sz = l.flatMap g := by
        have hh := List.drop_left (l₁ := g c) (l₂ := l.flatMap g)
        rw [hg] at hh
        rw [List.flatMap_cons]; exact hh
      rw [e, ← List.drop_drop, h0]
    rw [e2]
    have := flatMap_piece hg l i d (by simpa using h)
    rw [this]; rfl
theorem flatMap_cell (hg : ∀ b, (g b).length = sz) {l : List β} {i k : Nat} {d : β} (hi : i < l.length) {u : Value} (hc : (g (l.getD i d))[k]? = some u) : (l.flatMap g)[i * sz + k]? = some u := by
  have hk : k < sz := by rw [← hg (l.getD i d)]; exact (List.getElem?_eq_some_iff.1 hc).1
  rw [flatMap_at hg l i k (l.getD i d) (by rw [List.getD, List.getElem?_eq_getElem hi]; rfl) hk]; exact hc
variable {w : World} {v : Value} {q : Nat} {l : List β}
theorem flat_len (hg : ∀ b, (g b).length = sz) (hs : 0 < sz) (h : (l.flatMap g).length = q * sz) : l.length = q := by
  rw [flatMap_len hg] at h; exact Nat.eq_of_mul_eq_mul_right hs h
theorem Arr.flatLen (hA : Arr w v sz q (l.flatMap g)) (hg : ∀ b, (g b).length = sz) (hs : 0 < sz) : l.length = q := flat_len hg hs hA.len
theorem Arr.atF {i k : Nat} {u : Value} (hA : Arr w v sz q (l.flatMap g)) (hg : ∀ b, (g b).length = sz) (hs : 0 < sz) (d : β) (hi : i < q) (hc : (g (l.getD i d))[k]? = some u) : w.cell? (sp v (i * sz + k)) = some u :=
  hA.at (flatMap_cell hg (by rw [hA.flatLen hg hs]; exact hi) hc)
theorem Arr.atF0 {i : Nat} {u : Value} (hA : Arr w v sz q (l.flatMap g)) (hg : ∀ b, (g b).length = sz) (hs : 0 < sz) (d : β) (hi : i < q) (hc : (g (l.getD i d))[0]? = some u) : w.cell? (sp v (i * sz)) = some u := hA.atF hg hs d hi hc
theorem Arr.atsF {i : Nat} (hA : Arr w v sz q (l.flatMap g)) (hg : ∀ b, (g b).length = sz) (hs : 0 < sz) (d : β) (hi : i < q) : ∀ j u, (g (l.getD i d))[j]? = some u → w.cell? ⟨sBlk v, sOff v + i * sz + j, none⟩ = some u :=
  hA.ats (by rw [hg]; exact flatMap_piece hg l i d (by rw [hA.flatLen hg hs]; exact hi))
theorem cutL_flat (hg : ∀ b, (g b).length = sz) (l : List β) (a b : Nat) : cutL (l.flatMap g) a b sz = ((l.drop a).take (b - a)).flatMap g := by
  have hd : ∀ (l : List β) a, (l.flatMap g).drop (a * sz) = (l.drop a).flatMap g := by
    intro l
    induction l with
    | nil => intro a; simp
    | cons c l ih =>
      intro a
      cases a with
      | zero => simp
      | succ a =>
        have h0 : ((c :: l).flatMap g).drop sz = l.flatMap g := by
          have hh := List.drop_left (l₁ := g c) (l₂ := l.flatMap g)
          rw [hg] at hh; rw [List.flatMap_cons]; exact hh
        rw [show (a + 1) * sz = sz + a * sz by rw [Nat.add_mul]; omega, ← List.drop_drop, h0, ih]; rfl
  have ht : ∀ (l : List β) a, (l.flatMap g).take (a * sz) = (l.take a).flatMap g := by
    intro l
    induction l with
    | nil => intro a; simp
    | cons c l ih =>
      intro a
      cases a with
      | zero => simp
      | succ a =>
        rw [List.flatMap_cons, List.take_succ_cons, List.flatMap_cons, show (a + 1) * sz = (g c).length + a * sz by rw [hg, Nat.add_mul]; omega, List.take_append]
        rw [List.take_of_length_le (by omega), Nat.add_sub_cancel_left, ih]
  unfold cutL; rw [hd, ht]
theorem Arr.cutF (hA : Arr w v sz q (l.flatMap g)) (hg : ∀ b, (g b).length = sz) {a b : Nat} (hab : a ≤ b) (hb : b ≤ q) : Arr w (cutV v a b sz) sz (b - a) (((l.drop a).take (b - a)).flatMap g) := by
  rw [← cutL_flat hg]; exact hA.cut hab hb
theorem Arr.cutLoF (hA : Arr w v sz q (l.flatMap g)) (hg : ∀ b, (g b).length = sz) (hs : 0 < sz) {a : Nat} (hab : a ≤ q) : Arr w (cutV v a q sz) sz (q - a) ((l.drop a).flatMap g) := by
  have h := hA.cutF hg hab (Nat.le_refl q)
  rwa [List.take_of_length_le (by rw [List.length_drop, hA.flatLen hg hs]; exact Nat.le_refl _)] at h
theorem Arr.cutHiF (hA : Arr w v sz q (l.flatMap g)) (hg : ∀ b, (g b).length = sz) {b : Nat} (hb : b ≤ q) : Arr w (cutV v 0 b sz) sz b ((l.take b).flatMap g) := hA.cutF hg (Nat.zero_le b) hb
theorem one_flat (h : ∀ a, ∀ c ∈ g a, c.oneCell' = true) {l : List β} : ∀ c ∈ l.flatMap g, c.oneCell' = true := fun c hc => by
  obtain ⟨a, _, ha⟩ := List.mem_flatMap.1 hc
  exact h a c ha
end
section
variable {P : Program} {n : Nat} {D : List Deferred} {ρ : Env} {w w0 : World} {R : Value → World → Prop} {dst : Option Tmp} {ty : TypeId} {pos : String} {af : Array Edge} {gd : Option (Nat × Bool)}
variable {S : List Nat} {L : List Ent} {i : Nat} {t t' T T' : TypeId} {x y : Operand} {z : List Value} {sz by_ : Nat} {d : TypeDesc}
theorem op_appendF {α : Type} {f : α → List Value} {l l' : List α} {v u : Value} {q m : Nat} (H : Own S w0 w L) (hu : P.underlying T = some (.slice t)) (hz : tiB P t = some (z, sz, by_)) (hzl : z.length = sz) (hx : ev ρ x = some v) (hy : ev ρ y = some u)
    (hi : L[i]? = some (Ent.row v t sz q (l.flatMap f))) (hs : Src P w T' sz u m (l'.flatMap f)) (h1 : ∀ c ∈ l'.flatMap f, c.oneCell' = true) (h63 : q + m ≤ 9223372036854775807) (hby : (q + m) * by_ ≤ 140737488355328)
    (h : ∀ v' w', Own S w0 w' (L.set i (.row v' t sz (q + m) ((l ++ l').flatMap f))) → R v' w') : Op1 P n D ⟨dst, .call { callee := .builtin .append, args := #[x, y], argTypes := #[T, T'] }, ty, pos, af, gd⟩ ρ w R :=
  op_append H hu hz hzl hx hy hi hs h1 h63 hby (fun v' w' H' => h v' w' (by rw [List.flatMap_append]; exact H'))
/-- A struct of a row, as a whole. -/
theorem op_loadSP {v : Value} {k : Nat} {vs : List Value} (hx : ev ρ x = some (.pointer (some (sp v k)))) (hc : ∀ j u, vs[j]? = some u → w.cell? ⟨sBlk v, sOff v + k + j, none⟩ = some u) (hu : P.underlying T = some d) (hs : scal d = false)
    (hz : tiB P T = some (z, sz, by_)) (hl : vs.length = sz) (h : R (.agg vs.toArray) w) : Op1 P n D ⟨dst, .load T x, ty, pos, af, gd⟩ ρ w R :=
  op_loadS (b := sBlk v) (off := sOff v + k) hx hc hu hs hz hl h
theorem Own.rowEqF {α : Type} {f : α → List Value} {l l' : List α} {v : Value} {m m' : Nat} (H : Own S w0 w L) (hi : L[i]? = some (Ent.row v t sz m (l.flatMap f))) (e : l = l') (en : m = m') : Own S w0 w (L.set i (.row v t sz m' (l'.flatMap f))) := by
  subst e; subst en
  have h := List.getElem?_eq_some_iff.1 hi
  have e : L.set i (.row v t sz m (l.flatMap f)) = L := by rw [← h.2]; exact List.set_getElem_self h.1
  rw [e]; exact H
end
end Go.Owl
