/- Rows in the form of a list's image: append, store, make. -/
import Derived.Test.YtpnghdalnghpcaaOwl13
namespace Go.Owl
section
variable {P : Program} {n : Nat} {D : List Deferred} {ρ : Env} {w w0 : World} {R : Value → World → Prop} {dst : Option Tmp} {ty : TypeId} {pos : String} {af : Array Edge} {g : Option (Nat × Bool)}
variable {S : List Nat} {L : List Ent} {i : Nat} {t t' T T' : TypeId} {x y : Operand} {z : List Value} {sz by_ : Nat} {d : TypeDesc}

theorem op_appendM {α : Type} {f : α → Value} {l l' : List α} {v u : Value} {q m : Nat} (H : Own S w0 w L) (hu : P.underlying T = some (.slice t)) (hz : tiB P t = some (z, 1, by_)) (hzl : z.length = 1) (hx : ev ρ x = some v) (hy : ev ρ y = some u)
    (hi : L[i]? = some (Ent.row v t 1 q (l.map f))) (hs : Src P w T' 1 u m (l'.map f)) (h1 : ∀ c ∈ l'.map f, c.oneCell' = true) (h63 : q + m ≤ 9223372036854775807) (hby : (q + m) * by_ ≤ 140737488355328)
    (h : ∀ v' w', Own S w0 w' (L.set i (.row v' t 1 (q + m) ((l ++ l').map f))) → R v' w') : Op1 P n D ⟨dst, .call { callee := .builtin .append, args := #[x, y], argTypes := #[T, T'] }, ty, pos, af, g⟩ ρ w R :=
  op_append H hu hz hzl hx hy hi hs h1 h63 hby (fun v' w' H' => h v' w' (by rw [List.map_append]; exact H'))

theorem one_mapM {α : Type} {f : α → Value} (h : ∀ a, (f a).oneCell' = true) {l : List α} : ∀ c ∈ l.map f, c.oneCell' = true := fun c hc => by
  obtain ⟨a, _, rfl⟩ := List.mem_map.1 hc
  exact h a
theorem zeros_one (c : Value) : ∀ m, zeros [c] m = List.replicate m c
  | 0 => rfl
  | m + 1 => by rw [zeros, zeros_one c m, List.replicate_succ]; rfl

theorem op_makeSlice {m : Nat} {k k' : IntKind} (H : Own S w0 w L) (hu : P.underlying T = some (.slice t)) (hz : tiB P t = some (z, sz, by_)) (hzl : z.length = sz) (hx : ev ρ x = some (.int k (m : Int))) (hy : ev ρ y = some (.int k' (m : Int)))
    (hb : by_ * m ≤ 281474976710656) (h63 : m ≤ 9223372036854775807) (h : ∀ b w', Own S w0 w' (L ++ [.row (.slice (some ⟨b, 0, none⟩) m m) t sz m (zeros z m)]) → R (.slice (some ⟨b, 0, none⟩) m m) w') :
    Op1 P n D ⟨dst, .makeSlice T x y, ty, pos, af, g⟩ ρ w R := by
  obtain ⟨i, v, hi, hv, hc, hs, hby⟩ := tiB_spec hz
  have hvs : v.cells.size = sz := by rw [← hzl, ← hc]; simp
  have hr := run_make (P := P) w T t i v hu hi hv k k' m m (by omega) (Int.le_refl _) (by rw [hby]; omega) (by omega)
  simp only [Int.toNat_natCast] at hr
  have e : madeCells v.cells (m * i.size) = (zeros z m).toArray := by
    rw [← hc]; exact range_zeros v.cells m (m * i.size) (by rw [hs, hvs])
  rw [e] at hr
  refine Op1.val (w' := w.alloc (.cells (zeros z m).toArray t)) (v := .slice (some ⟨w.heap.size, 0, none⟩) m m) (fun a ha => ?_) (h _ _ ?_)
  · simp only [execOp, ha.ev hx, ha.ev hy, Sem.run_bind, hr, Result.andThen_ok, Sem.run_pure]
  · refine H.new (Fr.alloc _ _) ⟨by rw [zeros_length, hzl], .inr ⟨w.heap.size, m, [], [], rfl, ?_, Nat.le_refl _, by unfold maxLen; omega, by rw [zeros_length, hzl]; simp⟩⟩ (fun b hb => ?_)
    · simpa using Blk.alloc w (zeros z m) t
    · simp only [Ent.block, Value.ownBlock, Option.some.injEq] at hb; omega

theorem op_makeSliceM {α : Type} {f : α → Value} {c : α} {m : Nat} {k k' : IntKind} (H : Own S w0 w L) (hu : P.underlying T = some (.slice t)) (hz : tiB P t = some ([f c], 1, by_)) (hx : ev ρ x = some (.int k (m : Int))) (hy : ev ρ y = some (.int k' (m : Int)))
    (hb : by_ * m ≤ 281474976710656) (h63 : m ≤ 9223372036854775807) (h : ∀ b w', Own S w0 w' (L ++ [.row (.slice (some ⟨b, 0, none⟩) m m) t 1 m ((List.replicate m c).map f)]) → R (.slice (some ⟨b, 0, none⟩) m m) w') :
    Op1 P n D ⟨dst, .makeSlice T x y, ty, pos, af, g⟩ ρ w R :=
  op_makeSlice H hu hz rfl hx hy hb h63 (fun b w' H' => h b w' (by rw [zeros_one] at H'; rw [List.map_replicate]; exact H'))

theorem op_storeRM {α : Type} {f : α → Value} {l : List α} {c : α} {v : Value} {m k : Nat} (H : Own S w0 w L) (hx : ev ρ x = some (.pointer (some (sp v k)))) (hy : ev ρ y = some (f c)) (hi : L[i]? = some (Ent.row v t 1 m (l.map f))) (hk : k < m)
    (h1 : (f c).oneCell' = true) (hz : tiB P T = some (z, 1, by_)) (h : ∀ w', Own S w0 w' (L.set i (.row v t 1 m ((l.set k c).map f))) → R undef w') : Op1 P n D ⟨dst, .store T x y, ty, pos, af, g⟩ ρ w R :=
  op_storeR H hx hy hi (by have := (H.row hi).1; simp at this; simpa [this] using hk) h1 hz (fun w' H' => h w' (by rw [List.map_set]; exact H'))
theorem map_len {α : Type} {f : α → Value} {l : List α} {v : Value} {m : Nat} (H : Own S w0 w L) (hi : L[i]? = some (Ent.row v t 1 m (l.map f))) : l.length = m := (H.arrR hi).mapLen
theorem Own.ltR {α : Type} {f : α → Value} {l : List α} {v : Value} {m k : Nat} (H : Own S w0 w L) (hi : L[i]? = some (Ent.row v t 1 m (l.map f))) (hk : k < m) : k < l.length := by rw [map_len H hi]; exact hk
theorem Own.rowEq {α : Type} {f : α → Value} {l l' : List α} {v : Value} {m : Nat} (H : Own S w0 w L) (hi : L[i]? = some (Ent.row v t 1 m (l.map f))) (e : l = l') : Own S w0 w (L.set i (.row v t 1 m (l'.map f))) := by
  subst e
  have h := List.getElem?_eq_some_iff.1 hi
  have e : L.set i (.row v t 1 m (l.map f)) = L := by rw [← h.2]; exact List.set_getElem_self h.1
  rw [e]; exact H
theorem Own.rowEqN {α : Type} {f : α → Value} {l l' : List α} {v : Value} {m m' : Nat} (H : Own S w0 w L) (hi : L[i]? = some (Ent.row v t 1 m (l.map f))) (e : l = l') (en : m = m') : Own S w0 w (L.set i (.row v t 1 m' (l'.map f))) := by
  subst en; exact H.rowEq hi e
end
theorem Arr.ltM {α : Type} {f : α → Value} {l : List α} {w : World} {v : Value} {q k : Nat} (hA : Arr w v 1 q (l.map f)) (hk : k < q) : k < l.length := by rw [hA.mapLen]; exact hk
end Go.Owl
