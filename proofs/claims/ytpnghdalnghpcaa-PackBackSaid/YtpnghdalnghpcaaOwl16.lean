/- Blocks that are only read. -/
import Derived.Test.YtpnghdalnghpcaaOwl15
namespace Go.Owl
/-- From a block's head on these cells stand. -/
def cellsAt (w : World) (b : Nat) (cs : List Value) : Prop := ∀ (j : Nat) (u : Value), cs[j]? = some u → w.cell? ⟨b, j, none⟩ = some u
theorem cellsAt.lt {w : World} {b : Nat} {cs : List Value} (h : cellsAt w b cs) (hne : cs ≠ []) : b < w.heap.size := by
  cases cs with
  | nil => exact absurd rfl hne
  | cons c l => exact block_lt_of_cell (a := ⟨b, 0, none⟩) (h 0 c rfl)
theorem cellsAt.stable (b : Nat) (cs : List Value) : Stable (fun w => cellsAt w b cs) (if cs.isEmpty then [] else [b]) where
  lt := fun w h b' hb => by
    cases cs with
    | nil => simp at hb
    | cons c l => simp at hb; subst hb; exact cellsAt.lt h (by simp)
  fr := fun T w w' hf hT h j u hu => by
    cases cs with
    | nil => simp at hu
    | cons c l =>
      have hb := cellsAt.lt h (by simp)
      rw [← h j u hu]
      exact World.cell?_of_block (hf.block b hb (hT b (by simp)))
def Ent.bo (b : Nat) (cs : List Value) : Ent := .ro (fun w => cellsAt w b cs) (if cs.isEmpty then [] else [b]) (cellsAt.stable b cs)
section
variable {S : List Nat} {w0 w : World} {L : List Ent} {i b : Nat} {cs vs : List Value} {t : TypeId}
theorem Own.cellO {off : Nat} {v : Value} (H : Own S w0 w L) (hi : L[i]? = some (Ent.bo b cs)) (hc : cs[off]? = some v) : w.cell? ⟨b, off, none⟩ = some v := (H.ok i _ hi) off v hc
theorem Own.cellsO {off : Nat} (H : Own S w0 w L) (hi : L[i]? = some (Ent.bo b cs)) (hc : (cs.drop off).take vs.length = vs) : ∀ j u, vs[j]? = some u → w.cell? ⟨b, off + j, none⟩ = some u := by
  intro j u hj
  rw [← hc, List.getElem?_take] at hj
  split at hj
  · rw [List.getElem?_drop] at hj; exact (H.ok i _ hi) _ u hj
  · cases hj
theorem Own.cellsAt (H : Own S w0 w L) (hi : L[i]? = some (Ent.blk b cs t)) : cellsAt w b cs := fun j u hu => H.cell hi hu
theorem Own.cellsAtO (H : Own S w0 w L) (hi : L[i]? = some (Ent.bo b cs)) : Owl.cellsAt w b cs := H.ok i _ hi
theorem Own.oldB (H : Own [] w0 w L) (h : Owl.cellsAt w0 b cs) : Own [] w0 w (L ++ [Ent.bo b cs]) := H.old (cellsAt.stable b cs) h
theorem Own.oldA {v : Value} {sz n : Nat} {xs : List Value} (H : Own [] w0 w L) (h : Arr w0 v sz n xs) : Own [] w0 w (L ++ [Ent.ar v sz n xs]) := H.old (Arr.stable v sz n xs) h
end
end Go.Owl
