/- Texts, some of a list at a time. -/
import Derived.Test.YtpnghdalnghpcaaSpecHash
namespace Go.Spec
def sumTo (ls : List (List UInt8)) : Nat → Nat
  | 0 => 0
  | k + 1 => sumTo ls k + (ls.getD k []).length
theorem getD_mem {ls : List (List UInt8)} {B : Nat} (h : ∀ x ∈ ls, x.length ≤ B) (k : Nat) : (ls.getD k []).length ≤ B := by
  rw [List.getD]
  rcases Nat.lt_or_ge k ls.length with hk | hk
  · rw [List.getElem?_eq_getElem hk]; exact h _ (List.getElem_mem hk)
  · rw [List.getElem?_eq_none hk]; simp
theorem sumTo_le {ls : List (List UInt8)} {B : Nat} (h : ∀ x ∈ ls, x.length ≤ B) : ∀ k, sumTo ls k ≤ k * B
  | 0 => by simp [sumTo]
  | k + 1 => by rw [sumTo, Nat.add_mul, Nat.one_mul]; exact Nat.add_le_add (sumTo_le h k) (getD_mem h k)
/-- The first k, one behind the other. -/
def tk (ls : List (List UInt8)) (k : Nat) : List UInt8 := (ls.take k).flatten
theorem tk_succ {ls : List (List UInt8)} {k : Nat} (h : k < ls.length) : tk ls k ++ ls.getD k [] = tk ls (k + 1) := by
  have e : ls.take (k + 1) = ls.take k ++ [ls[k]] := by rw [List.take_add_one, List.getElem?_eq_getElem h]; rfl
  rw [tk, tk, e, List.flatten_append]
  simp [List.getD, h, -List.take_append_getElem]
theorem tk_cut (ls : List (List UInt8)) {a k : Nat} (h : a ≤ k) : tk ls a ++ ((ls.drop a).take (k - a)).flatten = tk ls k := by
  have e : ls.take k = ls.take a ++ (ls.drop a).take (k - a) := by
    rw [← List.take_append_drop a (ls.take k), List.take_take, Nat.min_eq_left h, List.drop_take]
  rw [tk, tk, e, List.flatten_append]
theorem tk_len (ls : List (List UInt8)) (k : Nat) : (tk ls k).length ≤ ls.flatten.length := by
  conv => rhs; rw [← List.take_append_drop k ls, List.flatten_append, List.length_append]
  exact Nat.le_add_right _ _
theorem tk_all (ls : List (List UInt8)) : tk ls ls.length = ls.flatten := by rw [tk, List.take_length]
theorem sumTo_tk {ls : List (List UInt8)} : ∀ k, k ≤ ls.length → sumTo ls k = (tk ls k).length
  | 0, _ => by simp [sumTo, tk]
  | k + 1, h => by rw [sumTo, sumTo_tk k (by omega), ← tk_succ (by omega), List.length_append]
theorem acc1 (X : List UInt8) {ls : List (List UInt8)} {i : Nat} (h : i < ls.length) : X ++ tk ls i ++ [ls.getD i []].flatten = X ++ tk ls (i + 1) := by
  rw [← tk_succ h]; simp
end Go.Spec
