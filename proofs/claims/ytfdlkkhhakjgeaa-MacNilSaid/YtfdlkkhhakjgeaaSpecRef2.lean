/- The reference's sums: numbers as roots. -/
import Derived.Test.YtfdlkkhhakjgeaaSpecHash
namespace Go.Spec
open Go.Owl
def mulV (ai bj o : UInt32) (c : UInt64) : UInt64 := (UInt64.ofNat ai.toNat * UInt64.ofNat bj.toNat + UInt64.ofNat o.toNat) + c
def mulIn (ai : UInt32) (b : List UInt32) (i : Nat) (out : List UInt32) : Nat → List UInt32 × UInt64
  | 0 => (out, 0)
  | j + 1 =>
    ((mulIn ai b i out j).1.set (i + j) (UInt32.ofNat (mulV ai (b.getD j 0) ((mulIn ai b i out j).1.getD (i + j) 0) (mulIn ai b i out j).2 % (4294967296 : UInt64)).toNat),
      shrU64 (mulV ai (b.getD j 0) ((mulIn ai b i out j).1.getD (i + j) 0) (mulIn ai b i out j).2) 32)
def mulOut (a b : List UInt32) : Nat → List UInt32
  | 0 => List.replicate (a.length + b.length) 0
  | i + 1 => (mulIn (a.getD i 0) b i (mulOut a b i) b.length).1.set (i + b.length) (UInt32.ofNat (mulIn (a.getD i 0) b i (mulOut a b i) b.length).2.toNat)
def mulL (a b : List UInt32) : List UInt32 := mulOut a b a.length
theorem mulIn_length (ai : UInt32) (b : List UInt32) (i : Nat) (out : List UInt32) : ∀ j, (mulIn ai b i out j).1.length = out.length
  | 0 => rfl
  | j + 1 => by rw [mulIn, List.length_set, mulIn_length ai b i out j]
theorem mulOut_length (a b : List UInt32) : ∀ i, (mulOut a b i).length = a.length + b.length
  | 0 => by simp [mulOut]
  | i + 1 => by rw [mulOut, List.length_set, mulIn_length, mulOut_length a b i]
theorem mulL_length (a b : List UInt32) : (mulL a b).length = a.length + b.length := mulOut_length a b _
/-- Some number of a from place k on is not 0. -/
def anyN (a : List UInt32) (k m : Nat) : Bool := ((a.drop k).take m).any (fun x => decide (x ≠ 0))
def aboveB (a : List UInt32) (p : UInt32) (n : Nat) : Bool :=
  anyN a (n + 1) (a.length - (n + 1)) || (if a.length ≤ n ∨ a.getD n 0 ≠ p then decide (a.length > n) && decide (a.getD n 0 > p) else anyN a 0 n)
theorem anyN_out (a : List UInt32) (k m i : Nat) (h1 : k ≤ i) (h2 : i < k + m) (h3 : i < a.length) (h : a.getD i 0 ≠ 0) : anyN a k m = true := by
  unfold anyN
  rw [List.any_eq_true]
  refine ⟨a.getD i 0, ?_, by simpa using h⟩
  rw [List.mem_iff_getElem?]
  refine ⟨i - k, ?_⟩
  rw [List.getElem?_take, if_pos (by omega), List.getElem?_drop, show k + (i - k) = i by omega]
  simp [List.getD, h3]
theorem anyN_no (a : List UInt32) (k m : Nat) (h : ∀ i, k ≤ i → i < k + m → i < a.length → a.getD i 0 = 0) : anyN a k m = false := by
  unfold anyN
  rw [List.any_eq_false]
  intro x hx
  rw [List.mem_iff_getElem?] at hx
  obtain ⟨j, hj⟩ := hx
  rw [List.getElem?_take] at hj
  split at hj
  · rw [List.getElem?_drop] at hj
    have hl : k + j < a.length := (List.getElem?_eq_some_iff.1 hj).1
    have := h (k + j) (by omega) (by omega) hl
    rw [List.getD, hj] at this
    simpa using this
  · cases hj
def powTo (one : List UInt32) : Nat → List UInt32
  | 0 => one
  | k + 1 => mulL (powTo one k) one
theorem powTo_length (one : List UInt32) : ∀ k, (powTo one k).length = one.length * (k + 1)
  | 0 => by simp [powTo]
  | k + 1 => by rw [powTo, mulL_length, powTo_length one k, Nat.mul_succ one.length (k + 1)]
def oneOf (y : UInt64) : List UInt32 := [UInt32.ofNat (y % (4294967296 : UInt64)).toNat, UInt32.ofNat (shrU64 y 32).toNat]
def rootY (x : UInt64) (j : Nat) : UInt64 := x + shlU64 1 (UInt64.ofNat (36 - j)).toNat
def rootTo (p : UInt32) (n : Nat) : Nat → UInt64
  | 0 => 0
  | j + 1 => if (!aboveB (powTo (oneOf (rootY (rootTo p n j) j)) (n - 1)) p n) = true then rootY (rootTo p n j) j else rootTo p n j
def rootV (p : UInt32) (n : Nat) : UInt32 := UInt32.ofNat (rootTo p n 37 % (4294967296 : UInt64)).toNat
/-- Is a number divided by none of the first k of a list? -/
def isPr (l : List UInt32) (p : UInt32) : Nat → Bool
  | 0 => true
  | k + 1 => isPr l p k && decide (p % l.getD k 0 ≠ 0)
def prL : Nat → List UInt32
  | 0 => []
  | j + 1 => if isPr (prL j) (2 + UInt32.ofNat j) (prL j).length = true then prL j ++ [2 + UInt32.ofNat j] else prL j
theorem prL_mono (j : Nat) : ∀ d, ∃ t, prL (j + d) = prL j ++ t
  | 0 => ⟨[], by simp⟩
  | d + 1 => by
    obtain ⟨t, ht⟩ := prL_mono j d
    rw [← Nat.add_assoc, prL]
    split
    · exact ⟨t ++ [2 + UInt32.ofNat (j + d)], by rw [ht, List.append_assoc]⟩
    · exact ⟨t, ht⟩
theorem prL_310 : (prL 310).length = 64 := by decide +kernel
theorem prL_lt (j : Nat) (h : (prL j).length < 64) : j < 310 := by
  rcases Nat.lt_or_ge j 310 with h1 | h1
  · exact h1
  · obtain ⟨t, ht⟩ := prL_mono 310 (j - 310)
    rw [show 310 + (j - 310) = j by omega] at ht
    rw [ht, List.length_append, prL_310] at h; omega
theorem prL_pre (j : Nat) (h : j ≤ 310) : prL j = (prL 310).take (prL j).length := by
  obtain ⟨t, ht⟩ := prL_mono j (310 - j)
  rw [show j + (310 - j) = 310 by omega] at ht
  rw [ht, List.take_left']
  rfl
theorem prL_le1 (j : Nat) : (prL (j + 1)).length ≤ (prL j).length + 1 := by
  rw [prL]; split <;> simp
def prs (many : Nat) : List UInt32 := (prL 310).take many
theorem prs_length (many : Nat) (h : many ≤ 64) : (prs many).length = many := by rw [prs, List.length_take, prL_310]; omega
def rootsTo (many n : Nat) : Nat → List UInt32
  | 0 => []
  | k + 1 => rootsTo many n k ++ [rootV ((prs many).getD k 0) n]
theorem rootsTo_length (many n : Nat) : ∀ k, (rootsTo many n k).length = k
  | 0 => rfl
  | k + 1 => by simp [rootsTo, rootsTo_length many n k]
theorem u64_nat {m : Nat} (h : m < 2 ^ 64) : (UInt64.ofNat m).toNat = m := by rw [UInt64.toNat_ofNat']; exact Nat.mod_eq_of_lt h
theorem u64_32 {m : Nat} (h : m ≤ 32) : ((32 : UInt64) - UInt64.ofNat m).toNat = 32 - m := by
  rw [UInt64.toNat_sub_of_le, u64_nat (by omega)]
  · rfl
  · rw [UInt64.le_iff_toNat_le, u64_nat (by omega)]; exact h
theorem aboveB_1 {a : List UInt32} {p : UInt32} {n i : Nat} (h1 : n < i) (h2 : i < a.length) (h : a.getD i 0 ≠ 0) : aboveB a p n = true := by
  rw [aboveB, anyN_out a (n + 1) _ i (by omega) (by omega) h2 h, Bool.true_or]
theorem aboveB_2 {a : List UInt32} {p : UInt32} {n : Nat} (hz : anyN a (n + 1) (a.length - (n + 1)) = false) (hl : n < a.length) (h : a.getD n 0 ≠ p) : aboveB a p n = decide (a.getD n 0 > p) := by
  rw [aboveB, hz, Bool.false_or, if_pos (.inr h)]; simp [hl]
theorem aboveB_3 {a : List UInt32} {p : UInt32} {n : Nat} (hz : anyN a (n + 1) (a.length - (n + 1)) = false) (hl : n < a.length) (h : a.getD n 0 = p) : aboveB a p n = anyN a 0 n := by
  rw [aboveB, hz, Bool.false_or, if_neg (fun h' => h'.elim (fun h1 => by omega) (fun h2 => h2 h))]
theorem prL_nz : ∀ x ∈ prL 310, x ≠ 0 := by decide +kernel
theorem prL_gnz (j : Nat) (hj : j ≤ 310) {k : Nat} (hk : k < (prL j).length) : (prL j).getD k 0 ≠ 0 := by
  obtain ⟨t, ht⟩ := prL_mono j (310 - j)
  rw [show j + (310 - j) = 310 by omega] at ht
  refine prL_nz _ ?_
  rw [ht, List.mem_append]; left
  rw [List.getD, List.getElem?_eq_getElem hk]
  exact List.getElem_mem hk
theorem u32_next (j : Nat) : (2 : UInt32) + UInt32.ofNat j + 1 = 2 + UInt32.ofNat (j + 1) := by
  rw [UInt32.ofNat_add, UInt32.add_assoc]; rfl
theorem prL_end (j : Nat) (h : j ≤ 310) {n : Nat} (hn : (prL j).length = n) : prL j = prs n := by
  have := prL_pre j h
  rw [hn] at this; exact this
theorem refStep (v : St) (k w : UInt32) : [(v.h + ((rot v.e 6 ^^^ rot v.e 11) ^^^ rot v.e 25) + ((v.e &&& v.f) ^^^ (~~~v.e &&& v.g)) + k + w) + (((rot v.a 2 ^^^ rot v.a 13) ^^^ rot v.a 22) + (((v.a &&& v.b) ^^^ (v.a &&& v.c)) ^^^ (v.b &&& v.c))), v.a, v.b, v.c,
    v.d + (v.h + ((rot v.e 6 ^^^ rot v.e 11) ^^^ rot v.e 25) + ((v.e &&& v.f) ^^^ (~~~v.e &&& v.g)) + k + w), v.e, v.f, v.g] = (stepS v k w).vals := by
  rw [UInt32.and_comm (~~~v.e) v.g]; rfl
theorem wl_lo (b : List UInt8) {j : Nat} (h : j < 16) : wl b j ++ [be4 b j] = wl b (j + 1) := by rw [wl, if_pos h]
theorem wl_hi (b : List UInt8) {t : Nat} (h : ¬ t < 16) : wl b t ++ [mix (wl b t) t] = wl b (t + 1) := by rw [wl, if_neg h]
/-- A text's digits. -/
def digL : List UInt8 := [48, 49, 50, 51, 52, 53, 54, 55, 56, 57, 97, 98, 99, 100, 101, 102]
def hexTo (s : List UInt8) : Nat → List UInt8
  | 0 => []
  | k + 1 => hexTo s k ++ [digL.getD (s.getD k 0 / 16).toNat 0, digL.getD (s.getD k 0 % 16).toNat 0]
def hexS (s : List UInt8) : List UInt8 := hexTo s s.length
theorem u8_div16 (x : UInt8) : (x / 16).toNat < 16 := by
  rw [UInt8.toNat_div]; have := x.toNat_lt; show x.toNat / 16 < 16; omega
theorem u8_mod16 (x : UInt8) : (x % 16).toNat < 16 := by
  rw [UInt8.toNat_mod]; exact Nat.mod_lt _ (by decide)
theorem fillStep (X : List UInt8) (k : Nat) : X ++ [128] ++ List.replicate k 0 ++ [0] = X ++ [128] ++ List.replicate (k + 1) 0 := padStep X k
theorem lenStepW (X A : List UInt8) (n j : Nat) (h : j < 8) : X ++ (A ++ lenTo n j) ++ [UInt8.ofNat (shrU64 ((8 : UInt64) * UInt64.ofNat n) (UInt64.ofNat (56 - 8 * j)).toNat).toNat] = X ++ (A ++ lenTo n (j + 1)) := by
  rw [u64_nat (by omega)]; exact lenStep X A n j
end Go.Spec
