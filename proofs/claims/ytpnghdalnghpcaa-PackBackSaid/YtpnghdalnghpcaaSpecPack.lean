/- Numbers, texts, lists as bytes, and readers of them, in plain Lean. -/
import Derived.Test.YtpnghdalnghpcaaSpecRef4
import Derived.Test.YtpnghdalnghpcaaLawSha
namespace Go.Spec
open Go.Owl
/-! Numbers. -/
theorem rV_nat (v : UInt32) : ∀ k, (rV v k).toNat = v.toNat / 256 ^ k
  | 0 => by simp [rV]
  | k + 1 => by
    rw [rV, UInt32.toNat_div, rV_nat v k, Nat.pow_succ, ← Nat.div_div_eq_div_mul]; rfl
theorem shrU32_nat (v : UInt32) (s : Nat) : (shrU32 v s).toNat = v.toNat / 2 ^ s := by
  have h := v.toNat_lt
  rw [shrU32, UInt32.toNat_ofNat', Nat.shiftRight_eq_div_pow, Nat.mod_eq_of_lt (Nat.lt_of_le_of_lt (Nat.div_le_self _ _) h)]
theorem rV_shr (v : UInt32) (k : Nat) : shrU32 v (8 * k) = rV v k := by
  apply UInt32.toNat_inj.1
  rw [rV_nat, shrU32_nat, Nat.pow_mul]
theorem rV_4 (v : UInt32) : rV v 4 = 0 := by
  apply UInt32.toNat_inj.1
  rw [rV_nat]
  exact Nat.div_eq_of_lt v.toNat_lt
theorem rB_take (v : UInt32) {k : Nat} (h : k ≤ 4) : (le4 v).take k = rB v k := by
  rw [← rB4]
  rcases (by omega : k = 0 ∨ k = 1 ∨ k = 2 ∨ k = 3 ∨ k = 4) with rfl | rfl | rfl | rfl | rfl <;> rfl
def numE (v : UInt32) (n : Int) : Nat := if n < 1 ∨ n > 4 then 2 else if rV v n.toNat ≠ 0 then 5 else 0
def numS (v : UInt32) (n : Int) : List UInt8 := if numE v n = 0 then rB v n.toNat else []
theorem numE_len (v : UInt32) (n : Int) : (numS v n).length ≤ 4 := by
  unfold numS; split
  · rename_i h
    rw [rB_length]
    unfold numE at h
    split at h
    · cases h
    · omega
  · simp
/-- The number of bytes, the lowest first. -/
def natLE : List UInt8 → Nat
  | [] => 0
  | c :: l => c.toNat + 256 * natLE l
theorem natLE_lt : ∀ l : List UInt8, natLE l < 256 ^ l.length
  | [] => by simp [natLE]
  | c :: l => by
    have := natLE_lt l; have := c.toNat_lt
    rw [natLE, List.length_cons, Nat.pow_succ]; omega
theorem natLE_snoc (c : UInt8) : ∀ l : List UInt8, natLE (l ++ [c]) = natLE l + 256 ^ l.length * c.toNat
  | [] => by simp [natLE]
  | d :: l => by rw [List.cons_append, natLE, natLE_snoc c l, natLE, List.length_cons, Nat.pow_succ, Nat.mul_add]; rw [Nat.mul_comm (256 ^ l.length) 256, Nat.mul_assoc]; omega
theorem gF_nat : ∀ l : List UInt8, l.length ≤ 4 → (gF l).toNat = natLE l
  | [], _ => rfl
  | c :: l, h => by
    have ih := gF_nat l (by simp at h; omega)
    have hb := natLE_lt (c :: l)
    have hc := c.toNat_lt
    have h4 : (256 : Nat) ^ (c :: l).length ≤ 256 ^ 4 := Nat.pow_le_pow_right (by decide) h
    rw [natLE] at hb ⊢
    rw [gF, UInt32.toNat_add, UInt32.toNat_mul, ih, UInt32.toNat_ofNat']
    show (256 * natLE l % 2 ^ 32 + c.toNat % 2 ^ 32) % 2 ^ 32 = _
    omega
theorem getTo_nat (s : List UInt8) : ∀ k, k ≤ s.length → k ≤ 4 → (getTo s k).toNat = natLE (s.take k)
  | 0, _, _ => by simp [getTo, natLE]
  | k + 1, h, h4 => by
    have ih := getTo_nat s k (by omega) (by omega)
    have hk : k < s.length := by omega
    have e : s.take (k + 1) = s.take k ++ [s[k]] := by rw [List.take_add_one, List.getElem?_eq_getElem hk]; rfl
    have hl : (s.take k).length = k := by rw [List.length_take]; omega
    have hb := natLE_lt (s.take k)
    rw [hl] at hb
    have hg : s.getD k 0 = s[k] := by simp [List.getD, hk]
    rw [e, natLE_snoc, hl, getTo, UInt32.toNat_or, ih, hg]
    have hc := (s[k]).toNat_lt
    generalize s[k] = c at *
    have e2 : (shlU32 (UInt32.ofNat c.toNat) (8 * k)).toNat = c.toNat <<< (8 * k) := by
      rw [shlU32, UInt32.toNat_ofNat', UInt32.toNat_ofNat', Nat.mod_eq_of_lt (by omega : c.toNat < 2 ^ 32)]
      refine Nat.mod_eq_of_lt ?_
      rw [Nat.shiftLeft_eq]
      calc c.toNat * 2 ^ (8 * k) < 2 ^ 8 * 2 ^ (8 * k) := Nat.mul_lt_mul_of_pos_right hc (Nat.two_pow_pos _)
        _ = 2 ^ (8 + 8 * k) := (Nat.pow_add 2 8 (8 * k)).symm
        _ ≤ 2 ^ 32 := Nat.pow_le_pow_right (by decide) (by omega)
    rw [e2]
    have e3 : (256 : Nat) ^ k = 2 ^ (8 * k) := by rw [Nat.pow_mul]
    rw [e3] at hb ⊢
    rw [Nat.or_comm, ← Nat.shiftLeft_add_eq_or_of_lt hb, Nat.shiftLeft_eq, Nat.mul_comm (2 ^ (8 * k))]
    omega
theorem getV_nat {s : List UInt8} (h1 : 1 ≤ s.length) (h4 : s.length ≤ 4) : (getV s).toNat = natLE s := by
  rw [getV, if_neg (by omega), getTo_nat s _ (Nat.le_refl _) h4, List.take_length]
theorem gFV_getV (s : List UInt8) : gFV s = getV s := by
  by_cases h : s.length < 1 ∨ 4 < s.length
  · rw [gFV, getV, if_pos h, if_pos h]
  · apply UInt32.toNat_inj.1
    rw [getV_nat (by omega) (by omega), gFV, if_neg h, gF_nat s (by omega)]
theorem natLE_rB (v : UInt32) : ∀ k, natLE (rB v k) = v.toNat % 256 ^ k
  | 0 => by simp [rB, natLE, Nat.mod_one]
  | k + 1 => by
    rw [rB, natLE_snoc, natLE_rB v k, rB_length]
    have e : (UInt8.ofNat (rV v k % 256).toNat).toNat = v.toNat / 256 ^ k % 256 := by
      rw [UInt8.toNat_ofNat', UInt32.toNat_mod, rV_nat]
      exact Nat.mod_eq_of_lt (Nat.mod_lt _ (by decide))
    rw [e, Nat.pow_succ, Nat.mod_mul]
theorem rB_natLE : ∀ (l : List UInt8) (v : UInt32), v.toNat = natLE l → rB v l.length = l := by
  intro l v h
  have key : ∀ k, k ≤ l.length → rB v k = l.take k := by
    intro k
    induction k with
    | zero => intro _; rfl
    | succ k ih =>
      intro hk
      have hk' : k < l.length := hk
      have e : l.take (k + 1) = l.take k ++ [l[k]] := by rw [List.take_add_one, List.getElem?_eq_getElem hk']; rfl
      rw [rB, ih (by omega), e]
      congr 2
      apply UInt8.toNat_inj.1
      rw [UInt8.toNat_ofNat', UInt32.toNat_mod, rV_nat, h]
      have h2 : ∀ (m : List UInt8) (j : Nat) (hj : j < m.length), natLE m / 256 ^ j % 256 = (m[j]).toNat := by
        intro m
        induction m with
        | nil => intro j hj; simp at hj
        | cons c m ihm =>
          intro j hj
          have hc := c.toNat_lt
          cases j with
          | zero => simp [natLE]
          | succ j =>
            have := ihm j (by simpa using hj)
            rw [natLE, Nat.pow_succ', ← Nat.div_div_eq_div_mul, show (c.toNat + 256 * natLE m) / 256 = natLE m by omega]
            simpa using this
      rw [show (256 : UInt32).toNat = 256 from rfl, h2 l k hk']
      exact Nat.mod_eq_of_lt (l[k]).toNat_lt
  rw [key _ (Nat.le_refl _), List.take_length]
theorem numE_4 (v : UInt32) : numE v 4 = 0 := by
  unfold numE; rw [if_neg (by decide), if_neg (by rw [show (4 : Int).toNat = 4 from rfl, rV_4]; simp)]
theorem numE_2 {n : Nat} (h : n < 2 ^ 32) : numE (UInt32.ofNat n) 2 = if n > 65535 then 5 else 0 := by
  unfold numE; rw [if_neg (by decide)]
  have e : (rV (UInt32.ofNat n) (2 : Int).toNat).toNat = n / 65536 := by
    rw [show (2 : Int).toNat = 2 from rfl, rV_nat, UInt32.toNat_ofNat', Nat.mod_eq_of_lt h]
  by_cases hn : n > 65535
  · rw [if_pos hn, if_pos (fun h0 => by rw [h0] at e; have : (0 : UInt32).toNat = 0 := rfl; omega)]
  · rw [if_neg hn, if_neg (fun h0 => h0 (UInt32.toNat_inj.1 (by rw [e]; show _ = 0; omega)))]
/-! Texts. -/
def txE (s : List UInt8) : Nat := if s.length > 65535 then 5 else 0
def txS (s : List UInt8) : List UInt8 := if s.length > 65535 then [] else rB (UInt32.ofNat s.length) 2 ++ s
theorem rB_2 {n : Nat} (h : n ≤ 65535) : rB (UInt32.ofNat n) 2 = [UInt8.ofNat (n % 256), UInt8.ofNat (n / 256)] := by
  simp only [rB, rV, List.nil_append, List.cons_append, List.cons.injEq, and_true]
  have e : (UInt32.ofNat n).toNat = n := by rw [UInt32.toNat_ofNat']; omega
  constructor
  · congr 1; rw [UInt32.toNat_mod, e]; rfl
  · congr 1; rw [UInt32.toNat_mod, UInt32.toNat_div, e]; show n / 256 % 256 = n / 256; omega
def txsTo (l : List (List UInt8)) : Nat → List UInt8
  | 0 => rB (UInt32.ofNat l.length) 2
  | k + 1 => txsTo l k ++ txS (l.getD k [])
def tsBad (l : List (List UInt8)) : Bool := l.any (fun s => decide (s.length > 65535))
def tsE (l : List (List UInt8)) : Nat := if l.length > 4096 then 5 else if tsBad l then 5 else 0
def tsS (l : List (List UInt8)) : List UInt8 := if tsE l = 0 then txsTo l l.length else []
theorem tsBad_out {l : List (List UInt8)} {k : Nat} (h : k < l.length) (hb : (l.getD k []).length > 65535) : tsBad l = true := by
  refine List.any_eq_true.2 ⟨l.getD k [], ?_, by simpa using hb⟩
  rw [List.getD, List.getElem?_eq_getElem h]; exact List.getElem_mem h
theorem tsBad_no {l : List (List UInt8)} (h : ∀ k, k < l.length → (l.getD k []).length ≤ 65535) : tsBad l = false := by
  refine List.any_eq_false.2 fun x hx => ?_
  obtain ⟨k, hk, rfl⟩ := List.getElem_of_mem hx
  have := h k hk
  rw [List.getD, List.getElem?_eq_getElem hk] at this
  simpa using this
theorem getD_mem47 {l : List (List UInt8)} (h : ∀ x ∈ l, x.length < 2 ^ 47) (k : Nat) : (l.getD k []).length < 2 ^ 47 := by
  rw [List.getD]
  rcases Nat.lt_or_ge k l.length with hk | hk
  · rw [List.getElem?_eq_getElem hk]; exact h _ (List.getElem_mem hk)
  · rw [List.getElem?_eq_none hk]; decide
theorem txE_0 {s : List UInt8} (h : txE s = 0) : s.length ≤ 65535 := by
  unfold txE at h; split at h <;> omega
theorem txE_1 {s : List UInt8} (h : txE s ≠ 0) : s.length > 65535 ∧ txE s = 5 := by
  unfold txE at h ⊢; split at h
  · rename_i h1; rw [if_pos h1]; exact ⟨h1, rfl⟩
  · exact absurd rfl h
theorem txS_len (s : List UInt8) : (txS s).length ≤ 65537 := by
  unfold txS; split
  · simp
  · rw [List.length_append, rB_length]; omega
theorem txsTo_len (l : List (List UInt8)) : ∀ k, (∀ j, j < k → (l.getD j []).length ≤ 65535) → (txsTo l k).length ≤ 2 + 65537 * k
  | 0, _ => by rw [txsTo, rB_length]; omega
  | k + 1, h => by
    have := txsTo_len l k (fun j hj => h j (by omega))
    have := txS_len (l.getD k [])
    rw [txsTo, List.length_append]; omega
theorem nextP {P : Nat → Prop} {k : Nat} (h : ∀ j, j < k → P j) (hk : P k) : ∀ j, j < k + 1 → P j := fun j hj => by
  rcases Nat.lt_or_ge j k with h1 | h1
  · exact h j h1
  · rw [show j = k by omega]; exact hk
/-! Readers. -/
structure Rd where
  s : List UInt8
  at_ : Nat
  f : Nat
  h : at_ ≤ s.length
def Rd.rest (r : Rd) : List UInt8 := r.s.drop r.at_
def Rd.bad (r : Rd) (e : Nat) : Rd := ⟨r.s, r.at_, e, r.h⟩
def Rd.on (r : Rd) (k : Nat) (hk : ¬ k > r.s.length - r.at_) : Rd := ⟨r.s, r.at_ + k, r.f, by have := r.h; omega⟩
/-- The next n bytes, of a reader that is not spoilt. -/
def rawR (r : Rd) (n : Nat) : (List UInt8 × Nat) × Rd := if h : n > r.s.length - r.at_ then (([], 6), r.bad 6) else ((r.rest.take n, 0), r.on n h)
def takeR (r : Rd) (n : Int) : (List UInt8 × Nat) × Rd := if r.f ≠ 0 then (([], r.f), r) else if n < 0 then (([], 2), r.bad 2) else rawR r n.toNat
def numR (r : Rd) (n : Int) : (UInt32 × Nat) × Rd :=
  if r.f ≠ 0 then ((0, r.f), r) else if n < 1 ∨ n > 4 then ((0, 2), r.bad 2) else if (rawR r n.toNat).1.2 ≠ 0 then ((0, (rawR r n.toNat).1.2), (rawR r n.toNat).2) else ((getV (rawR r n.toNat).1.1, 0), (rawR r n.toNat).2)
def textR (r : Rd) : (List UInt8 × Nat) × Rd :=
  if (numR r 2).1.2 ≠ 0 then (([], (numR r 2).1.2), (numR r 2).2)
  else if (rawR (numR r 2).2 (numR r 2).1.1.toNat).1.2 ≠ 0 then ((rawR (numR r 2).2 (numR r 2).1.1.toNat).1, ⟨r.s, r.at_, (rawR (numR r 2).2 (numR r 2).1.1.toNat).2.f, r.h⟩)
  else rawR (numR r 2).2 (numR r 2).1.1.toNat
/-- k texts; the first error. -/
def txR (r : Rd) : Nat → Rd
  | 0 => r
  | k + 1 => (textR (txR r k)).2
def txL (r : Rd) : Nat → List (List UInt8)
  | 0 => []
  | k + 1 => txL r k ++ [(textR (txR r k)).1.1]
/-- The first of n texts that fails. -/
def txBad (r : Rd) : Nat → Option Nat
  | 0 => none
  | k + 1 => match txBad r k with
    | some j => some j
    | none => if (textR (txR r k)).1.2 ≠ 0 then some k else none
def textsR (r : Rd) : (List (List UInt8) × Nat) × Rd :=
  if (numR r 2).1.2 ≠ 0 then (([], (numR r 2).1.2), (numR r 2).2)
  else if (numR r 2).1.1 > 4096 then (([], 7), r.bad 7)
  else match txBad (numR r 2).2 (numR r 2).1.1.toNat with
    | some j => (([], (textR (txR (numR r 2).2 j)).1.2), ⟨r.s, r.at_, (textR (txR (numR r 2).2 j)).2.f, r.h⟩)
    | none => ((txL (numR r 2).2 (numR r 2).1.1.toNat, 0), txR (numR r 2).2 (numR r 2).1.1.toNat)
def endR (r : Rd) : Nat × Rd := if r.f ≠ 0 then (r.f, r) else if r.s.length - r.at_ > 0 then (7, r.bad 7) else (0, r)
/-! What they do. -/
theorem rawR_1 {r : Rd} {n : Nat} (h : n > r.s.length - r.at_) : rawR r n = (([], 6), r.bad 6) := by unfold rawR; rw [dif_pos h]
theorem rawR_2 {r : Rd} {n : Nat} (h : ¬ n > r.s.length - r.at_) : rawR r n = ((r.rest.take n, 0), r.on n h) := by unfold rawR; rw [dif_neg h]
theorem rawR_s (r : Rd) (n : Nat) : (rawR r n).2.s = r.s := by unfold rawR; split <;> rfl
theorem rawR_f {r : Rd} {n : Nat} (h : r.f = 0) : (rawR r n).2.f = (rawR r n).1.2 := by
  unfold rawR; split
  · rfl
  · exact h
theorem rawR_at {r : Rd} {n : Nat} (h : (rawR r n).1.2 = 0) : (rawR r n).2.at_ = r.at_ + n ∧ n ≤ r.s.length - r.at_ := by
  unfold rawR at h ⊢; split at h
  · cases h
  · rename_i h1; rw [dif_neg h1]; exact ⟨rfl, by omega⟩
theorem rawR_at6 {r : Rd} {n : Nat} (h : (rawR r n).1.2 ≠ 0) : (rawR r n).2.at_ = r.at_ ∧ (rawR r n).1.1 = [] ∧ (rawR r n).1.2 = 6 := by
  unfold rawR at h ⊢; split at h
  · rename_i h1; rw [dif_pos h1]; exact ⟨rfl, rfl, rfl⟩
  · exact absurd rfl h
theorem rawR_len {r : Rd} {n : Nat} (h : (rawR r n).1.2 = 0) : (rawR r n).1.1.length = n := by
  unfold rawR at h ⊢; split at h
  · cases h
  · rename_i h1; rw [dif_neg h1]; show (r.rest.take n).length = n; rw [List.length_take, Rd.rest, List.length_drop]; omega
theorem takeR_s (r : Rd) (n : Int) : (takeR r n).2.s = r.s := by
  unfold takeR; split
  · rfl
  · split
    · rfl
    · exact rawR_s _ _
theorem numR_s (r : Rd) (n : Int) : (numR r n).2.s = r.s := by
  unfold numR; split
  · rfl
  · split
    · rfl
    · split <;> exact rawR_s _ _
theorem numR_0 {r : Rd} {n : Nat} (h : (numR r n).1.2 = 0) : r.f = 0 ∧ 1 ≤ n ∧ n ≤ 4 ∧ (rawR r n).1.2 = 0 ∧ (numR r n).2 = (rawR r n).2 ∧ (numR r n).1.1 = getV (rawR r n).1.1 := by
  unfold numR at h ⊢
  split at h
  · rename_i h1; exact absurd h h1
  · rename_i h1
    split at h
    · cases h
    · rename_i h2
      split at h
      · rename_i h3; exact absurd h h3
      · rename_i h3
        have e : ((n : Int)).toNat = n := rfl
        rw [e] at h3
        rw [if_neg h1, if_neg h2, e, if_neg h3]
        exact ⟨by omega, by omega, by omega, by omega, rfl, rfl⟩
theorem numR_at {r : Rd} {n : Nat} (h : (numR r n).1.2 = 0) : (numR r n).2.at_ = r.at_ + n := by
  obtain ⟨_, _, _, h1, h2, _⟩ := numR_0 h
  rw [h2]; exact (rawR_at h1).1
theorem numR_at2 {r : Rd} (h : (numR r 2).1.2 = 0) : (numR r 2).2.at_ = r.at_ + 2 := numR_at (n := 2) h
theorem textR_s (r : Rd) : (textR r).2.s = r.s := by
  unfold textR; split
  · exact numR_s _ _
  · split
    · rfl
    · rw [rawR_s, numR_s]
theorem txR_s (r : Rd) : ∀ k, (txR r k).s = r.s
  | 0 => rfl
  | k + 1 => by rw [txR, textR_s, txR_s r k]
theorem txL_len (r : Rd) : ∀ k, (txL r k).length = k
  | 0 => rfl
  | k + 1 => by simp [txL, txL_len r k]
theorem txBad_no {r : Rd} : ∀ {n : Nat}, (∀ j, j < n → (textR (txR r j)).1.2 = 0) → txBad r n = none
  | 0, _ => rfl
  | n + 1, h => by rw [txBad, txBad_no (fun j hj => h j (by omega)), if_neg (fun h1 => h1 (h n (by omega)))]
theorem txBad_out {r : Rd} {k : Nat} (h : ∀ j, j < k → (textR (txR r j)).1.2 = 0) (hk : (textR (txR r k)).1.2 ≠ 0) : ∀ {n : Nat}, k < n → txBad r n = some k
  | 0, hn => by omega
  | n + 1, hn => by
    rw [txBad]
    rcases Nat.lt_or_ge k n with h1 | h1
    · rw [txBad_out h hk h1]
    · have e : n = k := by omega
      subst e
      rw [txBad_no h, if_pos hk]
theorem takeR_1 {r : Rd} {n : Int} (h : r.f ≠ 0) : takeR r n = (([], r.f), r) := by rw [takeR, if_pos h]
theorem takeR_2 {r : Rd} {n : Int} (h : r.f = 0) (hn : n < 0) : takeR r n = (([], 2), r.bad 2) := by rw [takeR, if_neg (by omega), if_pos hn]
theorem takeR_3 {r : Rd} {n : Nat} (h : r.f = 0) : takeR r n = rawR r n := by rw [takeR, if_neg (by omega), if_neg (by omega)]; rfl
theorem rawR_len4 {r : Rd} {n : Nat} (h : (rawR r n).1.2 ≠ 0) : (rawR r n).1.1 = [] := (rawR_at6 h).2.1
/-- The reference's way: bytes are taken, then told. -/
theorem numR_bad {r : Rd} {n : Int} (h : r.f = 0) (hn : n < 1 ∨ n > 4) : numR r n = ((0, 2), r.bad 2) := by rw [numR, if_neg (by omega), if_pos hn]
theorem numR_take {r : Rd} {n : Int} (h : r.f = 0 → ¬ (n < 1 ∨ n > 4)) : numR r n = ((gF (takeR r n).1.1, (takeR r n).1.2), (takeR r n).2) := by
  by_cases hf : r.f = 0
  · have hn := h hf
    obtain ⟨m, rfl⟩ : ∃ m : Nat, n = (m : Int) := ⟨n.toNat, by omega⟩
    rw [numR, if_neg (by omega), if_neg hn, takeR_3 hf, Int.toNat_natCast]
    by_cases hr : (rawR r m).1.2 = 0
    · rw [if_neg (by omega)]
      have hl := rawR_len hr
      rw [← gFV_getV, gFV, if_neg (by omega), hr]
    · rw [if_pos hr, (rawR_at6 hr).2.1]; rfl
  · rw [numR, if_pos hf, takeR_1 hf]; rfl
/-! A reader of what is left does the same. -/
def Rd.re (r : Rd) : Rd := ⟨r.rest, 0, r.f, Nat.zero_le _⟩
def Like (a b : Rd) : Prop := a.rest = b.rest ∧ a.f = b.f
theorem Like.re (r : Rd) : Like r.re r := ⟨List.drop_zero, rfl⟩
theorem Like.left {a b : Rd} (h : Like a b) : a.s.length - a.at_ = b.s.length - b.at_ := by
  have := congrArg List.length h.1
  rwa [Rd.rest, Rd.rest, List.length_drop, List.length_drop] at this
theorem Like.bad {a b : Rd} (h : Like a b) (e : Nat) : Like (a.bad e) (b.bad e) := ⟨h.1, rfl⟩
theorem Like.raw {a b : Rd} (h : Like a b) (n : Nat) : (rawR a n).1 = (rawR b n).1 ∧ Like (rawR a n).2 (rawR b n).2 := by
  by_cases hn : n > a.s.length - a.at_
  · rw [rawR_1 hn, rawR_1 (by rw [← h.left]; exact hn)]
    exact ⟨rfl, h.bad 6⟩
  · rw [rawR_2 hn, rawR_2 (by rw [← h.left]; exact hn)]
    refine ⟨by rw [h.1], ?_, h.2⟩
    have := congrArg (List.drop n) h.1
    rwa [Rd.rest, Rd.rest, List.drop_drop, List.drop_drop] at this
theorem Like.take {a b : Rd} (h : Like a b) (n : Int) : (takeR a n).1 = (takeR b n).1 ∧ Like (takeR a n).2 (takeR b n).2 := by
  unfold takeR
  rw [h.2]
  split
  · exact ⟨rfl, h⟩
  · split
    · exact ⟨rfl, h.bad 2⟩
    · exact h.raw _
theorem Like.num {a b : Rd} (h : Like a b) (n : Int) : (numR a n).1 = (numR b n).1 ∧ Like (numR a n).2 (numR b n).2 := by
  unfold numR
  rw [h.2, (h.raw _).1]
  split
  · exact ⟨rfl, h⟩
  · split
    · exact ⟨rfl, h.bad 2⟩
    · split
      · exact ⟨rfl, (h.raw _).2⟩
      · exact ⟨rfl, (h.raw _).2⟩
theorem Like.text {a b : Rd} (h : Like a b) : (textR a).1 = (textR b).1 ∧ Like (textR a).2 (textR b).2 := by
  have h1 := h.num 2
  have h2 := h1.2.raw (numR b 2).1.1.toNat
  unfold textR
  rw [h1.1, h2.1]
  split
  · exact ⟨rfl, h1.2⟩
  · split
    · exact ⟨rfl, h.1, h2.2.2⟩
    · exact h2
theorem Like.tx {a b : Rd} (h : Like a b) : ∀ k, txL a k = txL b k ∧ Like (txR a k) (txR b k)
  | 0 => ⟨rfl, h⟩
  | k + 1 => by
    have ih := h.tx k
    have h1 := ih.2.text
    exact ⟨by rw [txL, txL, ih.1, h1.1], h1.2⟩
theorem Like.txBad {a b : Rd} (h : Like a b) : ∀ k, Spec.txBad a k = Spec.txBad b k
  | 0 => rfl
  | k + 1 => by rw [Spec.txBad, Spec.txBad, h.txBad k, ((h.tx k).2.text).1]
theorem Like.texts {a b : Rd} (h : Like a b) : (textsR a).1 = (textsR b).1 ∧ Like (textsR a).2 (textsR b).2 := by
  have h1 := h.num 2
  unfold textsR
  rw [h1.1, h1.2.txBad]
  split
  · exact ⟨rfl, h1.2⟩
  · split
    · exact ⟨rfl, h.bad 7⟩
    · split
      · rename_i j _
        have h3 := ((h1.2.tx j).2.text)
        exact ⟨by rw [h3.1], h.1, h3.2.2⟩
      · exact ⟨by rw [(h1.2.tx _).1], (h1.2.tx _).2⟩
theorem Like.end_ {a b : Rd} (h : Like a b) : (endR a).1 = (endR b).1 ∧ Like (endR a).2 (endR b).2 := by
  unfold endR
  rw [h.2, h.left]
  split
  · exact ⟨rfl, h⟩
  · split
    · exact ⟨rfl, h.bad 7⟩
    · exact ⟨rfl, h⟩
theorem textsR_s (r : Rd) : (textsR r).2.s = r.s := by
  unfold textsR; split
  · exact numR_s _ _
  · split
    · rfl
    · split
      · rfl
      · rw [txR_s, numR_s]
theorem endR_s (r : Rd) : (endR r).2.s = r.s := by
  unfold endR; split
  · rfl
  · split <;> rfl
theorem rest_lt {r : Rd} {B : Nat} (h : r.s.length < B) : r.rest.length < B := by rw [Rd.rest, List.length_drop]; omega
theorem rawR_lenle (r : Rd) (n : Nat) : (rawR r n).1.1.length ≤ r.s.length := by
  unfold rawR; split
  · exact Nat.zero_le _
  · show (r.rest.take n).length ≤ _; rw [List.length_take, Rd.rest, List.length_drop]; omega
theorem takeR_len (r : Rd) (n : Int) {B : Nat} (h : r.s.length < B) : (takeR r n).1.1.length < B := by
  unfold takeR; split
  · exact Nat.lt_of_le_of_lt (Nat.zero_le _) h
  · split
    · exact Nat.lt_of_le_of_lt (Nat.zero_le _) h
    · exact Nat.lt_of_le_of_lt (rawR_lenle _ _) h
theorem numR_f0 {r : Rd} (h : (numR r 2).1.2 = 0) : (numR r 2).2.f = 0 := by
  obtain ⟨h0, _, _, h1, h2, _⟩ := numR_0 (n := 2) h
  exact (congrArg Rd.f h2).trans ((rawR_f h0).trans h1)
theorem sumTo_min (l : List (List UInt8)) : sumTo l (min l.length 5000) = (l.take 5000).flatten.length := by
  rw [sumTo_tk _ (by omega), tk]
  congr 2
  rcases Nat.le_total l.length 5000 with h | h
  · rw [Nat.min_eq_left h, List.take_length, List.take_of_length_le h]
  · rw [Nat.min_eq_right h]
theorem list_eq {a b : List (List UInt8)} (hl : a.length = b.length) (h : ∀ j, j < a.length → a.getD j [] = b.getD j []) : a = b := by
  refine List.ext_getElem hl fun i h2 h3 => ?_
  have := h i h2
  simpa [List.getD, h2, h3] using this
def large07 (l : List (List UInt8)) : Bool := decide (l.length > 4200) || decide ((l.take 5000).flatten.length > 262144)
structure Stp where
  d : Int
  n : Int
def stp (x : Stp) : List Value := [vI x.d, vI x.n]
def Stp.zero : Stp := ⟨0, 0⟩
theorem large07_no {l : List (List UInt8)} (h : large07 l = false) : l.length ≤ 4200 ∧ (l.take 5000).flatten.length ≤ 262144 := by
  unfold large07 at h
  rw [Bool.or_eq_false_iff] at h
  have h1 := of_decide_eq_false h.1; have h2 := of_decide_eq_false h.2
  exact ⟨by omega, by omega⟩
theorem textsR_len (r : Rd) : (textsR r).1.1.length < 2 ^ 40 := by
  unfold textsR; split
  · exact Nat.two_pow_pos _
  · split
    · exact Nat.two_pow_pos _
    · split
      · exact Nat.two_pow_pos _
      · rw [txL_len]; exact Nat.lt_of_lt_of_le (numR r 2).1.1.toNat_lt (by decide)
theorem rest0 (S : List UInt8) (E : Nat) (h : 0 ≤ S.length) : (Rd.mk S 0 E h).rest = S := List.drop_zero
theorem u32_lt {k : Nat} {n : UInt32} (hk : k < 2 ^ 32) : (UInt32.ofNat k < n) ↔ k < n.toNat := by
  rw [UInt32.lt_iff_toNat_lt, UInt32.toNat_ofNat', Nat.mod_eq_of_lt hk]
theorem u32_succ (k : Nat) : UInt32.ofNat k + 1 = UInt32.ofNat (k + 1) := by rw [UInt32.ofNat_add]; rfl
end Go.Spec
