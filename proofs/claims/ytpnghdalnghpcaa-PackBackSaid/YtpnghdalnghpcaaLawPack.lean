/- What was packed is read; of what is read the bytes are those that it was read of. -/
import Derived.Test.YtpnghdalnghpcaaSpecPack
namespace Go.Spec
/-- From r to r': n bytes further, t is left. -/
def On (r r' : Rd) (n : Nat) (t : List UInt8) : Prop := r'.rest = t ∧ r'.f = 0 ∧ r'.s = r.s ∧ r'.at_ = r.at_ + n
theorem On.trans {a b c : Rd} {n m : Nat} {t u : List UInt8} (h : On a b n t) (k : On b c m u) : On a c (n + m) u :=
  ⟨k.1, k.2.1, k.2.2.1.trans h.2.2.1, by rw [k.2.2.2, h.2.2.2, Nat.add_assoc]⟩
theorem rest_len (r : Rd) : r.rest.length = r.s.length - r.at_ := by rw [Rd.rest, List.length_drop]
theorem rB_get {v : UInt32} {n : Nat} (h1 : 1 ≤ n) (h4 : n ≤ 4) (hv : rV v n = 0) : getV (rB v n) = v := by
  apply UInt32.toNat_inj.1
  have h0 := congrArg UInt32.toNat hv
  rw [rV_nat, show (0 : UInt32).toNat = 0 from rfl, Nat.div_eq_zero_iff_lt (Nat.pow_pos (by decide))] at h0
  rw [getV_nat (by rw [rB_length]; exact h1) (by rw [rB_length]; exact h4), natLE_rB, Nat.mod_eq_of_lt h0]
theorem raw_on {r : Rd} {x t : List UInt8} {n : Nat} (hf : r.f = 0) (h : r.rest = x ++ t) (hn : x.length = n) : (rawR r n).1 = (x, 0) ∧ On r (rawR r n).2 n t := by
  have hl := rest_len r
  rw [h, List.length_append] at hl
  rw [rawR_2 (by omega)]
  refine ⟨by rw [h, List.take_left' hn], ?_, hf, rfl, rfl⟩
  show r.s.drop (r.at_ + n) = t
  rw [← List.drop_drop]
  have e : r.s.drop r.at_ = x ++ t := h
  rw [e, List.drop_left' hn]
theorem num_on {r : Rd} {v : UInt32} {n : Nat} {t : List UInt8} (hf : r.f = 0) (h : r.rest = rB v n ++ t) (h1 : 1 ≤ n) (h4 : n ≤ 4) (hv : rV v n = 0) : (numR r n).1 = (v, 0) ∧ On r (numR r n).2 n t := by
  have hr := raw_on hf h (rB_length v n)
  rw [numR, if_neg (by omega), if_neg (by omega), Int.toNat_natCast, hr.1, if_neg (by simp), rB_get h1 h4 hv]
  exact ⟨rfl, hr.2⟩
theorem rV_len {s : List UInt8} (hs : s.length ≤ 65535) : rV (UInt32.ofNat s.length) 2 = 0 ∧ (UInt32.ofNat s.length).toNat = s.length := by
  have e : (UInt32.ofNat s.length).toNat = s.length := by rw [UInt32.toNat_ofNat']; omega
  refine ⟨UInt32.toNat_inj.1 ?_, e⟩
  rw [rV_nat, e]; show s.length / 65536 = 0; omega
theorem text_on {r : Rd} {s t : List UInt8} (hf : r.f = 0) (h : r.rest = txS s ++ t) (hs : s.length ≤ 65535) : (textR r).1 = (s, 0) ∧ On r (textR r).2 (txS s).length t := by
  have e : txS s = rB (UInt32.ofNat s.length) 2 ++ s := by rw [txS, if_neg (by omega)]
  have hn := num_on (n := 2) hf (by rw [h, e, List.append_assoc]) (by decide) (by decide) (rV_len hs).1
  have hr := raw_on (r := (numR r 2).2) (n := s.length) hn.2.2.1 hn.2.1 rfl
  have h1 : (numR r 2).1 = (UInt32.ofNat s.length, 0) := hn.1
  rw [textR, h1, if_neg (by simp), (rV_len hs).2, hr.1, if_neg (by simp)]
  refine ⟨hr.1, ?_⟩
  have := On.trans hn.2 hr.2
  rw [e, List.length_append, rB_length]
  exact this
def flatT (l : List (List UInt8)) : List UInt8 := (l.map txS).flatten
theorem flatT_cons (x : List UInt8) (l : List (List UInt8)) : flatT (x :: l) = txS x ++ flatT l := rfl
theorem take_snoc {l : List (List UInt8)} {k : Nat} (h : k < l.length) : l.take (k + 1) = l.take k ++ [l[k]] := by rw [List.take_add_one, List.getElem?_eq_getElem h]; rfl
theorem flatT_snoc (l : List (List UInt8)) (x : List UInt8) : flatT (l ++ [x]) = flatT l ++ txS x := by simp [flatT]
theorem tx_on {r : Rd} {l : List (List UInt8)} {t : List UInt8} (hf : r.f = 0) (h : r.rest = flatT l ++ t) (hl : ∀ x ∈ l, x.length ≤ 65535) :
    ∀ k, k ≤ l.length → txL r k = l.take k ∧ On r (txR r k) (flatT (l.take k)).length (flatT (l.drop k) ++ t) ∧ ∀ j, j < k → (textR (txR r j)).1.2 = 0
  | 0, _ => ⟨by simp [txL], ⟨by simpa [txR] using h, hf, rfl, by simp [txR, flatT]⟩, fun j hj => by omega⟩
  | k + 1, hk => by
    obtain ⟨h1, h2, h3⟩ := tx_on hf h hl k (by omega)
    have hk' : k < l.length := hk
    have e : l.drop k = l[k] :: l.drop (k + 1) := List.drop_eq_getElem_cons hk'
    have hx := text_on (r := txR r k) h2.2.1 (by rw [h2.1, e, flatT_cons, List.append_assoc]) (hl _ (List.getElem_mem hk'))
    refine ⟨by rw [txL, h1, hx.1, take_snoc hk'], ?_, fun j hj => ?_⟩
    · have := On.trans h2 hx.2
      rw [take_snoc hk', flatT_snoc, List.length_append]
      exact this
    · rcases Nat.lt_or_ge j k with hj' | hj'
      · exact h3 j hj'
      · rw [show j = k by omega, hx.1]
theorem txsTo_eq (l : List (List UInt8)) : ∀ k, k ≤ l.length → txsTo l k = rB (UInt32.ofNat l.length) 2 ++ flatT (l.take k)
  | 0, _ => by simp [txsTo, flatT]
  | k + 1, hk => by
    have hk' : k < l.length := hk
    rw [txsTo, txsTo_eq l k (by omega), take_snoc hk', flatT_snoc, List.append_assoc]
    simp [List.getD, hk']
theorem tsS_eq {l : List (List UInt8)} (h : tsE l = 0) : tsS l = rB (UInt32.ofNat l.length) 2 ++ flatT l ∧ l.length ≤ 4096 ∧ ∀ x ∈ l, x.length ≤ 65535 := by
  refine ⟨by rw [tsS, if_pos h, txsTo_eq l _ (Nat.le_refl _), List.take_length], ?_⟩
  unfold tsE at h
  split at h
  · cases h
  · split at h
    · cases h
    · rename_i h1 h2
      refine ⟨by omega, fun x hx => ?_⟩
      have := List.any_eq_false.1 (by simpa using h2 : tsBad l = false) x hx
      simpa using this
theorem tsE_mk {l : List (List UInt8)} (h1 : l.length ≤ 4096) (h2 : ∀ x ∈ l, x.length ≤ 65535) : tsE l = 0 := by
  rw [tsE, if_neg (by omega), if_neg]
  intro hb
  obtain ⟨x, hx, h⟩ := List.any_eq_true.1 hb
  have := h2 x hx
  have h := of_decide_eq_true h
  omega
theorem texts_on {r : Rd} {l : List (List UInt8)} {t : List UInt8} (hf : r.f = 0) (h : r.rest = tsS l ++ t) (hE : tsE l = 0) : (textsR r).1 = (l, 0) ∧ On r (textsR r).2 (tsS l).length t := by
  obtain ⟨e, hl, hx⟩ := tsS_eq hE
  have en : (UInt32.ofNat l.length).toNat = l.length := by rw [UInt32.toNat_ofNat']; omega
  have hv : rV (UInt32.ofNat l.length) 2 = 0 := by
    apply UInt32.toNat_inj.1; rw [rV_nat, en]; show l.length / 65536 = 0; omega
  have hn := num_on (n := 2) hf (by rw [h, e, List.append_assoc]) (by decide) (by decide) hv
  have h1 : (numR r 2).1 = (UInt32.ofNat l.length, 0) := hn.1
  obtain ⟨k1, k2, k3⟩ := tx_on (r := (numR r 2).2) hn.2.2.1 hn.2.1 hx l.length (Nat.le_refl _)
  have hb := txBad_no k3
  rw [textsR, h1, if_neg (by simp), if_neg (by rw [gt_iff_lt, UInt32.lt_iff_toNat_lt, en]; show ¬ 4096 < l.length; omega), en, hb]
  refine ⟨by rw [k1, List.take_length], ?_⟩
  have := On.trans hn.2 k2
  rw [List.take_length, List.drop_length] at this
  rw [e, List.length_append, rB_length]
  exact this
/-! The other way. -/
theorem raw_inv {r : Rd} {n : Nat} (hf : r.f = 0) (h : (rawR r n).1.2 = 0) : r.rest = (rawR r n).1.1 ++ (rawR r n).2.rest ∧ (rawR r n).1.1.length = n ∧ On r (rawR r n).2 n (rawR r n).2.rest := by
  have hl := rawR_len h
  have ha := rawR_at h
  refine ⟨?_, hl, rfl, (rawR_f hf).trans h, rawR_s _ _, ha.1⟩
  rw [rawR_2 (by omega)]
  show r.rest = r.rest.take n ++ r.s.drop (r.at_ + n)
  rw [← List.drop_drop]; exact (List.take_append_drop n r.rest).symm
theorem num_inv {r : Rd} {n : Nat} (h : (numR r n).1.2 = 0) : r.rest = rB (numR r n).1.1 n ++ (numR r n).2.rest ∧ On r (numR r n).2 n (numR r n).2.rest ∧ (numR r n).1.1.toNat < 256 ^ n := by
  obtain ⟨hf, h1, h4, hr, e2, e1⟩ := numR_0 h
  obtain ⟨k1, k2, k3⟩ := raw_inv hf hr
  have hn : (numR r n).1.1.toNat = natLE (rawR r n).1.1 := by rw [e1, getV_nat (by omega) (by omega)]
  have hb := rB_natLE _ _ hn
  rw [k2] at hb
  refine ⟨by rw [e2, hb]; exact k1, by rw [e2]; exact k3, ?_⟩
  rw [hn]; have := natLE_lt (rawR r n).1.1; rwa [k2] at this
theorem num_inv2 {r : Rd} (h : (numR r 2).1.2 = 0) : r.rest = rB (numR r 2).1.1 2 ++ (numR r 2).2.rest ∧ On r (numR r 2).2 2 (numR r 2).2.rest ∧ (numR r 2).1.1.toNat < 256 ^ 2 := num_inv (n := 2) h
theorem text_inv {r : Rd} (h : (textR r).1.2 = 0) : (textR r).1.1.length ≤ 65535 ∧ r.rest = txS (textR r).1.1 ++ (textR r).2.rest ∧ On r (textR r).2 (txS (textR r).1.1).length (textR r).2.rest := by
  by_cases hn : (numR r 2).1.2 = 0
  · by_cases hr : (rawR (numR r 2).2 (numR r 2).1.1.toNat).1.2 = 0
    · obtain ⟨k1, k2, k3⟩ := num_inv2 hn
      obtain ⟨m1, m2, m3⟩ := raw_inv k2.2.1 hr
      have e : textR r = rawR (numR r 2).2 (numR r 2).1.1.toNat := by rw [textR, if_neg (by omega), if_neg (by omega)]
      have hl : (rawR (numR r 2).2 (numR r 2).1.1.toNat).1.1.length ≤ 65535 := by
        rw [m2]; have : (numR r 2).1.1.toNat < 256 ^ 2 := k3; omega
      have ex : txS (rawR (numR r 2).2 (numR r 2).1.1.toNat).1.1 = rB (numR r 2).1.1 2 ++ (rawR (numR r 2).2 (numR r 2).1.1.toNat).1.1 := by
        rw [txS, if_neg (by omega), m2, UInt32.ofNat_toNat]
      rw [e, ex]
      refine ⟨hl, ?_, ?_⟩
      · rw [List.append_assoc, ← m1]; exact k1
      · rw [List.length_append, rB_length, m2]; exact On.trans k2 m3
    · rw [textR, if_neg (by omega), if_pos hr] at h; exact absurd h hr
  · rw [textR, if_pos hn] at h; exact absurd h hn
theorem tx_inv {r : Rd} : ∀ k, (∀ j, j < k → (textR (txR r j)).1.2 = 0) → r.f = 0 → (∀ x ∈ txL r k, x.length ≤ 65535) ∧ r.rest = flatT (txL r k) ++ (txR r k).rest ∧ On r (txR r k) (flatT (txL r k)).length (txR r k).rest
  | 0, _, hf => ⟨fun x hx => by simp [txL] at hx, by simp [txL, txR, flatT], rfl, hf, rfl, by simp [txL, txR, flatT]⟩
  | k + 1, h, hf => by
    obtain ⟨h1, h2, h3⟩ := tx_inv k (fun j hj => h j (by omega)) hf
    obtain ⟨k1, k2, k3⟩ := text_inv (h k (by omega))
    rw [txL, flatT_snoc]
    refine ⟨fun x hx => ?_, ?_, ?_⟩
    · rcases List.mem_append.1 hx with hx | hx
      · exact h1 x hx
      · rw [List.mem_singleton] at hx; subst hx; exact k1
    · rw [List.append_assoc]
      rw [k2] at h2
      exact h2
    · rw [List.length_append]; exact On.trans h3 k3
theorem txBad_none {r : Rd} : ∀ {n : Nat}, txBad r n = none → ∀ j, j < n → (textR (txR r j)).1.2 = 0
  | 0, _, j, hj => by omega
  | n + 1, h, j, hj => by
    rw [txBad] at h
    cases hb : txBad r n with
    | some i => rw [hb] at h; cases h
    | none =>
      rw [hb] at h
      simp only at h
      split at h
      · cases h
      · rename_i h1
        rcases Nat.lt_or_ge j n with hj' | hj'
        · exact txBad_none hb j hj'
        · rw [show j = n by omega]; exact Decidable.not_not.mp h1
theorem txBad_some {r : Rd} : ∀ {n j : Nat}, txBad r n = some j → (textR (txR r j)).1.2 ≠ 0
  | 0, j, h => by cases h
  | n + 1, j, h => by
    rw [txBad] at h
    cases hb : txBad r n with
    | some i => rw [hb] at h; injection h with h; subst h; exact txBad_some hb
    | none =>
      rw [hb] at h
      simp only at h
      split at h
      · rename_i h1; injection h with h; subst h; exact h1
      · cases h
theorem numR_atN {r : Rd} {n : Int} (h : (numR r n).1.2 ≠ 0) : (numR r n).2.at_ = r.at_ := by
  unfold numR at h ⊢
  split at h
  · rename_i h1; rw [if_pos h1]
  · rename_i h1
    rw [if_neg h1]
    split at h
    · rename_i h2; rw [if_pos h2]; rfl
    · rename_i h2
      rw [if_neg h2]
      split at h
      · rename_i h3; rw [if_pos h3]; exact (rawR_at6 h3).1
      · exact absurd rfl h
theorem texts_fail {r : Rd} (h : (textsR r).1.2 ≠ 0) : (textsR r).2.at_ = r.at_ ∧ (textsR r).1.1 = [] := by
  unfold textsR at h ⊢
  split at h
  · rename_i h1; rw [if_pos h1]; exact ⟨numR_atN h1, rfl⟩
  · rename_i h1
    rw [if_neg h1]
    split at h
    · rename_i h2; rw [if_pos h2]; exact ⟨rfl, rfl⟩
    · rename_i h2
      rw [if_neg h2]
      split at h
      · exact ⟨rfl, rfl⟩
      · exact absurd rfl h
theorem texts_inv {r : Rd} (h : (textsR r).1.2 = 0) : tsE (textsR r).1.1 = 0 ∧ r.rest = tsS (textsR r).1.1 ++ (textsR r).2.rest ∧ (textsR r).2.at_ = r.at_ + (tsS (textsR r).1.1).length := by
  by_cases hn : (numR r 2).1.2 = 0
  · by_cases h4 : (numR r 2).1.1 > 4096
    · rw [textsR, if_neg (by omega), if_pos h4] at h; cases h
    · cases hb : txBad (numR r 2).2 (numR r 2).1.1.toNat with
      | some j =>
        rw [textsR, if_neg (by omega), if_neg h4, hb] at h
        exact absurd h (txBad_some hb)
      | none =>
        have e : textsR r = ((txL (numR r 2).2 (numR r 2).1.1.toNat, 0), txR (numR r 2).2 (numR r 2).1.1.toNat) := by rw [textsR, if_neg (by omega), if_neg h4, hb]
        obtain ⟨k1, k2, _⟩ := num_inv2 hn
        obtain ⟨m1, m2, m3⟩ := tx_inv _ (txBad_none hb) k2.2.1
        have hl : (txL (numR r 2).2 (numR r 2).1.1.toNat).length = (numR r 2).1.1.toNat := txL_len _ _
        have h5 : (numR r 2).1.1.toNat ≤ 4096 := by
          rw [gt_iff_lt, UInt32.lt_iff_toNat_lt] at h4; exact Nat.le_of_not_lt h4
        have hE := tsE_mk (by rw [hl]; exact h5) m1
        have hS := (tsS_eq hE).1
        rw [e]
        refine ⟨hE, ?_, ?_⟩
        · show r.rest = tsS (txL (numR r 2).2 (numR r 2).1.1.toNat) ++ (txR (numR r 2).2 (numR r 2).1.1.toNat).rest
          rw [hS, hl, UInt32.ofNat_toNat, List.append_assoc, ← m2]; exact k1
        · show (txR (numR r 2).2 (numR r 2).1.1.toNat).at_ = r.at_ + (tsS (txL (numR r 2).2 (numR r 2).1.1.toNat)).length
          rw [hS, List.length_append, rB_length, m3.2.2.2, k2.2.2.2, Nat.add_assoc]
  · rw [textsR, if_pos hn] at h; exact absurd h hn
/-! The law's comparisons. -/
abbrev r0 (s : List UInt8) : Rd := ⟨s, 0, 0, Nat.zero_le _⟩
theorem r0_rest (s : List UInt8) : (r0 s).rest = s := List.drop_zero
theorem numS4 (v : UInt32) : numS v 4 = rB v 4 := by rw [numS, if_pos (numE_4 v)]; rfl
theorem txE_dec (s : List UInt8) : decide (txE s = 0) = decide (s.length ≤ 65535) := by
  refine decide_eq_decide.2 ⟨txE_0, fun h => ?_⟩
  rw [txE, if_neg (by omega)]
theorem back_all {v : UInt32} {s more : List UInt8} {l : List (List UInt8)} (h1 : txE s = 0) (h2 : tsE l = 0) :
    (numR (r0 (numS v 4 ++ txS s ++ tsS l ++ more)) 4).1 = (v, 0) ∧ (textR (numR (r0 (numS v 4 ++ txS s ++ tsS l ++ more)) 4).2).1 = (s, 0) ∧
    (textsR (textR (numR (r0 (numS v 4 ++ txS s ++ tsS l ++ more)) 4).2).2).1 = (l, 0) ∧ On (r0 (numS v 4 ++ txS s ++ tsS l ++ more)) (textsR (textR (numR (r0 (numS v 4 ++ txS s ++ tsS l ++ more)) 4).2).2).2 (4 + (txS s).length + (tsS l).length) more := by
  have a1 := num_on (r := r0 (numS v 4 ++ txS s ++ tsS l ++ more)) (n := 4) (v := v) (t := txS s ++ tsS l ++ more) rfl (by rw [r0_rest, numS4]; simp only [List.append_assoc]) (by decide) (by decide) (rV_4 v)
  have a2 := text_on (r := (numR (r0 (numS v 4 ++ txS s ++ tsS l ++ more)) 4).2) (s := s) (t := tsS l ++ more) a1.2.2.1 (by rw [← List.append_assoc]; exact a1.2.1) (txE_0 h1)
  have a3 := texts_on (r := (textR (numR (r0 (numS v 4 ++ txS s ++ tsS l ++ more)) 4).2).2) (l := l) (t := more) a2.2.2.1 a2.2.1 h2
  exact ⟨a1.1, a2.1, a3.1, On.trans (On.trans a1.2 a2.2) a3.2⟩
theorem end_dec {r : Rd} {more : List UInt8} (hf : r.f = 0) (hr : r.rest = more) : decide ((endR r).1 = 0) = decide (more = []) := by
  have hl := rest_len r
  rw [hr] at hl
  rw [endR, if_neg (by omega)]
  by_cases hm : more = []
  · subst hm
    simp at hl
    rw [if_neg (by omega)]; rfl
  · have : more.length ≠ 0 := fun h => hm (List.eq_nil_of_length_eq_zero h)
    rw [if_pos (by omega), decide_eq_false hm]; rfl
theorem left_of {r : Rd} {more : List UInt8} (hr : r.rest = more) : r.s.length - r.at_ = more.length := by rw [← rest_len, hr]
theorem tsS_len (l : List (List UInt8)) : (tsS l).length ≤ 2 + 65537 * l.length := by
  unfold tsS; split
  · rename_i h; exact txsTo_len l _ (fun j hj => by
      have := (tsS_eq h).2.2 (l[j]) (List.getElem_mem hj)
      simpa [List.getD, hj] using this)
  · exact Nat.zero_le _
theorem beq_no {a b : Bool} (h : a = b) : (!(a == b)) = false := by rw [h]; simp
theorem cut_dec {b : List UInt8} (h : (textsR (r0 b)).1.2 = 0) : tsS (textsR (r0 b)).1.1 = b.take (b.length - ((textsR (r0 b)).2.s.length - (textsR (r0 b)).2.at_)) := by
  obtain ⟨_, h2, h3⟩ := texts_inv h
  rw [r0_rest] at h2
  have h0 : (r0 b).at_ = 0 := rfl
  have hs : (textsR (r0 b)).2.s = b := textsR_s _
  have hh := (textsR (r0 b)).2.h
  rw [hs] at hh ⊢
  rw [h0, Nat.zero_add] at h3
  rw [show b.length - (b.length - (textsR (r0 b)).2.at_) = (tsS (textsR (r0 b)).1.1).length by omega]
  have h4 := congrArg (List.take (tsS (textsR (r0 b)).1.1).length) h2
  rw [List.take_left] at h4
  exact h4.symm
end Go.Spec
