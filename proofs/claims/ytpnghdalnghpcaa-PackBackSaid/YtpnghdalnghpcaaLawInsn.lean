/- Plain laws of the instructions' bytes. -/
import Derived.Test.YtpnghdalnghpcaaSpecInsn
namespace Go.Spec
open Go.Owl

theorem u32_le4 (v : UInt32) : ((0 ||| shlU32 (UInt32.ofNat (UInt8.ofNat v.toNat).toNat) 0 ||| shlU32 (UInt32.ofNat (UInt8.ofNat (shrU32 v 8).toNat).toNat) 8
    ||| shlU32 (UInt32.ofNat (UInt8.ofNat (shrU32 v 16).toNat).toNat) 16) ||| shlU32 (UInt32.ofNat (UInt8.ofNat (shrU32 v 24).toNat).toNat) 24) = v := by
  apply UInt32.toNat_inj.mp
  simp only [shlU32, shrU32, UInt32.toNat_or, UInt32.toNat_ofNat', UInt8.toNat_ofNat', UInt32.toNat_zero]
  have hv := v.toNat_lt
  generalize v.toNat = n at *
  apply Nat.eq_of_testBit_eq
  intro i
  simp only [Nat.testBit_or, Nat.testBit_mod_two_pow, Nat.testBit_shiftLeft, Nat.testBit_shiftRight, Nat.zero_testBit]
  by_cases h32 : i < 32
  · rcases (by omega : i < 8 ∨ (8 ≤ i ∧ i < 16) ∨ (16 ≤ i ∧ i < 24) ∨ 24 ≤ i) with h | h | h | h
    · simp [h, h32, show ¬ 8 ≤ i by omega, show ¬ 16 ≤ i by omega, show ¬ 24 ≤ i by omega]
    · simp [h, h32, show ¬ i < 8 by omega, show i - 8 < 8 by omega, show i - 8 < 32 by omega, show 8 + (i - 8) = i by omega, show ¬ 16 ≤ i by omega, show ¬ 24 ≤ i by omega]
    · simp [h, h32, show ¬ i < 8 by omega, show ¬ i - 8 < 8 by omega, show 8 ≤ i by omega, show i - 16 < 8 by omega, show i - 16 < 32 by omega, show 16 + (i - 16) = i by omega, show ¬ 24 ≤ i by omega]
    · simp [h, h32, show ¬ i < 8 by omega, show ¬ i - 8 < 8 by omega, show 8 ≤ i by omega, show 16 ≤ i by omega, show ¬ i - 16 < 8 by omega, show i - 24 < 8 by omega, show i - 24 < 32 by omega, show 24 + (i - 24) = i by omega]
  · rw [Nat.testBit_lt_two_pow (Nat.lt_of_lt_of_le hv (Nat.pow_le_pow_right (by decide) (by omega : 32 ≤ i)))]
    simp [h32]
theorem getV_le4 (v : UInt32) : getV (le4 v) = v := by
  have := u32_le4 v
  simpa [getV, le4, getTo] using this
theorem dBits (d a : UInt8) (hd : d < 16) (ha : a < 16) : (d ||| shlU8 a 4) &&& 15 = d ∧ shrU8 (d ||| shlU8 a 4) 4 = a := by
  have hd' : d.toNat < 16 := hd
  have ha' : a.toNat < 16 := ha
  have key : ∀ x y : Fin 16, ((x.val ||| ((y.val <<< 4) % 256)) &&& 15 = x.val) ∧ ((x.val ||| ((y.val <<< 4) % 256)) >>> 4) % 256 = y.val := by decide +kernel
  have k := key ⟨d.toNat, hd'⟩ ⟨a.toNat, ha'⟩
  constructor
  · apply UInt8.toNat_inj.mp; simpa [shlU8, shrU8] using k.1
  · apply UInt8.toNat_inj.mp; simpa [shlU8, shrU8] using k.2
theorem sBits (s : UInt8) : (s &&& 15) ||| shlU8 (shrU8 s 4) 4 = s := by
  have key : ∀ x : Fin 256, ((x.val &&& 15) ||| ((((x.val >>> 4) % 256) <<< 4) % 256)) = x.val := by decide +kernel
  have k := key ⟨s.toNat, s.toNat_lt⟩
  apply UInt8.toNat_inj.mp; simpa [shlU8, shrU8] using k
theorem fit_lt {u n bit : UInt8} (h : fitB u n bit = true) : n < 16 := by
  simp only [fitB, Bool.or_eq_true, Bool.and_eq_true, decide_eq_true_eq] at h
  rcases h with h | ⟨_, h⟩
  · subst h; decide
  · exact h
theorem encE_ok {op d a b : UInt8} {imm : UInt32} (h : encE op d a b imm = 0) : okB op d a b imm = true := by
  unfold encE at h; split at h <;> simp_all
theorem raw4 (op x b y : UInt8) (imm : UInt32) : ([op, x, b, y] ++ le4 imm).getD 0 0 = op ∧ ([op, x, b, y] ++ le4 imm).getD 1 0 = x ∧ ([op, x, b, y] ++ le4 imm).getD 2 0 = b ∧ ([op, x, b, y] ++ le4 imm).getD 3 0 = y ∧ ([op, x, b, y] ++ le4 imm).drop 4 = le4 imm ∧ ([op, x, b, y] ++ le4 imm).length = 8 := ⟨rfl, rfl, rfl, rfl, rfl, rfl⟩
theorem back1 {op d a b : UInt8} {imm : UInt32} (h : encE op d a b imm = 0) : decB (encS op d a b imm) = true ∧ decOp (encS op d a b imm) = op ∧ decD (encS op d a b imm) = d ∧ decA (encS op d a b imm) = a ∧ decBr (encS op d a b imm) = b
    ∧ decI (encS op d a b imm) = imm ∧ (encS op d a b imm).length = 8 ∧ decE (encS op d a b imm) = 0 := by
  have hk := encE_ok h
  have hk' := hk
  simp only [okB, Bool.and_eq_true] at hk'
  obtain ⟨e1, e2⟩ := dBits d a (fit_lt hk'.1.1.1.2) (fit_lt hk'.1.1.2)
  have hS : encS op d a b imm = [op, d ||| shlU8 a 4, b, 0] ++ le4 imm := if_pos hk
  obtain ⟨r0, r1, r2, r3, r4, r5⟩ := raw4 op (d ||| shlU8 a 4) b 0 imm
  have hD : decB (encS op d a b imm) = true := by
    rw [hS]; unfold decB rawOk; rw [r0, r1, r2, r3, r4, r5, e1, e2, getV_le4, hk]; rfl
  refine ⟨hD, ?_, ?_, ?_, ?_, ?_, by rw [hS]; exact r5, if_pos hD⟩
  · unfold decOp; rw [if_pos hD, hS, r0]
  · unfold decD; rw [if_pos hD, hS, r1, e1]
  · unfold decA; rw [if_pos hD, hS, r1, e2]
  · unfold decBr; rw [if_pos hD, hS, r2]
  · unfold decI; rw [if_pos hD, hS, r4, getV_le4]
theorem enc_inj {op d a b : UInt8} {imm : UInt32} {op' d' a' b' : UInt8} {imm' : UInt32} (h : encE op d a b imm = 0) (h' : encE op' d' a' b' imm' = 0) :
    (decide (encS op d a b imm = encS op' d' a' b' imm') == (decide (op = op') && (decide (d = d') && (decide (a = a') && (decide (b = b') && decide (imm = imm')))))) = true := by
  obtain ⟨-, p1, p2, p3, p4, p5, -, -⟩ := back1 h
  obtain ⟨-, q1, q2, q3, q4, q5, -, -⟩ := back1 h'
  by_cases hs : encS op d a b imm = encS op' d' a' b' imm'
  · rw [← hs] at q1 q2 q3 q4 q5
    obtain rfl := p1.symm.trans q1
    obtain rfl := p2.symm.trans q2
    obtain rfl := p3.symm.trans q3
    obtain rfl := p4.symm.trans q4
    obtain rfl := p5.symm.trans q5
    simp
  · simp only [hs, decide_false, Bool.false_beq, Bool.not_eq_true', Bool.and_eq_false_iff, decide_eq_false_iff_not]
    by_cases h1 : op = op' <;> by_cases h2 : d = d' <;> by_cases h3 : a = a' <;> by_cases h4 : b = b' <;> by_cases h5 : imm = imm' <;> simp_all
theorem le4_get (a b c d : UInt8) : le4 (getV [a, b, c, d]) = [a, b, c, d] := by
  have hg : (getV [a, b, c, d]).toNat = a.toNat + 256 * b.toNat + 65536 * c.toNat + 16777216 * d.toNat := by
    have ha := a.toNat_lt; have hb := b.toNat_lt; have hc := c.toNat_lt; have hd := d.toNat_lt
    simp only [getV, getTo, List.length_cons, List.length_nil]
    simp [shlU32]
    generalize a.toNat = a at *; generalize b.toNat = b at *; generalize c.toNat = c at *; generalize d.toNat = d at *
    rw [Nat.mod_eq_of_lt (by rw [Nat.shiftLeft_eq]; omega), Nat.mod_eq_of_lt (by rw [Nat.shiftLeft_eq]; omega), Nat.mod_eq_of_lt (by rw [Nat.shiftLeft_eq]; omega)]
    rw [Nat.or_comm a, ← Nat.shiftLeft_add_eq_or_of_lt (by omega : a < 2 ^ 8), Nat.or_comm _ (c <<< 16), ← Nat.shiftLeft_add_eq_or_of_lt (by rw [Nat.shiftLeft_eq]; omega : b <<< 8 + a < 2 ^ 16), Nat.or_comm _ (d <<< 24), ← Nat.shiftLeft_add_eq_or_of_lt (by rw [Nat.shiftLeft_eq, Nat.shiftLeft_eq]; omega : c <<< 16 + (b <<< 8 + a) < 2 ^ 24)]
    simp only [Nat.shiftLeft_eq]; omega
  have ha := a.toNat_lt; have hb := b.toNat_lt; have hc := c.toNat_lt; have hd := d.toNat_lt
  simp only [le4, shrU32, List.cons.injEq, and_true]
  refine ⟨?_, ?_, ?_, ?_⟩ <;> (apply UInt8.toNat_inj.mp; simp [hg, Nat.shiftRight_eq_div_pow]; try omega)
theorem list8 : ∀ {s : List UInt8}, s.length = 8 → ∃ a b c d e f g h, s = [a, b, c, d, e, f, g, h]
  | [a, b, c, d, e, f, g, h], _ => ⟨a, b, c, d, e, f, g, h, rfl⟩
theorem back2 {s : List UInt8} (h : decE s = 0) : encE (decOp s) (decD s) (decA s) (decBr s) (decI s) = 0 ∧ encS (decOp s) (decD s) (decA s) (decBr s) (decI s) = s := by
  have hB : decB s = true := by unfold decE at h; split at h <;> simp_all
  have hB' := hB
  simp only [decB, Bool.and_eq_true, decide_eq_true_eq] at hB'
  obtain ⟨⟨h8, h3⟩, hr⟩ := hB'
  have k : okB (decOp s) (decD s) (decA s) (decBr s) (decI s) = true := by
    rw [decOp, decD, decA, decBr, decI, if_pos hB, if_pos hB, if_pos hB, if_pos hB, if_pos hB]; exact hr
  refine ⟨if_pos k, ?_⟩
  rw [encS, if_pos k, decOp, decD, decA, decBr, decI, if_pos hB, if_pos hB, if_pos hB, if_pos hB, if_pos hB]
  obtain ⟨a, b, c, d, e, f, g, i, rfl⟩ := list8 h8
  have h3 : d = 0 := h3
  have e1 : [a, b, c, d, e, f, g, i].getD 0 0 = a := rfl
  have e2 : [a, b, c, d, e, f, g, i].getD 1 0 = b := rfl
  have e3 : [a, b, c, d, e, f, g, i].getD 2 0 = c := rfl
  have e4 : [a, b, c, d, e, f, g, i].drop 4 = [e, f, g, i] := rfl
  rw [e1, e2, e3, e4, sBits, le4_get, h3]; rfl
theorem decBad {s : List UInt8} (h : decE s ≠ 0) : decE s = 7 ∧ decOp s = 0 ∧ decD s = 0 ∧ decA s = 0 ∧ decBr s = 0 ∧ decI s = 0 := by
  have hB : ¬ decB s = true := fun hB => h (if_pos hB)
  exact ⟨if_neg hB, if_neg hB, if_neg hB, if_neg hB, if_neg hB, if_neg hB⟩
theorem back1_e {op d a b : UInt8} {imm : UInt32} (h : encE op d a b imm = 0) : decide (decE (encS op d a b imm) ≠ 0) = false := by
  rw [(back1 h).2.2.2.2.2.2.2]; rfl
theorem back1_ne {op d a b : UInt8} {imm : UInt32} (h : encE op d a b imm = 0) : (!(decide (decOp (encS op d a b imm) = op) && (decide (decD (encS op d a b imm) = d) && (decide (decA (encS op d a b imm) = a) && (decide (decBr (encS op d a b imm) = b) && decide (decI (encS op d a b imm) = imm)))))) = false := by
  obtain ⟨-, h2, h3, h4, h5, h6, -, -⟩ := back1 h
  rw [h2, h3, h4, h5, h6]; simp
theorem back1_len {op d a b : UInt8} {imm : UInt32} (h : encE op d a b imm = 0) : decide ((encS op d a b imm).length ≠ 8) = false := by
  rw [(back1 h).2.2.2.2.2.2.1]; rfl
theorem decBad_eq {s : List UInt8} (h : decE s ≠ 0) : (decide (decOp s = 0) && (decide (decD s = 0) && (decide (decA s = 0) && (decide (decBr s = 0) && decide (decI s = 0))))) = true := by
  obtain ⟨-, h2, h3, h4, h5, h6⟩ := decBad h
  rw [h2, h3, h4, h5, h6]; rfl
theorem enc_injN {op d a b : UInt8} {imm : UInt32} {op' d' a' b' : UInt8} {imm' : UInt32} (h : encE op d a b imm = 0) (h' : encE op' d' a' b' imm' = 0) :
    (!(decide (encS op d a b imm = encS op' d' a' b' imm') == (decide (op = op') && (decide (d = d') && (decide (a = a') && (decide (b = b') && decide (imm = imm'))))))) = false := by
  rw [enc_inj h h']; rfl
end Go.Spec
