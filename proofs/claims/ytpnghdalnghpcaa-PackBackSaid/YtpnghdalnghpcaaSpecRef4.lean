/- What the reference of layer 4 says, in plain Lean, and that it says the same. -/
import Derived.Test.YtpnghdalnghpcaaLawInsn
import Derived.Test.YtpnghdalnghpcaaOwl11
namespace Go.Spec
open Go.Owl

def ruD (op : UInt8) : Bool := if op = 17 ∨ op = 19 ∨ op = 22 ∨ op = 23 ∨ op = 24 ∨ op = 25 ∨ op = 26 ∨ op = 29 ∨ op = 30 ∨ op = 33 ∨ op = 34 then true else if op = 32 ∨ op = 41 then true
  else if op = 35 ∨ op = 36 ∨ op = 43 ∨ op = 44 ∨ op = 45 ∨ op = 46 then false else if op = 40 ∨ op = 50 then false else if op = 42 then false else true
def ruA (op : UInt8) : Bool := if op = 17 ∨ op = 19 ∨ op = 22 ∨ op = 23 ∨ op = 24 ∨ op = 25 ∨ op = 26 ∨ op = 29 ∨ op = 30 ∨ op = 33 ∨ op = 34 then true else if op = 32 ∨ op = 41 then false
  else if op = 35 ∨ op = 36 ∨ op = 43 ∨ op = 44 ∨ op = 45 ∨ op = 46 then true else if op = 40 ∨ op = 50 then false else if op = 42 then true else true
def ruB (op : UInt8) : Bool := if op = 17 ∨ op = 19 ∨ op = 22 ∨ op = 23 ∨ op = 24 ∨ op = 25 ∨ op = 26 ∨ op = 29 ∨ op = 30 ∨ op = 33 ∨ op = 34 then false else if op = 32 ∨ op = 41 then false
  else if op = 35 ∨ op = 36 ∨ op = 43 ∨ op = 44 ∨ op = 45 ∨ op = 46 then true else if op = 40 ∨ op = 50 then false else if op = 42 then false else true
def ruI (op : UInt8) : Bool := if op = 17 ∨ op = 19 ∨ op = 22 ∨ op = 23 ∨ op = 24 ∨ op = 25 ∨ op = 26 ∨ op = 29 ∨ op = 30 ∨ op = 33 ∨ op = 34 then true else if op = 32 ∨ op = 41 then true
  else if op = 35 ∨ op = 36 ∨ op = 43 ∨ op = 44 ∨ op = 45 ∨ op = 46 then true else if op = 40 ∨ op = 50 then true else if op = 42 then false else false
def ruOk (op : UInt8) : Bool := if op = 17 ∨ op = 19 ∨ op = 22 ∨ op = 23 ∨ op = 24 ∨ op = 25 ∨ op = 26 ∨ op = 29 ∨ op = 30 ∨ op = 33 ∨ op = 34 then true else if op = 32 ∨ op = 41 then true
  else if op = 35 ∨ op = 36 ∨ op = 43 ∨ op = 44 ∨ op = 45 ∨ op = 46 then true else if op = 40 ∨ op = 50 then true else if op = 42 then true else decide (op ≥ 1) && decide (op ≤ 14)
def ub (op bit : UInt8) : Bool := decide (useOf op &&& bit ≠ 0)
def useE (op : UInt8) : Nat := if useOf op = 0 then 2 else 0

theorem op_all {p : UInt8 → Bool} (h : ((List.range 256).all fun k => p (UInt8.ofNat k)) = true) (op : UInt8) : p op = true := by
  have := List.all_eq_true.mp h op.toNat (List.mem_range.mpr op.toNat_lt)
  simpa using this
theorem ru_ok (op : UInt8) : ruOk op = !decide (useOf op = 0) := by
  have := op_all (p := fun op => ruOk op == !decide (useOf op = 0)) (by decide +kernel) op
  exact eq_of_beq this
theorem ru_bits (op : UInt8) (h : ruOk op = true) : ruD op = ub op 1 ∧ ruA op = ub op 2 ∧ ruB op = ub op 4 ∧ ruI op = ub op 8 := by
  have := op_all (p := fun op => !ruOk op || (ruD op == ub op 1 && (ruA op == ub op 2 && (ruB op == ub op 4 && ruI op == ub op 8)))) (by decide +kernel) op
  rw [h] at this
  simp only [Bool.not_true, Bool.false_or, Bool.and_eq_true, beq_iff_eq] at this
  exact this
theorem ub_not (op : UInt8) (h : ruOk op = false) : ub op 1 = false ∧ ub op 2 = false ∧ ub op 4 = false ∧ ub op 8 = false := by
  have := op_all (p := fun op => ruOk op || (!ub op 1 && (!ub op 2 && (!ub op 4 && !ub op 8)))) (by decide +kernel) op
  rw [h] at this
  simp only [Bool.false_or, Bool.and_eq_true, Bool.not_eq_true'] at this
  exact this
theorem useE_no (op : UInt8) (h : ruOk op = false) : useE op = 2 := by
  rw [ru_ok] at h; unfold useE; rw [if_pos (by simpa using h)]
theorem useE_yes (op : UInt8) (h : ruOk op = true) : useE op = 0 := by
  rw [ru_ok] at h; unfold useE; rw [if_neg (by simpa using h)]
def regB (n : UInt8) (u : Bool) : Bool := decide (n = 0) || u && decide (n < 16)
def mayB (op d a b : UInt8) (imm : UInt32) : Bool := ruOk op && regB d (ruD op) && regB a (ruA op) && regB b (ruB op) && (ruI op || decide (imm = 0))
theorem mayB_eq (op d a b : UInt8) (imm : UInt32) : mayB op d a b imm = okB op d a b imm := by
  unfold mayB okB
  rw [← ru_ok]
  cases h : ruOk op
  · rfl
  · obtain ⟨h1, h2, h3, h4⟩ := ru_bits op h
    rw [h1, h2, h3, h4]; rfl
def rV (v : UInt32) : Nat → UInt32
  | 0 => v
  | k + 1 => rV v k / 256
def rB (v : UInt32) : Nat → List UInt8
  | 0 => []
  | k + 1 => rB v k ++ [UInt8.ofNat (rV v k % 256).toNat]
theorem rB_length (v : UInt32) : ∀ k, (rB v k).length = k
  | 0 => rfl
  | k + 1 => by simp [rB, rB_length v k]
theorem rB_map (v : UInt32) (k : Nat) : (rB v (k + 1)).map vU8 = (rB v k).map vU8 ++ [vU8 (UInt8.ofNat (rV v k % 256).toNat)] := by simp [rB]
theorem rB4 (v : UInt32) : rB v 4 = le4 v := by
  have hv := v.toNat_lt
  simp only [rB, rV, le4, shrU32, List.nil_append, List.cons_append, List.cons.injEq, and_true]
  refine ⟨?_, ?_, ?_, ?_⟩ <;> (apply UInt8.toNat_inj.mp; simp [Nat.shiftRight_eq_div_pow]; try omega)
theorem rEnc (op d a b : UInt8) (imm : UInt32) (h : mayB op d a b imm = true) : [op, d + 16 * a, b, 0] ++ rB imm 4 = encS op d a b imm := by
  rw [mayB_eq] at h
  have h' := h
  simp only [okB, Bool.and_eq_true] at h'
  have hd : d.toNat < 16 := fit_lt h'.1.1.1.2
  have ha : a.toNat < 16 := fit_lt h'.1.1.2
  have key : ∀ x y : Fin 16, (x.val + 16 * y.val % 256) % 256 = x.val ||| ((y.val <<< 4) % 256) := by decide +kernel
  have e : d + 16 * a = d ||| shlU8 a 4 := by
    apply UInt8.toNat_inj.mp
    have := key ⟨d.toNat, hd⟩ ⟨a.toNat, ha⟩
    simpa [shlU8] using this
  unfold encS; rw [if_pos h, rB4, e]
theorem rEncN (op d a b : UInt8) (imm : UInt32) (h : mayB op d a b imm = false) : encS op d a b imm = [] ∧ encE op d a b imm = 2 := by
  rw [mayB_eq] at h; unfold encS encE; rw [h]; exact ⟨rfl, rfl⟩
theorem rEncE (op d a b : UInt8) (imm : UInt32) (h : mayB op d a b imm = true) : encE op d a b imm = 0 := by
  rw [mayB_eq] at h; unfold encE; rw [h]; rfl
def gF : List UInt8 → UInt32
  | [] => 0
  | c :: l => 256 * gF l + UInt32.ofNat c.toNat
theorem gF_drop (s : List UInt8) (m : Nat) (h : m < s.length) : gF (s.drop m) = 256 * gF (s.drop (m + 1)) + UInt32.ofNat (s.getD m 0).toNat := by
  rw [List.drop_eq_getElem_cons h]; simp [gF, List.getD, h]
def gFV (s : List UInt8) : UInt32 := if s.length < 1 ∨ 4 < s.length then 0 else gF s
theorem gF4 (a b c d : UInt8) : gFV [a, b, c, d] = getV [a, b, c, d] := by
  apply UInt32.toNat_inj.mp
  have ha := a.toNat_lt; have hb := b.toNat_lt; have hc := c.toNat_lt; have hd := d.toNat_lt
  have h := congrArg (fun l => l.map UInt8.toNat) (le4_get a b c d)
  have hv := (getV [a, b, c, d]).toNat_lt
  simp only [le4, shrU32, List.map_cons, List.map_nil, List.cons.injEq, and_true] at h
  simp [Nat.shiftRight_eq_div_pow] at h
  simp [gFV, gF]
  generalize (getV [a, b, c, d]).toNat = n at *
  omega
def rRawOk (s : List UInt8) : Bool := okB (s.getD 0 0) (s.getD 1 0 % 16) (s.getD 1 0 / 16) (s.getD 2 0) (gFV (s.drop 4))
theorem b16 (b : UInt8) : b % 16 = b &&& 15 ∧ b / 16 = shrU8 b 4 := by
  have := op_all (p := fun b => b % 16 == b &&& 15 && b / 16 == shrU8 b 4) (by decide +kernel) b
  simpa using this
/-- What the reference decodes. -/
theorem rDec {s : List UInt8} (h8 : s.length = 8) : (s.getD 1 0 % 16 = s.getD 1 0 &&& 15 ∧ s.getD 1 0 / 16 = shrU8 (s.getD 1 0) 4) ∧ gFV (s.drop 4) = getV (s.drop 4) := by
  refine ⟨b16 _, ?_⟩
  obtain ⟨a, b, c, d, e, f, g, i, rfl⟩ := list8 h8
  exact gF4 e f g i
def rE (s : List UInt8) : Nat := encE (s.getD 0 0) (s.getD 1 0 % 16) (s.getD 1 0 / 16) (s.getD 2 0) (gFV (s.drop 4))
def rS (s : List UInt8) : List UInt8 := encS (s.getD 0 0) (s.getD 1 0 % 16) (s.getD 1 0 / 16) (s.getD 2 0) (gFV (s.drop 4))
theorem rDecB {s : List UInt8} (h8 : s.length = 8) : decB s = (decide (rE s = 0) && decide (rS s = s)) := by
  obtain ⟨⟨e1, e2⟩, e3⟩ := rDec h8
  unfold rE rS decB rawOk
  rw [e1, e2, e3, h8]
  cases hk : okB (s.getD 0 0) (s.getD 1 0 &&& 15) (shrU8 (s.getD 1 0) 4) (s.getD 2 0) (getV (s.drop 4))
  · unfold encE; rw [hk]; simp
  · unfold encE encS; rw [hk]
    obtain ⟨a, b, c, d, e, f, g, i, rfl⟩ := list8 h8
    have e1 : [a, b, c, d, e, f, g, i].getD 0 0 = a := rfl
    have e2 : [a, b, c, d, e, f, g, i].getD 1 0 = b := rfl
    have e3 : [a, b, c, d, e, f, g, i].getD 2 0 = c := rfl
    have e4 : [a, b, c, d, e, f, g, i].drop 4 = [e, f, g, i] := rfl
    have e5 : [a, b, c, d, e, f, g, i].getD 3 0 = d := rfl
    rw [if_pos rfl, if_pos rfl, e1, e2, e3, e4, e5, sBits, le4_get]
    by_cases hd : d = 0
    · simp [hd]
    · simp [hd, Ne.symm hd]
theorem rDecY {s : List UInt8} (h8 : s.length = 8) (h : rE s = 0) (hs : rS s = s) : decOp s = s.getD 0 0 ∧ decD s = s.getD 1 0 % 16 ∧ decA s = s.getD 1 0 / 16 ∧ decBr s = s.getD 2 0 ∧ decI s = gFV (s.drop 4) ∧ decE s = 0 := by
  have hB : decB s = true := by rw [rDecB h8, h, hs]; simp
  obtain ⟨⟨e1, e2⟩, e3⟩ := rDec h8
  rw [e1, e2, e3]
  exact ⟨if_pos hB, if_pos hB, if_pos hB, if_pos hB, if_pos hB, if_pos hB⟩
theorem rDecN {s : List UInt8} (h : s.length ≠ 8 ∨ rE s ≠ 0 ∨ rS s ≠ s) : decOp s = 0 ∧ decD s = 0 ∧ decA s = 0 ∧ decBr s = 0 ∧ decI s = 0 ∧ decE s = 7 := by
  have hB : ¬ decB s = true := by
    by_cases h8 : s.length = 8
    · rw [rDecB h8]
      rcases h with h | h | h
      · exact absurd h8 h
      · simp [h]
      · simp [h]
    · unfold decB; simp [h8]
  exact ⟨if_neg hB, if_neg hB, if_neg hB, if_neg hB, if_neg hB, if_neg hB⟩
end Go.Spec
