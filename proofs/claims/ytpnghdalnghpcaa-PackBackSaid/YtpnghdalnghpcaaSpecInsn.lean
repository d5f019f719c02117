/- What the instructions' functions say, in plain Lean. -/
import Derived.Test.YtpnghdalnghpcaaOwl10
namespace Go.Spec
open Go.Owl

def le4 (v : UInt32) : List UInt8 := [UInt8.ofNat v.toNat, UInt8.ofNat (shrU32 v 8).toNat, UInt8.ofNat (shrU32 v 16).toNat, UInt8.ofNat (shrU32 v 24).toNat]
theorem le4_length (v : UInt32) : (le4 v).length = 4 := rfl
theorem set_map {α β : Type} (f : α → β) (l : List α) (k : Nat) (x : α) : (l.map f).set k (f x) = (l.set k x).map f := List.map_set.symm
theorem one_U8 (l : List UInt8) : (l.map vU8).all (·.oneCell') = true := by simp [Value.oneCell']
def getTo (s : List UInt8) : Nat → UInt32
  | 0 => 0
  | k + 1 => getTo s k ||| shlU32 (UInt32.ofNat (s.getD k 0).toNat) (8 * k)
def getE (s : List UInt8) : Nat := if s.length < 1 ∨ 4 < s.length then 2 else 0
def getV (s : List UInt8) : UInt32 := if s.length < 1 ∨ 4 < s.length then 0 else getTo s s.length

def tab0 : List UInt8 := (((List.replicate 256 (0 : UInt8)).mapIdx fun i _ =>
  if i = 17 ∨ i = 19 ∨ i = 22 ∨ i = 23 ∨ i = 24 ∨ i = 25 ∨ i = 26 ∨ i = 29 ∨ i = 30 ∨ i = 33 ∨ i = 34 then 11
  else if i = 32 ∨ i = 41 then 9 else if i = 35 ∨ i = 36 ∨ i = 43 ∨ i = 44 ∨ i = 45 ∨ i = 46 then 14 else if i = 40 ∨ i = 50 then 8 else if i = 42 then 2 else 0))
def tabTo : Nat → List UInt8
  | 0 => tab0
  | k + 1 => (tabTo k).set (k + 1) 7
def tabL : List UInt8 := tabTo 14
theorem tabTo_length : ∀ k, (tabTo k).length = 256
  | 0 => by decide +kernel
  | k + 1 => by simp [tabTo, tabTo_length k]
def useOf (op : UInt8) : UInt8 := tabL.getD op.toNat 0
def fitB (u n bit : UInt8) : Bool := decide (n = 0) || (decide (u &&& bit ≠ 0) && decide (n < 16))
def okB (op d a b : UInt8) (imm : UInt32) : Bool :=
  !decide (useOf op = 0) && fitB (useOf op) d 1 && fitB (useOf op) a 2 && fitB (useOf op) b 4 && (decide (useOf op &&& 8 ≠ 0) || decide (imm = 0))
def encE (op d a b : UInt8) (imm : UInt32) : Nat := if okB op d a b imm then 0 else 2
def encS (op d a b : UInt8) (imm : UInt32) : List UInt8 := if okB op d a b imm then [op, d ||| shlU8 a 4, b, 0] ++ le4 imm else []
theorem encS_length (op d a b : UInt8) (imm : UInt32) : (encS op d a b imm).length ≤ 8 := by unfold encS; split <;> simp [le4]
def rawOk (s : List UInt8) : Bool := okB (s.getD 0 0) (s.getD 1 0 &&& 15) (shrU8 (s.getD 1 0) 4) (s.getD 2 0) (getV (s.drop 4))
def decB (s : List UInt8) : Bool := decide (s.length = 8) && decide (s.getD 3 0 = 0) && rawOk s
def decE (s : List UInt8) : Nat := if decB s then 0 else 7
def decOp (s : List UInt8) : UInt8 := if decB s then s.getD 0 0 else 0
def decD (s : List UInt8) : UInt8 := if decB s then s.getD 1 0 &&& 15 else 0
def decA (s : List UInt8) : UInt8 := if decB s then shrU8 (s.getD 1 0) 4 else 0
def decBr (s : List UInt8) : UInt8 := if decB s then s.getD 2 0 else 0
def decI (s : List UInt8) : UInt32 := if decB s then getV (s.drop 4) else 0
end Go.Spec
