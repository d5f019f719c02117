/- General lemmas and walks: SpecDem, SpecObj, SpecObj2, SpecInsn, LawInsn, SpecRef4, SpecSha, SpecHash, LawSha, SpecPack, SpecRel, SpecRel2, SpecRel3, SpecRel4, SpecRel5. No condition but what each theorem names. -/
import Derived.Test.YtnngbnenekjffaaDoorQ193b9fe0
import Derived.Test.YtnngbnenekjffaaDoorQ35b2dc86
/-! from SpecDem -/
/- Manifests: which may be. Plain Lean. -/
namespace Go.Owl
theorem Arr.lenM {β : Type} {f : β → Value} {w : World} {v : Value} {q : Nat} {l : List β} (hA : Arr w v 1 q (l.map f)) : Arr w v 1 l.length (l.map f) := by
  have h := hA.len
  rw [List.length_map, Nat.mul_one] at h
  rw [h]; exact hA
end Go.Owl
namespace Go.Spec
open Go.Owl
structure Xt where
  id : UInt32
  bl : UInt32
deriving DecidableEq
def Xt.zero : Xt := ⟨0, 0⟩
structure Sg where
  a : UInt32
  p : UInt8
  b : List UInt8
deriving DecidableEq
def Sg.zero : Sg := ⟨0, 0, []⟩
section
variable {α : Type} {p : α → Bool} {l : List α} {d : α} {k : Nat} {r : α → α → Bool}
/-- The first that is so. -/
def fidx (p : α → Bool) (l : List α) : Int := match l.findIdx? p with
  | some k => (k : Int)
  | none => -1
theorem getD_at (h : k < l.length) : l.getD k d = l[k] := by rw [List.getD, List.getElem?_eq_getElem h]; rfl
theorem fidx_yes (hk : k < l.length) (h : ∀ j, j < k → p (l.getD j d) = false) (hp : p (l.getD k d) = true) : fidx p l = (k : Int) := by
  have e : l.findIdx? p = some k := by
    rw [List.findIdx?_eq_some_iff_getElem]
    refine ⟨hk, by rw [getD_at hk] at hp; exact hp, fun j hj => ?_⟩
    have h1 := h j hj
    rw [getD_at (by omega)] at h1
    simp [h1]
  rw [fidx, e]
theorem fidx_no (h : ∀ j, j < l.length → p (l.getD j d) = false) : fidx p l = -1 := by
  have e : l.findIdx? p = none := by
    rw [List.findIdx?_eq_none_iff]
    intro x hx
    obtain ⟨j, hj, rfl⟩ := List.getElem_of_mem hx
    have h1 := h j hj
    rw [getD_at hj] at h1
    exact h1
  rw [fidx, e]
theorem fidx_any : decide (fidx p l ≥ 0) = l.any p := by
  rw [← List.findIdx?_isSome, fidx]
  cases l.findIdx? p with
  | none => rfl
  | some k => simp
theorem allPrev {P : Nat → Prop} (h : ∀ j, j < k → P j) (h2 : P k) : ∀ j, j < k + 1 → P j := fun j hj => by
  rcases Nat.lt_or_ge j k with h3 | h3
  · exact h j h3
  · rw [show j = k by omega]; exact h2
end
end Go.Spec
/-! from SpecObj -/
/- Symbols: which may be. Plain Lean. -/
namespace Go.Spec
open Go.Owl
structure Rl where
  off : UInt32
  kind : UInt8
  nm : List UInt8
  add : UInt32
deriving DecidableEq
def Rl.zero : Rl := ⟨0, 0, [], 0⟩
def rlc (x : Rl) : List Value := [vU32 x.off, vU8 x.kind, str x.nm, vU32 x.add]
structure Nt where
  kind : UInt8
  n : UInt32
  m : UInt32
deriving DecidableEq
def Nt.zero : Nt := ⟨0, 0, 0⟩
def ntc (x : Nt) : List Value := [vU8 x.kind, vU32 x.n, vU32 x.m]
structure Sy where
  nm : List UInt8
  bind : UInt8
  kind : UInt8
  size : UInt32
  b : List UInt8
  rv : Value
  rl : List Rl
  nv : Value
  nt : List Nt
def Sy.zero : Sy := ⟨[], 0, 0, 0, [], .slice none 0 0, [], .slice none 0 0, []⟩
def syc (x : Sy) : List Value := [str x.nm, vU8 x.bind, vU8 x.kind, vU32 x.size, str x.b, x.rv, x.nv]
def SyD : Deep Sy := ((Deep.arr 4 rlc).on (fun x : Sy => (x.rv, x.rl))).and ((Deep.arr 3 ntc).on (fun x : Sy => (x.nv, x.nt)))
structure Ob where
  nm : List UInt8
  sv : Value
  sy : List Sy
def Ob.zero : Ob := ⟨[], .slice none 0 0, []⟩
def obc (x : Ob) : List Value := [str x.nm, x.sv]
def ObD : Deep Ob := ((Deep.arr 7 syc).on (fun x : Ob => (x.sv, x.sy))).and (SyD.list.on (fun x : Ob => x.sy))
section
variable {w : World} {x : Sy} {o : Ob}
theorem SyD_mk (h : Arr w x.rv 4 x.rl.length (x.rl.flatMap rlc)) (k : Arr w x.nv 3 x.nt.length (x.nt.flatMap ntc)) : SyD.ok w x := ⟨h, k⟩
theorem SyD_rl (h : SyD.ok w x) : Arr w x.rv 4 x.rl.length (x.rl.flatMap rlc) := h.1
theorem SyD_nt (h : SyD.ok w x) : Arr w x.nv 3 x.nt.length (x.nt.flatMap ntc) := h.2
theorem SyD_zero (w : World) : SyD.ok w Sy.zero := ⟨Arr.nil w 4, Arr.nil w 3⟩
theorem ObD_mk (h : Arr w o.sv 7 o.sy.length (o.sy.flatMap syc)) (k : SyD.list.ok w o.sy) : ObD.ok w o := ⟨h, k⟩
theorem ObD_sy (h : ObD.ok w o) : Arr w o.sv 7 o.sy.length (o.sy.flatMap syc) := h.1
theorem ObD_in (h : ObD.ok w o) : SyD.list.ok w o.sy := h.2
theorem ObD_zero (w : World) : ObD.ok w Ob.zero := ⟨Arr.nil w 7, fun x hx => by cases hx⟩
end
section
variable {p : UInt8 → Bool} {s t : List UInt8}
def trR (p : UInt8 → Bool) (s : List UInt8) : List UInt8 := (s.reverse.dropWhile p).reverse
def trL (p : UInt8 → Bool) (s : List UInt8) : List UInt8 := s.dropWhile p
theorem drop_le (p : UInt8 → Bool) : ∀ s : List UInt8, (s.dropWhile p).length ≤ s.length
  | [] => Nat.le_refl _
  | a :: s => by
    rw [List.dropWhile_cons]
    split
    · exact Nat.le_succ_of_le (drop_le p s)
    · exact Nat.le_refl _
theorem trR_len (p : UInt8 → Bool) (s : List UInt8) : (trR p s).length ≤ s.length := by
  rw [trR, List.length_reverse]
  have h := drop_le p s.reverse
  rwa [List.length_reverse] at h
theorem last_split (h : 0 < t.length) : t = t.take (t.length - 1) ++ [t.getD (t.length - 1) 0] := by
  have h1 : t.getD (t.length - 1) 0 = t[t.length - 1]'(by omega) := by rw [List.getD, List.getElem?_eq_getElem (by omega)]; rfl
  rw [h1]
  conv => lhs; rw [← List.take_append_drop (t.length - 1) t]
  rw [List.drop_eq_getElem_cons (by omega)]
  congr 2
  rw [List.drop_eq_nil_iff]; omega
theorem trR_step (h : 0 < t.length) (hp : p (t.getD (t.length - 1) 0) = true) : trR p (t.take (t.length - 1)) = trR p t := by
  have e : trR p t = trR p (t.take (t.length - 1) ++ [t.getD (t.length - 1) 0]) := congrArg (trR p) (last_split h)
  rw [e, trR, trR, List.reverse_append, List.reverse_singleton, List.singleton_append, List.dropWhile_cons, if_pos hp]
theorem trR_stop (h : 0 < t.length) (hp : p (t.getD (t.length - 1) 0) = false) : trR p t = t := by
  have e : trR p t = trR p (t.take (t.length - 1) ++ [t.getD (t.length - 1) 0]) := congrArg (trR p) (last_split h)
  rw [e, trR, List.reverse_append, List.reverse_singleton, List.singleton_append, List.dropWhile_cons, if_neg (by rw [hp]; decide), ← List.singleton_append, ← List.reverse_singleton, ← List.reverse_append, List.reverse_reverse]
  exact (last_split h).symm
theorem trL_step (h : 0 < t.length) (hp : p (t.getD 0 0) = true) : trL p (t.drop 1) = trL p t := by
  cases t with
  | nil => simp at h
  | cons a l =>
    rw [trL, trL, List.dropWhile_cons, if_pos (by simpa using hp)]; rfl
theorem trL_stop (h : 0 < t.length) (hp : p (t.getD 0 0) = false) : trL p t = t := by
  cases t with
  | nil => simp at h
  | cons a l =>
    have h1 : p a = false := by simpa using hp
    rw [trL, List.dropWhile_cons, if_neg (by rw [h1]; decide)]
theorem drop_all : ∀ {s : List UInt8}, s.dropWhile p = [] ↔ s.all p = true
  | [] => by simp
  | a :: s => by
    rw [List.dropWhile_cons, List.all_cons]
    cases h : p a with
    | true => simp [drop_all (s := s)]
    | false => simp
theorem trim_nil : trL p (trR p s) = [] ↔ s.all p = true := by
  rw [trL, drop_all]
  constructor
  · intro h
    rw [List.all_eq_true]
    have h1 : (trR p s).dropWhile p = [] := drop_all.2 h
    by_cases h0 : trR p s = []
    · have : s.reverse.dropWhile p = [] := by rw [trR, List.reverse_eq_nil_iff] at h0; exact h0
      have := drop_all.1 this
      rw [List.all_reverse, List.all_eq_true] at this; exact this
    · -- the last one that stays is none of p's
      have hr : s.reverse.dropWhile p ≠ [] := fun e => h0 (by rw [trR, e]; rfl)
      have hh := List.head?_dropWhile_not p s.reverse
      cases hd : s.reverse.dropWhile p with
      | nil => exact absurd hd hr
      | cons a l =>
        rw [hd] at hh
        simp only [List.head?_cons] at hh
        have hm : a ∈ trR p s := by rw [trR, hd]; simp
        have := (List.all_eq_true.1 h) a hm
        rw [this] at hh; simp at hh
  · intro h
    have : s.reverse.dropWhile p = [] := drop_all.2 (by rw [List.all_reverse]; exact h)
    rw [trR, this]; rfl
def tabB (cs : List UInt8) (k : Nat) : List Value := (List.range 256).map (fun i => .bool ((cs.take k).any (fun c => c.toNat == i)))
def inB (cs : List UInt8) (x : UInt8) : Bool := cs.any (fun c => c.toNat == x.toNat)
theorem tabB_0 (cs : List UInt8) : tabB cs 0 = List.replicate 256 (.bool false) := by
  rw [tabB]
  apply List.ext_getElem
  · simp only [List.length_map, List.length_range, List.length_replicate]
  · intro i h1 h2; simp only [List.getElem_map, List.take_zero, List.any_nil, List.getElem_replicate]
theorem tabB_len (cs : List UInt8) (k : Nat) : (tabB cs k).length = 256 := by simp only [tabB, List.length_map, List.length_range]
theorem tabB_succ {cs : List UInt8} {k : Nat} (h : k < cs.length) : (tabB cs k).set (cs.getD k 0).toNat (.bool true) = tabB cs (k + 1) := by
  have hg : cs.getD k 0 = cs[k] := by rw [List.getD, List.getElem?_eq_getElem h]; rfl
  rw [hg]
  apply List.ext_getElem
  · rw [List.length_set, tabB_len, tabB_len]
  · intro i h1 h2
    rw [List.getElem_set]
    simp only [tabB, List.getElem_map, List.getElem_range, List.take_add_one, List.any_append, List.getElem?_eq_getElem h, Option.toList_some, List.any_cons, List.any_nil, Bool.or_false]
    split
    · rename_i e; simp [e]
    · rename_i e
      have : (cs[k].toNat == i) = false := by simpa using e
      rw [this, Bool.or_false]
theorem tabB_get (cs : List UInt8) (x : UInt8) : (tabB cs cs.length)[x.toNat]? = some (.bool (inB cs x)) := by
  have := x.toNat_lt
  simp [tabB, inB, this]
end
theorem tabB_one (cs : List UInt8) (k : Nat) : (tabB cs k).all (·.oneCell') = true := by
  rw [List.all_eq_true]; intro v hv
  obtain ⟨i, _, rfl⟩ := List.mem_map.1 hv
  rfl
def nameC (c : UInt8) : Bool := (decide (c ≥ 97) && decide (c ≤ 122)) || (decide (c ≥ 48) && decide (c ≤ 57)) || decide (c = 46) || decide (c = 95)
def nameB (s : List UInt8) : Bool := s.all nameC && (decide (s.length ≥ 1) && decide (s.length ≤ 32))
def nameCs : List UInt8 := [97, 98, 99, 100, 101, 102, 103, 104, 105, 106, 107, 108, 109, 110, 111, 112, 113, 114, 115, 116, 117, 118, 119, 120, 121, 122, 48, 49, 50, 51, 52, 53, 54, 55, 56, 57, 46, 95]
theorem inB_name (x : UInt8) : inB nameCs x = nameC x := by
  have h : ∀ i : Fin 256, inB nameCs (UInt8.ofNat i.1) = nameC (UInt8.ofNat i.1) := by decide +kernel
  have h1 := h ⟨x.toNat, x.toNat_lt⟩
  rwa [UInt8.ofNat_toNat] at h1
theorem nameCs_low (k : Nat) (hk : k < nameCs.length) : ¬ (nameCs.getD k 0) ≥ (128 : UInt8) := by
  have h : ∀ j : Fin 38, ¬ (nameCs.getD j.1 0) ≥ (128 : UInt8) := by decide +kernel
  exact h ⟨k, hk⟩
theorem inB_nameF : inB nameCs = nameC := funext inB_name
section
variable {s : List UInt8} {k : Nat}
theorem name_trim (h1 : s ≠ []) (h2 : s.length ≤ 32) : decide (trL (inB nameCs) (trR (inB nameCs) s) = []) = nameB s := by
  rw [inB_nameF, nameB, decide_eq_true h2, decide_eq_true (show s.length ≥ 1 from List.length_pos_iff.2 h1)]
  rw [show (s.all nameC && (true && true)) = s.all nameC by simp]
  cases h : s.all nameC with
  | true => exact decide_eq_true (trim_nil.2 h)
  | false => exact decide_eq_false (fun e => by rw [trim_nil.1 e] at h; cases h)
theorem name_long (h : ¬ s.length ≤ 32) : nameB s = false := by
  rw [nameB, decide_eq_false h]; simp
end
end Go.Spec
/-! from SpecObj2 -/
/- Symbols: notes, places, sizes. Plain Lean. -/
namespace Go.Spec
open Go.Owl
def noteB (x : Nt) : Bool :=
  bif decide (x.kind = 1) then decide (x.n ≤ 1024) && decide (x.m = 0)
  else bif decide (x.kind = 2) then (decide (x.n < 16) && decide (x.m ≥ 1)) && decide (x.m ≤ 1024)
  else bif decide (x.kind = 3) then (decide (x.n ≥ 1) && decide (x.n ≤ 65535)) && decide (x.m = 0)
  else bif decide (x.kind = 4) then decide (x.n = 0) && decide (x.m = 0) else false
def toldN (b : Bool) : Nat := bif b then 0 else 2
def noteE (x : Nt) : Nat := toldN (noteB x)
theorem or_nil (a b : UInt32) : decide ((a ||| b) = 0) = (decide (a = 0) && decide (b = 0)) := by
  rw [← Bool.decide_and]
  refine decide_eq_decide.2 ⟨fun h => ?_, fun h => by rw [h.1, h.2]; rfl⟩
  have h1 : a.toBitVec ||| b.toBitVec = 0#32 := by
    have := congrArg UInt32.toBitVec h
    simpa using this
  have e : ∀ i, a.toBitVec.getLsbD i = false ∧ b.toBitVec.getLsbD i = false := fun i => by
    have := congrArg (fun v => BitVec.getLsbD v i) h1
    simpa using this
  exact ⟨UInt32.toBitVec_inj.1 (BitVec.eq_of_getLsbD_eq fun i _ => by simp [e i]), UInt32.toBitVec_inj.1 (BitVec.eq_of_getLsbD_eq fun i _ => by simp [e i])⟩
def widthN (k : UInt8) : Nat := bif decide (k = 1) then 4 else bif decide (k = 2) then 2 else 0
theorem width_le (k : UInt8) : widthN k ≤ 4 := by
  unfold widthN; cases decide (k = 1) <;> cases decide (k = 2) <;> simp
def endOf (x : Rl) : Nat := x.off.toNat + widthN x.kind
def endAt (l : List Rl) : Nat → Nat
  | 0 => 0
  | k + 1 => endOf (l.getD k Rl.zero)
def relOk (b e : Nat) (x : Rl) : Bool := (((decide (widthN x.kind ≠ 0) && nameB x.nm) && decide (x.off ≤ 8192)) && decide (e ≤ x.off.toNat)) && decide (endOf x ≤ b)
def relsB (b : Nat) (l : List Rl) : Bool := (List.range l.length).all (fun k => relOk b (endAt l k) (l.getD k Rl.zero)) && decide (l.length ≤ 1024)
section
variable {l : List Rl} {b e k : Nat} {x : Rl}
theorem rels_no (hk : k < l.length) (h : relOk b (endAt l k) (l.getD k Rl.zero) = false) : relsB b l = false := by
  have : (List.range l.length).all (fun k => relOk b (endAt l k) (l.getD k Rl.zero)) = false := by
    rw [Bool.eq_false_iff]; intro ha
    have := (List.all_eq_true.1 ha) k (List.mem_range.2 hk)
    rw [h] at this; cases this
  rw [relsB, this]; rfl
theorem rels_all (h : ∀ j, j < l.length → relOk b (endAt l j) (l.getD j Rl.zero) = true) : relsB b l = decide (l.length ≤ 1024) := by
  have : (List.range l.length).all (fun k => relOk b (endAt l k) (l.getD k Rl.zero)) = true := by
    rw [List.all_eq_true]; intro j hj; exact h j (List.mem_range.1 hj)
  rw [relsB, this]; rfl
theorem relOk_iff : relOk b e x = true ↔ widthN x.kind ≠ 0 ∧ nameB x.nm = true ∧ x.off.toNat ≤ 8192 ∧ e ≤ x.off.toNat ∧ endOf x ≤ b := by
  simp only [relOk, Bool.and_eq_true, decide_eq_true_eq, and_assoc, UInt32.le_iff_toNat_le]
  exact Iff.rfl
theorem relOk_no (h : ¬ (widthN x.kind ≠ 0 ∧ nameB x.nm = true ∧ x.off.toNat ≤ 8192 ∧ e ≤ x.off.toNat ∧ endOf x ≤ b)) : relOk b e x = false := by
  rw [Bool.eq_false_iff]; exact fun h1 => h (relOk_iff.1 h1)
theorem rels_each (h : relsB b l = true) : ∀ j, j < l.length → relOk b (endAt l j) (l.getD j Rl.zero) = true := fun j hj => by
  rw [relsB, Bool.and_eq_true] at h
  exact (List.all_eq_true.1 h.1) j (List.mem_range.2 hj)
theorem endAt_le (h : ∀ j, j < k → relOk b (endAt l j) (l.getD j Rl.zero) = true) : endAt l k ≤ b := by
  cases k with
  | zero => exact Nat.zero_le _
  | succ k => exact (relOk_iff.1 (h k (by omega))).2.2.2.2
theorem endAt_lt (h : ∀ j, j < k → relOk b (endAt l j) (l.getD j Rl.zero) = true) : endAt l k ≤ 8196 := by
  cases k with
  | zero => exact Nat.zero_le _
  | succ k =>
    have h1 := (relOk_iff.1 (h k (by omega))).2.2.1
    have := width_le (l.getD k Rl.zero).kind
    show endOf _ ≤ _
    unfold endOf; omega
end
def sizedB (x : Sy) : Bool := decide (1 ≤ x.size.toNat ∧ x.size.toNat ≤ 8192 ∧ x.b.length ≤ x.size.toNat ∧ (x.kind = 1 → x.b.length = x.size.toNat ∧ x.size.toNat % 8 = 0))
def symB (x : Sy) : Bool := nameB x.nm && decide (x.bind ≤ 2) && decide (x.kind ≥ 1) && decide (x.kind ≤ 3) && sizedB x && relsB x.b.length x.rl && decide (x.nt.length ≤ 8) && x.nt.all noteB
def symE (x : Sy) : Nat := toldN (symB x)
section
variable {x y : Sy}
theorem symB_iff : symB x = true ↔ nameB x.nm = true ∧ x.bind ≤ 2 ∧ x.kind ≥ 1 ∧ x.kind ≤ 3 ∧ sizedB x = true ∧ relsB x.b.length x.rl = true ∧ x.nt.length ≤ 8 ∧ x.nt.all noteB = true := by
  simp only [symB, Bool.and_eq_true, decide_eq_true_eq, and_assoc]
theorem sized_iff : sizedB x = true ↔ 1 ≤ x.size.toNat ∧ x.size.toNat ≤ 8192 ∧ x.b.length ≤ x.size.toNat ∧ (x.kind = 1 → x.b.length = x.size.toNat ∧ x.size.toNat % 8 = 0) := by
  rw [sizedB, decide_eq_true_eq]
theorem sized_no (h : ¬ (1 ≤ x.size.toNat ∧ x.size.toNat ≤ 8192 ∧ x.b.length ≤ x.size.toNat ∧ (x.kind = 1 → x.b.length = x.size.toNat ∧ x.size.toNat % 8 = 0))) : sizedB x = false := by
  rw [Bool.eq_false_iff]; exact fun h1 => h (sized_iff.1 h1)
end
theorem any_not_all {α : Type} (p : α → Bool) : ∀ l : List α, (l.any fun x => !p x) = !l.all p
  | [] => rfl
  | a :: l => by rw [List.any_cons, any_not_all p l, List.all_cons]; cases p a <;> simp
theorem u32_lt_nat {a : UInt32} {n : Nat} (hn : n < 2 ^ 32) : decide (a < UInt32.ofNat n) = decide (a.toNat < n) := by
  refine decide_eq_decide.2 ?_
  rw [UInt32.lt_iff_toNat_lt, UInt32.toNat_ofNat', Nat.mod_eq_of_lt hn]
theorem u32_gt_nat {a : UInt32} {n : Nat} (hn : n < 2 ^ 32) : decide (UInt32.ofNat n > a) = decide (n > a.toNat) := by
  refine decide_eq_decide.2 ?_
  rw [gt_iff_lt, UInt32.lt_iff_toNat_lt, UInt32.toNat_ofNat', Nat.mod_eq_of_lt hn]
/-- A size, as the program asks. -/
def sizedU (x : Sy) : Bool := bif decide (x.size < 1) then false else bif decide (x.size > 8192) then false else bif decide (UInt32.ofNat x.b.length > x.size) then false else
  bif decide (x.kind ≠ 1) then true else bif decide (UInt32.ofNat x.b.length = x.size) then decide (UInt32.ofNat x.b.length % 8 = 0) else false
theorem sized_eq {x : Sy} (hb : x.b.length < 2 ^ 32) : sizedB x = sizedU x := by
  have hz := x.size.toNat_lt
  have e1 : decide (x.size < 1) = decide (x.size.toNat < 1) := decide_eq_decide.2 (by rw [UInt32.lt_iff_toNat_lt]; rfl)
  have e2 : decide (x.size > 8192) = decide (x.size.toNat > 8192) := decide_eq_decide.2 (by rw [gt_iff_lt, UInt32.lt_iff_toNat_lt]; rfl)
  have e4 : decide (UInt32.ofNat x.b.length = x.size) = decide (x.b.length = x.size.toNat) := decide_eq_decide.2 (by rw [← UInt32.toNat_inj, UInt32.toNat_ofNat', Nat.mod_eq_of_lt hb])
  have e5 : decide (UInt32.ofNat x.b.length % 8 = 0) = decide (x.b.length % 8 = 0) := decide_eq_decide.2 (by rw [← UInt32.toNat_inj, UInt32.toNat_mod, UInt32.toNat_ofNat', Nat.mod_eq_of_lt hb]; rfl)
  rw [sizedU, e1, e2, u32_gt_nat hb, e4, e5]
  have key : sizedB x = (bif decide (x.size.toNat < 1) then false else bif decide (x.size.toNat > 8192) then false else bif decide (x.b.length > x.size.toNat) then false else
    bif decide (x.kind ≠ 1) then true else bif decide (x.b.length = x.size.toNat) then decide (x.b.length % 8 = 0) else false) := by
    by_cases h1 : x.size.toNat < 1
    · rw [sized_no (by omega), decide_eq_true h1]; rfl
    by_cases h2 : x.size.toNat > 8192
    · rw [sized_no (by omega), decide_eq_false h1, decide_eq_true h2]; rfl
    by_cases h3 : x.b.length > x.size.toNat
    · rw [sized_no (by omega), decide_eq_false h1, decide_eq_false h2, decide_eq_true h3]; rfl
    rw [decide_eq_false h1, decide_eq_false h2, decide_eq_false h3]
    by_cases h4 : x.kind = 1
    · rw [decide_eq_false (show ¬ (x.kind ≠ 1) from fun h => h h4)]
      by_cases h5 : x.b.length = x.size.toNat
      · rw [decide_eq_true h5]
        by_cases h6 : x.b.length % 8 = 0
        · rw [decide_eq_true h6, sized_iff.2 ⟨by omega, by omega, by omega, fun _ => ⟨h5, by omega⟩⟩]; rfl
        · rw [decide_eq_false h6, sized_no (fun h => h6 (by have := (h.2.2.2 h4).2; omega))]; rfl
      · rw [decide_eq_false h5, sized_no (fun h => h5 (h.2.2.2 h4).1)]; rfl
    · rw [decide_eq_true h4, sized_iff.2 ⟨by omega, by omega, by omega, fun h => absurd h h4⟩]; rfl
  exact key
section
variable {x : Rl} {b e : Nat} {l : List Rl} {k : Nat}
theorem getD_name {B : Nat} (h : ∀ y ∈ l, y.nm.length < B) (k : Nat) (hB : 0 < B := by decide) : (l.getD k Rl.zero).nm.length < B := by
  rcases Nat.lt_or_ge k l.length with hk | hk
  · rw [show l.getD k Rl.zero = l[k] by simp [List.getD, hk]]; exact h _ (List.getElem_mem hk)
  · rw [show l.getD k Rl.zero = Rl.zero by simp [List.getD, Nat.not_lt.2 hk]]; exact hB
theorem off_nat (h : decide (x.off > 8192) = false) : x.off.toNat ≤ 8192 := by
  have := of_decide_eq_false h
  rw [gt_iff_lt, UInt32.lt_iff_toNat_lt] at this
  exact Nat.le_of_not_lt this
theorem end_nat {n : Nat} {v : UInt32} (hv : v.toNat = n) (hn : n ≤ 4) (h : x.off.toNat ≤ 8192) : (x.off + v).toNat = x.off.toNat + n := by
  rw [UInt32.toNat_add, hv, Nat.mod_eq_of_lt (by omega)]
theorem end_U {v : UInt32} (hw : widthN x.kind = v.toNat) (h : decide (x.off > 8192) = false) : x.off + v = UInt32.ofNat (endOf x) := by
  have h1 := off_nat h
  have h4 := width_le x.kind
  apply UInt32.toNat_inj.1
  rw [end_nat hw.symm h4 h1, UInt32.toNat_ofNat', endOf, Nat.mod_eq_of_lt (by omega)]
theorem over_U {v : UInt32} (hw : widthN x.kind = v.toNat) (h : decide (x.off > 8192) = false) (hb : b < 2 ^ 32) : decide (x.off + v > UInt32.ofNat b) = decide (endOf x > b) := by
  have h1 := off_nat h
  have h4 := width_le x.kind
  refine decide_eq_decide.2 ?_
  rw [gt_iff_lt, UInt32.lt_iff_toNat_lt, UInt32.toNat_ofNat', Nat.mod_eq_of_lt hb, end_nat hw.symm h4 h1]
  exact Iff.rfl
theorem relOk_yes {v : UInt32} (hw : widthN x.kind = v.toNat) (h1 : nameB x.nm = true) (h2 : decide (x.off < UInt32.ofNat e) = false) (h3 : decide (x.off > 8192) = false) (h4 : decide (x.off + v > UInt32.ofNat b) = false) (he : e < 2 ^ 32) (hb : b < 2 ^ 32) (h0 : v.toNat ≠ 0 := by decide) : relOk b e x = true := by
  rw [over_U hw h3 hb] at h4
  rw [u32_lt_nat he] at h2
  have := of_decide_eq_false h2; have := of_decide_eq_false h4
  exact relOk_iff.2 ⟨by rw [hw]; exact h0, h1, off_nat h3, by omega, by omega⟩
theorem relOk_k (h : widthN x.kind = 0) : relOk b e x = false := relOk_no (fun h1 => h1.1 h)
theorem relOk_n (h : nameB x.nm = false) : relOk b e x = false := relOk_no (fun h1 => by rw [h] at h1; cases h1.2.1)
theorem relOk_e (h : decide (x.off < UInt32.ofNat e) = true) (he : e < 2 ^ 32) : relOk b e x = false := by
  rw [u32_lt_nat he] at h
  have := of_decide_eq_true h
  exact relOk_no (fun h1 => by have := h1.2.2.2.1; omega)
theorem relOk_b (h : decide (x.off > 8192) = true) : relOk b e x = false := by
  have := of_decide_eq_true h
  rw [gt_iff_lt, UInt32.lt_iff_toNat_lt] at this
  exact relOk_no (fun h1 => by have h2 := h1.2.2.1; have : 8192 < x.off.toNat := this; omega)
theorem relOk_o {v : UInt32} (hw : widthN x.kind = v.toNat) (h : decide (x.off > 8192) = false) (h1 : decide (x.off + v > UInt32.ofNat b) = true) (hb : b < 2 ^ 32) : relOk b e x = false := by
  rw [over_U hw h hb] at h1
  have := of_decide_eq_true h1
  exact relOk_no (fun h1 => by have := h1.2.2.2.2; omega)
end
section
variable {x : Sy} {k : Nat}
/-- A symbol, as the program asks. -/
def symU (x : Sy) : Bool := bif nameB x.nm then bif decide (x.bind ≤ 2) then bif decide (x.kind ≥ 1) then bif decide (x.kind ≤ 3) then bif sizedB x then bif relsB x.b.length x.rl then bif decide (x.nt.length ≤ 8) then !(x.nt.any fun n => !noteB n) else false else false else false else false else false else false else false
theorem sym_eq : symB x = symU x := by
  rw [symU, any_not_all, symB, Bool.not_not]
  cases nameB x.nm <;> cases decide (x.bind ≤ 2) <;> cases decide (x.kind ≥ 1) <;> cases decide (x.kind ≤ 3) <;> cases sizedB x <;> cases relsB x.b.length x.rl <;> cases decide (x.nt.length ≤ 8) <;> simp
end
end Go.Spec
/-! from SpecInsn -/
/- What the instructions' functions say, in plain Lean. -/
namespace Go.Spec
open Go.Owl

def le4 (v : UInt32) : List UInt8 := [UInt8.ofNat v.toNat, UInt8.ofNat (shrU32 v 8).toNat, UInt8.ofNat (shrU32 v 16).toNat, UInt8.ofNat (shrU32 v 24).toNat]
def getTo (s : List UInt8) : Nat → UInt32
  | 0 => 0
  | k + 1 => getTo s k ||| shlU32 (UInt32.ofNat (s.getD k 0).toNat) (8 * k)
def getE (s : List UInt8) : Nat := if s.length < 1 ∨ 4 < s.length then 2 else 0
def getV (s : List UInt8) : UInt32 := if s.length < 1 ∨ 4 < s.length then 0 else getTo s s.length

end Go.Spec
/-! from LawInsn -/
/- Plain laws of the instructions' bytes. -/
namespace Go.Spec
open Go.Owl

end Go.Spec
/-! from SpecRef4 -/
/- What the reference of layer 4 says, in plain Lean, and that it says the same. -/
namespace Go.Spec
open Go.Owl

def rV (v : UInt32) : Nat → UInt32
  | 0 => v
  | k + 1 => rV v k / 256
def rB (v : UInt32) : Nat → List UInt8
  | 0 => []
  | k + 1 => rB v k ++ [UInt8.ofNat (rV v k % 256).toNat]
theorem rB_length (v : UInt32) : ∀ k, (rB v k).length = k
  | 0 => rfl
  | k + 1 => by simp [rB, rB_length v k]
theorem rB4 (v : UInt32) : rB v 4 = le4 v := by
  have hv := v.toNat_lt
  simp only [rB, rV, le4, shrU32, List.nil_append, List.cons_append, List.cons.injEq, and_true]
  refine ⟨?_, ?_, ?_, ?_⟩ <;> (apply UInt8.toNat_inj.mp; simp [Nat.shiftRight_eq_div_pow]; try omega)
def gF : List UInt8 → UInt32
  | [] => 0
  | c :: l => 256 * gF l + UInt32.ofNat c.toNat
end Go.Spec
/-! from SpecSha -/
/- SHA-256 in plain Lean. -/
namespace Go.Spec
open Go.Owl
def rot (x : UInt32) (n : Nat) : UInt32 := shrU32 x n ||| shlU32 x (32 - n)
structure St where
  a : UInt32
  b : UInt32
  c : UInt32
  d : UInt32
  e : UInt32
  f : UInt32
  g : UInt32
  h : UInt32
/-- Four bytes, the highest first. -/
def be4 (b : List UInt8) (t : Nat) : UInt32 := ((shlU32 (UInt32.ofNat (b.getD (4 * t) 0).toNat) 24 ||| shlU32 (UInt32.ofNat (b.getD (4 * t + 1) 0).toNat) 16) ||| shlU32 (UInt32.ofNat (b.getD (4 * t + 2) 0).toNat) 8) ||| UInt32.ofNat (b.getD (4 * t + 3) 0).toNat
def mix (w : List UInt32) (t : Nat) : UInt32 :=
  ((w.getD (t - 16) 0 + ((rot (w.getD (t - 15) 0) 7 ^^^ rot (w.getD (t - 15) 0) 18) ^^^ shrU32 (w.getD (t - 15) 0) 3)) + w.getD (t - 7) 0) + ((rot (w.getD (t - 2) 0) 17 ^^^ rot (w.getD (t - 2) 0) 19) ^^^ shrU32 (w.getD (t - 2) 0) 10)
/-- The first k numbers W of a block. -/
def wl (b : List UInt8) : Nat → List UInt32
  | 0 => []
  | k + 1 => wl b k ++ [if k < 16 then be4 b k else mix (wl b k) k]
def keyL : List UInt32 := [
  0x428a2f98, 0x71374491, 0xb5c0fbcf, 0xe9b5dba5, 0x3956c25b, 0x59f111f1, 0x923f82a4, 0xab1c5ed5,
  0xd807aa98, 0x12835b01, 0x243185be, 0x550c7dc3, 0x72be5d74, 0x80deb1fe, 0x9bdc06a7, 0xc19bf174,
  0xe49b69c1, 0xefbe4786, 0x0fc19dc6, 0x240ca1cc, 0x2de92c6f, 0x4a7484aa, 0x5cb0a9dc, 0x76f988da,
  0x983e5152, 0xa831c66d, 0xb00327c8, 0xbf597fc7, 0xc6e00bf3, 0xd5a79147, 0x06ca6351, 0x14292967,
  0x27b70a85, 0x2e1b2138, 0x4d2c6dfc, 0x53380d13, 0x650a7354, 0x766a0abb, 0x81c2c92e, 0x92722c85,
  0xa2bfe8a1, 0xa81a664b, 0xc24b8b70, 0xc76c51a3, 0xd192e819, 0xd6990624, 0xf40e3585, 0x106aa070,
  0x19a4c116, 0x1e376c08, 0x2748774c, 0x34b0bcb5, 0x391c0cb3, 0x4ed8aa4a, 0x5b9cca4f, 0x682e6ff3,
  0x748f82ee, 0x78a5636f, 0x84c87814, 0x8cc70208, 0x90befffa, 0xa4506ceb, 0xbef9a3f7, 0xc67178f2]
def firstS : St := ⟨0x6a09e667, 0xbb67ae85, 0x3c6ef372, 0xa54ff53a, 0x510e527f, 0x9b05688c, 0x1f83d9ab, 0x5be0cd19⟩
def t1of (v : St) (k w : UInt32) : UInt32 := (((v.h + ((rot v.e 6 ^^^ rot v.e 11) ^^^ rot v.e 25)) + ((v.e &&& v.f) ^^^ (v.g &&& ~~~v.e))) + k) + w
def t2of (v : St) : UInt32 := ((rot v.a 2 ^^^ rot v.a 13) ^^^ rot v.a 22) + (((v.a &&& v.b) ^^^ (v.a &&& v.c)) ^^^ (v.b &&& v.c))
def stepS (v : St) (k w : UInt32) : St := ⟨t1of v k w + t2of v, v.a, v.b, v.c, v.d + t1of v k w, v.e, v.f, v.g⟩
def rounds (h : St) (w : List UInt32) : Nat → St
  | 0 => h
  | t + 1 => stepS (rounds h w t) (keyL.getD t 0) (w.getD t 0)
def addS (v h : St) : St := ⟨v.a + h.a, v.b + h.b, v.c + h.c, v.d + h.d, v.e + h.e, v.f + h.f, v.g + h.g, v.h + h.h⟩
def blockS (h : St) (b : List UInt8) : St := addS (rounds h (wl b 64) 64) h
def hb (x : UInt32) : List UInt8 := [UInt8.ofNat (shrU32 x 24).toNat, UInt8.ofNat (shrU32 x 16).toNat, UInt8.ofNat (shrU32 x 8).toNat, UInt8.ofNat x.toNat]
end Go.Spec
/-! from SpecHash -/
/- A hash by the text that was written to it. -/
namespace Go.Spec
open Go.Owl
/-- j blocks of d, and what is left. -/
def brest (d : List UInt8) : Nat → List UInt8
  | 0 => d
  | j + 1 => (brest d j).drop 64
def bst (h : St) (d : List UInt8) : Nat → St
  | 0 => h
  | j + 1 => blockS (bst h d j) ((brest d j).take 64)
def hst (all : List UInt8) : St := bst firstS all (all.length / 64)
def hrest (all : List UInt8) : List UInt8 := brest all (all.length / 64)
end Go.Spec
/-! from LawSha -/
/- Texts, some of a list at a time. -/
namespace Go.Spec
end Go.Spec
/-! from SpecPack -/
/- Numbers, texts, lists as bytes, and readers of them, in plain Lean. -/
namespace Go.Spec
open Go.Owl
theorem rV_nat (v : UInt32) : ∀ k, (rV v k).toNat = v.toNat / 256 ^ k
  | 0 => by simp [rV]
  | k + 1 => by
    rw [rV, UInt32.toNat_div, rV_nat v k, Nat.pow_succ, ← Nat.div_div_eq_div_mul]; rfl
theorem shrU32_nat (v : UInt32) (s : Nat) : (shrU32 v s).toNat = v.toNat / 2 ^ s := by
  have h := v.toNat_lt
  rw [shrU32, UInt32.toNat_ofNat', Nat.shiftRight_eq_div_pow, Nat.mod_eq_of_lt (Nat.lt_of_le_of_lt (Nat.div_le_self _ _) h)]
theorem rV_shr (v : UInt32) (k : Nat) : shrU32 v (8 * k) = rV v k := by
  apply UInt32.toNat_inj.1
  rw [rV_nat, shrU32_nat, Nat.pow_mul]
theorem rV_4 (v : UInt32) : rV v 4 = 0 := by
  apply UInt32.toNat_inj.1
  rw [rV_nat]
  exact Nat.div_eq_of_lt v.toNat_lt
theorem rB_take (v : UInt32) {k : Nat} (h : k ≤ 4) : (le4 v).take k = rB v k := by
  rw [← rB4]
  rcases (by omega : k = 0 ∨ k = 1 ∨ k = 2 ∨ k = 3 ∨ k = 4) with rfl | rfl | rfl | rfl | rfl <;> rfl
def numE (v : UInt32) (n : Int) : Nat := if n < 1 ∨ n > 4 then 2 else if rV v n.toNat ≠ 0 then 5 else 0
def numS (v : UInt32) (n : Int) : List UInt8 := if numE v n = 0 then rB v n.toNat else []
/-- The number of bytes, the lowest first. -/
def natLE : List UInt8 → Nat
  | [] => 0
  | c :: l => c.toNat + 256 * natLE l
theorem natLE_lt : ∀ l : List UInt8, natLE l < 256 ^ l.length
  | [] => by simp [natLE]
  | c :: l => by
    have := natLE_lt l; have := c.toNat_lt
    rw [natLE, List.length_cons, Nat.pow_succ]; omega
theorem natLE_snoc (c : UInt8) : ∀ l : List UInt8, natLE (l ++ [c]) = natLE l + 256 ^ l.length * c.toNat
  | [] => by simp [natLE]
  | d :: l => by rw [List.cons_append, natLE, natLE_snoc c l, natLE, List.length_cons, Nat.pow_succ, Nat.mul_add]; rw [Nat.mul_comm (256 ^ l.length) 256, Nat.mul_assoc]; omega
theorem gF_nat : ∀ l : List UInt8, l.length ≤ 4 → (gF l).toNat = natLE l
  | [], _ => rfl
  | c :: l, h => by
    have ih := gF_nat l (by simp at h; omega)
    have hb := natLE_lt (c :: l)
    have hc := c.toNat_lt
    have h4 : (256 : Nat) ^ (c :: l).length ≤ 256 ^ 4 := Nat.pow_le_pow_right (by decide) h
    rw [natLE] at hb ⊢
    rw [gF, UInt32.toNat_add, UInt32.toNat_mul, ih, UInt32.toNat_ofNat']
    show (256 * natLE l % 2 ^ 32 + c.toNat % 2 ^ 32) % 2 ^ 32 = _
    omega
theorem getTo_nat (s : List UInt8) : ∀ k, k ≤ s.length → k ≤ 4 → (getTo s k).toNat = natLE (s.take k)
  | 0, _, _ => by simp [getTo, natLE]
  | k + 1, h, h4 => by
    have ih := getTo_nat s k (by omega) (by omega)
    have hk : k < s.length := by omega
    have e : s.take (k + 1) = s.take k ++ [s[k]] := by rw [List.take_add_one, List.getElem?_eq_getElem hk]; rfl
    have hl : (s.take k).length = k := by rw [List.length_take]; omega
    have hb := natLE_lt (s.take k)
    rw [hl] at hb
    have hg : s.getD k 0 = s[k] := by simp [List.getD, hk]
    rw [e, natLE_snoc, hl, getTo, UInt32.toNat_or, ih, hg]
    have hc := (s[k]).toNat_lt
    generalize s[k] = c at *
    have e2 : (shlU32 (UInt32.ofNat c.toNat) (8 * k)).toNat = c.toNat <<< (8 * k) := by
      rw [shlU32, UInt32.toNat_ofNat', UInt32.toNat_ofNat', Nat.mod_eq_of_lt (by omega : c.toNat < 2 ^ 32)]
      refine Nat.mod_eq_of_lt ?_
      rw [Nat.shiftLeft_eq]
      calc c.toNat * 2 ^ (8 * k) < 2 ^ 8 * 2 ^ (8 * k) := Nat.mul_lt_mul_of_pos_right hc (Nat.two_pow_pos _)
        _ = 2 ^ (8 + 8 * k) := (Nat.pow_add 2 8 (8 * k)).symm
        _ ≤ 2 ^ 32 := Nat.pow_le_pow_right (by decide) (by omega)
    rw [e2]
    have e3 : (256 : Nat) ^ k = 2 ^ (8 * k) := by rw [Nat.pow_mul]
    rw [e3] at hb ⊢
    rw [Nat.or_comm, ← Nat.shiftLeft_add_eq_or_of_lt hb, Nat.shiftLeft_eq, Nat.mul_comm (2 ^ (8 * k))]
    omega
theorem natLE_rB (v : UInt32) : ∀ k, natLE (rB v k) = v.toNat % 256 ^ k
  | 0 => by simp [rB, natLE, Nat.mod_one]
  | k + 1 => by
    rw [rB, natLE_snoc, natLE_rB v k, rB_length]
    have e : (UInt8.ofNat (rV v k % 256).toNat).toNat = v.toNat / 256 ^ k % 256 := by
      rw [UInt8.toNat_ofNat', UInt32.toNat_mod, rV_nat]
      exact Nat.mod_eq_of_lt (Nat.mod_lt _ (by decide))
    rw [e, Nat.pow_succ, Nat.mod_mul]
theorem numE_4 (v : UInt32) : numE v 4 = 0 := by
  unfold numE; rw [if_neg (by decide), if_neg (by rw [show (4 : Int).toNat = 4 from rfl, rV_4]; simp)]
structure Rd where
  s : List UInt8
  at_ : Nat
  f : Nat
  h : at_ ≤ s.length
def Rd.rest (r : Rd) : List UInt8 := r.s.drop r.at_
def Rd.bad (r : Rd) (e : Nat) : Rd := ⟨r.s, r.at_, e, r.h⟩
def Rd.on (r : Rd) (k : Nat) (hk : ¬ k > r.s.length - r.at_) : Rd := ⟨r.s, r.at_ + k, r.f, by have := r.h; omega⟩
/-- The next n bytes, of a reader that is not spoilt. -/
def rawR (r : Rd) (n : Nat) : (List UInt8 × Nat) × Rd := if h : n > r.s.length - r.at_ then (([], 6), r.bad 6) else ((r.rest.take n, 0), r.on n h)
def takeR (r : Rd) (n : Int) : (List UInt8 × Nat) × Rd := if r.f ≠ 0 then (([], r.f), r) else if n < 0 then (([], 2), r.bad 2) else rawR r n.toNat
theorem rawR_1 {r : Rd} {n : Nat} (h : n > r.s.length - r.at_) : rawR r n = (([], 6), r.bad 6) := by unfold rawR; rw [dif_pos h]
theorem rawR_2 {r : Rd} {n : Nat} (h : ¬ n > r.s.length - r.at_) : rawR r n = ((r.rest.take n, 0), r.on n h) := by unfold rawR; rw [dif_neg h]
def Like (a b : Rd) : Prop := a.rest = b.rest ∧ a.f = b.f
theorem Like.left {a b : Rd} (h : Like a b) : a.s.length - a.at_ = b.s.length - b.at_ := by
  have := congrArg List.length h.1
  rwa [Rd.rest, Rd.rest, List.length_drop, List.length_drop] at this
theorem Like.bad {a b : Rd} (h : Like a b) (e : Nat) : Like (a.bad e) (b.bad e) := ⟨h.1, rfl⟩
theorem Like.raw {a b : Rd} (h : Like a b) (n : Nat) : (rawR a n).1 = (rawR b n).1 ∧ Like (rawR a n).2 (rawR b n).2 := by
  by_cases hn : n > a.s.length - a.at_
  · rw [rawR_1 hn, rawR_1 (by rw [← h.left]; exact hn)]
    exact ⟨rfl, h.bad 6⟩
  · rw [rawR_2 hn, rawR_2 (by rw [← h.left]; exact hn)]
    refine ⟨by rw [h.1], ?_, h.2⟩
    have := congrArg (List.drop n) h.1
    rwa [Rd.rest, Rd.rest, List.drop_drop, List.drop_drop] at this
theorem Like.take {a b : Rd} (h : Like a b) (n : Int) : (takeR a n).1 = (takeR b n).1 ∧ Like (takeR a n).2 (takeR b n).2 := by
  unfold takeR
  rw [h.2]
  split
  · exact ⟨rfl, h⟩
  · split
    · exact ⟨rfl, h.bad 2⟩
    · exact h.raw _
structure Stp where
  d : Int
  n : Int
def Stp.zero : Stp := ⟨0, 0⟩
end Go.Spec
/-! from SpecRel -/
/- Symbols' bytes, with addresses in their places. Plain Lean. -/
namespace Go.Spec
open Go.Owl
def putAt (b : List UInt8) (off : Nat) (s : List UInt8) : List UInt8 := b.take off ++ (s ++ b.drop (off + s.length))
section
variable {b s : List UInt8} {off k : Nat} {c : UInt8}
theorem putAt_len (h : off + s.length ≤ b.length) : (putAt b off s).length = b.length := by
  simp only [putAt, List.length_append, List.length_take, List.length_drop]; omega
end
def relV (x : Rl) (a : UInt32) : UInt32 := a + x.add
def ovB (r : Rl) (v : UInt32) : Bool := decide (widthN r.kind = 2) && decide (v > 65535)
def overB (x : Rl) (a : UInt32) : Bool := ovB x (a + x.add)
def relBytes (x : Rl) (a : UInt32) : List UInt8 := rB (relV x a) (widthN x.kind)
/-- The bytes with the first k places filled. -/
def fillN (b : List UInt8) (l : List Rl) (ads : List UInt32) : Nat → List UInt8
  | 0 => b
  | k + 1 => putAt (fillN b l ads k) (l.getD k Rl.zero).off.toNat (relBytes (l.getD k Rl.zero) (ads.getD k 0))
def baseB (x : Sy) : List UInt8 := x.b ++ List.replicate (x.size.toNat - x.b.length) 0
def fillOk (l : List Rl) (ads : List UInt32) : Bool := (List.range l.length).all (fun k => !overB (l.getD k Rl.zero) (ads.getD k 0))
def fillE (x : Sy) (ads : List UInt32) : Nat := if symB x = true ∧ ads.length = x.rl.length then (if fillOk x.rl ads = true then 0 else 150) else 2
def fillS (x : Sy) (ads : List UInt32) : List UInt8 := if fillE x ads = 0 then fillN (baseB x) x.rl ads x.rl.length else []
def lookE (x : Sy) (s : List UInt8) : Nat := if symB x = true ∧ s.length = x.size.toNat then 0 else 2
def seenR (s : List UInt8) (r : Rl) : UInt32 := gF ((s.drop r.off.toNat).take (widthN r.kind)) - r.add
def lookL (x : Sy) (s : List UInt8) : List UInt32 := if lookE x s = 0 then x.rl.map (seenR s) else []
section
variable {b : List UInt8} {l : List Rl} {ads : List UInt32} {k n : Nat} {x : Sy}
theorem relBytes_len (r : Rl) (a : UInt32) : (relBytes r a).length = widthN r.kind := by rw [relBytes, rB_length]
theorem fillN_len (h : ∀ j, j < l.length → endOf (l.getD j Rl.zero) ≤ b.length) : ∀ k, k ≤ l.length → (fillN b l ads k).length = b.length
  | 0, _ => rfl
  | k + 1, hk => by
    have ih := fillN_len h k (by omega)
    have h1 := h k (by omega)
    rw [fillN, putAt_len (by rw [relBytes_len, ih]; exact h1), ih]
theorem fill_over (hk : k < l.length) (h : overB (l.getD k Rl.zero) (ads.getD k 0) = true) : fillOk l ads = false := by
  rw [Bool.eq_false_iff]; intro ha
  have := (List.all_eq_true.1 ha) k (List.mem_range.2 hk)
  rw [h] at this; cases this
theorem fill_fits (h : ∀ j, j < l.length → overB (l.getD j Rl.zero) (ads.getD j 0) = false) : fillOk l ads = true := by
  rw [fillOk, List.all_eq_true]; intro j hj
  rw [h j (List.mem_range.1 hj)]; rfl
theorem baseB_len (h : x.b.length ≤ x.size.toNat) : (baseB x).length = x.size.toNat := by
  rw [baseB, List.length_append, List.length_replicate]; omega
/-- What a symbol that may be has. -/
theorem sym_fits (h : symB x = true) : x.b.length ≤ x.size.toNat ∧ x.size.toNat ≤ 8192 ∧ ∀ j, j < x.rl.length → endOf (x.rl.getD j Rl.zero) ≤ x.b.length := by
  have h1 := symB_iff.1 h
  have h2 := sized_iff.1 h1.2.2.2.2.1
  exact ⟨h2.2.2.1, h2.2.1, fun j hj => (relOk_iff.1 (rels_each h1.2.2.2.2.2.1 j hj)).2.2.2.2⟩
end
def begB (n : Nat) (bs : List UInt8) : List UInt8 := (List.replicate n 0).take 0 ++ (bs.take (min bs.length n) ++ (List.replicate n 0).drop (0 + min bs.length n))
theorem begB_base {x : Sy} (h : x.b.length ≤ x.size.toNat) : begB x.size.toNat x.b = baseB x := by
  rw [begB, baseB, Nat.min_eq_left h, List.take_zero, List.nil_append, List.take_length, Nat.zero_add, List.drop_replicate]
theorem begB_full {n : Nat} {bs : List UInt8} (h : bs.length = n) : begB n bs = bs := by
  subst h
  rw [begB, Nat.min_self, List.take_zero, List.nil_append, List.take_length, Nat.zero_add, List.drop_replicate, Nat.sub_self, List.replicate_zero, List.append_nil]
def placeV (v : Value) (r : Rl) : Value := cutV3 v r.off.toNat (endOf r) (endOf r) 1
theorem Arr.place {w : World} {v : Value} {n : Nat} {l : List UInt8} {r : Rl} (hA : Arr w v 1 n (l.map vU8)) (h : endOf r ≤ n) : Arr w (placeV v r) 1 (widthN r.kind) (((l.drop r.off.toNat).take (widthN r.kind)).map vU8) := by
  have h1 := hA.cut3M (a := r.off.toNat) (b := endOf r) (c := endOf r) (by unfold endOf; omega) (Nat.le_refl _) h
  rwa [show endOf r - r.off.toNat = widthN r.kind by unfold endOf; omega] at h1
theorem Sub.place {w : World} {v : Value} {n : Nat} {xs : List Value} {r : Rl} (hA : Arr w v 1 n xs) (h : endOf r ≤ n) : Sub (placeV v r) v r.off.toNat (widthN r.kind) := by
  have h1 := Sub.cut3 hA (a := r.off.toNat) (b := endOf r) (c := endOf r) (by unfold endOf; omega) (Nat.le_refl _) h
  rwa [show endOf r - r.off.toNat = widthN r.kind by unfold endOf; omega] at h1
section
variable {k : UInt8} {v : UInt32} {r : Rl} {l : List UInt8}
theorem width2 (h : decide (k = 2) = true) : widthN k = 2 := by
  have := of_decide_eq_true h; subst this; rfl
theorem width4 (h : decide (k = 2) = false) (h0 : widthN k ≠ 0) : widthN k = 4 := by
  unfold widthN at h0 ⊢
  cases h1 : decide (k = 1) with
  | true => rfl
  | false => rw [h1, h] at h0; exact absurd rfl h0
theorem width24 (h : widthN k ≠ 0) : widthN k = 2 ∨ widthN k = 4 := by
  cases h2 : decide (k = 2) with
  | true => exact .inl (width2 h2)
  | false => exact .inr (width4 h2 h)
theorem end2 (h : decide (r.kind = 2) = true) (ho : r.off.toNat ≤ 8192) : (r.off + 2).toNat = endOf r := by
  rw [end_nat (n := 2) rfl (by decide) ho, endOf, width2 h]
theorem end4 (h : decide (r.kind = 2) = false) (h0 : widthN r.kind ≠ 0) (ho : r.off.toNat ≤ 8192) : (r.off + 4).toNat = endOf r := by
  rw [end_nat (n := 4) rfl (by decide) ho, endOf, width4 h h0]
def putE (r : Rl) (v : UInt32) : Nat := bif ovB r v then 150 else 0
def putL (l : List UInt8) (r : Rl) (v : UInt32) : List UInt8 := bif ovB r v then l else putAt l r.off.toNat (rB v (widthN r.kind))
theorem shr16 (v : UInt32) : decide (shrU32 v 16 ≠ 0) = decide (v > 65535) := by
  refine decide_eq_decide.2 ?_
  rw [ne_eq, ← UInt32.toNat_inj, shrU32_nat, gt_iff_lt, UInt32.lt_iff_toNat_lt]
  show ¬ (v.toNat / 2 ^ 16 = 0) ↔ 65535 < v.toNat
  omega
theorem numS_w (h0 : widthN r.kind ≠ 0) (h : ovB r v = false) : numS v (widthN r.kind : Int) = rB v (widthN r.kind) := by
  have e : numE v (widthN r.kind : Int) = 0 := by
    rcases width24 h0 with h2 | h4
    · rw [h2]
      have : ¬ v > 65535 := by
        rw [ovB, decide_eq_true h2, Bool.true_and] at h; exact of_decide_eq_false h
      rw [gt_iff_lt, UInt32.lt_iff_toNat_lt] at this
      have h5 : v.toNat ≤ 65535 := Nat.le_of_not_lt this
      rw [numE, if_neg (by omega)]
      show (if rV v 2 ≠ 0 then 5 else 0) = 0
      rw [if_neg]
      intro hn; apply hn
      apply UInt32.toNat_inj.1
      rw [rV_nat]
      show v.toNat / 256 ^ 2 = 0
      omega
    · rw [h4]; exact numE_4 v
  rw [numS, if_pos e, Int.toNat_natCast]
theorem put_row (h0 : widthN r.kind ≠ 0) (h : ovB r v = false) : l.take r.off.toNat ++ ((numS v (widthN r.kind : Int)).take (widthN r.kind) ++ l.drop (r.off.toNat + widthN r.kind)) = putL l r v := by
  have e : (rB v (widthN r.kind)).take (widthN r.kind) = rB v (widthN r.kind) := List.take_of_length_le (by rw [rB_length]; exact Nat.le_refl _)
  rw [putL, h, numS_w h0 h, e]
  show _ = putAt _ _ _
  rw [putAt, rB_length]
theorem putE_0 (h : ovB r v = false) : putE r v = 0 := by rw [putE, h]; rfl
theorem putE_1 (h : ovB r v = true) : putE r v = 150 := by rw [putE, h]; rfl
theorem putE_ne (h : putE r v ≠ 0) : ovB r v = true := by
  cases h1 : ovB r v with
  | true => rfl
  | false => exact absurd (putE_0 h1) h
theorem putE_eq (h : putE r v = 0) : ovB r v = false := by
  cases h1 : ovB r v with
  | true => rw [putE_1 h1] at h; cases h
  | false => rfl
end
section
variable {x : Sy} {ads : List UInt32} {s : List UInt8} {k : Nat}
theorem fill_step {b : List UInt8} {l : List Rl} (h : ovB (l.getD k Rl.zero) (ads.getD k 0 + (l.getD k Rl.zero).add) = false) : putL (fillN b l ads k) (l.getD k Rl.zero) (ads.getD k 0 + (l.getD k Rl.zero).add) = fillN b l ads (k + 1) := by
  rw [putL, h]; rfl
theorem fill_end (hs : symB x = true) (ha : ads.length = x.rl.length) (h : ∀ j, j < x.rl.length → overB (x.rl.getD j Rl.zero) (ads.getD j 0) = false) : fillE x ads = 0 ∧ fillS x ads = fillN (baseB x) x.rl ads x.rl.length := by
  have e : fillE x ads = 0 := by rw [fillE, if_pos ⟨hs, ha⟩, if_pos (fill_fits h)]
  exact ⟨e, by rw [fillS, if_pos e]⟩
theorem fill_bad (hs : symB x = true) (ha : ads.length = x.rl.length) (hk : k < x.rl.length) (h : overB (x.rl.getD k Rl.zero) (ads.getD k 0) = true) : fillE x ads = 150 ∧ fillS x ads = [] := by
  have e : fillE x ads = 150 := by rw [fillE, if_pos ⟨hs, ha⟩, if_neg (by rw [fill_over hk h]; decide)]
  exact ⟨e, by rw [fillS, if_neg (by rw [e]; decide)]⟩
theorem fill_arg (h : ¬ (symB x = true ∧ ads.length = x.rl.length)) : fillE x ads = 2 ∧ fillS x ads = [] := by
  have e : fillE x ads = 2 := by rw [fillE, if_neg h]
  exact ⟨e, by rw [fillS, if_neg (by rw [e]; decide)]⟩
/-- What the places of a symbol that may be are. -/
theorem sym_place (h : symB x = true) (hk : k < x.rl.length) : widthN (x.rl.getD k Rl.zero).kind ≠ 0 ∧ (x.rl.getD k Rl.zero).off.toNat ≤ 8192 ∧ endOf (x.rl.getD k Rl.zero) ≤ x.size.toNat := by
  have h1 := symB_iff.1 h
  have h2 := relOk_iff.1 (rels_each h1.2.2.2.2.2.1 k hk)
  have h3 := sym_fits h
  exact ⟨h2.1, h2.2.2.1, Nat.le_trans h2.2.2.2.2 h3.1⟩
theorem look_0 (hs : symB x = true) (h : s.length = x.size.toNat) : lookE x s = 0 ∧ lookL x s = x.rl.map (seenR s) := by
  have e : lookE x s = 0 := by rw [lookE, if_pos ⟨hs, h⟩]
  exact ⟨e, by rw [lookL, if_pos e]⟩
theorem look_2 (h : ¬ (symB x = true ∧ s.length = x.size.toNat)) : lookE x s = 2 ∧ lookL x s = [] := by
  have e : lookE x s = 2 := by rw [lookE, if_neg h]
  exact ⟨e, by rw [lookL, if_neg (by rw [e]; decide)]⟩
theorem getV_gF {t : List UInt8} (h1 : 1 ≤ t.length) (h4 : t.length ≤ 4) : getV t = gF t := by
  apply UInt32.toNat_inj.1
  rw [getV, if_neg (by omega), getTo_nat _ _ (Nat.le_refl _) h4, List.take_length, gF_nat _ h4]
theorem place_len {r : Rl} (h : endOf r ≤ s.length) : ((s.drop r.off.toNat).take (widthN r.kind)).length = widthN r.kind := by
  rw [List.length_take, List.length_drop]; unfold endOf at h; omega
theorem seen_step (h0 : widthN (x.rl.getD k Rl.zero).kind ≠ 0) (h : endOf (x.rl.getD k Rl.zero) ≤ s.length) (hk : k < x.rl.length) :
    (x.rl.take k).map (seenR s) ++ [getV ((s.drop (x.rl.getD k Rl.zero).off.toNat).take (widthN (x.rl.getD k Rl.zero).kind)) - (x.rl.getD k Rl.zero).add] = (x.rl.take (k + 1)).map (seenR s) := by
  have hl := place_len h
  have h4 := width_le (x.rl.getD k Rl.zero).kind
  rw [getV_gF (by omega) (by omega), List.take_add_one, List.map_append]
  congr 1
  rw [List.getElem?_eq_getElem hk, Option.toList_some, List.map_singleton]
  rw [show x.rl.getD k Rl.zero = x.rl[k] by simp [List.getD, hk]]
  rfl
end
end Go.Spec
/-! from SpecRel2 -/
/- Symbols' bytes, as the document has it. Plain Lean. -/
namespace Go.Spec
open Go.Owl
section
variable {x : Sy} {k j m : Nat} {s : List UInt8} {r : Rl} {v : UInt32} {ads : List UInt32}
theorem fill_lenB (h : symB x = true) (hk : k ≤ x.rl.length) : (fillN (baseB x) x.rl ads k).length = x.size.toNat := by
  have h1 := sym_fits h
  have e := baseB_len h1.1
  rw [fillN_len (fun j hj => by rw [e]; exact Nat.le_trans (h1.2.2 j hj) h1.1) k hk, e]
end
def nameSum (l : List Rl) : Nat → Nat
  | 0 => 0
  | j + 1 => nameSum l j + (l.getD j Rl.zero).nm.length / 64
def syN (x : Sy) : Nat := x.rl.length / 4 + x.nt.length / 4 + x.b.length / 64 + x.nm.length / 16
def sySum (l : List Sy) : Nat → Nat
  | 0 => 0
  | k + 1 => sySum l k + syN (l.getD k Sy.zero) + nameSum (l.getD k Sy.zero).rl (min (l.getD k Sy.zero).rl.length 1100)
def obSum (l : List Ob) : Nat → Nat
  | 0 => 0
  | i + 1 => obSum l i + (l.getD i Ob.zero).sy.length + sySum (l.getD i Ob.zero).sy (min (l.getD i Ob.zero).sy.length 200)
def lg08 (l : List Ob) : Bool := decide (l.length > 20) || decide (obSum l (min l.length 40) > 2000)
end Go.Spec
/-! from SpecRel3 -/
/- Copies of symbols: what is new hangs on what is new. -/
namespace Go.Owl
section
variable {S : List Nat} {w0 w : World} {L : List Ent} {i : Nat}
end
end Go.Owl
namespace Go.Spec
open Go.Owl
section
variable {S : List Nat} {w0 w : World} {L : List Ent} {a b d : Nat}
def Fit (x : Sy) : Prop := x.nm.length < 2 ^ 48 ∧ x.b.length < 2 ^ 48 ∧ x.rl.length < 2 ^ 48 ∧ x.nt.length < 2 ^ 48 ∧ ∀ y ∈ x.rl, y.nm.length < 2 ^ 48
theorem fit_zero : Fit Sy.zero := ⟨by decide, by decide, by decide, by decide, fun y hy => by cases hy⟩
theorem fit_getD {l : List Sy} (h : ∀ x ∈ l, Fit x) (k : Nat) : Fit (l.getD k Sy.zero) := by
  rcases Nat.lt_or_ge k l.length with hk | hk
  · rw [show l.getD k Sy.zero = l[k] by simp [List.getD, hk]]; exact h _ (List.getElem_mem hk)
  · rw [show l.getD k Sy.zero = Sy.zero by simp [List.getD, Nat.not_lt.2 hk]]; exact fit_zero
theorem nameSum_le {l : List Rl} (h : ∀ y ∈ l, y.nm.length < 2 ^ 48) : ∀ j, nameSum l j ≤ j * 2 ^ 42
  | 0 => by simp [nameSum]
  | j + 1 => by
    have h1 := nameSum_le h j
    have h2 := getD_name h j
    rw [nameSum, Nat.add_mul]; omega
theorem syN_le {x : Sy} (h : Fit x) : syN x ≤ 2 ^ 48 := by
  obtain ⟨h1, h2, h3, h4, _⟩ := h
  unfold syN; omega
theorem nameSum_le1 {x : Sy} (h : Fit x) {j : Nat} (hj : j ≤ 1100) : nameSum x.rl j ≤ 2 ^ 53 := by
  have := nameSum_le h.2.2.2.2 j
  have : j * 2 ^ 42 ≤ 1100 * 2 ^ 42 := Nat.mul_le_mul_right _ hj
  omega
theorem sySum_le {l : List Sy} (h : ∀ x ∈ l, Fit x) : ∀ k, sySum l k ≤ k * 2 ^ 54
  | 0 => by simp [sySum]
  | k + 1 => by
    have h1 := sySum_le h k
    have hf := fit_getD h k
    have h2 := syN_le hf
    have h3 := nameSum_le1 hf (j := min (l.getD k Sy.zero).rl.length 1100) (by omega)
    rw [sySum, Nat.add_mul]; omega
def FitO (o : Ob) : Prop := o.sy.length < 2 ^ 48 ∧ ∀ x ∈ o.sy, Fit x
theorem fitO_getD {l : List Ob} (h : ∀ x ∈ l, FitO x) (k : Nat) : FitO (l.getD k Ob.zero) := by
  rcases Nat.lt_or_ge k l.length with hk | hk
  · rw [show l.getD k Ob.zero = l[k] by simp [List.getD, hk]]; exact h _ (List.getElem_mem hk)
  · rw [show l.getD k Ob.zero = Ob.zero by simp [List.getD, Nat.not_lt.2 hk]]; exact ⟨by decide, fun x hx => by cases hx⟩
theorem obSum_le {l : List Ob} (h : ∀ x ∈ l, FitO x) : ∀ i, i ≤ 40 → obSum l i ≤ i * (2 ^ 48 + 200 * 2 ^ 54)
  | 0, _ => by simp [obSum]
  | i + 1, hi => by
    have h1 := obSum_le h i (by omega)
    have hf := fitO_getD h i
    have h2 := sySum_le hf.2 (min (l.getD i Ob.zero).sy.length 200)
    have h3 : min (l.getD i Ob.zero).sy.length 200 * 2 ^ 54 ≤ 200 * 2 ^ 54 := Nat.mul_le_mul_right _ (by omega)
    have h4 := hf.1
    rw [obSum, Nat.add_mul]; omega
/-- One symbol that is not too large. -/
theorem lg_one {nm : List UInt8} {v : Value} {x : Sy} (h : lg08 [⟨nm, v, [x]⟩] = false) : x.b.length < 2 ^ 18 ∧ x.rl.length < 2 ^ 14 ∧ x.nt.length < 2 ^ 14 ∧ x.nm.length < 2 ^ 16 := by
  rw [lg08, Bool.or_eq_false_iff] at h
  have h1 := of_decide_eq_false h.2
  have e : obSum [⟨nm, v, [x]⟩] (min [(⟨nm, v, [x]⟩ : Ob)].length 40) = 0 + 1 + (0 + syN x + nameSum x.rl (min x.rl.length 1100)) := rfl
  rw [e] at h1
  unfold syN at h1
  omega
end
end Go.Spec
/-! from SpecRel4 -/
/- What RelocFills asks. Plain Lean. -/
namespace Go.Spec
open Go.Owl
def large15 (x : Sy) (ads : List UInt32) : Bool := lg08 [⟨[], .slice none 0 0, [x]⟩] || decide (ads.length > 1200)
def Bd (x : Sy) : Prop := x.nm.length < 2 ^ 47 ∧ x.b.length < 2 ^ 32 ∧ (∀ y ∈ x.rl, y.nm.length < 2 ^ 47) ∧ x.rl.length < 2 ^ 40 ∧ x.nt.length < 2 ^ 40
section
variable {x y : Sy} {ads : List UInt32} {s : List UInt8}
theorem fitO_one {nm : List UInt8} {v : Value} (h : Fit x) : ∀ o ∈ [(⟨nm, v, [x]⟩ : Ob)], FitO o := fun o ho => by
  rw [List.mem_singleton] at ho; subst ho
  exact ⟨by show 1 < 2 ^ 48; decide, fun y hy => by
    rw [show (⟨nm, v, [x]⟩ : Ob).sy = [x] from rfl, List.mem_singleton] at hy
    subst hy; exact h⟩
theorem large15_no (hf : ∀ y ∈ x.rl, y.nm.length < 2 ^ 47) (h : large15 x ads = false) : Bd x ∧ ads.length ≤ 1200 := by
  rw [large15, Bool.or_eq_false_iff] at h
  have h1 := lg_one h.1
  have h2 := of_decide_eq_false h.2
  exact ⟨⟨by omega, by omega, hf, by omega, by omega⟩, by omega⟩
end
end Go.Spec
/-! from SpecRel5 -/
/- What was filled in is seen; elsewhere all is as it was. Plain Lean. -/
namespace Go.Spec
open Go.Owl
section
variable {b s : List UInt8} {off e idx : Nat}
theorem put_take (h : e ≤ off) (hb : off ≤ b.length) : (putAt b off s).take e = b.take e := by
  rw [putAt, List.take_append_of_le_length (by rw [List.length_take]; omega), List.take_take, Nat.min_eq_left h]
theorem put_here (hb : off ≤ b.length) : ((putAt b off s).drop off).take s.length = s := by
  have h1 : (b.take off).length = off := by rw [List.length_take]; omega
  rw [putAt, List.drop_left' h1, List.take_left]
theorem put_get (hb : off ≤ b.length) (h : ¬ (off ≤ idx ∧ idx < off + s.length)) : (putAt b off s).getD idx 0 = b.getD idx 0 := by
  have h1 : (b.take off).length = off := by rw [List.length_take]; omega
  rw [List.getD, List.getD, putAt]
  by_cases h2 : idx < off
  · rw [List.getElem?_append_left (by omega), List.getElem?_take, if_pos h2]
  · rw [List.getElem?_append_right (by omega), List.getElem?_append_right (by omega), List.getElem?_drop, h1, show off + s.length + (idx - off - s.length) = idx by omega]
end
section
variable {x : Sy} {ads : List UInt32} {up : UInt32} {i j k idx : Nat}
end
section
variable {x : Sy} {ads : List UInt32} {up : UInt32} {i j k idx : Nat}
theorem ends_up (h : symB x = true) : ∀ j, j ≤ x.rl.length → ∀ i, i < j → endOf (x.rl.getD i Rl.zero) ≤ endAt x.rl j
  | 0, _, i, hi => by omega
  | j + 1, hj, i, hi => by
    have h1 := relOk_iff.1 (rels_each (symB_iff.1 h).2.2.2.2.2.1 j (by omega))
    show _ ≤ endOf (x.rl.getD j Rl.zero)
    rcases Nat.lt_or_ge i j with h2 | h2
    · have h3 := ends_up h j (by omega) i h2
      have h4 := h1.2.2.2.1
      unfold endOf at *; omega
    · rw [show i = j by omega]; exact Nat.le_refl _
theorem end_off (h : symB x = true) (hj : j < x.rl.length) (hi : i < j) : endOf (x.rl.getD i Rl.zero) ≤ (x.rl.getD j Rl.zero).off.toNat :=
  Nat.le_trans (ends_up h j (by omega) i hi) (relOk_iff.1 (rels_each (symB_iff.1 h).2.2.2.2.2.1 j hj)).2.2.2.1
theorem off_le (h : symB x = true) (hj : j < x.rl.length) (hk : k ≤ x.rl.length) : (x.rl.getD j Rl.zero).off.toNat ≤ (fillN (baseB x) x.rl ads k).length := by
  rw [fill_lenB h hk]
  have := (sym_place h hj).2.2
  unfold endOf at this; omega
theorem fill_keep (h : symB x = true) (hi : i < x.rl.length) : ∀ k, i < k → k ≤ x.rl.length → (fillN (baseB x) x.rl ads k).take (endOf (x.rl.getD i Rl.zero)) = (fillN (baseB x) x.rl ads (i + 1)).take (endOf (x.rl.getD i Rl.zero))
  | 0, hk, _ => by omega
  | k + 1, hk, hn => by
    rcases Nat.lt_or_ge i k with h1 | h1
    · rw [fillN, put_take (end_off h (by omega) h1) (off_le h (by omega) (by omega)), fill_keep h hi k h1 (by omega)]
    · rw [show i = k by omega]
theorem fill_seen (h : symB x = true) (hi : i < x.rl.length) : ((fillN (baseB x) x.rl ads x.rl.length).drop (x.rl.getD i Rl.zero).off.toNat).take (widthN (x.rl.getD i Rl.zero).kind) = relBytes (x.rl.getD i Rl.zero) (ads.getD i 0) := by
  have e : ∀ L : List UInt8, (L.drop (x.rl.getD i Rl.zero).off.toNat).take (widthN (x.rl.getD i Rl.zero).kind) = (L.take (endOf (x.rl.getD i Rl.zero))).drop (x.rl.getD i Rl.zero).off.toNat := fun L => by
    rw [List.drop_take]; congr 1; unfold endOf; omega
  rw [e, fill_keep h hi _ hi (Nat.le_refl _), ← e, fillN]
  have hp := put_here (s := relBytes (x.rl.getD i Rl.zero) (ads.getD i 0)) (off_le (ads := ads) (k := i) h hi (by omega))
  rwa [relBytes_len] at hp
theorem gF_rB {v : UInt32} {w : Nat} (h : w = 4 ∨ (w = 2 ∧ v.toNat ≤ 65535)) : gF (rB v w) = v := by
  apply UInt32.toNat_inj.1
  have hv := v.toNat_lt
  rcases h with rfl | ⟨rfl, h⟩
  · rw [gF_nat _ (by rw [rB_length]; exact Nat.le_refl _), natLE_rB, Nat.mod_eq_of_lt (by simpa using hv)]
  · rw [gF_nat _ (by rw [rB_length]; decide), natLE_rB, Nat.mod_eq_of_lt (by show v.toNat < 65536; omega)]
theorem fill_0 (h : fillE x ads = 0) : symB x = true ∧ ads.length = x.rl.length ∧ ∀ j, j < x.rl.length → overB (x.rl.getD j Rl.zero) (ads.getD j 0) = false := by
  unfold fillE at h
  split at h
  · rename_i h1
    split at h
    · rename_i h2
      refine ⟨h1.1, h1.2, fun j hj => ?_⟩
      have h3 := (List.all_eq_true.1 h2) j (List.mem_range.2 hj)
      simpa using h3
    · cases h
  · cases h
theorem fillS_0 (h : fillE x ads = 0) : fillS x ads = fillN (baseB x) x.rl ads x.rl.length := by rw [fillS, if_pos h]
theorem fillS_no (h : fillE x ads ≠ 0) : fillS x ads = [] := by rw [fillS, if_neg h]
theorem fillS_len (h : fillE x ads = 0) : (fillS x ads).length = x.size.toNat := by rw [fillS_0 h, fill_lenB (fill_0 h).1 (Nat.le_refl _)]
theorem seen_fill (h : fillE x ads = 0) (hi : i < x.rl.length) : seenR (fillS x ads) (x.rl.getD i Rl.zero) = ads.getD i 0 := by
  obtain ⟨h1, h2, h3⟩ := fill_0 h
  have h4 := sym_place h1 hi
  rw [seenR, fillS_0 h, fill_seen h1 hi, relBytes, gF_rB, relV]
  · exact UInt32.add_sub_cancel _ _
  · rcases width24 h4.1 with hw | hw
    · right
      refine ⟨hw, ?_⟩
      have h5 := h3 i hi
      rw [overB, ovB, decide_eq_true hw, Bool.true_and] at h5
      have h6 := of_decide_eq_false h5
      rw [gt_iff_lt, UInt32.lt_iff_toNat_lt] at h6
      exact Nat.le_of_not_lt h6
    · exact .inl hw
theorem look_ads (h : fillE x ads = 0) : lookE x (fillS x ads) = 0 ∧ lookL x (fillS x ads) = ads := by
  obtain ⟨h1, h2, h3⟩ := fill_0 h
  have h4 := look_0 h1 (fillS_len h)
  refine ⟨h4.1, ?_⟩
  rw [h4.2]
  refine List.ext_getElem (by rw [List.length_map, h2]) fun i hi hj => ?_
  rw [List.length_map] at hi
  rw [List.getElem_map]
  have h5 := seen_fill h hi
  rw [show x.rl.getD i Rl.zero = x.rl[i] by simp [List.getD, hi], show ads.getD i 0 = ads[i] by simp [List.getD, hj]] at h5
  exact h5
def moreV (x : Sy) (ads : List UInt32) (up : UInt32) (i : Nat) : UInt32 := bif decide (i < x.rl.length) && decide ((x.rl.getD i Rl.zero).kind = 2) then ads.getD i 0 else ads.getD i 0 + up
def moreL (x : Sy) (ads : List UInt32) (up : UInt32) : List UInt32 := (List.range ads.length).map (moreV x ads up)
theorem more_len : (moreL x ads up).length = ads.length := by rw [moreL, List.length_map, List.length_range]
theorem more_get (hi : i < ads.length) : (moreL x ads up).getD i 0 = moreV x ads up i := by
  rw [List.getD, moreL, List.getElem?_map, List.getElem?_range hi]; rfl
theorem more_step {v : UInt32} (h : moreV x ads up k = v) : (List.range k).map (moreV x ads up) ++ [v] = (List.range (k + 1)).map (moreV x ads up) := by
  rw [List.range_succ, List.map_append, List.map_singleton, h]
theorem more_1 (h1 : decide (k < x.rl.length) = true) (h2 : decide ((x.rl.getD k Rl.zero).kind = 2) = true) : moreV x ads up k = ads.getD k 0 := by rw [moreV, h1, h2]; rfl
theorem more_2 (h1 : decide (k < x.rl.length) = false) : moreV x ads up k = ads.getD k 0 + up := by rw [moreV, h1]; rfl
theorem more_3 (h2 : decide ((x.rl.getD k Rl.zero).kind = 2) = false) : moreV x ads up k = ads.getD k 0 + up := by rw [moreV, h2, Bool.and_false]; rfl
theorem more_fill (h : fillE x ads = 0) : fillE x (moreL x ads up) = 0 := by
  obtain ⟨h1, h2, h3⟩ := fill_0 h
  refine (fill_end h1 (by rw [more_len, h2]) (fun j hj => ?_)).1
  rw [more_get (by omega)]
  cases hk : decide ((x.rl.getD j Rl.zero).kind = 2) with
  | true => rw [more_1 (decide_eq_true hj) hk]; exact h3 j hj
  | false =>
    have h4 := width4 hk (sym_place h1 hj).1
    rw [overB, ovB, h4]; rfl
theorem base_get (x : Sy) (idx : Nat) : (baseB x).getD idx 0 = if idx < x.b.length then x.b.getD idx 0 else 0 := by
  rw [List.getD, baseB]
  split
  · rename_i h; rw [List.getElem?_append_left h]; rfl
  · rename_i h
    rw [List.getElem?_append_right (by omega), List.getElem?_replicate]
    split <;> rfl
theorem fill_out (h : symB x = true) (ho : ∀ j, j < x.rl.length → ¬ ((x.rl.getD j Rl.zero).off.toNat ≤ idx ∧ idx < endOf (x.rl.getD j Rl.zero))) : ∀ k, k ≤ x.rl.length → (fillN (baseB x) x.rl ads k).getD idx 0 = (baseB x).getD idx 0
  | 0, _ => rfl
  | k + 1, hk => by
    rw [fillN, put_get (off_le h (by omega) (by omega)) (by rw [relBytes_len]; exact ho k (by omega)), fill_out h ho k (by omega)]
theorem out_in (h : fillE x ads = 0) (ho : ∀ j, j < x.rl.length → ¬ ((x.rl.getD j Rl.zero).off.toNat ≤ idx ∧ idx < endOf (x.rl.getD j Rl.zero))) (hi : idx < x.b.length) : (fillS x ads).getD idx 0 = x.b.getD idx 0 := by
  rw [fillS_0 h, fill_out (fill_0 h).1 ho _ (Nat.le_refl _), base_get, if_pos hi]
theorem out_0 (h : fillE x ads = 0) (ho : ∀ j, j < x.rl.length → ¬ ((x.rl.getD j Rl.zero).off.toNat ≤ idx ∧ idx < endOf (x.rl.getD j Rl.zero))) (hi : ¬ idx < x.b.length) : (fillS x ads).getD idx 0 = 0 := by
  rw [fillS_0 h, fill_out (fill_0 h).1 ho _ (Nat.le_refl _), base_get, if_neg hi]
theorem mark_step {q : List Bool} {m : Nat} (hm : m < q.length) (h : (q.set m true).getD idx false = false) : idx ≠ m ∧ q.getD idx false = false := by
  by_cases e : idx = m
  · subst e
    rw [List.getD, List.getElem?_set_self hm] at h; cases h
  · refine ⟨e, ?_⟩
    rwa [List.getD, List.getElem?_set_ne (Ne.symm e)] at h
theorem out_next {n : Nat} {l : List Rl} (h : ∀ j, j < n → ¬ ((l.getD j Rl.zero).off.toNat ≤ idx ∧ idx < endOf (l.getD j Rl.zero))) (h2 : ¬ ((l.getD n Rl.zero).off.toNat ≤ idx ∧ idx < endOf (l.getD n Rl.zero))) : ∀ j, j < n + 1 → ¬ ((l.getD j Rl.zero).off.toNat ≤ idx ∧ idx < endOf (l.getD j Rl.zero)) := by
  intro j hj
  rcases Nat.lt_or_ge j n with h3 | h3
  · exact h j h3
  · rw [show j = n by omega]; exact h2
end
end Go.Spec
