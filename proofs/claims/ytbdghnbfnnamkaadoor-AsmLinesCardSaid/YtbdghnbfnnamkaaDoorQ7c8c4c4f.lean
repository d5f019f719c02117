/- General lemmas and walks: SpecDem, SpecDem0, SpecObj, SpecObj2, SpecInsn, LawInsn, SpecRef4, SpecSha, SpecHash, LawSha, SpecPack, SpecRel, SpecRel2, SpecRel3, SpecRel4, SpecRel5, SpecAsm, SpecAsm2, SpecAsm3, SpecAsm4, SpecAsm7. No condition but what each theorem names. -/
import Derived.Test.YtbdghnbfnnamkaaDoorQ94955992
import Derived.Test.YtbdghnbfnnamkaaDoorQf53d6c9f
/-! from SpecDem -/
/- Manifests: which may be. Plain Lean. -/
namespace Go.Owl
end Go.Owl
namespace Go.Spec
open Go.Owl
structure Xt where
  id : UInt32
  bl : UInt32
deriving DecidableEq
def Xt.zero : Xt := ⟨0, 0⟩
structure Sg where
  a : UInt32
  p : UInt8
  b : List UInt8
deriving DecidableEq
def Sg.zero : Sg := ⟨0, 0, []⟩
section
variable {α : Type} {p : α → Bool} {l : List α} {d : α} {k : Nat} {r : α → α → Bool}
/-- The first that is so. -/
def fidx (p : α → Bool) (l : List α) : Int := match l.findIdx? p with
  | some k => (k : Int)
  | none => -1
theorem getD_at (h : k < l.length) : l.getD k d = l[k] := by rw [List.getD, List.getElem?_eq_getElem h]; rfl
theorem fidx_yes (hk : k < l.length) (h : ∀ j, j < k → p (l.getD j d) = false) (hp : p (l.getD k d) = true) : fidx p l = (k : Int) := by
  have e : l.findIdx? p = some k := by
    rw [List.findIdx?_eq_some_iff_getElem]
    refine ⟨hk, by rw [getD_at hk] at hp; exact hp, fun j hj => ?_⟩
    have h1 := h j hj
    rw [getD_at (by omega)] at h1
    simp [h1]
  rw [fidx, e]
theorem fidx_no (h : ∀ j, j < l.length → p (l.getD j d) = false) : fidx p l = -1 := by
  have e : l.findIdx? p = none := by
    rw [List.findIdx?_eq_none_iff]
    intro x hx
    obtain ⟨j, hj, rfl⟩ := List.getElem_of_mem hx
    have h1 := h j hj
    rw [getD_at hj] at h1
    exact h1
  rw [fidx, e]
theorem fidx_any : decide (fidx p l ≥ 0) = l.any p := by
  rw [← List.findIdx?_isSome, fidx]
  cases l.findIdx? p with
  | none => rfl
  | some k => simp
theorem allPrev {P : Nat → Prop} (h : ∀ j, j < k → P j) (h2 : P k) : ∀ j, j < k + 1 → P j := fun j hj => by
  rcases Nat.lt_or_ge j k with h3 | h3
  · exact h j h3
  · rw [show j = k by omega]; exact h2
end
end Go.Spec
/-! from SpecDem0 -/
/- Manifests: which are the same, which may be. Plain Lean. -/
namespace Go.Owl
section
variable {S : List Nat} {w0 w : World} {L : List Ent} {i : Nat}
end
end Go.Owl
namespace Go.Spec
open Go.Owl
theorem list_eqD {α : Type} {d : α} {a b : List α} (hl : a.length = b.length) (h : ∀ j, j < a.length → a.getD j d = b.getD j d) : a = b := by
  refine List.ext_getElem hl fun i h1 h2 => ?_
  have := h i h1
  rwa [getD_at h1, getD_at h2] at this
section
variable {pg pg' : UInt32} {c c' : Bool} {xs xs' : List Xt} {ps ps' : List UInt16}
end
end Go.Spec
/-! from SpecObj -/
/- Symbols: which may be. Plain Lean. -/
namespace Go.Spec
open Go.Owl
structure Rl where
  off : UInt32
  kind : UInt8
  nm : List UInt8
  add : UInt32
deriving DecidableEq
def Rl.zero : Rl := ⟨0, 0, [], 0⟩
def rlc (x : Rl) : List Value := [vU32 x.off, vU8 x.kind, str x.nm, vU32 x.add]
structure Nt where
  kind : UInt8
  n : UInt32
  m : UInt32
deriving DecidableEq
def Nt.zero : Nt := ⟨0, 0, 0⟩
def ntc (x : Nt) : List Value := [vU8 x.kind, vU32 x.n, vU32 x.m]
structure Sy where
  nm : List UInt8
  bind : UInt8
  kind : UInt8
  size : UInt32
  b : List UInt8
  rv : Value
  rl : List Rl
  nv : Value
  nt : List Nt
def Sy.zero : Sy := ⟨[], 0, 0, 0, [], .slice none 0 0, [], .slice none 0 0, []⟩
def SyD : Deep Sy := ((Deep.arr 4 rlc).on (fun x : Sy => (x.rv, x.rl))).and ((Deep.arr 3 ntc).on (fun x : Sy => (x.nv, x.nt)))
structure Ob where
  nm : List UInt8
  sv : Value
  sy : List Sy
def Ob.zero : Ob := ⟨[], .slice none 0 0, []⟩
section
variable {w : World} {x : Sy} {o : Ob}
theorem SyD_mk (h : Arr w x.rv 4 x.rl.length (x.rl.flatMap rlc)) (k : Arr w x.nv 3 x.nt.length (x.nt.flatMap ntc)) : SyD.ok w x := ⟨h, k⟩
theorem SyD_rl (h : SyD.ok w x) : Arr w x.rv 4 x.rl.length (x.rl.flatMap rlc) := h.1
theorem SyD_nt (h : SyD.ok w x) : Arr w x.nv 3 x.nt.length (x.nt.flatMap ntc) := h.2
end
section
variable {p : UInt8 → Bool} {s t : List UInt8}
def trR (p : UInt8 → Bool) (s : List UInt8) : List UInt8 := (s.reverse.dropWhile p).reverse
def trL (p : UInt8 → Bool) (s : List UInt8) : List UInt8 := s.dropWhile p
theorem drop_le (p : UInt8 → Bool) : ∀ s : List UInt8, (s.dropWhile p).length ≤ s.length
  | [] => Nat.le_refl _
  | a :: s => by
    rw [List.dropWhile_cons]
    split
    · exact Nat.le_succ_of_le (drop_le p s)
    · exact Nat.le_refl _
theorem trR_len (p : UInt8 → Bool) (s : List UInt8) : (trR p s).length ≤ s.length := by
  rw [trR, List.length_reverse]
  have h := drop_le p s.reverse
  rwa [List.length_reverse] at h
theorem last_split (h : 0 < t.length) : t = t.take (t.length - 1) ++ [t.getD (t.length - 1) 0] := by
  have h1 : t.getD (t.length - 1) 0 = t[t.length - 1]'(by omega) := by rw [List.getD, List.getElem?_eq_getElem (by omega)]; rfl
  rw [h1]
  conv => lhs; rw [← List.take_append_drop (t.length - 1) t]
  rw [List.drop_eq_getElem_cons (by omega)]
  congr 2
  rw [List.drop_eq_nil_iff]; omega
theorem trR_step (h : 0 < t.length) (hp : p (t.getD (t.length - 1) 0) = true) : trR p (t.take (t.length - 1)) = trR p t := by
  have e : trR p t = trR p (t.take (t.length - 1) ++ [t.getD (t.length - 1) 0]) := congrArg (trR p) (last_split h)
  rw [e, trR, trR, List.reverse_append, List.reverse_singleton, List.singleton_append, List.dropWhile_cons, if_pos hp]
theorem trR_stop (h : 0 < t.length) (hp : p (t.getD (t.length - 1) 0) = false) : trR p t = t := by
  have e : trR p t = trR p (t.take (t.length - 1) ++ [t.getD (t.length - 1) 0]) := congrArg (trR p) (last_split h)
  rw [e, trR, List.reverse_append, List.reverse_singleton, List.singleton_append, List.dropWhile_cons, if_neg (by rw [hp]; decide), ← List.singleton_append, ← List.reverse_singleton, ← List.reverse_append, List.reverse_reverse]
  exact (last_split h).symm
theorem trL_step (h : 0 < t.length) (hp : p (t.getD 0 0) = true) : trL p (t.drop 1) = trL p t := by
  cases t with
  | nil => simp at h
  | cons a l =>
    rw [trL, trL, List.dropWhile_cons, if_pos (by simpa using hp)]; rfl
theorem trL_stop (h : 0 < t.length) (hp : p (t.getD 0 0) = false) : trL p t = t := by
  cases t with
  | nil => simp at h
  | cons a l =>
    have h1 : p a = false := by simpa using hp
    rw [trL, List.dropWhile_cons, if_neg (by rw [h1]; decide)]
theorem drop_all : ∀ {s : List UInt8}, s.dropWhile p = [] ↔ s.all p = true
  | [] => by simp
  | a :: s => by
    rw [List.dropWhile_cons, List.all_cons]
    cases h : p a with
    | true => simp [drop_all (s := s)]
    | false => simp
theorem trim_nil : trL p (trR p s) = [] ↔ s.all p = true := by
  rw [trL, drop_all]
  constructor
  · intro h
    rw [List.all_eq_true]
    have h1 : (trR p s).dropWhile p = [] := drop_all.2 h
    by_cases h0 : trR p s = []
    · have : s.reverse.dropWhile p = [] := by rw [trR, List.reverse_eq_nil_iff] at h0; exact h0
      have := drop_all.1 this
      rw [List.all_reverse, List.all_eq_true] at this; exact this
    · -- the last one that stays is none of p's
      have hr : s.reverse.dropWhile p ≠ [] := fun e => h0 (by rw [trR, e]; rfl)
      have hh := List.head?_dropWhile_not p s.reverse
      cases hd : s.reverse.dropWhile p with
      | nil => exact absurd hd hr
      | cons a l =>
        rw [hd] at hh
        simp only [List.head?_cons] at hh
        have hm : a ∈ trR p s := by rw [trR, hd]; simp
        have := (List.all_eq_true.1 h) a hm
        rw [this] at hh; simp at hh
  · intro h
    have : s.reverse.dropWhile p = [] := drop_all.2 (by rw [List.all_reverse]; exact h)
    rw [trR, this]; rfl
def tabB (cs : List UInt8) (k : Nat) : List Value := (List.range 256).map (fun i => .bool ((cs.take k).any (fun c => c.toNat == i)))
def inB (cs : List UInt8) (x : UInt8) : Bool := cs.any (fun c => c.toNat == x.toNat)
theorem tabB_0 (cs : List UInt8) : tabB cs 0 = List.replicate 256 (.bool false) := by
  rw [tabB]
  apply List.ext_getElem
  · simp only [List.length_map, List.length_range, List.length_replicate]
  · intro i h1 h2; simp only [List.getElem_map, List.take_zero, List.any_nil, List.getElem_replicate]
theorem tabB_len (cs : List UInt8) (k : Nat) : (tabB cs k).length = 256 := by simp only [tabB, List.length_map, List.length_range]
theorem tabB_succ {cs : List UInt8} {k : Nat} (h : k < cs.length) : (tabB cs k).set (cs.getD k 0).toNat (.bool true) = tabB cs (k + 1) := by
  have hg : cs.getD k 0 = cs[k] := by rw [List.getD, List.getElem?_eq_getElem h]; rfl
  rw [hg]
  apply List.ext_getElem
  · rw [List.length_set, tabB_len, tabB_len]
  · intro i h1 h2
    rw [List.getElem_set]
    simp only [tabB, List.getElem_map, List.getElem_range, List.take_add_one, List.any_append, List.getElem?_eq_getElem h, Option.toList_some, List.any_cons, List.any_nil, Bool.or_false]
    split
    · rename_i e; simp [e]
    · rename_i e
      have : (cs[k].toNat == i) = false := by simpa using e
      rw [this, Bool.or_false]
theorem tabB_get (cs : List UInt8) (x : UInt8) : (tabB cs cs.length)[x.toNat]? = some (.bool (inB cs x)) := by
  have := x.toNat_lt
  simp [tabB, inB, this]
end
theorem tabB_one (cs : List UInt8) (k : Nat) : (tabB cs k).all (·.oneCell') = true := by
  rw [List.all_eq_true]; intro v hv
  obtain ⟨i, _, rfl⟩ := List.mem_map.1 hv
  rfl
def nameC (c : UInt8) : Bool := (decide (c ≥ 97) && decide (c ≤ 122)) || (decide (c ≥ 48) && decide (c ≤ 57)) || decide (c = 46) || decide (c = 95)
def nameB (s : List UInt8) : Bool := s.all nameC && (decide (s.length ≥ 1) && decide (s.length ≤ 32))
def nameCs : List UInt8 := [97, 98, 99, 100, 101, 102, 103, 104, 105, 106, 107, 108, 109, 110, 111, 112, 113, 114, 115, 116, 117, 118, 119, 120, 121, 122, 48, 49, 50, 51, 52, 53, 54, 55, 56, 57, 46, 95]
theorem inB_name (x : UInt8) : inB nameCs x = nameC x := by
  have h : ∀ i : Fin 256, inB nameCs (UInt8.ofNat i.1) = nameC (UInt8.ofNat i.1) := by decide +kernel
  have h1 := h ⟨x.toNat, x.toNat_lt⟩
  rwa [UInt8.ofNat_toNat] at h1
theorem nameCs_low (k : Nat) (hk : k < nameCs.length) : ¬ (nameCs.getD k 0) ≥ (128 : UInt8) := by
  have h : ∀ j : Fin 38, ¬ (nameCs.getD j.1 0) ≥ (128 : UInt8) := by decide +kernel
  exact h ⟨k, hk⟩
theorem inB_nameF : inB nameCs = nameC := funext inB_name
section
variable {s : List UInt8} {k : Nat}
theorem name_trim (h1 : s ≠ []) (h2 : s.length ≤ 32) : decide (trL (inB nameCs) (trR (inB nameCs) s) = []) = nameB s := by
  rw [inB_nameF, nameB, decide_eq_true h2, decide_eq_true (show s.length ≥ 1 from List.length_pos_iff.2 h1)]
  rw [show (s.all nameC && (true && true)) = s.all nameC by simp]
  cases h : s.all nameC with
  | true => exact decide_eq_true (trim_nil.2 h)
  | false => exact decide_eq_false (fun e => by rw [trim_nil.1 e] at h; cases h)
theorem name_long (h : ¬ s.length ≤ 32) : nameB s = false := by
  rw [nameB, decide_eq_false h]; simp
end
end Go.Spec
/-! from SpecObj2 -/
/- Symbols: notes, places, sizes. Plain Lean. -/
namespace Go.Spec
open Go.Owl
def noteB (x : Nt) : Bool :=
  bif decide (x.kind = 1) then decide (x.n ≤ 1024) && decide (x.m = 0)
  else bif decide (x.kind = 2) then (decide (x.n < 16) && decide (x.m ≥ 1)) && decide (x.m ≤ 1024)
  else bif decide (x.kind = 3) then (decide (x.n ≥ 1) && decide (x.n ≤ 65535)) && decide (x.m = 0)
  else bif decide (x.kind = 4) then decide (x.n = 0) && decide (x.m = 0) else false
def toldN (b : Bool) : Nat := bif b then 0 else 2
def noteE (x : Nt) : Nat := toldN (noteB x)
theorem or_nil (a b : UInt32) : decide ((a ||| b) = 0) = (decide (a = 0) && decide (b = 0)) := by
  rw [← Bool.decide_and]
  refine decide_eq_decide.2 ⟨fun h => ?_, fun h => by rw [h.1, h.2]; rfl⟩
  have h1 : a.toBitVec ||| b.toBitVec = 0#32 := by
    have := congrArg UInt32.toBitVec h
    simpa using this
  have e : ∀ i, a.toBitVec.getLsbD i = false ∧ b.toBitVec.getLsbD i = false := fun i => by
    have := congrArg (fun v => BitVec.getLsbD v i) h1
    simpa using this
  exact ⟨UInt32.toBitVec_inj.1 (BitVec.eq_of_getLsbD_eq fun i _ => by simp [e i]), UInt32.toBitVec_inj.1 (BitVec.eq_of_getLsbD_eq fun i _ => by simp [e i])⟩
def widthN (k : UInt8) : Nat := bif decide (k = 1) then 4 else bif decide (k = 2) then 2 else 0
theorem width_le (k : UInt8) : widthN k ≤ 4 := by
  unfold widthN; cases decide (k = 1) <;> cases decide (k = 2) <;> simp
def endOf (x : Rl) : Nat := x.off.toNat + widthN x.kind
def endAt (l : List Rl) : Nat → Nat
  | 0 => 0
  | k + 1 => endOf (l.getD k Rl.zero)
def relOk (b e : Nat) (x : Rl) : Bool := (((decide (widthN x.kind ≠ 0) && nameB x.nm) && decide (x.off ≤ 8192)) && decide (e ≤ x.off.toNat)) && decide (endOf x ≤ b)
def relsB (b : Nat) (l : List Rl) : Bool := (List.range l.length).all (fun k => relOk b (endAt l k) (l.getD k Rl.zero)) && decide (l.length ≤ 1024)
section
variable {l : List Rl} {b e k : Nat} {x : Rl}
theorem rels_no (hk : k < l.length) (h : relOk b (endAt l k) (l.getD k Rl.zero) = false) : relsB b l = false := by
  have : (List.range l.length).all (fun k => relOk b (endAt l k) (l.getD k Rl.zero)) = false := by
    rw [Bool.eq_false_iff]; intro ha
    have := (List.all_eq_true.1 ha) k (List.mem_range.2 hk)
    rw [h] at this; cases this
  rw [relsB, this]; rfl
theorem rels_all (h : ∀ j, j < l.length → relOk b (endAt l j) (l.getD j Rl.zero) = true) : relsB b l = decide (l.length ≤ 1024) := by
  have : (List.range l.length).all (fun k => relOk b (endAt l k) (l.getD k Rl.zero)) = true := by
    rw [List.all_eq_true]; intro j hj; exact h j (List.mem_range.1 hj)
  rw [relsB, this]; rfl
theorem relOk_iff : relOk b e x = true ↔ widthN x.kind ≠ 0 ∧ nameB x.nm = true ∧ x.off.toNat ≤ 8192 ∧ e ≤ x.off.toNat ∧ endOf x ≤ b := by
  simp only [relOk, Bool.and_eq_true, decide_eq_true_eq, and_assoc, UInt32.le_iff_toNat_le]
  exact Iff.rfl
theorem relOk_no (h : ¬ (widthN x.kind ≠ 0 ∧ nameB x.nm = true ∧ x.off.toNat ≤ 8192 ∧ e ≤ x.off.toNat ∧ endOf x ≤ b)) : relOk b e x = false := by
  rw [Bool.eq_false_iff]; exact fun h1 => h (relOk_iff.1 h1)
theorem endAt_le (h : ∀ j, j < k → relOk b (endAt l j) (l.getD j Rl.zero) = true) : endAt l k ≤ b := by
  cases k with
  | zero => exact Nat.zero_le _
  | succ k => exact (relOk_iff.1 (h k (by omega))).2.2.2.2
theorem endAt_lt (h : ∀ j, j < k → relOk b (endAt l j) (l.getD j Rl.zero) = true) : endAt l k ≤ 8196 := by
  cases k with
  | zero => exact Nat.zero_le _
  | succ k =>
    have h1 := (relOk_iff.1 (h k (by omega))).2.2.1
    have := width_le (l.getD k Rl.zero).kind
    show endOf _ ≤ _
    unfold endOf; omega
end
def sizedB (x : Sy) : Bool := decide (1 ≤ x.size.toNat ∧ x.size.toNat ≤ 8192 ∧ x.b.length ≤ x.size.toNat ∧ (x.kind = 1 → x.b.length = x.size.toNat ∧ x.size.toNat % 8 = 0))
def symB (x : Sy) : Bool := nameB x.nm && decide (x.bind ≤ 2) && decide (x.kind ≥ 1) && decide (x.kind ≤ 3) && sizedB x && relsB x.b.length x.rl && decide (x.nt.length ≤ 8) && x.nt.all noteB
def symE (x : Sy) : Nat := toldN (symB x)
section
variable {x y : Sy}
theorem sized_iff : sizedB x = true ↔ 1 ≤ x.size.toNat ∧ x.size.toNat ≤ 8192 ∧ x.b.length ≤ x.size.toNat ∧ (x.kind = 1 → x.b.length = x.size.toNat ∧ x.size.toNat % 8 = 0) := by
  rw [sizedB, decide_eq_true_eq]
theorem sized_no (h : ¬ (1 ≤ x.size.toNat ∧ x.size.toNat ≤ 8192 ∧ x.b.length ≤ x.size.toNat ∧ (x.kind = 1 → x.b.length = x.size.toNat ∧ x.size.toNat % 8 = 0))) : sizedB x = false := by
  rw [Bool.eq_false_iff]; exact fun h1 => h (sized_iff.1 h1)
/-- The same but for where the slices lie. -/
def Sy.bare (x : Sy) : Sy := { x with rv := .slice none 0 0, nv := .slice none 0 0 }
end
theorem any_not_all {α : Type} (p : α → Bool) : ∀ l : List α, (l.any fun x => !p x) = !l.all p
  | [] => rfl
  | a :: l => by rw [List.any_cons, any_not_all p l, List.all_cons]; cases p a <;> simp
theorem u32_lt_nat {a : UInt32} {n : Nat} (hn : n < 2 ^ 32) : decide (a < UInt32.ofNat n) = decide (a.toNat < n) := by
  refine decide_eq_decide.2 ?_
  rw [UInt32.lt_iff_toNat_lt, UInt32.toNat_ofNat', Nat.mod_eq_of_lt hn]
theorem u32_gt_nat {a : UInt32} {n : Nat} (hn : n < 2 ^ 32) : decide (UInt32.ofNat n > a) = decide (n > a.toNat) := by
  refine decide_eq_decide.2 ?_
  rw [gt_iff_lt, UInt32.lt_iff_toNat_lt, UInt32.toNat_ofNat', Nat.mod_eq_of_lt hn]
/-- A size, as the program asks. -/
def sizedU (x : Sy) : Bool := bif decide (x.size < 1) then false else bif decide (x.size > 8192) then false else bif decide (UInt32.ofNat x.b.length > x.size) then false else
  bif decide (x.kind ≠ 1) then true else bif decide (UInt32.ofNat x.b.length = x.size) then decide (UInt32.ofNat x.b.length % 8 = 0) else false
theorem sized_eq {x : Sy} (hb : x.b.length < 2 ^ 32) : sizedB x = sizedU x := by
  have hz := x.size.toNat_lt
  have e1 : decide (x.size < 1) = decide (x.size.toNat < 1) := decide_eq_decide.2 (by rw [UInt32.lt_iff_toNat_lt]; rfl)
  have e2 : decide (x.size > 8192) = decide (x.size.toNat > 8192) := decide_eq_decide.2 (by rw [gt_iff_lt, UInt32.lt_iff_toNat_lt]; rfl)
  have e4 : decide (UInt32.ofNat x.b.length = x.size) = decide (x.b.length = x.size.toNat) := decide_eq_decide.2 (by rw [← UInt32.toNat_inj, UInt32.toNat_ofNat', Nat.mod_eq_of_lt hb])
  have e5 : decide (UInt32.ofNat x.b.length % 8 = 0) = decide (x.b.length % 8 = 0) := decide_eq_decide.2 (by rw [← UInt32.toNat_inj, UInt32.toNat_mod, UInt32.toNat_ofNat', Nat.mod_eq_of_lt hb]; rfl)
  rw [sizedU, e1, e2, u32_gt_nat hb, e4, e5]
  have key : sizedB x = (bif decide (x.size.toNat < 1) then false else bif decide (x.size.toNat > 8192) then false else bif decide (x.b.length > x.size.toNat) then false else
    bif decide (x.kind ≠ 1) then true else bif decide (x.b.length = x.size.toNat) then decide (x.b.length % 8 = 0) else false) := by
    by_cases h1 : x.size.toNat < 1
    · rw [sized_no (by omega), decide_eq_true h1]; rfl
    by_cases h2 : x.size.toNat > 8192
    · rw [sized_no (by omega), decide_eq_false h1, decide_eq_true h2]; rfl
    by_cases h3 : x.b.length > x.size.toNat
    · rw [sized_no (by omega), decide_eq_false h1, decide_eq_false h2, decide_eq_true h3]; rfl
    rw [decide_eq_false h1, decide_eq_false h2, decide_eq_false h3]
    by_cases h4 : x.kind = 1
    · rw [decide_eq_false (show ¬ (x.kind ≠ 1) from fun h => h h4)]
      by_cases h5 : x.b.length = x.size.toNat
      · rw [decide_eq_true h5]
        by_cases h6 : x.b.length % 8 = 0
        · rw [decide_eq_true h6, sized_iff.2 ⟨by omega, by omega, by omega, fun _ => ⟨h5, by omega⟩⟩]; rfl
        · rw [decide_eq_false h6, sized_no (fun h => h6 (by have := (h.2.2.2 h4).2; omega))]; rfl
      · rw [decide_eq_false h5, sized_no (fun h => h5 (h.2.2.2 h4).1)]; rfl
    · rw [decide_eq_true h4, sized_iff.2 ⟨by omega, by omega, by omega, fun h => absurd h h4⟩]; rfl
  exact key
section
variable {x : Rl} {b e : Nat} {l : List Rl} {k : Nat}
theorem getD_name {B : Nat} (h : ∀ y ∈ l, y.nm.length < B) (k : Nat) (hB : 0 < B := by decide) : (l.getD k Rl.zero).nm.length < B := by
  rcases Nat.lt_or_ge k l.length with hk | hk
  · rw [show l.getD k Rl.zero = l[k] by simp [List.getD, hk]]; exact h _ (List.getElem_mem hk)
  · rw [show l.getD k Rl.zero = Rl.zero by simp [List.getD, Nat.not_lt.2 hk]]; exact hB
theorem off_nat (h : decide (x.off > 8192) = false) : x.off.toNat ≤ 8192 := by
  have := of_decide_eq_false h
  rw [gt_iff_lt, UInt32.lt_iff_toNat_lt] at this
  exact Nat.le_of_not_lt this
theorem end_nat {n : Nat} {v : UInt32} (hv : v.toNat = n) (hn : n ≤ 4) (h : x.off.toNat ≤ 8192) : (x.off + v).toNat = x.off.toNat + n := by
  rw [UInt32.toNat_add, hv, Nat.mod_eq_of_lt (by omega)]
theorem end_U {v : UInt32} (hw : widthN x.kind = v.toNat) (h : decide (x.off > 8192) = false) : x.off + v = UInt32.ofNat (endOf x) := by
  have h1 := off_nat h
  have h4 := width_le x.kind
  apply UInt32.toNat_inj.1
  rw [end_nat hw.symm h4 h1, UInt32.toNat_ofNat', endOf, Nat.mod_eq_of_lt (by omega)]
theorem over_U {v : UInt32} (hw : widthN x.kind = v.toNat) (h : decide (x.off > 8192) = false) (hb : b < 2 ^ 32) : decide (x.off + v > UInt32.ofNat b) = decide (endOf x > b) := by
  have h1 := off_nat h
  have h4 := width_le x.kind
  refine decide_eq_decide.2 ?_
  rw [gt_iff_lt, UInt32.lt_iff_toNat_lt, UInt32.toNat_ofNat', Nat.mod_eq_of_lt hb, end_nat hw.symm h4 h1]
  exact Iff.rfl
theorem relOk_yes {v : UInt32} (hw : widthN x.kind = v.toNat) (h1 : nameB x.nm = true) (h2 : decide (x.off < UInt32.ofNat e) = false) (h3 : decide (x.off > 8192) = false) (h4 : decide (x.off + v > UInt32.ofNat b) = false) (he : e < 2 ^ 32) (hb : b < 2 ^ 32) (h0 : v.toNat ≠ 0 := by decide) : relOk b e x = true := by
  rw [over_U hw h3 hb] at h4
  rw [u32_lt_nat he] at h2
  have := of_decide_eq_false h2; have := of_decide_eq_false h4
  exact relOk_iff.2 ⟨by rw [hw]; exact h0, h1, off_nat h3, by omega, by omega⟩
theorem relOk_k (h : widthN x.kind = 0) : relOk b e x = false := relOk_no (fun h1 => h1.1 h)
theorem relOk_n (h : nameB x.nm = false) : relOk b e x = false := relOk_no (fun h1 => by rw [h] at h1; cases h1.2.1)
theorem relOk_e (h : decide (x.off < UInt32.ofNat e) = true) (he : e < 2 ^ 32) : relOk b e x = false := by
  rw [u32_lt_nat he] at h
  have := of_decide_eq_true h
  exact relOk_no (fun h1 => by have := h1.2.2.2.1; omega)
theorem relOk_b (h : decide (x.off > 8192) = true) : relOk b e x = false := by
  have := of_decide_eq_true h
  rw [gt_iff_lt, UInt32.lt_iff_toNat_lt] at this
  exact relOk_no (fun h1 => by have h2 := h1.2.2.1; have : 8192 < x.off.toNat := this; omega)
theorem relOk_o {v : UInt32} (hw : widthN x.kind = v.toNat) (h : decide (x.off > 8192) = false) (h1 : decide (x.off + v > UInt32.ofNat b) = true) (hb : b < 2 ^ 32) : relOk b e x = false := by
  rw [over_U hw h hb] at h1
  have := of_decide_eq_true h1
  exact relOk_no (fun h1 => by have := h1.2.2.2.2; omega)
end
section
variable {x : Sy} {k : Nat}
/-- A symbol, as the program asks. -/
def symU (x : Sy) : Bool := bif nameB x.nm then bif decide (x.bind ≤ 2) then bif decide (x.kind ≥ 1) then bif decide (x.kind ≤ 3) then bif sizedB x then bif relsB x.b.length x.rl then bif decide (x.nt.length ≤ 8) then !(x.nt.any fun n => !noteB n) else false else false else false else false else false else false else false
theorem sym_eq : symB x = symU x := by
  rw [symU, any_not_all, symB, Bool.not_not]
  cases nameB x.nm <;> cases decide (x.bind ≤ 2) <;> cases decide (x.kind ≥ 1) <;> cases decide (x.kind ≤ 3) <;> cases sizedB x <;> cases relsB x.b.length x.rl <;> cases decide (x.nt.length ≤ 8) <;> simp
end
end Go.Spec
/-! from SpecInsn -/
/- What the instructions' functions say, in plain Lean. -/
namespace Go.Spec
open Go.Owl

def le4 (v : UInt32) : List UInt8 := [UInt8.ofNat v.toNat, UInt8.ofNat (shrU32 v 8).toNat, UInt8.ofNat (shrU32 v 16).toNat, UInt8.ofNat (shrU32 v 24).toNat]
theorem le4_length (v : UInt32) : (le4 v).length = 4 := rfl
theorem set_map {α β : Type} (f : α → β) (l : List α) (k : Nat) (x : α) : (l.map f).set k (f x) = (l.set k x).map f := List.map_set.symm
theorem one_U8 (l : List UInt8) : (l.map vU8).all (·.oneCell') = true := by simp [Value.oneCell']
def tab0 : List UInt8 := (((List.replicate 256 (0 : UInt8)).mapIdx fun i _ =>
  if i = 17 ∨ i = 19 ∨ i = 22 ∨ i = 23 ∨ i = 24 ∨ i = 25 ∨ i = 26 ∨ i = 29 ∨ i = 30 ∨ i = 33 ∨ i = 34 then 11
  else if i = 32 ∨ i = 41 then 9 else if i = 35 ∨ i = 36 ∨ i = 43 ∨ i = 44 ∨ i = 45 ∨ i = 46 then 14 else if i = 40 ∨ i = 50 then 8 else if i = 42 then 2 else 0))
def tabTo : Nat → List UInt8
  | 0 => tab0
  | k + 1 => (tabTo k).set (k + 1) 7
def tabL : List UInt8 := tabTo 14
theorem tabTo_length : ∀ k, (tabTo k).length = 256
  | 0 => by decide +kernel
  | k + 1 => by simp [tabTo, tabTo_length k]
def useOf (op : UInt8) : UInt8 := tabL.getD op.toNat 0
def fitB (u n bit : UInt8) : Bool := decide (n = 0) || (decide (u &&& bit ≠ 0) && decide (n < 16))
def okB (op d a b : UInt8) (imm : UInt32) : Bool :=
  !decide (useOf op = 0) && fitB (useOf op) d 1 && fitB (useOf op) a 2 && fitB (useOf op) b 4 && (decide (useOf op &&& 8 ≠ 0) || decide (imm = 0))
def encE (op d a b : UInt8) (imm : UInt32) : Nat := if okB op d a b imm then 0 else 2
def encS (op d a b : UInt8) (imm : UInt32) : List UInt8 := if okB op d a b imm then [op, d ||| shlU8 a 4, b, 0] ++ le4 imm else []
theorem encS_length (op d a b : UInt8) (imm : UInt32) : (encS op d a b imm).length ≤ 8 := by unfold encS; split <;> simp [le4]
end Go.Spec
/-! from LawInsn -/
/- Plain laws of the instructions' bytes. -/
namespace Go.Spec
open Go.Owl

end Go.Spec
/-! from SpecRef4 -/
/- What the reference of layer 4 says, in plain Lean, and that it says the same. -/
namespace Go.Spec
open Go.Owl

def ub (op bit : UInt8) : Bool := decide (useOf op &&& bit ≠ 0)
def useE (op : UInt8) : Nat := if useOf op = 0 then 2 else 0

theorem op_all {p : UInt8 → Bool} (h : ((List.range 256).all fun k => p (UInt8.ofNat k)) = true) (op : UInt8) : p op = true := by
  have := List.all_eq_true.mp h op.toNat (List.mem_range.mpr op.toNat_lt)
  simpa using this
theorem b16 (b : UInt8) : b % 16 = b &&& 15 ∧ b / 16 = shrU8 b 4 := by
  have := op_all (p := fun b => b % 16 == b &&& 15 && b / 16 == shrU8 b 4) (by decide +kernel) b
  simpa using this
end Go.Spec
/-! from SpecSha -/
/- SHA-256 in plain Lean. -/
namespace Go.Spec
open Go.Owl
def rot (x : UInt32) (n : Nat) : UInt32 := shrU32 x n ||| shlU32 x (32 - n)
structure St where
  a : UInt32
  b : UInt32
  c : UInt32
  d : UInt32
  e : UInt32
  f : UInt32
  g : UInt32
  h : UInt32
/-- Four bytes, the highest first. -/
def be4 (b : List UInt8) (t : Nat) : UInt32 := ((shlU32 (UInt32.ofNat (b.getD (4 * t) 0).toNat) 24 ||| shlU32 (UInt32.ofNat (b.getD (4 * t + 1) 0).toNat) 16) ||| shlU32 (UInt32.ofNat (b.getD (4 * t + 2) 0).toNat) 8) ||| UInt32.ofNat (b.getD (4 * t + 3) 0).toNat
def mix (w : List UInt32) (t : Nat) : UInt32 :=
  ((w.getD (t - 16) 0 + ((rot (w.getD (t - 15) 0) 7 ^^^ rot (w.getD (t - 15) 0) 18) ^^^ shrU32 (w.getD (t - 15) 0) 3)) + w.getD (t - 7) 0) + ((rot (w.getD (t - 2) 0) 17 ^^^ rot (w.getD (t - 2) 0) 19) ^^^ shrU32 (w.getD (t - 2) 0) 10)
/-- The first k numbers W of a block. -/
def wl (b : List UInt8) : Nat → List UInt32
  | 0 => []
  | k + 1 => wl b k ++ [if k < 16 then be4 b k else mix (wl b k) k]
def keyL : List UInt32 := [
  0x428a2f98, 0x71374491, 0xb5c0fbcf, 0xe9b5dba5, 0x3956c25b, 0x59f111f1, 0x923f82a4, 0xab1c5ed5,
  0xd807aa98, 0x12835b01, 0x243185be, 0x550c7dc3, 0x72be5d74, 0x80deb1fe, 0x9bdc06a7, 0xc19bf174,
  0xe49b69c1, 0xefbe4786, 0x0fc19dc6, 0x240ca1cc, 0x2de92c6f, 0x4a7484aa, 0x5cb0a9dc, 0x76f988da,
  0x983e5152, 0xa831c66d, 0xb00327c8, 0xbf597fc7, 0xc6e00bf3, 0xd5a79147, 0x06ca6351, 0x14292967,
  0x27b70a85, 0x2e1b2138, 0x4d2c6dfc, 0x53380d13, 0x650a7354, 0x766a0abb, 0x81c2c92e, 0x92722c85,
  0xa2bfe8a1, 0xa81a664b, 0xc24b8b70, 0xc76c51a3, 0xd192e819, 0xd6990624, 0xf40e3585, 0x106aa070,
  0x19a4c116, 0x1e376c08, 0x2748774c, 0x34b0bcb5, 0x391c0cb3, 0x4ed8aa4a, 0x5b9cca4f, 0x682e6ff3,
  0x748f82ee, 0x78a5636f, 0x84c87814, 0x8cc70208, 0x90befffa, 0xa4506ceb, 0xbef9a3f7, 0xc67178f2]
def firstS : St := ⟨0x6a09e667, 0xbb67ae85, 0x3c6ef372, 0xa54ff53a, 0x510e527f, 0x9b05688c, 0x1f83d9ab, 0x5be0cd19⟩
def t1of (v : St) (k w : UInt32) : UInt32 := (((v.h + ((rot v.e 6 ^^^ rot v.e 11) ^^^ rot v.e 25)) + ((v.e &&& v.f) ^^^ (v.g &&& ~~~v.e))) + k) + w
def t2of (v : St) : UInt32 := ((rot v.a 2 ^^^ rot v.a 13) ^^^ rot v.a 22) + (((v.a &&& v.b) ^^^ (v.a &&& v.c)) ^^^ (v.b &&& v.c))
def stepS (v : St) (k w : UInt32) : St := ⟨t1of v k w + t2of v, v.a, v.b, v.c, v.d + t1of v k w, v.e, v.f, v.g⟩
def rounds (h : St) (w : List UInt32) : Nat → St
  | 0 => h
  | t + 1 => stepS (rounds h w t) (keyL.getD t 0) (w.getD t 0)
def addS (v h : St) : St := ⟨v.a + h.a, v.b + h.b, v.c + h.c, v.d + h.d, v.e + h.e, v.f + h.f, v.g + h.g, v.h + h.h⟩
def blockS (h : St) (b : List UInt8) : St := addS (rounds h (wl b 64) 64) h
def hb (x : UInt32) : List UInt8 := [UInt8.ofNat (shrU32 x 24).toNat, UInt8.ofNat (shrU32 x 16).toNat, UInt8.ofNat (shrU32 x 8).toNat, UInt8.ofNat x.toNat]
end Go.Spec
/-! from SpecHash -/
/- A hash by the text that was written to it. -/
namespace Go.Spec
open Go.Owl
/-- j blocks of d, and what is left. -/
def brest (d : List UInt8) : Nat → List UInt8
  | 0 => d
  | j + 1 => (brest d j).drop 64
def bst (h : St) (d : List UInt8) : Nat → St
  | 0 => h
  | j + 1 => blockS (bst h d j) ((brest d j).take 64)
def hst (all : List UInt8) : St := bst firstS all (all.length / 64)
def hrest (all : List UInt8) : List UInt8 := brest all (all.length / 64)
end Go.Spec
/-! from LawSha -/
/- Texts, some of a list at a time. -/
namespace Go.Spec
end Go.Spec
/-! from SpecPack -/
/- Numbers, texts, lists as bytes, and readers of them, in plain Lean. -/
namespace Go.Spec
open Go.Owl
structure Rd where
  s : List UInt8
  at_ : Nat
  f : Nat
  h : at_ ≤ s.length
def Rd.rest (r : Rd) : List UInt8 := r.s.drop r.at_
def Rd.bad (r : Rd) (e : Nat) : Rd := ⟨r.s, r.at_, e, r.h⟩
def Rd.on (r : Rd) (k : Nat) (hk : ¬ k > r.s.length - r.at_) : Rd := ⟨r.s, r.at_ + k, r.f, by have := r.h; omega⟩
/-- The next n bytes, of a reader that is not spoilt. -/
def rawR (r : Rd) (n : Nat) : (List UInt8 × Nat) × Rd := if h : n > r.s.length - r.at_ then (([], 6), r.bad 6) else ((r.rest.take n, 0), r.on n h)
def takeR (r : Rd) (n : Int) : (List UInt8 × Nat) × Rd := if r.f ≠ 0 then (([], r.f), r) else if n < 0 then (([], 2), r.bad 2) else rawR r n.toNat
theorem rawR_1 {r : Rd} {n : Nat} (h : n > r.s.length - r.at_) : rawR r n = (([], 6), r.bad 6) := by unfold rawR; rw [dif_pos h]
theorem rawR_2 {r : Rd} {n : Nat} (h : ¬ n > r.s.length - r.at_) : rawR r n = ((r.rest.take n, 0), r.on n h) := by unfold rawR; rw [dif_neg h]
def Like (a b : Rd) : Prop := a.rest = b.rest ∧ a.f = b.f
theorem Like.left {a b : Rd} (h : Like a b) : a.s.length - a.at_ = b.s.length - b.at_ := by
  have := congrArg List.length h.1
  rwa [Rd.rest, Rd.rest, List.length_drop, List.length_drop] at this
theorem Like.bad {a b : Rd} (h : Like a b) (e : Nat) : Like (a.bad e) (b.bad e) := ⟨h.1, rfl⟩
theorem Like.raw {a b : Rd} (h : Like a b) (n : Nat) : (rawR a n).1 = (rawR b n).1 ∧ Like (rawR a n).2 (rawR b n).2 := by
  by_cases hn : n > a.s.length - a.at_
  · rw [rawR_1 hn, rawR_1 (by rw [← h.left]; exact hn)]
    exact ⟨rfl, h.bad 6⟩
  · rw [rawR_2 hn, rawR_2 (by rw [← h.left]; exact hn)]
    refine ⟨by rw [h.1], ?_, h.2⟩
    have := congrArg (List.drop n) h.1
    rwa [Rd.rest, Rd.rest, List.drop_drop, List.drop_drop] at this
theorem Like.take {a b : Rd} (h : Like a b) (n : Int) : (takeR a n).1 = (takeR b n).1 ∧ Like (takeR a n).2 (takeR b n).2 := by
  unfold takeR
  rw [h.2]
  split
  · exact ⟨rfl, h⟩
  · split
    · exact ⟨rfl, h.bad 2⟩
    · exact h.raw _
structure Stp where
  d : Int
  n : Int
def Stp.zero : Stp := ⟨0, 0⟩
end Go.Spec
/-! from SpecRel -/
/- Symbols' bytes, with addresses in their places. Plain Lean. -/
namespace Go.Spec
open Go.Owl
section
variable {b s : List UInt8} {off k : Nat} {c : UInt8}
end
section
variable {b : List UInt8} {l : List Rl} {ads : List UInt32} {k n : Nat} {x : Sy}
end
def placeV (v : Value) (r : Rl) : Value := cutV3 v r.off.toNat (endOf r) (endOf r) 1
theorem Arr.place {w : World} {v : Value} {n : Nat} {l : List UInt8} {r : Rl} (hA : Arr w v 1 n (l.map vU8)) (h : endOf r ≤ n) : Arr w (placeV v r) 1 (widthN r.kind) (((l.drop r.off.toNat).take (widthN r.kind)).map vU8) := by
  have h1 := hA.cut3M (a := r.off.toNat) (b := endOf r) (c := endOf r) (by unfold endOf; omega) (Nat.le_refl _) h
  rwa [show endOf r - r.off.toNat = widthN r.kind by unfold endOf; omega] at h1
theorem Sub.place {w : World} {v : Value} {n : Nat} {xs : List Value} {r : Rl} (hA : Arr w v 1 n xs) (h : endOf r ≤ n) : Sub (placeV v r) v r.off.toNat (widthN r.kind) := by
  have h1 := Sub.cut3 hA (a := r.off.toNat) (b := endOf r) (c := endOf r) (by unfold endOf; omega) (Nat.le_refl _) h
  rwa [show endOf r - r.off.toNat = widthN r.kind by unfold endOf; omega] at h1
section
variable {k : UInt8} {v : UInt32} {r : Rl} {l : List UInt8}
end
section
variable {x : Sy} {ads : List UInt32} {s : List UInt8} {k : Nat}
end
end Go.Spec
/-! from SpecRel2 -/
/- Symbols' bytes, as the document has it. Plain Lean. -/
namespace Go.Spec
open Go.Owl
section
variable {x : Sy} {k j m : Nat} {s : List UInt8} {r : Rl} {v : UInt32} {ads : List UInt32}
end
end Go.Spec
/-! from SpecRel3 -/
/- Copies of symbols: what is new hangs on what is new. -/
namespace Go.Owl
section
variable {S : List Nat} {w0 w : World} {L : List Ent} {i : Nat}
end
end Go.Owl
namespace Go.Spec
open Go.Owl
section
variable {S : List Nat} {w0 w : World} {L : List Ent} {a b d : Nat}
end
end Go.Spec
/-! from SpecRel4 -/
/- What RelocFills asks. Plain Lean. -/
namespace Go.Spec
open Go.Owl
section
variable {x y : Sy} {ads : List UInt32} {s : List UInt8}
end
end Go.Spec
/-! from SpecRel5 -/
/- What was filled in is seen; elsewhere all is as it was. Plain Lean. -/
namespace Go.Spec
open Go.Owl
section
variable {b s : List UInt8} {off e idx : Nat}
end
section
variable {x : Sy} {ads : List UInt32} {up : UInt32} {i j k idx : Nat}
end
section
variable {x : Sy} {ads : List UInt32} {up : UInt32} {i j k idx : Nat}
end
end Go.Spec
/-! from SpecAsm -/
/- Lines of code: which may be, their labels. Plain Lean. -/
namespace Go.Spec
open Go.Owl
structure Ln where
  lb : List UInt8
  op : UInt8
  d : UInt8
  a : UInt8
  b : UInt8
  imm : UInt32
  to : List UInt8
  nm : List UInt8
deriving DecidableEq
def Ln.zero : Ln := ⟨[], 0, 0, 0, 0, 0, [], []⟩
def lnc (x : Ln) : List Value := [str x.lb, vU8 x.op, vU8 x.d, vU8 x.a, vU8 x.b, vU32 x.imm, str x.to, str x.nm]
def nmE (s : List UInt8) : Bool := decide (s = []) || nameB s
def refB (x : Ln) : Bool := decide (x.to ≠ []) || decide (x.nm ≠ [])
def bareI (x : Ln) : UInt32 := bif refB x then 0 else x.imm
/-- May a line be? -/
def lnMay (x : Ln) : Bool := bif decide (x.to ≠ []) && decide (x.nm ≠ []) then false else bif nmE x.lb then bif nmE x.to then bif nmE x.nm then bif refB x then okB x.op x.d x.a x.b 0 && okB x.op x.d x.a x.b 4 else okB x.op x.d x.a x.b x.imm else false else false else false
section
variable {op d a b : UInt8} {imm : UInt32} {x : Ln}
theorem encE_iff : encE op d a b imm = 0 ↔ okB op d a b imm = true := by
  unfold encE; split
  · rename_i h; simp [h]
  · rename_i h; simp [h]
theorem encE_dec : decide (encE op d a b imm = 0) = okB op d a b imm := by
  rw [Bool.eq_iff_iff, decide_eq_true_eq]; exact encE_iff
/-- A number that is not 0 may stand just where the op uses it. -/
theorem ok_4 (h : okB op d a b 0 = true) : okB op d a b 4 = ub op 8 := by
  unfold okB at h ⊢
  simp only [Bool.and_eq_true] at h
  rw [h.1.1.1.1, h.1.1.1.2, h.1.1.2, h.1.2, ub]
  have : decide ((4 : UInt32) = 0) = false := by decide
  rw [this]; simp
theorem ok_use (h : okB op d a b imm = true) : useE op = 0 := by
  unfold okB at h
  simp only [Bool.and_eq_true, Bool.not_eq_true', decide_eq_false_iff_not] at h
  rw [useE, if_neg h.1.1.1.1]
theorem use_no (h : useE op ≠ 0) : okB op d a b imm = false := by
  rw [Bool.eq_false_iff]; exact fun h1 => h (ok_use h1)
theorem imm_no (h : ub op 8 = false) : (okB op d a b 0 && okB op d a b 4) = false := by
  cases h0 : okB op d a b 0 with
  | true => rw [ok_4 h0, h]; rfl
  | false => rfl
theorem imm_yes (h : ub op 8 = true) : (okB op d a b 0 && okB op d a b 4) = okB op d a b 0 := by
  cases h0 : okB op d a b 0 with
  | true => rw [ok_4 h0, h]; rfl
  | false => rfl
theorem may_bare (h : lnMay x = true) : okB x.op x.d x.a x.b (bareI x) = true := by
  unfold lnMay at h
  unfold bareI
  cases h1 : decide (x.to ≠ []) && decide (x.nm ≠ []) with
  | true => rw [h1] at h; cases h
  | false =>
    rw [h1] at h
    cases h2 : nmE x.lb with
    | false => rw [h2] at h; cases h
    | true =>
      cases h3 : nmE x.to with
      | false => rw [h2, h3] at h; cases h
      | true =>
        cases h4 : nmE x.nm with
        | false => rw [h2, h3, h4] at h; cases h
        | true =>
          rw [h2, h3, h4] at h
          cases h5 : refB x with
          | true => rw [h5] at h; simp only [cond_true, cond_false, Bool.and_eq_true] at h ⊢; exact h.1
          | false => rw [h5] at h; simp only [cond_true, cond_false] at h ⊢; exact h
theorem encS_len8 (h : okB op d a b imm = true) : (encS op d a b imm).length = 8 := by
  rw [encS, if_pos h, List.length_append, le4_length]; rfl
theorem ln_eq (x y : Ln) : (decide (x.lb = y.lb) && (decide (x.op = y.op) && (decide (x.d = y.d) && (decide (x.a = y.a) && (decide (x.b = y.b) && (decide (x.imm = y.imm) && (decide (x.to = y.to) && decide (x.nm = y.nm)))))))) = decide (x = y) := by
  simp only [← Bool.decide_and]
  refine decide_eq_decide.2 ?_
  cases x; cases y; simp
end
def firstIx (l : List Ln) (s : List UInt8) : Nat → Option Nat
  | 0 => none
  | k + 1 => match firstIx l s k with
    | some j => some j
    | none => if (l.getD k Ln.zero).lb = s then some k else none
def dupB (l : List Ln) (k : Nat) : Bool := decide ((l.getD k Ln.zero).lb ≠ []) && (firstIx l (l.getD k Ln.zero).lb k).isSome
def labTo (l : List Ln) : Nat → List (List UInt8 × UInt32)
  | 0 => []
  | k + 1 => if (l.getD k Ln.zero).lb = [] then labTo l k else mset (l.getD k Ln.zero).lb (UInt32.ofNat k * 8) (labTo l k)
section
variable {l : List Ln} {s : List UInt8} {k n : Nat}
theorem mget_mset {β : Type} (a k : List UInt8) (v : β) : ∀ m : List (List UInt8 × β), mget a (mset k v m) = if k = a then some v else mget a m
  | [] => rfl
  | (c, u) :: m => by
    rw [mset]
    split
    · rename_i h
      rw [mget, mget]
      subst h
      split <;> rfl
    · rename_i h
      rw [mget, mget_mset a k v m, mget]
      split
      · rename_i h1
        subst h1
        rw [if_neg (fun e => h e.symm)]
      · rfl
theorem lab_get (hs : s ≠ []) : ∀ k, (∀ j, j < k → dupB l j = false) → mget s (labTo l k) = (firstIx l s k).map (fun j => UInt32.ofNat j * 8)
  | 0, _ => rfl
  | k + 1, h => by
    have ih := lab_get hs k (fun j hj => h j (by omega))
    rw [labTo, firstIx]
    by_cases h1 : (l.getD k Ln.zero).lb = []
    · rw [if_pos h1, ih]
      cases h2 : firstIx l s k with
      | some j => rfl
      | none => rw [if_neg (fun e : (l.getD k Ln.zero).lb = s => hs (by rw [← e]; exact h1))]
    · rw [if_neg h1, mget_mset]
      by_cases h2 : (l.getD k Ln.zero).lb = s
      · have h3 := h k (by omega)
        rw [dupB, decide_eq_true h1, Bool.true_and, h2] at h3
        cases h4 : firstIx l s k with
        | some j => rw [h4] at h3; cases h3
        | none => rw [if_pos h2]; simp only [if_pos h2]; rfl
      · rw [if_neg h2, ih]
        cases h4 : firstIx l s k with
        | some j => rfl
        | none => simp only [if_neg h2]
end
section
variable {x : Ln}
theorem ref_app (x : Ln) : decide (x.to ++ x.nm ≠ []) = refB x := by
  rw [refB]
  cases h1 : x.to with
  | nil => simp
  | cons a l => simp
theorem name_sym (s : List UInt8) : decide (symE ⟨s, 0, 2, 1, [], .slice none 0 0, [], .slice none 0 0, []⟩ = 0) = nameB s := by
  have h1 : sizedB ⟨s, 0, 2, 1, [], .slice none 0 0, [], .slice none 0 0, []⟩ = true := sized_iff.2 ⟨by show 1 ≤ 1; decide, by show 1 ≤ 8192; decide, by show 0 ≤ 1; decide, fun h => absurd h (by show ¬ (2 : UInt8) = 1; decide)⟩
  have h2 : symB ⟨s, 0, 2, 1, [], .slice none 0 0, [], .slice none 0 0, []⟩ = nameB s := by
    rw [symB, h1]
    show (nameB s && true && true && true && true && true && true && true) = nameB s
    simp
  rw [symE, h2]
  cases nameB s <;> rfl
theorem lm_eq (x : Ln) : lnMay x = (!(decide (x.to ≠ []) && decide (x.nm ≠ [])) && (nmE x.lb && (nmE x.to && (nmE x.nm && (bif refB x then okB x.op x.d x.a x.b 0 && okB x.op x.d x.a x.b 4 else okB x.op x.d x.a x.b x.imm))))) := by
  unfold lnMay
  generalize (decide (x.to ≠ []) && decide (x.nm ≠ [])) = p
  generalize nmE x.lb = q1; generalize nmE x.to = q2; generalize nmE x.nm = q3
  cases p <;> cases q1 <;> cases q2 <;> cases q3 <;> rfl
theorem lm_both (h1 : decide (x.to ≠ []) = true) (h2 : decide (x.nm ≠ []) = true) : lnMay x = false := by rw [lm_eq, h1, h2]; rfl
theorem lm_lb (h : nmE x.lb = false) : lnMay x = false := by rw [lm_eq, h]; simp
theorem lm_to (h : nmE x.to = false) : lnMay x = false := by rw [lm_eq, h]; simp
theorem lm_nm (h : nmE x.nm = false) : lnMay x = false := by rw [lm_eq, h]; simp
theorem lm_use (hr : refB x = true) (h : decide (useE x.op ≠ 0) = true) : lnMay x = false := by
  rw [lm_eq, hr, use_no (imm := 0) (of_decide_eq_true h)]; simp
theorem lm_imm (hr : refB x = true) (h : ub x.op 8 = false) : lnMay x = false := by
  rw [lm_eq, hr, imm_no h]; simp
theorem lm_chk (hn : (decide (x.to ≠ []) && decide (x.nm ≠ [])) = false) (h1 : nmE x.lb = true) (h2 : nmE x.to = true) (h3 : nmE x.nm = true) (hr : refB x = true) (h : ub x.op 8 = true) : lnMay x = decide (encE x.op x.d x.a x.b 0 = 0) := by
  rw [lm_eq, hn, h1, h2, h3, hr, imm_yes h, encE_dec]; simp
theorem lm_plain (hn : (decide (x.to ≠ []) && decide (x.nm ≠ [])) = false) (h1 : nmE x.lb = true) (h2 : nmE x.to = true) (h3 : nmE x.nm = true) (hr : refB x = false) : lnMay x = decide (encE x.op x.d x.a x.b x.imm = 0) := by
  rw [lm_eq, hn, h1, h2, h3, hr, encE_dec]; simp
theorem ref_T (h : decide (x.to ≠ []) = true) : refB x = true := by rw [refB, h]; rfl
theorem ref_N (h : decide (x.nm ≠ []) = true) : refB x = true := by rw [refB, h, Bool.or_true]
end
end Go.Spec
/-! from SpecAsm2 -/
/- A symbol of lines. Plain Lean. -/
namespace Go.Spec
open Go.Owl
theorem Arr.nilLen {w : World} {v : Value} {sz n : Nat} {xs : List Value} (h : Arr w v sz n xs) (hn : isNilS v = true) : n = 0 := by
  obtain ⟨a, cap, rfl, _, _, h2, _⟩ := h.form
  cases a with
  | none => exact (h2 rfl).1
  | some a => cases hn
def lnEnc (x : Ln) : List UInt8 := encS x.op x.d x.a x.b (bareI x)
def bytesTo (l : List Ln) : Nat → List UInt8
  | 0 => []
  | k + 1 => bytesTo l k ++ lnEnc (l.getD k Ln.zero)
/-- The place of a line. -/
def relAt (n0 : List UInt8) (l : List Ln) (k : Nat) : List Rl :=
  bif decide ((l.getD k Ln.zero).to ≠ []) then [⟨UInt32.ofNat (8 * k) + 4, 1, n0, UInt32.ofNat ((firstIx l (l.getD k Ln.zero).to l.length).getD 0) * 8⟩]
  else bif decide ((l.getD k Ln.zero).nm ≠ []) then [⟨UInt32.ofNat (8 * k) + 4, 1, (l.getD k Ln.zero).nm, (l.getD k Ln.zero).imm⟩] else []
def relsTo (n0 : List UInt8) (l : List Ln) : Nat → List Rl
  | 0 => []
  | k + 1 => relsTo n0 l k ++ relAt n0 l k
def noneB (l : List Ln) (k : Nat) : Bool := decide ((l.getD k Ln.zero).to ≠ []) && !(firstIx l (l.getD k Ln.zero).to l.length).isSome
/-- A line laid: an error, the bytes, the places. -/
def layN (m : List (List UInt8 × UInt32)) (x : Ln) : Bool := decide (x.to ≠ []) && !(mget x.to m).isSome
def layE (m : List (List UInt8 × UInt32)) (x : Ln) : Nat := bif layN m x then 3 else encE x.op x.d x.a x.b (bareI x)
def layB (bs : List UInt8) (m : List (List UInt8 × UInt32)) (x : Ln) : List UInt8 := bif layN m x then bs else bs ++ lnEnc x
def layR (n0 bs : List UInt8) (rl : List Rl) (m : List (List UInt8 × UInt32)) (x : Ln) : List Rl :=
  bif decide (x.to ≠ []) then (bif (mget x.to m).isSome then rl ++ [⟨UInt32.ofNat bs.length + 4, 1, n0, (mget x.to m).getD 0⟩] else rl)
  else bif decide (x.nm ≠ []) then rl ++ [⟨UInt32.ofNat bs.length + 4, 1, x.nm, x.imm⟩] else rl
def labE (l : List Ln) : Nat := bif (List.range l.length).any (dupB l) then 9 else 0
section
variable {l : List Ln} {k : Nat} {n0 : List UInt8} {m : List (List UInt8 × UInt32)} {x : Ln} {bs : List UInt8} {rl : List Rl}
theorem labE_9 (hk : k < l.length) (h : dupB l k = true) : labE l = 9 := by
  have : (List.range l.length).any (dupB l) = true := List.any_eq_true.2 ⟨k, List.mem_range.2 hk, h⟩
  rw [labE, this]; rfl
theorem labE_0 (h : ∀ j, j < l.length → dupB l j = false) : labE l = 0 := by
  have : (List.range l.length).any (dupB l) = false := by
    rw [List.any_eq_false]; intro j hj
    rw [h j (List.mem_range.1 hj)]; decide
  rw [labE, this]; rfl
theorem labE_no (h : labE l = 0) : ∀ j, j < l.length → dupB l j = false := fun j hj => by
  cases h1 : dupB l j with
  | false => rfl
  | true => rw [labE_9 hj h1] at h; cases h
theorem dup_get (hs : (l.getD k Ln.zero).lb ≠ []) (h : ∀ j, j < k → dupB l j = false) : (mget (l.getD k Ln.zero).lb (labTo l k)).isSome = dupB l k := by
  rw [lab_get hs k h, dupB, decide_eq_true hs, Bool.true_and]
  cases firstIx l (l.getD k Ln.zero).lb k <;> rfl
theorem lab_nil (h : (l.getD k Ln.zero).lb = []) : labTo l (k + 1) = labTo l k := by rw [labTo, if_pos h]
theorem lab_set (h : (l.getD k Ln.zero).lb ≠ []) : labTo l (k + 1) = mset (l.getD k Ln.zero).lb (UInt32.ofNat k * 8) (labTo l k) := by rw [labTo, if_neg h]
theorem dup_nil (h : (l.getD k Ln.zero).lb = []) : dupB l k = false := by rw [dupB, decide_eq_false (fun hn => hn h)]; rfl
theorem bytesTo_len (h : ∀ j, j < k → lnMay (l.getD j Ln.zero) = true) : (bytesTo l k).length = 8 * k := by
  induction k with
  | zero => rfl
  | succ k ih => rw [bytesTo, List.length_append, ih (fun j hj => h j (by omega)), lnEnc, encS_len8 (may_bare (h k (by omega)))]; omega
theorem relsTo_len (n0 : List UInt8) (l : List Ln) : ∀ k, (relsTo n0 l k).length ≤ k
  | 0 => Nat.le_refl _
  | k + 1 => by
    have h := relsTo_len n0 l k
    rw [relsTo, List.length_append]
    have : (relAt n0 l k).length ≤ 1 := by
      unfold relAt
      cases decide ((l.getD k Ln.zero).to ≠ []) <;> cases decide ((l.getD k Ln.zero).nm ≠ []) <;> simp
    omega
theorem lay_none (h : ∀ j, j < l.length → dupB l j = false) : layN (labTo l l.length) (l.getD k Ln.zero) = noneB l k := by
  rw [layN, noneB]
  cases h1 : decide ((l.getD k Ln.zero).to ≠ []) with
  | false => rfl
  | true =>
    rw [lab_get (of_decide_eq_true h1) _ h]
    cases firstIx l (l.getD k Ln.zero).to l.length <;> rfl
theorem lay_enc (h : lnMay x = true) (hn : layN m x = false) : layE m x = 0 := by
  rw [layE, hn, cond_false]; exact encE_iff.2 (may_bare h)
theorem lay_B (hn : layN m x = false) : layB bs m x = bs ++ lnEnc x := by rw [layB, hn]; rfl
theorem lay_E (hn : layN m x = true) : layE m x = 3 := by rw [layE, hn]; rfl
theorem lay_ne (hm : lnMay x = true) (h : layE m x ≠ 0) : layN m x = true := by
  cases h1 : layN m x with
  | true => rfl
  | false => exact absurd (lay_enc hm h1) h
theorem lay_eq (h : layE m x = 0) : layN m x = false := by
  cases h1 : layN m x with
  | true => rw [lay_E h1] at h; cases h
  | false => rfl
theorem lay_R (h : ∀ j, j < l.length → dupB l j = false) (hb : bs.length = 8 * k) (hn : noneB l k = false) : layR n0 bs rl (labTo l l.length) (l.getD k Ln.zero) = rl ++ relAt n0 l k := by
  rw [layR, relAt, hb]
  rw [noneB] at hn
  cases h1 : decide ((l.getD k Ln.zero).to ≠ []) with
  | true =>
    rw [h1, Bool.true_and] at hn
    rw [lab_get (of_decide_eq_true h1) _ h]
    cases h2 : firstIx l (l.getD k Ln.zero).to l.length with
    | none => rw [h2] at hn; cases hn
    | some j => rfl
  | false =>
    cases decide ((l.getD k Ln.zero).nm ≠ []) with
    | true => rfl
    | false => exact (List.append_nil _).symm
end
end Go.Spec
/-! from SpecAsm3 -/
/- A symbol of lines: what is made, or why none. Plain Lean. -/
namespace Go.Spec
open Go.Owl
def symOf (nm : List UInt8) (bi : UInt8) (nt : List Nt) (l : List Ln) : Sy := ⟨nm, bi, 1, UInt32.ofNat l.length * 8, bytesTo l l.length, .slice none 0 0, relsTo nm l l.length, .slice none 0 0, nt⟩
def noneE (l : List Ln) : Bool := (List.range l.length).any (noneB l)
def mkE (nm : List UInt8) (bi : UInt8) (nt : List Nt) (l : List Ln) : Nat :=
  bif decide (l.length > 1024) then 5 else bif l.any (fun n => !lnMay n) then 2 else bif decide (labE l ≠ 0) then 9 else bif noneE l then 3 else bif symB (symOf nm bi nt l) then 0 else 2
def mkS (nm : List UInt8) (bi : UInt8) (nt : List Nt) (l : List Ln) : Sy := if mkE nm bi nt l = 0 then symOf nm bi nt l else Sy.zero
section
variable {nm : List UInt8} {bi : UInt8} {nt : List Nt} {l : List Ln} {k : Nat}
theorem mk_bad {e : Nat} (h : mkE nm bi nt l = e) (he : e ≠ 0) : mkS nm bi nt l = Sy.zero := by rw [mkS, if_neg (by rw [h]; exact he)]
theorem mk_5 (h : decide (l.length > 1024) = true) : mkE nm bi nt l = 5 := by rw [mkE, h]; rfl
theorem mk_2 (h : decide (l.length > 1024) = false) (h2 : l.any (fun n => !lnMay n) = true) : mkE nm bi nt l = 2 := by rw [mkE, h, h2]; rfl
theorem mk_9 (h : decide (l.length > 1024) = false) (h2 : l.any (fun n => !lnMay n) = false) (h3 : decide (labE l ≠ 0) = true) : mkE nm bi nt l = 9 := by rw [mkE, h, h2, h3]; rfl
theorem lab_9 (h : labE l ≠ 0) : labE l = 9 := by
  unfold labE at h ⊢
  cases h1 : (List.range l.length).any (dupB l) with
  | true => rfl
  | false => rw [h1] at h; exact absurd rfl h
theorem none_yes (hk : k < l.length) (h : noneB l k = true) : noneE l = true := List.any_eq_true.2 ⟨k, List.mem_range.2 hk, h⟩
theorem none_no (h : ∀ j, j < l.length → noneB l j = false) : noneE l = false := by
  rw [noneE, List.any_eq_false]; intro j hj
  rw [h j (List.mem_range.1 hj)]; decide
theorem mk_3 (h : decide (l.length > 1024) = false) (h2 : l.any (fun n => !lnMay n) = false) (h3 : labE l = 0) (h4 : noneE l = true) : mkE nm bi nt l = 3 := by
  rw [mkE, h, h2, h3, h4]; rfl
theorem mk_s (h : decide (l.length > 1024) = false) (h2 : l.any (fun n => !lnMay n) = false) (h3 : labE l = 0) (h4 : noneE l = false) : mkE nm bi nt l = toldN (symB (symOf nm bi nt l)) := by
  rw [mkE, h, h2, h3, h4]; rfl
theorem all_may (h : l.any (fun n => !lnMay n) = false) : ∀ j, j < l.length → lnMay (l.getD j Ln.zero) = true := fun j hj => by
  rw [List.any_eq_false] at h
  have := h l[j] (List.getElem_mem hj)
  rw [show l.getD j Ln.zero = l[j] by simp [List.getD, hj]]
  simpa using this
theorem relsTo_names {B : Nat} (hn : nm.length < B) (hl : ∀ k, (l.getD k Ln.zero).nm.length < B) : ∀ k, ∀ y ∈ relsTo nm l k, y.nm.length < B
  | 0, y, hy => by cases hy
  | k + 1, y, hy => by
    rw [relsTo, List.mem_append] at hy
    rcases hy with hy | hy
    · exact relsTo_names hn hl k y hy
    · unfold relAt at hy
      cases h1 : decide ((l.getD k Ln.zero).to ≠ []) with
      | true =>
        rw [h1, cond_true, List.mem_singleton] at hy
        subst hy; exact hn
      | false =>
        rw [h1, cond_false] at hy
        cases h2 : decide ((l.getD k Ln.zero).nm ≠ []) with
        | true =>
          rw [h2, cond_true, List.mem_singleton] at hy
          subst hy; exact hl k
        | false => rw [h2, cond_false] at hy; cases hy
end
end Go.Spec
/-! from SpecAsm4 -/
/- What the statements of layer 10 ask. Plain Lean. -/
namespace Go.Spec
open Go.Owl
def lgTo (l : List Ln) : Nat → Nat
  | 0 => 0
  | k + 1 => lgTo l k + ((l.getD k Ln.zero).lb.length + (l.getD k Ln.zero).to.length + (l.getD k Ln.zero).nm.length) / 16
def longB (l : List Ln) (nt : List Nt) : Bool := decide (l.length + lgTo l (min l.length 1200) > 1300) || decide (nt.length > 100)
def LnFit (l : List Ln) : Prop := ∀ k, (l.getD k Ln.zero).lb.length < 2 ^ 47 ∧ (l.getD k Ln.zero).to.length < 2 ^ 47 ∧ (l.getD k Ln.zero).nm.length < 2 ^ 47
theorem andc {a b c d : Bool} (h1 : a = c) (h2 : b = d) : (a && b) = (c && d) := by rw [h1, h2]
theorem andt {a c : Bool} (h1 : a = c) : (a && true) = c := by rw [h1]; cases c <;> rfl
section
variable {l : List Ln} {nt : List Nt} {nm : List UInt8} {bi : UInt8} {y : Sy}
theorem lgTo_le (h : LnFit l) : ∀ k, lgTo l k ≤ k * 2 ^ 45
  | 0 => by simp [lgTo]
  | k + 1 => by
    have h1 := lgTo_le h k
    obtain ⟨h2, h3, h4⟩ := h k
    rw [lgTo, Nat.add_mul]; omega
theorem long_no (h : longB l nt = false) : l.length ≤ 1300 ∧ nt.length ≤ 100 := by
  rw [longB, Bool.or_eq_false_iff] at h
  have h1 := of_decide_eq_false h.1; have h2 := of_decide_eq_false h.2
  exact ⟨by omega, by omega⟩
theorem ln_fit (h : ∀ x ∈ l, x.lb.length ≤ 140737488351232 ∧ x.to.length ≤ 140737488351232 ∧ x.nm.length ≤ 140737488351232) : LnFit l := fun k => by
  rcases Nat.lt_or_ge k l.length with hk | hk
  · rw [show l.getD k Ln.zero = l[k] by simp [List.getD, hk]]
    have := h _ (List.getElem_mem hk)
    omega
  · rw [show l.getD k Ln.zero = Ln.zero by simp [List.getD, Nat.not_lt.2 hk]]; exact ⟨by decide, by decide, by decide⟩
theorem lnfit_one {x : Ln} (h : x.lb.length < 2 ^ 47 ∧ x.to.length < 2 ^ 47 ∧ x.nm.length < 2 ^ 47) : LnFit [x] := fun k => by
  cases k with
  | zero => exact h
  | succ k => exact ⟨by show 0 < 2 ^ 47; decide, by show 0 < 2 ^ 47; decide, by show 0 < 2 ^ 47; decide⟩
theorem bare_len {x : Sy} (h : y.bare = x) : y.rl = x.rl ∧ y.nt = x.nt ∧ y.b = x.b ∧ y.size = x.size ∧ y.nm = x.nm ∧ y.kind = x.kind ∧ y.bind = x.bind := by
  subst h; exact ⟨rfl, rfl, rfl, rfl, rfl, rfl, rfl⟩
def dtOf (nm : List UInt8) (bi ki : UInt8) (sz : UInt32) (b : List UInt8) (nt : List Nt) : Sy := ⟨nm, bi, ki, sz, b, .slice none 0 0, [], .slice none 0 0, nt⟩
def dtE (nm : List UInt8) (bi ki : UInt8) (sz : UInt32) (b : List UInt8) (nt : List Nt) : Nat := bif decide (ki = 1) then 2 else symE (dtOf nm bi ki sz b nt)
def dtS (nm : List UInt8) (bi ki : UInt8) (sz : UInt32) (b : List UInt8) (nt : List Nt) : Sy := if dtE nm bi ki sz b nt = 0 then dtOf nm bi ki sz b nt else Sy.zero
theorem symE_2 {x : Sy} (h : symE x ≠ 0) : symE x = 2 := by
  unfold symE at h ⊢
  cases h1 : symB x with
  | true => rw [h1] at h; exact absurd rfl h
  | false => rfl
end
end Go.Spec
/-! from SpecAsm7 -/
/- Lines put together: slices.Concat. Plain Lean. -/
namespace Go.Owl
section
variable {w0 w : World} {S : List Nat} {L : List Ent} {i q : Nat} {t : TypeId} {v : Value} {xs : List Value} {sz : Nat}
theorem Own.rowNone (H : Own S w0 w L) (hi : L[i]? = some (Ent.row v t sz q xs)) (hx : xs = []) (hq : q = 0) : Own S w0 w (L.set i (.row v t sz 0 [])) := by
  subst hx; subst hq
  have h := List.getElem?_eq_some_iff.1 hi
  have e : L.set i (.row v t sz 0 []) = L := by rw [← h.2]; exact List.set_getElem_self h.1
  rw [e]; exact H
theorem cutL_0 : cutL xs 0 0 sz = [] := by simp [cutL]
end
end Go.Owl
namespace Go.Spec
open Go.Owl
abbrev LP := Value × List Ln
abbrev LZ : LP := (.slice none 0 0, [])
def lnSum (l : List LP) : Nat → Nat
  | 0 => 0
  | k + 1 => lnSum l k + (l.getD k LZ).2.length
def catTo (l : List LP) : Nat → List Ln
  | 0 => []
  | k + 1 => catTo l k ++ (l.getD k LZ).2
theorem catTo_len (l : List LP) : ∀ k, (catTo l k).length = lnSum l k
  | 0 => rfl
  | k + 1 => by rw [catTo, List.length_append, catTo_len l k]; rfl
theorem lnSum_nil : ∀ k, lnSum [] k = 0
  | 0 => rfl
  | k + 1 => by rw [lnSum, lnSum_nil k]; rfl
theorem lnSum_two {a b : LP} : ∀ k, lnSum [a, b] k ≤ a.2.length + b.2.length
  | 0 => Nat.zero_le _
  | 1 => by show 0 + a.2.length ≤ _; omega
  | 2 => by show 0 + a.2.length + b.2.length ≤ _; omega
  | k + 3 => by
    have := lnSum_two (a := a) (b := b) (k + 2)
    rw [lnSum]
    show lnSum [a, b] (k + 2) + 0 ≤ _
    omega
theorem LZ_ok (w : World) : Arr w LZ.1 8 LZ.2.length (List.flatMap lnc LZ.2) := Arr.nil w 8
theorem pair_ok {w : World} {a b : LP} (h1 : Arr w a.1 8 a.2.length (List.flatMap lnc a.2)) (h2 : Arr w b.1 8 b.2.length (List.flatMap lnc b.2)) : ∀ k, Arr w (([a, b] : List LP).getD k LZ).1 8 (([a, b] : List LP).getD k LZ).2.length (List.flatMap lnc (([a, b] : List LP).getD k LZ).2)
  | 0 => h1
  | 1 => h2
  | _ + 2 => LZ_ok w
end Go.Spec
